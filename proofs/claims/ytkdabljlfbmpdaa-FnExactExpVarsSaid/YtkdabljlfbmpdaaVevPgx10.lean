-- Cut by prune.py, a program of this session, out of the texts of this claim: Lean checks it.
import Derived.Test.YtkdabljlfbmpdaaVevPgx0
import Derived.Test.YtkdabljlfbmpdaaVevPgx4
import Derived.Test.YtkdabljlfbmpdaaVevPgx8
namespace Go.Proofs.Ytkdabljlfbmpdaa.Pg
open Go.RowKit Go.Proofs.YtkdabljlfbmpdaaW.PrintWords Go.Proofs.YtkdabljlfbmpdaaW.PrintLast Go.Proofs.YtkdabljlfbmpdaaW.PrintMore
attribute [local go_sem] max2_int min2_int max_two min_two max_three min_three max_four min_four   -- for this text's walks alone
set_option linter.unusedVariables false
set_option linter.unusedSimpArgs false
mutual
def z1_.l0:Nat→List ByteArray→List Int→Int→Int→List (S63)→Int→ByteArray→List Int→List (S33)→Option (ByteArray)
 | 0,_,_,_,_,_,_,_,_,_=>none
 | k + 1,x5,x9,x10,x11,x312000,x312001,x312002,x312003,x312004=>if x11 < x10 then(if 0≤x11 then(if x11 < (x9.length:Int)then((z0_.f k x312000 x312001 x312002 x312003 x312004 (rd x9 x11)).bind fun t316=>(if x5.length < 8796093022208 then(z1_.l0 k (x5 ++ [t316]) x9 x10 (wrap64 (x11 + 1)) x312000 x312001 x312002 x312003 x312004)else(none)))else(none))else(none))else((strings_Join.f x5 (⟨#[44,32]⟩:ByteArray)).bind fun t320=>(some t320))
def z1_.f:Nat→List (S63)→Int→ByteArray→List Int→List (S33)→List Int→Option (ByteArray)
 | 0,_,_,_,_,_,_=>none
 | k + 1,l0_0,a0_1,a0_2,l0_3,l0_4,l1=>z1_.l0 k (([]:List ByteArray)) l1 (l1.length:Int) 0 l0_0 a0_1 a0_2 l0_3 l0_4
def impl_Rule_expText_1.f:Nat→Int→List (S63)→Int→ByteArray→List Int→List (S33)→Option (ByteArray)
 | 0,_,_,_,_,_,_=>none
 | k + 1,a0,l1_0,a1_1,a1_2,l1_3,l1_4=>if 0≤a0 then(if a0 < (l1_0.length:Int)then((impl_isSum.f ((y17 l1_0 a0).f0)).bind fun t322=>(if t322=true then((z0_.f k l1_0 a1_1 a1_2 l1_3 l1_4 a0).bind fun t323=>(if 1 + t323.size≤9223372036854775807 then(if((⟨#[40]⟩:ByteArray) ++ t323).size + 1≤9223372036854775807 then(some (((⟨#[40]⟩:ByteArray) ++ t323) ++ (⟨#[41]⟩:ByteArray)))else(none))else(none)))else((z0_.f k l1_0 a1_1 a1_2 l1_3 l1_4 a0).bind fun t324=>(some t324))))else(none))else(none)
def z0_.j0:Nat→Bool→List (S63)→Int→ByteArray→List Int→List (S33)→Int→ByteArray→List Int→Option (ByteArray)
 | 0,_,_,_,_,_,_,_,_,_=>none
 | k + 1,x31,x326000,x326001,x326002,x326003,x326004,x328000,x328001,x328002=>if x31=true then(if 0 < (x328002.length:Int)then((impl_Rule_expText_1.f k (rd x328002 0) x326000 x326001 x326002 x326003 x326004).bind fun t330=>(if t330.size + 1≤9223372036854775807 then((some (([(⟨#[43]⟩:ByteArray),(⟨#[45]⟩:ByteArray),(⟨#[42]⟩:ByteArray)]:List ByteArray):List ByteArray)).bind fun y331=>(if 0≤(wrap64 (x328000 - 5))then(if(wrap64 (x328000 - 5)) < (y331.length:Int)then(if(t330 ++ (⟨#[32]⟩:ByteArray)).size + (rdOf ByteArray.empty y331 (wrap64 (x328000 - 5))).size≤9223372036854775807 then(if((t330 ++ (⟨#[32]⟩:ByteArray)) ++ (rdOf ByteArray.empty y331 (wrap64 (x328000 - 5)))).size + 1≤9223372036854775807 then(if 1 < (x328002.length:Int)then((impl_Rule_expText_1.f k (rd x328002 1) x326000 x326001 x326002 x326003 x326004).bind fun t336=>(if(((t330 ++ (⟨#[32]⟩:ByteArray)) ++ (rdOf ByteArray.empty y331 (wrap64 (x328000 - 5)))) ++ (⟨#[32]⟩:ByteArray)).size + t336.size≤9223372036854775807 then(some ((((t330 ++ (⟨#[32]⟩:ByteArray)) ++ (rdOf ByteArray.empty y331 (wrap64 (x328000 - 5)))) ++ (⟨#[32]⟩:ByteArray)) ++ t336))else(none)))else(none))else(none))else(none))else(none))else(none)))else(none)))else(none))else(some x328001)
def z0_.f:Nat→List (S63)→Int→ByteArray→List Int→List (S33)→Int→Option (ByteArray)
 | 0,_,_,_,_,_,_=>none
 | k + 1,l0_0,a0_1,a0_2,l0_3,l0_4,a1=>if 0≤a1 then(if a1 < (l0_0.length:Int)then(if((y17 l0_0 a1).f0)=2 then(some (⟨#[95]⟩:ByteArray))else(if((y17 l0_0 a1).f0)=4 then(if(((y17 l0_0 a1).f2).length:Int) > 0 then(if((y17 l0_0 a1).f1).size + 1≤9223372036854775807 then((z1_.f k l0_0 a0_1 a0_2 l0_3 l0_4 ((y17 l0_0 a1).f2)).bind fun t328=>(if(((y17 l0_0 a1).f1) ++ (⟨#[40]⟩:ByteArray)).size + t328.size≤9223372036854775807 then(if((((y17 l0_0 a1).f1) ++ (⟨#[40]⟩:ByteArray)) ++ t328).size + 1≤9223372036854775807 then(some (((((y17 l0_0 a1).f1) ++ (⟨#[40]⟩:ByteArray)) ++ t328) ++ (⟨#[41]⟩:ByteArray)))else(none))else(none)))else(none))else(some ((y17 l0_0 a1).f1)))else(if((y17 l0_0 a1).f0)=5 then(z0_.j0 k (((y17 l0_0 a1).f0) == 5) l0_0 a0_1 a0_2 l0_3 l0_4 ((y17 l0_0 a1).f0) ((y17 l0_0 a1).f1) ((y17 l0_0 a1).f2))else(if((y17 l0_0 a1).f0)=6 then(z0_.j0 k (((y17 l0_0 a1).f0) == 6) l0_0 a0_1 a0_2 l0_3 l0_4 ((y17 l0_0 a1).f0) ((y17 l0_0 a1).f1) ((y17 l0_0 a1).f2))else(z0_.j0 k (((y17 l0_0 a1).f0) == 7) l0_0 a0_1 a0_2 l0_3 l0_4 ((y17 l0_0 a1).f0) ((y17 l0_0 a1).f1) ((y17 l0_0 a1).f2))))))else(none))else(none)
end
abbrev z1_.Stm (k:Nat):Prop:=∀(A0_0:Option Addr) (c0_0:Nat) (l0_0:List (S63)) (a0_1:Int) (a0_2:ByteArray) (A0_3:Option Addr) (c0_3:Nat) (l0_3:List Int) (A0_4:Option Addr) (c0_4:Nat) (l0_4:List (S33)) (A1:Option Addr) (c1:Nat) (l1:List Int) (r:ByteArray) (w:World) (hr0_0:Kd.C k63 w A0_0 l0_0.length l0_0) (hc0_0:l0_0.length≤c0_0) (hr0_3:Kd.C (Kd.int .i64) w A0_3 l0_3.length l0_3) (hc0_3:l0_3.length≤c0_3) (hr0_4:Kd.C k33 w A0_4 l0_4.length l0_4) (hc0_4:l0_4.length≤c0_4) (hr1:Kd.C (Kd.int .i64) w A1 l1.length l1) (hc1:l1.length≤c1) (h:z1_.f k l0_0 a0_1 a0_2 l0_3 l0_4 l1=some r),
  Calls Try.prog 84 #[.agg #[.slice A0_0 l0_0.length c0_0,.int .i64 a0_1,.string a0_2,.slice A0_3 l0_3.length c0_3,.slice A0_4 l0_4.length c0_4],.slice A1 l1.length c1] w fun e w'=>e=.returned (.string r)∧Below w.heap.size w w'
abbrev impl_Rule_expText_1.Stm (k:Nat):Prop:=∀(a0:Int) (A1_0:Option Addr) (c1_0:Nat) (l1_0:List (S63)) (a1_1:Int) (a1_2:ByteArray) (A1_3:Option Addr) (c1_3:Nat) (l1_3:List Int) (A1_4:Option Addr) (c1_4:Nat) (l1_4:List (S33)) (g1:Nat) (r:ByteArray) (w:World) (hr1_0:Kd.C k63 w A1_0 l1_0.length l1_0) (hc1_0:l1_0.length≤c1_0) (hr1_3:Kd.C (Kd.int .i64) w A1_3 l1_3.length l1_3) (hc1_3:l1_3.length≤c1_3) (hr1_4:Kd.C k33 w A1_4 l1_4.length l1_4) (hc1_4:l1_4.length≤c1_4) (hbx1:w.heap[g1]?=some (.cells #[.slice A1_0 l1_0.length c1_0,.int .i64 a1_1,.string a1_2,.slice A1_3 l1_3.length c1_3,.slice A1_4 l1_4.length c1_4] 36 (0,0))) (h:impl_Rule_expText_1.f k a0 l1_0 a1_1 a1_2 l1_3 l1_4=some r),
  Calls Try.prog 93 #[.int .i64 a0,.pointer (some ⟨g1,0,none⟩)] w fun e w'=>e=.returned (.string r)∧Below w.heap.size w w'
abbrev z0_.Stm (k:Nat):Prop:=∀(A0_0:Option Addr) (c0_0:Nat) (l0_0:List (S63)) (a0_1:Int) (a0_2:ByteArray) (A0_3:Option Addr) (c0_3:Nat) (l0_3:List Int) (A0_4:Option Addr) (c0_4:Nat) (l0_4:List (S33)) (a1:Int) (r:ByteArray) (w:World) (hr0_0:Kd.C k63 w A0_0 l0_0.length l0_0) (hc0_0:l0_0.length≤c0_0) (hr0_3:Kd.C (Kd.int .i64) w A0_3 l0_3.length l0_3) (hc0_3:l0_3.length≤c0_3) (hr0_4:Kd.C k33 w A0_4 l0_4.length l0_4) (hc0_4:l0_4.length≤c0_4) (h:z0_.f k l0_0 a0_1 a0_2 l0_3 l0_4 a1=some r),
  Calls Try.prog 83 #[.agg #[.slice A0_0 l0_0.length c0_0,.int .i64 a0_1,.string a0_2,.slice A0_3 l0_3.length c0_3,.slice A0_4 l0_4.length c0_4],.int .i64 a1] w fun e w'=>e=.returned (.string r)∧Below w.heap.size w w'
set_option maxHeartbeats 8000000 in
set_option maxRecDepth 100000 in
theorem z1_.step (k:Nat) (ih:∀ m,m < k→z1_.Stm m) (ih_impl_Rule_expText_1:∀ m,m < k→impl_Rule_expText_1.Stm m) (ih_impl_Rule_expText:∀ m,m < k→z0_.Stm m):z1_.Stm k:=by
 intro Av Aw Ae Af Ag Ay Az Ah Ba Bb Ai A1 c1 l1 r w Ao Ap Aq Ar As At Ck Cl h
 cases k with
 | zero=>exact absurd h (by simp [z1_.f])
 | succ k =>
 simp only [z1_.f]at h
 have Cq:=Try.underlying36
 have Be:=y0.mk Ao
 have Bf:=y0.mk Ap
 clear Ao Ap
 have Bg:=y0.mk Aq
 have Bh:=y0.mk Ar
 clear Aq Ar
 have Bi:=y0.mk As
 have Bj:=y0.mk At
 clear As At
 have Cr:=y0.mk Ck
 have Cy:=y0.mk Cl
 clear Ck Cl
 have HB:=y0.mk (Below.refl w.heap.size w)
 have H:(z1_.l0 k (([]:List ByteArray)) l1 (l1.length:Int) 0 Ae Af Ag Ah Ai)=some r:=h
 clear h
 obtain⟨Bk,Aj⟩:∃ y_:List ByteArray,y_=(([]:List ByteArray)):=⟨_,rfl⟩
 replace H:(z1_.l0 k Bk l1 (l1.length:Int) 0 Ae Af Ag Ah Ai)=some r:=by first|(rw [Aj];with_reducible exact H)|(have H2_:=(Option.bind_some _ _).symm.trans H;rw [Aj];with_reducible exact H2_)|(have H2_:=(Option.bind_some _ _).symm.trans H;with_reducible exact H2_)|with_reducible exact H|(rw [Aj];exact H)|exact H
 have Au:=y0.mk Aj
 clear Aj
 have H':=y0.mk H
 clear H
 go_enter Try.func84,Try.ntmps84
 go_wp2_with (first|((with_reducible refine y14 (N:=2) rfl ?_);refine qe 2 #[.slice Av Ae.length Aw,.int .i64 Af,.string Ag,.slice Ay Ah.length Az,.slice Ba Ai.length Bb] 36 ?_;intro Bl hg w3 hbox hb;have Aa:=y0.mk (hbox);have Cm:=y0.mk (qg (w:=w) hg);have Cn:=y0.mk (qg (w:=w) hg);replace HB:=y0.mk (y3 qb hb);clear hb hbox hg)|((with_reducible refine y14 (N:=8) rfl ?_);refine qL Kd.string 9 8 ([]:List ByteArray) ?_;intro Cs w4 Bm hb hg_ hnew_;clear hg_ hnew_;(first|rw [← Au.out]at Bm|(simp only [Int.reduceToNat]at Bm;rw [← Au.out]at Bm));have Bn:=y0.mk (Kd.R_lower Bm (y2 qb));replace Aa:=y0.mk (qK Aa.out hb);replace HB:=y0.mk (y3 qb hb);clear hb Bm))
 go_loopg [5,11] k (fun kq v5 Ct w'=>∃(Al:List ByteArray) (Ab:Int),Ct=.int .i64 Ab∧y0 (z1_.l0 kq Al l1 (l1.length:Int) Ab Ae Af Ag Ah Ai=some r)∧y0 (kq≤k)∧y0 (Kd.R Kd.string 9 w' w.heap.size (fun _=>True) v5 Al)∧y0 (w'.heap[Bl]?=some (.cells #[(.slice Av Ae.length Aw),.int .i64 Af,.string Ag,(.slice Ay Ah.length Az),(.slice Ba Ai.length Bb)] 36 (0,0)))∧y0 (Below w.heap.size w w'))
 case atStart=>exact⟨(Bk),(0),qy2,H',⟨Nat.le_refl _⟩,⟨qR Bn.out⟩,⟨qk Aa.out⟩,⟨qb⟩⟩
 case round =>
  clear H'
  (try clear c1)
  obtain⟨Al,Ab,rfl,HA,Cd,Ac,Aa,HB⟩:=hrel
  cases gk with
  | zero=>exact absurd HA.out (by simp [z1_.l0])
  | succ k1 =>
   have H:=HA.out
   clear HA
   simp only [z1_.l0]at H
   by_cases c6:Ab < (l1.length:Int)
   ·rw [if_pos c6]at H
    have Ce:=decide_eq_true c6
    clear c6
    obtain⟨c7,H⟩:=qo H
    have Cu:decide (0≤Ab)=true:=decide_eq_true c7
    clear c7
    obtain⟨c8,H⟩:=qo H
    have Cv:decide (Ab < (l1.length:Int))=true:=decide_eq_true c8
    clear c8
    obtain⟨Am,A9,H⟩:=qB H
    obtain⟨Co,H⟩:=qo H
    have Bo:=y0.mk Co
    clear Co
    obtain⟨Bp,Ak⟩:∃ y_:List ByteArray,y_=(Al ++ [Am]):=⟨_,rfl⟩
    replace H:(z1_.l0 k1 Bp l1 (l1.length:Int) (wrap64 (Ab + 1)) Ae Af Ag Ah Ai)=some r:=by first|(rw [Ak];with_reducible exact H)|(have H2_:=(Option.bind_some _ _).symm.trans H;rw [Ak];with_reducible exact H2_)|(have H2_:=(Option.bind_some _ _).symm.trans H;with_reducible exact H2_)|with_reducible exact H|(rw [Ak];exact H)|exact H
    have Bq:=y0.mk Ak
    clear Ak
    have H':=y0.mk H
    clear H
    have Bc:0≤(Ab:Int):=of_decide_eq_true qy0
    have Bd:Ab < (l1.length:Int):=of_decide_eq_true qy0
    obtain⟨Cp,Cf,Ad⟩:=Kd.at_int Cr.out Ab Bc Bd
    cases Cf
    replace Ad:=(HB.out.cell (World.block_lt_of_cell? w _ Ad)).trans Ad
    replace Bc:=eq_true Bc
    replace Bd:=eq_true Bd
    obtain⟨Bs,Bt,Bu,Bv,Bw,Bx,Bz,Ca,Cb,Cc⟩:=qz5 Aa.out
    go_wp2_with (first|((with_reducible refine y13 (f:=83) rfl ?_);refine y15 (some 18) rfl rfl Try.func83 (by kernel_rfl) rfl #[.agg #[.slice Av Ae.length Aw,.int .i64 Af,.string Ag,.slice Ay Ah.length Az,.slice Ba Ai.length Bb],.int .i64 (rd l1 Ab)] rfl qy1 ?_;(with_reducible refine(ih_impl_Rule_expText k1 (by have:=Cd.out;omega) _ _ Ae Af Ag _ _ Ah _ _ Ai (rd l1 Ab) Am _ (qc (Kd.C_below Be.out HB.out)) Bf.out (qc (Kd.C_below Bg.out HB.out)) Bh.out (qc (Kd.C_below Bi.out HB.out)) Bj.out A9.out).mono ?_);rintro e Cz ⟨rfl,hb⟩;refine⟨_,rfl, ?_⟩;replace Ac:=y0.mk (Kd.R_below (qR Ac.out) hb);replace Aa:=y0.mk (qK Aa.out hb);replace HB:=y0.mk (y3 qb hb);(try clear hb))|((with_reducible refine gate_builtin (b:=.append) (xs:=#[.tmp 15,.tmp 19]) rfl ?_);at_builtin;refine Kd.R_append Kd.string (w0:=w) w.heap.size rfl (.tmp 15) (.tmp 19) 30 9 (.string ⟨#[]⟩) 16 rfl Try.underlying30 info9 rfl (by decide) (by omega) u5 Al Am [.string Am] (fun _=>True) (fun _=>False) rfl rfl ?aP (fun _ hk=>hk.elim) ?aF ?aO ?aB ?aS ?aL ?_;(case aP=>exact rfl);(case aB=>exact qb);(case aF=>exact(fun _ _=>trivial));(case aO=>exact(qR Ac.out));(case aS=>exact(y2 qb));(case aL=>have:=Bo.out;omega);intro Cw Da ho hb hg hat;rw [← Bq.out]at ho;replace Aa:=y0.mk (blk_grown (qk Aa.out) hg (Kd.R_ne Ac.out Aa.out (by decide)));replace HB:=y0.mk (hb);have Br:=y0.mk (ho);clear Ac;clear ho hb hg hat))
    go_roundg k1
    case measure=>have:=Cd.out;omega
    exact⟨(Bp),(wrap64 (Ab + 1)),qy2,H',⟨by have:=Cd.out;omega⟩,⟨qR Br.out⟩,⟨qk Aa.out⟩,⟨qb⟩⟩
   ·rw [if_neg c6]at H
    have Ce:=decide_eq_false c6
    clear c6
    obtain⟨Cg,Cx,H⟩:=qB H
    obtain rfl:=Option.some.inj H
    obtain⟨Ch,Ci,Cj⟩:=Kd.R_slice Ac.out
    subst Cj
    go_wp2_with (first|((with_reducible refine y13 (f:=69) rfl ?_);refine y15 (some 23) rfl rfl Try.func69 (by kernel_rfl) rfl #[.slice Ch Al.length Ci,.string (⟨#[44,32]⟩:ByteArray)] rfl qy1 ?_;(with_reducible refine(strings_Join.calls _ _ Al (⟨#[44,32]⟩:ByteArray) Cg _ (qc ((Kd.R_reads' Ac.out).2.2)) (by exact(Kd.R_reads' Ac.out).2.1) Cx.out).mono ?_);rintro e Db ⟨rfl,hb⟩;refine⟨_,rfl, ?_⟩;replace Ac:=y0.mk (Kd.R_below (qR Ac.out) hb);replace Aa:=y0.mk (qK Aa.out hb);replace HB:=y0.mk (y3 qb hb);(try clear hb)))
    go_ret
    exact⟨qf,qb⟩
set_option maxHeartbeats 8000000 in
set_option maxRecDepth 100000 in
theorem impl_Rule_expText_1.step (k:Nat) (ih_impl_Rule_expTexts:∀ m,m < k→z1_.Stm m) (ih:∀ m,m < k→impl_Rule_expText_1.Stm m) (ih_impl_Rule_expText:∀ m,m < k→z0_.Stm m):impl_Rule_expText_1.Stm k:=by
 intro a0 Cm Bk Aa Ag Ah Bl Bm Ai Bn Bo Aj g1 r w As At Au Av Aw Ay Bp h
 cases k with
 | zero=>exact absurd h (by simp [impl_Rule_expText_1.f])
 | succ k =>
 simp only [impl_Rule_expText_1.f]at h
 have Cn:=Try.underlying36
 have Af:=y0.mk As
 have Az:=y0.mk At
 clear As At
 have Ba:=y0.mk Au
 have Bb:=y0.mk Av
 clear Au Av
 have Bc:=y0.mk Aw
 have Bd:=y0.mk Ay
 clear Aw Ay
 have Bj:=y0.mk Bp
 clear Bp
 have HB:=y0.mk (Below.refl w.heap.size w)
 have H:(if 0≤a0 then(if a0 < (Aa.length:Int)then((impl_isSum.f ((y17 Aa a0).f0)).bind fun Be=>(if Be=true then((z0_.f k Aa Ag Ah Ai Aj a0).bind fun Ak=>(if 1 + Ak.size≤9223372036854775807 then(if((⟨#[40]⟩:ByteArray) ++ Ak).size + 1≤9223372036854775807 then(some (((⟨#[40]⟩:ByteArray) ++ Ak) ++ (⟨#[41]⟩:ByteArray)))else(none))else(none)))else((z0_.f k Aa Ag Ah Ai Aj a0).bind fun Bf=>(some Bf))))else(none))else(none))=some r:=h
 clear h
 obtain⟨c3,H⟩:=qo H
 have Co:decide (0≤a0)=true:=decide_eq_true c3
 clear c3
 obtain⟨c4,H⟩:=qo H
 have Cp:decide (a0 < (Aa.length:Int))=true:=decide_eq_true c4
 clear c4
 obtain⟨Be,A5,H⟩:=qB H
 by_cases c6:Be=true
 ·subst c6
  replace H:=qT H
  obtain⟨Ak,A7,H⟩:=qB H
  obtain⟨c8,H⟩:=qo H
  have Cq:=eq_true c8
  have Cr:=decide_eq_true c8
  have Cs:=eq_false (Nat.not_lt.2 c8)
  obtain⟨c9,H⟩:=qo H
  have Ct:=eq_true c9
  have Cu:=decide_eq_true c9
  have Cl:=eq_false (Nat.not_lt.2 c9)
  have Cv:(9223372036854775807 < 1 + Ak.size + 1)=False:=qs Cl
  obtain rfl:=Option.some.inj H
  obtain⟨Bq,Br,Bs,Bt,Bu,Bv,Bw,Bx,Bz,Ca⟩:=qz5 Bj.out
  have Ad:0≤(a0:Int):=of_decide_eq_true qy0
  have Ae:a0 < (Aa.length:Int):=of_decide_eq_true qy0
  obtain⟨Al,Bg,Bh,Bi,Am,Ao,Ap,Ab,Ac⟩:=at_T63 Af.out a0 Ad Ae
  cases Bi
  have Aq:=y0.mk Ac
  have Ar:=y0.mk Ab
  clear Ac Ab
  replace Ad:=eq_true Ad
  replace Ae:=eq_true Ae
  go_enter Try.func93,Try.ntmps93
  go_wp2_with (first|((with_reducible refine y13 (f:=65) rfl ?_);refine y15 (some 10) rfl rfl Try.func65 (by kernel_rfl) rfl #[.int .i64 ((y17 Aa a0).f0)] rfl qy1 ?_;(with_reducible refine(impl_isSum.calls ((y17 Aa a0).f0) true _ A5.out).mono ?_);rintro e w' ⟨rfl,⟨nd,rfl⟩⟩;refine⟨_,rfl, ?_⟩)|((with_reducible refine y13 (f:=83) rfl ?_);refine y15 (some 13) rfl rfl Try.func83 (by kernel_rfl) rfl #[.agg #[.slice (some Al) Aa.length Bk,.int .i64 Ag,.string Ah,.slice Bl Ai.length Bm,.slice Bn Aj.length Bo],.int .i64 a0] rfl qy1 ?_;(with_reducible refine(ih_impl_Rule_expText k (by omega) _ _ Aa Ag Ah _ _ Ai _ _ Aj a0 Ak _ (qc Af.out) Az.out (qc Ba.out) Bb.out (qc Bc.out) Bd.out A7.out).mono ?_);rintro e Cx ⟨rfl,hb⟩;refine⟨_,rfl, ?_⟩;replace Bj:=y0.mk (qK Bj.out hb);replace HB:=y0.mk (y3 qb hb);(try clear hb)))
  go_ret
  exact⟨qf,qb⟩
 ·replace c6:=Bool.eq_false_iff.mpr c6
  subst c6
  replace H:=qF H
  obtain⟨Bf,Cw,H⟩:=qB H
  obtain rfl:=Option.some.inj H
  obtain⟨Cb,Cc,Cd,Ce,Cf,Cg,Ch,Ci,Cj,Ck⟩:=qz5 Bj.out
  have Ad:0≤(a0:Int):=of_decide_eq_true qy0
  have Ae:a0 < (Aa.length:Int):=of_decide_eq_true qy0
  obtain⟨Al,Bg,Bh,Bi,Am,Ao,Ap,Ab,Ac⟩:=at_T63 Af.out a0 Ad Ae
  cases Bi
  have Aq:=y0.mk Ac
  have Ar:=y0.mk Ab
  clear Ac Ab
  replace Ad:=eq_true Ad
  replace Ae:=eq_true Ae
  go_enter Try.func93,Try.ntmps93
  go_wp2_with (first|((with_reducible refine y13 (f:=65) rfl ?_);refine y15 (some 10) rfl rfl Try.func65 (by kernel_rfl) rfl #[.int .i64 ((y17 Aa a0).f0)] rfl qy1 ?_;(with_reducible refine(impl_isSum.calls ((y17 Aa a0).f0) false _ A5.out).mono ?_);rintro e w' ⟨rfl,⟨nd,rfl⟩⟩;refine⟨_,rfl, ?_⟩)|((with_reducible refine y13 (f:=83) rfl ?_);refine y15 (some 18) rfl rfl Try.func83 (by kernel_rfl) rfl #[.agg #[.slice (some Al) Aa.length Bk,.int .i64 Ag,.string Ah,.slice Bl Ai.length Bm,.slice Bn Aj.length Bo],.int .i64 a0] rfl qy1 ?_;(with_reducible refine(ih_impl_Rule_expText k (by omega) _ _ Aa Ag Ah _ _ Ai _ _ Aj a0 Bf _ (qc Af.out) Az.out (qc Ba.out) Bb.out (qc Bc.out) Bd.out Cw.out).mono ?_);rintro e Cy ⟨rfl,hb⟩;refine⟨_,rfl, ?_⟩;replace Bj:=y0.mk (qK Bj.out hb);replace HB:=y0.mk (y3 qb hb);(try clear hb)))
  go_ret
  exact⟨qf,qb⟩
def z0_.T7:Bool×List (List Nat×List Nat):=(true,[([],[]),([0],[0]),([1],[1]),([],[]),([],[]),([4],[4]),([3,5],[3,5]),([2,6],[2,6]),([7],[7]),([8,6,0,1,2,3,4,5,6,7,8],[8])])
def z0_.B7:List Nat:=[0,1,3,0,0,16,56,127,255,511]
theorem z0_.tab7:rtab .any (opsOf Try.f83 7)=z0_.T7:=by kernel_rfl
theorem z0_.bits7:waitsOk z0_.T7.2 z0_.B7=true:=by kernel_rfl
def z0_.T12:Bool×List (List Nat×List Nat):=(true,[([],[]),([],[]),([1],[1]),([2],[2]),([3],[3]),([0,4],[0,4]),([5],[5]),([],[]),([],[]),([8],[8]),([9],[9]),([7,10],[7,10]),([11],[11]),([6,12],[6,12]),([13],[13]),([],[]),([],[]),([16],[16]),([17],[17]),([18],[18]),([15,19,5],[15,19]),([14,20],[14,20]),([21,20,0,1,2,3,4,5,6,7,8,9,10,11,12,13,14,15,16,17,18,19,20,21],[21])])
def z0_.B12:List Nat:=[0,0,2,6,14,31,63,0,0,256,768,1920,3968,8191,16383,0,0,65536,196608,458752,1015871,2097151,4194303]
theorem z0_.tab12:rtab .any (opsOf Try.f83 12)=z0_.T12:=by kernel_rfl
theorem z0_.bits12:waitsOk z0_.T12.2 z0_.B12=true:=by kernel_rfl
set_option maxHeartbeats 8000000 in
set_option maxRecDepth 100000 in
theorem z0_.step (k:Nat) (ih_impl_Rule_expTexts:∀ m,m < k→z1_.Stm m) (ih_impl_Rule_expText_1:∀ m,m < k→impl_Rule_expText_1.Stm m) (ih:∀ m,m < k→z0_.Stm m):z0_.Stm k:=by
 intro Cw Bx Aa Bc Bd Bz Ca Be Cb Cc Bf a1 r w Dp Dq Dr Ds Dt Du h
 cases k with
 | zero=>exact absurd h (by simp [z0_.f])
 | succ k =>
 simp only [z0_.f]at h
 have Jc:=Try.underlying36
 have Jd:=Try.underlying63
 have Bv:=y0.mk Dp
 have Cl:=y0.mk Dq
 clear Dp Dq
 have Cm:=y0.mk Dr
 have Cn:=y0.mk Ds
 clear Dr Ds
 have Co:=y0.mk Dt
 have Cp:=y0.mk Du
 clear Dt Du
 have HB:=y0.mk (Below.refl w.heap.size w)
 have H:(if 0≤a1 then(if a1 < (Aa.length:Int)then(if((y17 Aa a1).f0)=2 then(some (⟨#[95]⟩:ByteArray))else(if((y17 Aa a1).f0)=4 then(if(((y17 Aa a1).f2).length:Int) > 0 then(if((y17 Aa a1).f1).size + 1≤9223372036854775807 then((z1_.f k Aa Bc Bd Be Bf ((y17 Aa a1).f2)).bind fun Cj=>(if(((y17 Aa a1).f1) ++ (⟨#[40]⟩:ByteArray)).size + Cj.size≤9223372036854775807 then(if((((y17 Aa a1).f1) ++ (⟨#[40]⟩:ByteArray)) ++ Cj).size + 1≤9223372036854775807 then(some (((((y17 Aa a1).f1) ++ (⟨#[40]⟩:ByteArray)) ++ Cj) ++ (⟨#[41]⟩:ByteArray)))else(none))else(none)))else(none))else(some ((y17 Aa a1).f1)))else(if((y17 Aa a1).f0)=5 then(z0_.j0 k (((y17 Aa a1).f0) == 5) Aa Bc Bd Be Bf ((y17 Aa a1).f0) ((y17 Aa a1).f1) ((y17 Aa a1).f2))else(if((y17 Aa a1).f0)=6 then(z0_.j0 k (((y17 Aa a1).f0) == 6) Aa Bc Bd Be Bf ((y17 Aa a1).f0) ((y17 Aa a1).f1) ((y17 Aa a1).f2))else(z0_.j0 k (((y17 Aa a1).f0) == 7) Aa Bc Bd Be Bf ((y17 Aa a1).f0) ((y17 Aa a1).f1) ((y17 Aa a1).f2))))))else(none))else(none))=some r:=h
 clear h
 obtain⟨c3,H⟩:=qo H
 have Gy:decide (0≤a1)=true:=decide_eq_true c3
 clear c3
 obtain⟨c4,H⟩:=qo H
 have Gz:decide (a1 < (Aa.length:Int))=true:=decide_eq_true c4
 clear c4
 by_cases c5:((y17 Aa a1).f0)=2
 ·rw [if_pos c5]at H
  have En:(((y17 Aa a1).f0) == 2)=true:=beq_iff_eq.mpr c5
  have Eo:(((y17 Aa a1).f0) != 2)=false:=bne_eq_false_iff_eq.mpr c5
  clear c5
  obtain rfl:=Option.some.inj H
  go_enter Try.func83,Try.ntmps83
  go_wp2_with (first|((with_reducible refine y14 (N:=2) rfl ?_);refine qe 2 #[.slice Cw Aa.length Bx,.int .i64 Bc,.string Bd,.slice Bz Be.length Ca,.slice Cb Bf.length Cc] 36 ?_;intro Aq hg w6 hbox hb;have Ab:=y0.mk (hbox);have Cq:=y0.mk (qg (w:=w) hg);have Cr:=y0.mk (qg (w:=w) hg);replace HB:=y0.mk (y3 qb hb);clear hb hbox hg;obtain⟨Ha,Hb,Hc,Hd,He,Hf,Hg,Hh,Hi,Hj⟩:=qz5 Ab.out;have Bn:0≤(a1:Int):=of_decide_eq_true qy0;have Bo:a1 < (Aa.length:Int):=of_decide_eq_true qy0;obtain⟨Bt,Av,Af,Ck,Ah,Ai,Aj,Ar,As⟩:=at_T63 Bv.out a1 Bn Bo;cases Ck;replace Ah:=(HB.out.cell (World.block_lt_of_cell? w _ Ah)).trans Ah;replace Ai:=(HB.out.cell (World.block_lt_of_cell? w _ Ai)).trans Ai;replace Aj:=(HB.out.cell (World.block_lt_of_cell? w _ Aj)).trans Aj;have Bm:=y0.mk As;have Bu:=y0.mk Ar;clear As Ar;replace Bn:=eq_true Bn;replace Bo:=eq_true Bo)|((with_reducible refine y14 (N:=5) rfl ?_);refine qe 5 #[.int .i64 0,.string (⟨#[]⟩:ByteArray),.slice none 0 0] 63 ?_;intro Ae hg w8 hbox hb;have Ac:=y0.mk (hbox);have Cs:=y0.mk (qg (w:=w) hg);have Ct:=y0.mk (qg (w:=w) hg);replace HB:=y0.mk (y3 qb hb);have Ad:=y0.mk (qn Ab.out hg);have Ap:=y0.mk (qm Ab.out hg);replace Ab:=y0.mk (qK Ab.out hb);clear hb hbox hg;have Je:=Ap.out;have Jf:=Ad.out;obtain⟨Fc,Fd,Fe,Ff,Fg,Fh⟩:=qz3 Ac.out))
  go_ret
  exact⟨qf,qb⟩
 ·rw [if_neg c5]at H
  have En:(((y17 Aa a1).f0) == 2)=false:=beq_eq_false_iff_ne.mpr c5
  have Eo:(((y17 Aa a1).f0) != 2)=true:=bne_iff_ne.mpr c5
  by_cases Ee:((y17 Aa a1).f0)=4
  ·rw [if_pos Ee]at H
   have At:(((y17 Aa a1).f0) == 4)=true:=beq_iff_eq.mpr Ee
   have Dv:(((y17 Aa a1).f0) != 4)=false:=bne_eq_false_iff_eq.mpr Ee
   clear Ee
   by_cases Em:(((y17 Aa a1).f2).length:Int) > 0
   ·rw [if_pos Em]at H
    have Au:decide (0 < (((y17 Aa a1).f2).length:Int))=true:=decide_eq_true Em
    have Ep:decide (0 < ((y17 Aa a1).f2).length)=true:=decide_eq_true (by omega)
    clear Em
    obtain⟨Dw,H⟩:=qo H
    have Aw:=eq_true Dw
    have Hq:=decide_eq_true Dw
    have Hr:=eq_false (Nat.not_lt.2 Dw)
    obtain⟨Cj,Jg,H⟩:=qB H
    obtain⟨Dx,H⟩:=qo H
    have Bp:=eq_true Dx
    have Hs:=decide_eq_true Dx
    have Eq:=eq_false (Nat.not_lt.2 Dx)
    have Ht:(9223372036854775807 < ((y17 Aa a1).f1).size + 1 + Cj.size)=False:=qs Eq
    obtain⟨Dy,H⟩:=qo H
    have Ce:=eq_true Dy
    have Hu:=decide_eq_true Dy
    have Er:=eq_false (Nat.not_lt.2 Dy)
    have Hv:(9223372036854775807 < ((y17 Aa a1).f1).size + 1 + Cj.size + 1)=False:=qs Er
    obtain rfl:=Option.some.inj H
    go_enter Try.func83,Try.ntmps83
    try go_wp2_with (first|((with_reducible refine y14 (N:=2) rfl ?_);refine qe 2 #[.slice Cw Aa.length Bx,.int .i64 Bc,.string Bd,.slice Bz Be.length Ca,.slice Cb Bf.length Cc] 36 ?_;intro Aq hg Jp hbox hb;have Ab:=y0.mk (hbox);have Cq:=y0.mk (qg (w:=w) hg);have Cr:=y0.mk (qg (w:=w) hg);replace HB:=y0.mk (y3 qb hb);clear hb hbox hg;obtain⟨Fi,Fj,Fk,Fl,Fm,Fn,Fo,Fp,Fq,Fr⟩:=qz5 Ab.out;have Bn:0≤(a1:Int):=of_decide_eq_true qy0;have Bo:a1 < (Aa.length:Int):=of_decide_eq_true qy0;obtain⟨Bt,Av,Af,Ck,Ah,Ai,Aj,Ar,As⟩:=at_T63 Bv.out a1 Bn Bo;cases Ck;replace Ah:=(HB.out.cell (World.block_lt_of_cell? w _ Ah)).trans Ah;replace Ai:=(HB.out.cell (World.block_lt_of_cell? w _ Ai)).trans Ai;replace Aj:=(HB.out.cell (World.block_lt_of_cell? w _ Aj)).trans Aj;have Bm:=y0.mk As;have Bu:=y0.mk Ar;clear As Ar;replace Bn:=eq_true Bn;replace Bo:=eq_true Bo)|((with_reducible refine y14 (N:=5) rfl ?_);refine qe 5 #[.int .i64 0,.string (⟨#[]⟩:ByteArray),.slice none 0 0] 63 ?_;intro Ae hg Fs hbox hb;have Ac:=y0.mk (hbox);have Cs:=y0.mk (qg (w:=w) hg);have Ct:=y0.mk (qg (w:=w) hg);replace HB:=y0.mk (y3 qb hb);have Ad:=y0.mk (qn Ab.out hg);have Ap:=y0.mk (qm Ab.out hg);replace Ab:=y0.mk (qK Ab.out hb);clear hb hbox hg;have Hw:=Ap.out;have Hx:=Ad.out;obtain⟨Ft,Fu,Fv,Fx,Fy,Fz⟩:=qz3 Ac.out))
    have n0_:y0 ((((Fs.setCell ⟨Ae,0,none⟩ (.int .i64 ((y17 Aa a1).f0))).setCell ⟨Ae,1,none⟩ (.string ((y17 Aa a1).f1))).setCell ⟨Ae,2,none⟩ (.slice Av ((y17 Aa a1).f2).length Af)).heap[Aq]?=some (.cells #[.slice (some Bt) Aa.length Bx,.int .i64 Bc,.string Bd,.slice Bz Be.length Ca,.slice Cb Bf.length Cc] 36 (0,0))):=⟨by(with_reducible repeat(first|refine y8 ?_ _|refine y7 ?_|refine y4 ?_ _));refine y9 ?_ Ad.out _;(with_reducible repeat(first|refine y8 ?_ _|refine y7 ?_|refine y4 ?_ _));refine y9 ?_ Ad.out _;(with_reducible repeat(first|refine y8 ?_ _|refine y7 ?_|refine y4 ?_ _));refine y9 ?_ Ad.out _;(with_reducible repeat(first|refine y8 ?_ _|refine y7 ?_|refine y4 ?_ _));exact Ab.out⟩
    have n1_:y0 ((((Fs.setCell ⟨Ae,0,none⟩ (.int .i64 ((y17 Aa a1).f0))).setCell ⟨Ae,1,none⟩ (.string ((y17 Aa a1).f1))).setCell ⟨Ae,2,none⟩ (.slice Av ((y17 Aa a1).f2).length Af)).heap[Ae]?=some (.cells #[.int .i64 ((y17 Aa a1).f0),.string ((y17 Aa a1).f1),.slice Av ((y17 Aa a1).f2).length Af] 63 (0,0))):=⟨by(with_reducible repeat(first|refine y8 ?_ _|refine y7 ?_|refine y4 ?_ _));refine blk_put (cs:=#[.int .i64 ((y17 Aa a1).f0),.string ((y17 Aa a1).f1),.slice none 0 0]) ?_ 2 _ rfl;(with_reducible repeat(first|refine y8 ?_ _|refine y7 ?_|refine y4 ?_ _));refine blk_put (cs:=#[.int .i64 ((y17 Aa a1).f0),.string (⟨#[]⟩:ByteArray),.slice none 0 0]) ?_ 1 _ rfl;(with_reducible repeat(first|refine y8 ?_ _|refine y7 ?_|refine y4 ?_ _));refine blk_put (cs:=#[.int .i64 0,.string (⟨#[]⟩:ByteArray),.slice none 0 0]) ?_ 0 _ rfl;(with_reducible repeat(first|refine y8 ?_ _|refine y7 ?_|refine y4 ?_ _));exact Ac.out⟩
    have n2_:y0 (Below w.heap.size w (((Fs.setCell ⟨Ae,0,none⟩ (.int .i64 ((y17 Aa a1).f0))).setCell ⟨Ae,1,none⟩ (.string ((y17 Aa a1).f1))).setCell ⟨Ae,2,none⟩ (.slice Av ((y17 Aa a1).f2).length Af))):=⟨qb⟩
    (try clear Ab)
    (try clear Ac)
    (try clear HB)
    generalize (((Fs.setCell ⟨Ae,0,none⟩ (.int .i64 ((y17 Aa a1).f0))).setCell ⟨Ae,1,none⟩ (.string ((y17 Aa a1).f1))).setCell ⟨Ae,2,none⟩ (.slice Av ((y17 Aa a1).f2).length Af))=Jh at n0_ n1_ n2_ ⊢
    have Ab:=n0_
    have Ac:=n1_
    have HB:=n2_
    clear n0_ n1_ n2_
    replace Ab:=y0.mk (y7 Ab.out)
    replace Ac:=y0.mk (y7 Ac.out)
    replace HB:=y0.mk (below_drew1 HB.out)
    refine start_ (n:=10) (S:=fun w'=>w'.cell? ⟨Ae,0,none⟩=some (.int .i64 ((y17 Aa a1).f0))∧w'.cell? ⟨Ae,1,none⟩=some (.string ((y17 Aa a1).f1))∧w'.cell? ⟨Ae,2,none⟩=some (.slice Av ((y17 Aa a1).f2).length Af)∧w'.cell? ⟨Aq,0,none⟩=some (.slice (some Bt) Aa.length Bx)∧w'.cell? ⟨Aq,1,none⟩=some (.int .i64 Bc)∧w'.cell? ⟨Aq,2,none⟩=some (.string Bd)∧w'.cell? ⟨Aq,3,none⟩=some (.slice Bz Be.length Ca)∧w'.cell? ⟨Aq,4,none⟩=some (.slice Cb Bf.length Cc)) (ds:=[]) (fl_ 10 0) (by kernel_rfl) rfl rfl ⟨(y6 Ac.out 0).trans rfl,(y6 Ac.out 1).trans rfl,(y6 Ac.out 2).trans rfl,(y6 Ab.out 0).trans rfl,(y6 Ab.out 1).trans rfl,(y6 Ab.out 2).trans rfl,(y6 Ab.out 3).trans rfl,(y6 Ab.out 4).trans rfl⟩ (fun hHeld=>?_);refine with_tabW z0_.tab7 z0_.bits7 (fun HT_ HW_=>?_)
    generalize Jh.drew=Jq at Ab Ac HB hHeld ⊢
    refine qp 0 22 (fl_ 10 1) ?_
    refine qp 4 26 (fl_ 10 17) ?_
    refine qt 1 23 (fl_ 10 19) hHeld ?_
    refine qp 2 24 (fl_ 10 23) ?_
    refine qt 3 25 (fl_ 10 31) hHeld ?_
    refine qt 5 27 (fl_ 10 63) hHeld ?_
    refine qO 6 28 (fl_ 10 127) (fun K hK=>?_)
    refine goes_ Try.func84 (by kernel_rfl) rfl #[.agg #[.slice (some Bt) Aa.length Bx,.int .i64 Bc,.string Bd,.slice Bz Be.length Ca,.slice Cb Bf.length Cc],.slice Av ((y17 Aa a1).f2).length Af] (by rfl) rfl rfl qy1 ?_
    with_reducible refine(ih_impl_Rule_expTexts k (by omega) _ _ Aa Bc Bd _ _ Be _ _ Bf _ _ ((y17 Aa a1).f2) Cj _ (qc (Kd.C_below Bv.out HB.out)) Cl.out (qc (Kd.C_below Cm.out HB.out)) Cn.out (qc (Kd.C_below Co.out HB.out)) Cp.out (qc (Kd.C_below Bm.out HB.out)) Bu.out Jg.out).mono ?_
    rintro e Jr ⟨rfl,hb⟩
    refine⟨_,rfl, ?_⟩
    replace Ab:=y0.mk (qK Ab.out hb)
    replace Ac:=y0.mk (qK Ac.out hb)
    replace HB:=y0.mk (y3 qb hb)
    (try clear hb)
    refine hK.out _ _ ⟨(y6 Ac.out 0).trans rfl,(y6 Ac.out 1).trans rfl,(y6 Ac.out 2).trans rfl,(y6 Ab.out 0).trans rfl,(y6 Ab.out 1).trans rfl,(y6 Ab.out 2).trans rfl,(y6 Ab.out 3).trans rfl,(y6 Ab.out 4).trans rfl⟩ (fun hHeld=>?_)
    clear hK K
    refine qx 28 ?_
    refine qp2 7 29 10 ?_
    refine qp 9 4 (fl_ 10 1023) ?_
    refine done_ (done_of HT_.out (by kernel_rfl)) ?_
    try go_wp2
    go_ret
    exact⟨qf,qb⟩
   ·rw [if_neg Em]at H
    have Au:decide (0 < (((y17 Aa a1).f2).length:Int))=false:=decide_eq_false Em
    have Ep:decide (0 < ((y17 Aa a1).f2).length)=false:=decide_eq_false (by omega)
    clear Em
    obtain rfl:=Option.some.inj H
    go_enter Try.func83,Try.ntmps83
    go_wp2_with (first|((with_reducible refine y14 (N:=2) rfl ?_);refine qe 2 #[.slice Cw Aa.length Bx,.int .i64 Bc,.string Bd,.slice Bz Be.length Ca,.slice Cb Bf.length Cc] 36 ?_;intro Aq hg Js hbox hb;have Ab:=y0.mk (hbox);have Cq:=y0.mk (qg (w:=w) hg);have Cr:=y0.mk (qg (w:=w) hg);replace HB:=y0.mk (y3 qb hb);clear hb hbox hg;obtain⟨Ga,Gb,Gc,Gd,Ge,Gf,Gg,Gh,Gi,Gj⟩:=qz5 Ab.out;have Bn:0≤(a1:Int):=of_decide_eq_true qy0;have Bo:a1 < (Aa.length:Int):=of_decide_eq_true qy0;obtain⟨Bt,Av,Af,Ck,Ah,Ai,Aj,Ar,As⟩:=at_T63 Bv.out a1 Bn Bo;cases Ck;replace Ah:=(HB.out.cell (World.block_lt_of_cell? w _ Ah)).trans Ah;replace Ai:=(HB.out.cell (World.block_lt_of_cell? w _ Ai)).trans Ai;replace Aj:=(HB.out.cell (World.block_lt_of_cell? w _ Aj)).trans Aj;have Bm:=y0.mk As;have Bu:=y0.mk Ar;clear As Ar;replace Bn:=eq_true Bn;replace Bo:=eq_true Bo)|((with_reducible refine y14 (N:=5) rfl ?_);refine qe 5 #[.int .i64 0,.string (⟨#[]⟩:ByteArray),.slice none 0 0] 63 ?_;intro Ae hg Jt hbox hb;have Ac:=y0.mk (hbox);have Cs:=y0.mk (qg (w:=w) hg);have Ct:=y0.mk (qg (w:=w) hg);replace HB:=y0.mk (y3 qb hb);have Ad:=y0.mk (qn Ab.out hg);have Ap:=y0.mk (qm Ab.out hg);replace Ab:=y0.mk (qK Ab.out hb);clear hb hbox hg;have Hy:=Ap.out;have Hz:=Ad.out;obtain⟨Gk,Gl,Gm,Gn,Gp,Gq⟩:=qz3 Ac.out))
    go_ret
    exact⟨qf,qb⟩
  ·rw [if_neg Ee]at H
   have At:(((y17 Aa a1).f0) == 4)=false:=beq_eq_false_iff_ne.mpr Ee
   have Dv:(((y17 Aa a1).f0) != 4)=true:=bne_iff_ne.mpr Ee
   have Ef:=y0.mk H
   clear H
   go_enter Try.func83,Try.ntmps83
   go_upto_if 31 with(first|((with_reducible refine y14 (N:=2) rfl ?_);refine qe 2 #[.slice Cw Aa.length Bx,.int .i64 Bc,.string Bd,.slice Bz Be.length Ca,.slice Cb Bf.length Cc] 36 ?_;intro Aq hg Ju hbox hb;have Ab:=y0.mk (hbox);have Cq:=y0.mk (qg (w:=w) hg);have Cr:=y0.mk (qg (w:=w) hg);replace HB:=y0.mk (y3 qb hb);clear hb hbox hg;obtain⟨Cx,Cy,Cz,Da,Db,Dc,Dd,De,Df,Dg⟩:=qz5 Ab.out;have Bn:0≤(a1:Int):=of_decide_eq_true qy0;have Bo:a1 < (Aa.length:Int):=of_decide_eq_true qy0;obtain⟨Bt,Av,Af,Ck,Ah,Ai,Aj,Ar,As⟩:=at_T63 Bv.out a1 Bn Bo;cases Ck;replace Ah:=(HB.out.cell (World.block_lt_of_cell? w _ Ah)).trans Ah;replace Ai:=(HB.out.cell (World.block_lt_of_cell? w _ Ai)).trans Ai;replace Aj:=(HB.out.cell (World.block_lt_of_cell? w _ Aj)).trans Aj;have Bm:=y0.mk As;have Bu:=y0.mk Ar;clear As Ar;replace Bn:=eq_true Bn;replace Bo:=eq_true Bo)|((with_reducible refine y14 (N:=5) rfl ?_);refine qe 5 #[.int .i64 0,.string (⟨#[]⟩:ByteArray),.slice none 0 0] 63 ?_;intro Ae hg Jv hbox hb;have Ac:=y0.mk (hbox);have Cs:=y0.mk (qg (w:=w) hg);have Ct:=y0.mk (qg (w:=w) hg);replace HB:=y0.mk (y3 qb hb);have Ad:=y0.mk (qn Ab.out hg);have Ap:=y0.mk (qm Ab.out hg);replace Ab:=y0.mk (qK Ab.out hb);clear hb hbox hg;have Ia:=Ap.out;have Ib:=Ad.out;obtain⟨Dh,Di,Dj,Dk,Dl,Dm⟩:=qz3 Ac.out))
   (try simp only [Act.put,qS_,qZ_,qC_])
   go_cut [31] (fun Ji wc=>∃(kq:Nat) (Cd:Bool),Ji=.bool Cd∧y0 (z0_.j0 kq Cd Aa Bc Bd Be Bf ((y17 Aa a1).f0) ((y17 Aa a1).f1) ((y17 Aa a1).f2)=some r)∧y0 (kq≤k)∧y0 (wc.heap[Aq]?=some (.cells #[(.slice (some Bt) Aa.length Bx),.int .i64 Bc,.string Bd,(.slice Bz Be.length Ca),(.slice Cb Bf.length Cc)] 36 (0,0)))∧y0 (wc.heap[Ae]?=some (.cells #[.int .i64 ((y17 Aa a1).f0),.string ((y17 Aa a1).f1),(.slice Av ((y17 Aa a1).f2).length Af)] 63 (0,0)))∧y0 (Below w.heap.size w wc))
   case first =>
    have H:=Ef.out
    clear Ef
    by_cases Eg:((y17 Aa a1).f0)=5
    ·rw [if_pos Eg]at H
     have Bq:(((y17 Aa a1).f0) == 5)=true:=beq_iff_eq.mpr Eg
     have Es:(((y17 Aa a1).f0) != 5)=false:=bne_eq_false_iff_eq.mpr Eg
     clear Eg
     (first|rw [Bq]|(simp only [i64_w,i32_w];rw [Bq])|skip)
     have H':=y0.mk H
     clear H
     go_wp2
     go_meet
     exact⟨_,((((y17 Aa a1).f0) == 5)),qy2,H',⟨by first|omega|exact Nat.le_refl _⟩,⟨by(with_reducible repeat(first|refine y8 ?_ _|refine y7 ?_|refine y4 ?_ _));refine y9 ?_ Ad.out _;(with_reducible repeat(first|refine y8 ?_ _|refine y7 ?_|refine y4 ?_ _));refine y9 ?_ Ad.out _;(with_reducible repeat(first|refine y8 ?_ _|refine y7 ?_|refine y4 ?_ _));refine y9 ?_ Ad.out _;(with_reducible repeat(first|refine y8 ?_ _|refine y7 ?_|refine y4 ?_ _));exact Ab.out⟩,⟨by(with_reducible repeat(first|refine y8 ?_ _|refine y7 ?_|refine y4 ?_ _));refine blk_put (cs:=#[.int .i64 ((y17 Aa a1).f0),.string ((y17 Aa a1).f1),.slice none 0 0]) ?_ 2 _ rfl;(with_reducible repeat(first|refine y8 ?_ _|refine y7 ?_|refine y4 ?_ _));refine blk_put (cs:=#[.int .i64 ((y17 Aa a1).f0),.string (⟨#[]⟩:ByteArray),.slice none 0 0]) ?_ 1 _ rfl;(with_reducible repeat(first|refine y8 ?_ _|refine y7 ?_|refine y4 ?_ _));refine blk_put (cs:=#[.int .i64 0,.string (⟨#[]⟩:ByteArray),.slice none 0 0]) ?_ 0 _ rfl;(with_reducible repeat(first|refine y8 ?_ _|refine y7 ?_|refine y4 ?_ _));exact Ac.out⟩,⟨qb⟩⟩
    ·rw [if_neg Eg]at H
     have Bq:(((y17 Aa a1).f0) == 5)=false:=beq_eq_false_iff_ne.mpr Eg
     have Es:(((y17 Aa a1).f0) != 5)=true:=bne_iff_ne.mpr Eg
     (first|rw [Bq]|(simp only [i64_w,i32_w];rw [Bq])|skip)
     by_cases Eh:((y17 Aa a1).f0)=6
     ·rw [if_pos Eh]at H
      have Bw:(((y17 Aa a1).f0) == 6)=true:=beq_iff_eq.mpr Eh
      have Et:(((y17 Aa a1).f0) != 6)=false:=bne_eq_false_iff_eq.mpr Eh
      clear Eh
      have H':=y0.mk H
      clear H
      go_wp2
      go_meet
      exact⟨_,((((y17 Aa a1).f0) == 6)),qy2,H',⟨by first|omega|exact Nat.le_refl _⟩,⟨by(with_reducible repeat(first|refine y8 ?_ _|refine y7 ?_|refine y4 ?_ _));refine y9 ?_ Ad.out _;(with_reducible repeat(first|refine y8 ?_ _|refine y7 ?_|refine y4 ?_ _));refine y9 ?_ Ad.out _;(with_reducible repeat(first|refine y8 ?_ _|refine y7 ?_|refine y4 ?_ _));refine y9 ?_ Ad.out _;(with_reducible repeat(first|refine y8 ?_ _|refine y7 ?_|refine y4 ?_ _));exact Ab.out⟩,⟨by(with_reducible repeat(first|refine y8 ?_ _|refine y7 ?_|refine y4 ?_ _));refine blk_put (cs:=#[.int .i64 ((y17 Aa a1).f0),.string ((y17 Aa a1).f1),.slice none 0 0]) ?_ 2 _ rfl;(with_reducible repeat(first|refine y8 ?_ _|refine y7 ?_|refine y4 ?_ _));refine blk_put (cs:=#[.int .i64 ((y17 Aa a1).f0),.string (⟨#[]⟩:ByteArray),.slice none 0 0]) ?_ 1 _ rfl;(with_reducible repeat(first|refine y8 ?_ _|refine y7 ?_|refine y4 ?_ _));refine blk_put (cs:=#[.int .i64 0,.string (⟨#[]⟩:ByteArray),.slice none 0 0]) ?_ 0 _ rfl;(with_reducible repeat(first|refine y8 ?_ _|refine y7 ?_|refine y4 ?_ _));exact Ac.out⟩,⟨qb⟩⟩
     ·rw [if_neg Eh]at H
      have Bw:(((y17 Aa a1).f0) == 6)=false:=beq_eq_false_iff_ne.mpr Eh
      have Et:(((y17 Aa a1).f0) != 6)=true:=bne_iff_ne.mpr Eh
      have H':=y0.mk H
      clear H
      go_wp2
      go_meet
      exact⟨_,((((y17 Aa a1).f0) == 7)),qy2,H',⟨by first|omega|exact Nat.le_refl _⟩,⟨by(with_reducible repeat(first|refine y8 ?_ _|refine y7 ?_|refine y4 ?_ _));refine y9 ?_ Ad.out _;(with_reducible repeat(first|refine y8 ?_ _|refine y7 ?_|refine y4 ?_ _));refine y9 ?_ Ad.out _;(with_reducible repeat(first|refine y8 ?_ _|refine y7 ?_|refine y4 ?_ _));refine y9 ?_ Ad.out _;(with_reducible repeat(first|refine y8 ?_ _|refine y7 ?_|refine y4 ?_ _));exact Ab.out⟩,⟨by(with_reducible repeat(first|refine y8 ?_ _|refine y7 ?_|refine y4 ?_ _));refine blk_put (cs:=#[.int .i64 ((y17 Aa a1).f0),.string ((y17 Aa a1).f1),.slice none 0 0]) ?_ 2 _ rfl;(with_reducible repeat(first|refine y8 ?_ _|refine y7 ?_|refine y4 ?_ _));refine blk_put (cs:=#[.int .i64 ((y17 Aa a1).f0),.string (⟨#[]⟩:ByteArray),.slice none 0 0]) ?_ 1 _ rfl;(with_reducible repeat(first|refine y8 ?_ _|refine y7 ?_|refine y4 ?_ _));refine blk_put (cs:=#[.int .i64 0,.string (⟨#[]⟩:ByteArray),.slice none 0 0]) ?_ 0 _ rfl;(with_reducible repeat(first|refine y8 ?_ _|refine y7 ?_|refine y4 ?_ _));exact Ac.out⟩,⟨qb⟩⟩
   case rest =>
    clear Ef
    (try clear Gy Gz En Eo At Dv Cx Cy Cz Da Db Dh Di Dj Dc Dd De Df Dg Dk Dl Dm Ah Ai Aj Bn Bo)
    obtain⟨kq,Cd,rfl,HA,Eu,Ab,Ac,HB⟩:=hcut
    cases kq with
    | zero=>exact absurd HA.out (by simp [z0_.j0])
    | succ Do =>
     have H:=HA.out
     clear HA
     simp only [z0_.j0]at H
     by_cases Gr:Cd=true
     ·subst Gr
      replace H:=qT H
      obtain⟨Ic,H⟩:=qo H
      have Br:decide (0 < (((y17 Aa a1).f2).length:Int))=true:=decide_eq_true Ic
      have Id:decide (0 < ((y17 Aa a1).f2).length)=true:=decide_eq_true (by omega)
      clear Ic
      obtain⟨Ao,Ie,H⟩:=qB H
      obtain⟨Dz,H⟩:=qo H
      have Ay:=eq_true Dz
      have If:=decide_eq_true Dz
      have Ig:=eq_false (Nat.not_lt.2 Dz)
      obtain⟨Am,Cf⟩:∃ y_:List ByteArray,y_=(([(⟨#[43]⟩:ByteArray),(⟨#[45]⟩:ByteArray),(⟨#[42]⟩:ByteArray)]:List ByteArray)):=⟨_,rfl⟩
      replace H:(if 0≤(wrap64 (((y17 Aa a1).f0) - 5))then(if(wrap64 (((y17 Aa a1).f0) - 5)) < (Am.length:Int)then(if(Ao ++ (⟨#[32]⟩:ByteArray)).size + (rdOf ByteArray.empty Am (wrap64 (((y17 Aa a1).f0) - 5))).size≤9223372036854775807 then(if((Ao ++ (⟨#[32]⟩:ByteArray)) ++ (rdOf ByteArray.empty Am (wrap64 (((y17 Aa a1).f0) - 5)))).size + 1≤9223372036854775807 then(if 1 < (((y17 Aa a1).f2).length:Int)then((impl_Rule_expText_1.f Do (rd ((y17 Aa a1).f2) 1) Aa Bc Bd Be Bf).bind fun Bk=>(if(((Ao ++ (⟨#[32]⟩:ByteArray)) ++ (rdOf ByteArray.empty Am (wrap64 (((y17 Aa a1).f0) - 5)))) ++ (⟨#[32]⟩:ByteArray)).size + Bk.size≤9223372036854775807 then(some ((((Ao ++ (⟨#[32]⟩:ByteArray)) ++ (rdOf ByteArray.empty Am (wrap64 (((y17 Aa a1).f0) - 5)))) ++ (⟨#[32]⟩:ByteArray)) ++ Bk))else(none)))else(none))else(none))else(none))else(none))else(none))=some r:=by first|(rw [Cf];with_reducible exact H)|(have H2_:=(Option.bind_some _ _).symm.trans H;rw [Cf];with_reducible exact H2_)|(have H2_:=(Option.bind_some _ _).symm.trans H;with_reducible exact H2_)|with_reducible exact H|(rw [Cf];exact H)|exact H
      have Cu:=y0.mk Cf
      clear Cf
      obtain⟨Al,Cg⟩:∃ j_:Int,(wrap64 (((y17 Aa a1).f0) - 5))=j_:=⟨_,rfl⟩
      replace H:(if 0≤(Al)then(if(Al) < (Am.length:Int)then(if(Ao ++ (⟨#[32]⟩:ByteArray)).size + (rdOf ByteArray.empty Am (Al)).size≤9223372036854775807 then(if((Ao ++ (⟨#[32]⟩:ByteArray)) ++ (rdOf ByteArray.empty Am (Al))).size + 1≤9223372036854775807 then(if 1 < (((y17 Aa a1).f2).length:Int)then((impl_Rule_expText_1.f Do (rd ((y17 Aa a1).f2) 1) Aa Bc Bd Be Bf).bind fun Bk=>(if(((Ao ++ (⟨#[32]⟩:ByteArray)) ++ (rdOf ByteArray.empty Am (Al))) ++ (⟨#[32]⟩:ByteArray)).size + Bk.size≤9223372036854775807 then(some ((((Ao ++ (⟨#[32]⟩:ByteArray)) ++ (rdOf ByteArray.empty Am (Al))) ++ (⟨#[32]⟩:ByteArray)) ++ Bk))else(none)))else(none))else(none))else(none))else(none))else(none))=some r:=by first|(rw [Cg]at H;exact H)|(simp only [Cg]at H ⊢;exact H)
      (try rw [Cg]at Ie)
      have hji42w:(IntKind.i64.wrap (((y17 Aa a1).f0) - 5))=Al:=(i64_w _).trans Cg
      obtain⟨Ih,H⟩:=qo H
      have Az:decide (0≤(Al))=true:=decide_eq_true Ih
      clear Ih
      obtain⟨Ii,H⟩:=qo H
      have Ba:decide ((Al) < (Am.length:Int))=true:=decide_eq_true Ii
      clear Ii
      obtain⟨Ea,H⟩:=qo H
      have Bb:=eq_true Ea
      have Ij:=decide_eq_true Ea
      have Ew:=eq_false (Nat.not_lt.2 Ea)
      have Ik:(9223372036854775807 < Ao.size + 1 + (rdOf ByteArray.empty Am (Al)).size)=False:=qs Ew
      obtain⟨Eb,H⟩:=qo H
      have Bs:=eq_true Eb
      have Il:=decide_eq_true Eb
      have Ex:=eq_false (Nat.not_lt.2 Eb)
      have Im:(9223372036854775807 < Ao.size + 1 + (rdOf ByteArray.empty Am (Al)).size + 1)=False:=qs Ex
      obtain⟨Io,H⟩:=qo H
      have Ch:decide (1 < (((y17 Aa a1).f2).length:Int))=true:=decide_eq_true Io
      have Ip:decide (1 < ((y17 Aa a1).f2).length)=true:=decide_eq_true (by omega)
      clear Io
      obtain⟨Bk,Jj,H⟩:=qB H
      obtain⟨Ec,H⟩:=qo H
      have Ci:=eq_true Ec
      have Iq:=decide_eq_true Ec
      have Ey:=eq_false (Nat.not_lt.2 Ec)
      have Ir:(9223372036854775807 < Ao.size + 1 + (rdOf ByteArray.empty Am (Al)).size + 1 + Bk.size)=False:=qs Ey
      obtain rfl:=Option.some.inj H
      try go_wp2
      have Ez:(0≤((Al):Int))=True:=eq_true (of_decide_eq_true qy0)
      have Fa:((Al) < (Am.length:Int))=True:=eq_true (of_decide_eq_true qy0)
      replace Ab:=y0.mk (y7 Ab.out)
      replace Ac:=y0.mk (y7 Ac.out)
      replace HB:=y0.mk (below_drew1 HB.out)
      have Ei:0≤(0:Int):=(by omega)
      have Ej:0 < (((y17 Aa a1).f2).length:Int):=of_decide_eq_true qy0
      obtain⟨Ak,Hk,Bg⟩:=Kd.at_int Bm.out 0 Ei Ej
      have Bh:=Bg
      (try rw [show((0:Int)).toNat=0 from rfl]at Bh)
      (try rw [show 0 * 1=0 from rfl]at Bh)
      (try rw [Addr.add_zero']at Bh)
      cases Hk
      have Is:(0 < ((y17 Aa a1).f2).length)=True:=eq_true (by omega)
      (try rw [show((0:Int)).toNat=0 from rfl]at Bg)
      (try rw [Addr.add_zero']at Bg)
      replace Bg:=(HB.out.cell (World.block_lt_of_cell? w _ Bg)).trans Bg
      replace Ei:=eq_true Ei
      replace Ej:=eq_true Ej
      have Ek:0≤(1:Int):=(by omega)
      have El:1 < (((y17 Aa a1).f2).length:Int):=of_decide_eq_true qy0
      obtain⟨Fb,Hl,Bi⟩:=Kd.at_int Bm.out 1 Ek El
      have Bj:=Bi
      (try rw [show((1:Int)).toNat=1 from rfl]at Bj)
      (try rw [show 1 * 1=1 from rfl]at Bj)
      (try simp only [Nat.reduceMul,Nat.reduceEqDiff,Go.Addr.add,↓reduceIte]at Bj)
      obtain rfl:Ak=Fb:=(by injection Hl)
      (try simp only [show(1:Int).toNat=1 from rfl,Nat.reduceMul,Nat.reduceEqDiff,Go.Addr.add,↓reduceIte]at Bi)
      have Iu:(1 < ((y17 Aa a1).f2).length)=True:=eq_true (by omega)
      (try rw [show((1:Int)).toNat=1 from rfl]at Bi)
      replace Bi:=(HB.out.cell (World.block_lt_of_cell? w _ Bi)).trans Bi
      replace Ek:=eq_true Ek
      replace El:=eq_true El
      refine start_ (n:=23) (S:=fun w'=>True) (ds:=[]) (fl_ 23 0) (by kernel_rfl) rfl rfl trivial (fun hHeld=>?_);refine with_tabW z0_.tab12 z0_.bits12 (fun HT_ HW_=>?_)
      generalize wc.drew=Jw at Ab Ac HB Bg Bi hHeld ⊢
      refine qp2 0 36 23 ?_
      refine qp 8 44 (fl_ 23 259) ?_
      refine qp 15 51 (fl_ 23 33027) ?_
      refine qp 16 52 (fl_ 23 98563) ?_
      refine inv_at [2,3,4,5,6,7,9,10,11,12,13,14,17,18,19,20,21,22] (fun a0_ b a w'=>∃(Ag:Value) (adz_v332:Addr) (m11_:Value),a=putSel a0_ b [(2,38,.slice (some Ak) ((y17 Aa a1).f2).length Af),(3,39,.pointer (some Ak)),(4,40,.int .i64 (rd ((y17 Aa a1).f2) 0)),(5,41,.string Ao),(6,42,.string (Ao ++ (⟨#[32]⟩:ByteArray))),(7,43,Ag),(9,45,.int .i64 ((y17 Aa a1).f0)),(10,46,.int .i64 Al),(11,47,m11_),(12,48,.string (rdOf ByteArray.empty Am (Al))),(13,49,.string ((Ao ++ (⟨#[32]⟩:ByteArray)) ++ (rdOf ByteArray.empty Am (Al)))),(14,50,.string (((Ao ++ (⟨#[32]⟩:ByteArray)) ++ (rdOf ByteArray.empty Am (Al))) ++ (⟨#[32]⟩:ByteArray))),(17,53,.slice (some Ak) ((y17 Aa a1).f2).length Af),(18,54,.pointer (some (Ak.add 1))),(19,55,.int .i64 (rd ((y17 Aa a1).f2) 1)),(20,56,.string Bk),(21,57,.string ((((Ao ++ (⟨#[32]⟩:ByteArray)) ++ (rdOf ByteArray.empty Am (Al))) ++ (⟨#[32]⟩:ByteArray)) ++ Bk)),(22,4,.string ((((Ao ++ (⟨#[32]⟩:ByteArray)) ++ (rdOf ByteArray.empty Am (Al))) ++ (⟨#[32]⟩:ByteArray)) ++ Bk))]∧(w'.heap[Aq]?=some (.cells #[.slice (some Bt) Aa.length Bx,.int .i64 Bc,.string Bd,.slice Bz Be.length Ca,.slice Cb Bf.length Cc] 36 (0,0)))∧(w'.heap[Ae]?=some (.cells #[.int .i64 ((y17 Aa a1).f0),.string ((y17 Aa a1).f1),.slice (some Ak) ((y17 Aa a1).f2).length Af] 63 (0,0)))∧(Below w.heap.size w w')∧(b 7=true→Kd.R Kd.string 9 w' w.heap.size (fun _=>True) Ag Am)∧(b 7=true→∃ c_,(Ag:Value)=.slice (some adz_v332) Am.length c_)∧(b 11=true→(m11_:Value)=.pointer (some (adz_v332.add ((Al)).toNat)))) HT_.out HW_.out (by kernel_rfl) (by kernel_rfl) ?_ ?_ ?_
      ·exact⟨.bool false,⟨0,0,none⟩,.bool false,by simp only [putSel,Bool.false_eq_true,if_false],Ab.out,Ac.out,HB.out,fun h_=>absurd h_ (by decide),fun h_=>absurd h_ (by decide),fun h_=>absurd h_ (by decide)⟩
      ·skip
       clear Ab Ac HB
       refine steps_cons ?_ ?_
       ·rintro b a w' ⟨Ag,adz_v332,m11_,ha,Q_BK325,Q_BK327,Q_HB,Q_HO333,Q_HA_HO333,Q_X11_⟩ hb_ hon hoff
        refine⟨_,rfl,fun K hK=>?_⟩
        have Jx:a.tmps[37]?=some (.pointer (some ⟨Ae,2,none⟩)):=by rw [ha];exact(putSel_off rfl).trans rfl
        replace ha:=y0.mk ha
        have Ab:=y0.mk Q_BK325
        have Ac:=y0.mk Q_BK327
        have HB:=y0.mk Q_HB
        have hc0_:w'.cell? ⟨Ae,0,none⟩=some (.int .i64 ((y17 Aa a1).f0)):=(y6 Ac.out 0).trans rfl
        have hc1_:w'.cell? ⟨Ae,1,none⟩=some (.string ((y17 Aa a1).f1)):=(y6 Ac.out 1).trans rfl
        have hc2_:w'.cell? ⟨Ae,2,none⟩=some (.slice (some Ak) ((y17 Aa a1).f2).length Af):=(y6 Ac.out 2).trans rfl
        refine value_ (w1:=w') (v:=.slice (some Ak) ((y17 Aa a1).f2).length Af) (by rfl) rfl ?_ ?_
        ·go_simp
         (try simp only [i64_w])
         try rfl
        refine hK.out _ _ ⟨Ag,adz_v332,m11_,(by rw [ha.out];exact putSel_upk 0 hb_ rfl rfl rfl),Q_BK325,Q_BK327,Q_HB,Q_HO333,Q_HA_HO333,Q_X11_⟩
       refine steps_cons ?_ ?_
       ·rintro b a w' ⟨Ag,adz_v332,m11_,ha,Q_BK325,Q_BK327,Q_HB,Q_HO333,Q_HA_HO333,Q_X11_⟩ hb_ hon hoff
        refine⟨_,rfl,fun K hK=>?_⟩
        have Jy:a.tmps[38]?=some (.slice (some Ak) ((y17 Aa a1).f2).length Af):=by rw [ha];exact putSel_on (e:=(2,38,.slice (some Ak) ((y17 Aa a1).f2).length Af)) 0 rfl rfl (hon 2 (by kernel_rfl)) rfl
        replace ha:=y0.mk ha
        have Ab:=y0.mk Q_BK325
        have Ac:=y0.mk Q_BK327
        have HB:=y0.mk Q_HB
        have hs0_:w'.cell? Ak=some (.int .i64 (rd ((y17 Aa a1).f2) 0)):=((HB.out.cell (World.block_lt_of_cell? w _ Bh)).trans Bh)
        refine value_ (w1:=w') (v:=.pointer (some Ak)) (by rfl) rfl ?_ ?_
        ·go_simp
         (try simp only [i64_w])
         try rfl
        refine hK.out _ _ ⟨Ag,adz_v332,m11_,(by rw [ha.out];exact putSel_upk 1 hb_ rfl rfl rfl),Q_BK325,Q_BK327,Q_HB,Q_HO333,Q_HA_HO333,Q_X11_⟩
       refine steps_cons ?_ ?_
       ·rintro b a w' ⟨Ag,adz_v332,m11_,ha,Q_BK325,Q_BK327,Q_HB,Q_HO333,Q_HA_HO333,Q_X11_⟩ hb_ hon hoff
        refine⟨_,rfl,fun K hK=>?_⟩
        have Jz:a.tmps[39]?=some (.pointer (some Ak)):=by rw [ha];exact putSel_on (e:=(3,39,.pointer (some Ak))) 1 rfl rfl (hon 3 (by kernel_rfl)) rfl
        replace ha:=y0.mk ha
        have Ab:=y0.mk Q_BK325
        have Ac:=y0.mk Q_BK327
        have HB:=y0.mk Q_HB
        have hs0_:w'.cell? Ak=some (.int .i64 (rd ((y17 Aa a1).f2) 0)):=((HB.out.cell (World.block_lt_of_cell? w _ Bh)).trans Bh)
        refine value_ (w1:=w') (v:=.int .i64 (rd ((y17 Aa a1).f2) 0)) (by rfl) rfl ?_ ?_
        ·go_simp
         (try simp only [i64_w])
         try rfl
        refine hK.out _ _ ⟨Ag,adz_v332,m11_,(by rw [ha.out];exact putSel_upk 2 hb_ rfl rfl rfl),Q_BK325,Q_BK327,Q_HB,Q_HO333,Q_HA_HO333,Q_X11_⟩
       refine steps_cons ?_ ?_
       ·rintro b a w' ⟨Ag,adz_v332,m11_,ha,Q_BK325,Q_BK327,Q_HB,Q_HO333,Q_HA_HO333,Q_X11_⟩ hb_ hon hoff
        refine⟨_,rfl,fun K hK=>?_⟩
        have Iv:a.tmps[36]?=some (.func (.func 93) #[] #[.pointer (some ⟨Aq,0,none⟩)]):=by rw [ha];exact(putSel_off rfl).trans rfl
        have Iw:a.tmps[40]?=some (.int .i64 (rd ((y17 Aa a1).f2) 0)):=by rw [ha];exact putSel_on (e:=(4,40,.int .i64 (rd ((y17 Aa a1).f2) 0))) 2 rfl rfl (hon 4 (by kernel_rfl)) rfl
        replace ha:=y0.mk ha
        have Ab:=y0.mk Q_BK325
        have Ac:=y0.mk Q_BK327
        have HB:=y0.mk Q_HB
        refine goesC_ Try.func93 (by kernel_rfl) rfl #[.int .i64 (rd ((y17 Aa a1).f2) 0),.pointer (some ⟨Aq,0,none⟩)] #[.pointer (some ⟨Aq,0,none⟩)] (by rfl) rfl rfl (by first|(simp only [qM_,List.map_cons,List.map_nil,Act.eval,Array.getD_eq_getD_getElem?,Option.getD_some,Iv,Iw];done)|(simp only [qM_,List.map_cons,List.map_nil,Act.eval,Array.getD_eq_getD_getElem?,Option.getD_some,Iv,Iw];rfl)) ?_
        with_reducible refine(ih_impl_Rule_expText_1 Do (by have:=Eu.out;omega) (rd ((y17 Aa a1).f2) 0) _ _ Aa Bc Bd _ _ Be _ _ Bf Aq Ao _ (qc (Kd.C_below Bv.out HB.out)) Cl.out (qc (Kd.C_below Cm.out HB.out)) Cn.out (qc (Kd.C_below Co.out HB.out)) Cp.out (by(with_reducible repeat(first|refine y8 ?_ _|refine y7 ?_|refine y4 ?_ _));exact Ab.out) Ie.out).mono ?_
        rintro e Ix ⟨rfl,hb⟩
        refine⟨_,rfl, ?_⟩
        have n0_:=y0.mk (qK Ab.out hb)
        have n1_:=y0.mk (qK Ac.out hb)
        have n2_:=y0.mk (y3 qb hb)
        have z_HO333:=fun(h0_:b 7=true)=>(show Kd.R Kd.string 9 Ix w.heap.size (fun _=>True) Ag Am from by first|exact(Kd.R_below (qR ((Q_HO333 h0_))) hb)|exact Kd.R_mono (Kd.R_below (qR ((Q_HO333 h0_))) hb) (fun _ h_=>by first|trivial|exact h_|exact h_.1))
        clear Ab
        clear Ac
        clear HB
        have Ab:=n0_
        have Ac:=n1_
        have HB:=n2_
        clear n0_ n1_ n2_
        (try clear hb)
        refine hK.out _ _ ⟨Ag,adz_v332,m11_,(by rw [ha.out];exact putSel_upk 3 hb_ rfl rfl rfl),(qk Ab.out),(qk Ac.out),qb,z_HO333,Q_HA_HO333,Q_X11_⟩
       refine steps_cons ?_ ?_
       ·rintro b a w' ⟨Ag,adz_v332,m11_,ha,Q_BK325,Q_BK327,Q_HB,Q_HO333,Q_HA_HO333,Q_X11_⟩ hb_ hon hoff
        refine⟨_,rfl,fun K hK=>?_⟩
        have Ka:a.tmps[41]?=some (.string Ao):=by rw [ha];exact putSel_on (e:=(5,41,.string Ao)) 3 rfl rfl (hon 5 (by kernel_rfl)) rfl
        replace ha:=y0.mk ha
        have Ab:=y0.mk Q_BK325
        have Ac:=y0.mk Q_BK327
        have HB:=y0.mk Q_HB
        refine value_ (w1:=w') (v:=.string (Ao ++ (⟨#[32]⟩:ByteArray))) (by rfl) rfl ?_ ?_
        ·go_simp
         (try simp only [i64_w])
         try first|rfl|(have hz_:=Dw;(try have hy7_:=of_eq_true c7b0);(try have hy8_:=of_eq_true c8b0);(try have hy9_:=of_eq_true c9b0);(try have hy10_:=of_eq_true c10b0);(try have hy11_:=of_eq_true At);(try have hy12_:=of_eq_true Au);(try have hy13_:=of_eq_true Aw);(try simp only [ByteArray.size_append,ByteArray.size_extract]at hz_);omega)|(have hz_:=Dx;(try have hy9_:=of_eq_true c9b0);(try have hy10_:=of_eq_true c10b0);(try have hy11_:=of_eq_true At);(try have hy12_:=of_eq_true Au);(try have hy13_:=of_eq_true Aw);(try have hy14_:=of_eq_true c14b0);(try have hy15_:=of_eq_true Bp);(try simp only [ByteArray.size_append,ByteArray.size_extract]at hz_);omega)|(have hz_:=Dy;(try have hy10_:=of_eq_true c10b0);(try have hy11_:=of_eq_true At);(try have hy12_:=of_eq_true Au);(try have hy13_:=of_eq_true Aw);(try have hy14_:=of_eq_true c14b0);(try have hy15_:=of_eq_true Bp);(try have hy16_:=of_eq_true Ce);(try simp only [ByteArray.size_append,ByteArray.size_extract]at hz_);omega)|(have hz_:=Dz;(try have hy35_:=of_eq_true c35b0);(try have hy36_:=of_eq_true Bq);(try have hy37_:=of_eq_true Bw);(try have hy38_:=of_eq_true c38b0);(try have hy39_:=of_eq_true Br);(try have hy40_:=of_eq_true c40b0);(try have hy41_:=of_eq_true Ay);(try simp only [ByteArray.size_append,ByteArray.size_extract]at hz_);omega)|(have hz_:=Ea;(try have hy39_:=of_eq_true Br);(try have hy40_:=of_eq_true c40b0);(try have hy41_:=of_eq_true Ay);(try have hy42_:=of_eq_true c42b0);(try have hy43_:=of_eq_true Az);(try have hy44_:=of_eq_true Ba);(try have hy45_:=of_eq_true Bb);(try simp only [ByteArray.size_append,ByteArray.size_extract]at hz_);omega)|(have hz_:=Eb;(try have hy40_:=of_eq_true c40b0);(try have hy41_:=of_eq_true Ay);(try have hy42_:=of_eq_true c42b0);(try have hy43_:=of_eq_true Az);(try have hy44_:=of_eq_true Ba);(try have hy45_:=of_eq_true Bb);(try have hy46_:=of_eq_true Bs);(try simp only [ByteArray.size_append,ByteArray.size_extract]at hz_);omega)|(have hz_:=Ec;(try have hy43_:=of_eq_true Az);(try have hy44_:=of_eq_true Ba);(try have hy45_:=of_eq_true Bb);(try have hy46_:=of_eq_true Bs);(try have hy47_:=of_eq_true Ch);(try have hy48_:=of_eq_true c48b0);(try have hy49_:=of_eq_true Ci);(try simp only [ByteArray.size_append,ByteArray.size_extract]at hz_);omega)
        refine hK.out _ _ ⟨Ag,adz_v332,m11_,(by rw [ha.out];exact putSel_upk 4 hb_ rfl rfl rfl),Q_BK325,Q_BK327,Q_HB,Q_HO333,Q_HA_HO333,Q_X11_⟩
       refine steps_cons ?_ ?_
       ·rintro b a w' ⟨Ag,adz_v332,m11_,ha,Q_BK325,Q_BK327,Q_HB,Q_HO333,Q_HA_HO333,Q_X11_⟩ hb_ hon hoff
        refine⟨_,rfl,fun K hK=>?_⟩
        replace ha:=y0.mk ha
        have Ab:=y0.mk Q_BK325
        have Ac:=y0.mk Q_BK327
        have HB:=y0.mk Q_HB
        refine qLs Kd.string 9 43 ([(⟨#[43]⟩:ByteArray),(⟨#[45]⟩:ByteArray),(⟨#[42]⟩:ByteArray)]:List ByteArray) ?_
        intro Ag Ix Cv hb hg_ hnew_
        clear hg_ hnew_
        (first|rw [← Cu.out]at Cv|(simp only [Int.reduceToNat]at Cv;rw [← Cu.out]at Cv))
        have Bl:=y0.mk (Kd.R_lower Cv (y2 qb))
        replace Ab:=y0.mk (qK Ab.out hb)
        replace Ac:=y0.mk (qK Ac.out hb)
        replace HB:=y0.mk (y3 qb hb)
        clear hb Cv
        obtain⟨Jk,Hm,Hn⟩:=Kd.R_slice Bl.out
        subst Hn
        obtain⟨Ed,Ho,_⟩:=Kd.at_string (Kd.R_reads' Bl.out).2.2 0 (by decide) (by rw [Cu.out];simp)
        cases Ho
        refine hK.out _ _ ⟨.slice (some Ed) Am.length Hm,Ed,m11_,(by rw [ha.out];exact putSel_upk 5 hb_ rfl rfl rfl),(qk Ab.out),(qk Ac.out),qb,fun _=>(qR Bl.out),fun _=>⟨_,rfl⟩,fun h0_=>absurd ((hoff 11 (by kernel_rfl)).symm.trans h0_) (by decide)⟩
       refine steps_cons ?_ ?_
       ·rintro b a w' ⟨Ag,adz_v332,m11_,ha,Q_BK325,Q_BK327,Q_HB,Q_HO333,Q_HA_HO333,Q_X11_⟩ hb_ hon hoff
        refine⟨_,rfl,fun K hK=>?_⟩
        have Kb:a.tmps[44]?=some (.pointer (some ⟨Ae,0,none⟩)):=by rw [ha];exact(putSel_off rfl).trans rfl
        replace ha:=y0.mk ha
        have Ab:=y0.mk Q_BK325
        have Ac:=y0.mk Q_BK327
        have HB:=y0.mk Q_HB
        have hc0_:w'.cell? ⟨Ae,0,none⟩=some (.int .i64 ((y17 Aa a1).f0)):=(y6 Ac.out 0).trans rfl
        have hc1_:w'.cell? ⟨Ae,1,none⟩=some (.string ((y17 Aa a1).f1)):=(y6 Ac.out 1).trans rfl
        have hc2_:w'.cell? ⟨Ae,2,none⟩=some (.slice (some Ak) ((y17 Aa a1).f2).length Af):=(y6 Ac.out 2).trans rfl
        refine value_ (w1:=w') (v:=.int .i64 ((y17 Aa a1).f0)) (by rfl) rfl ?_ ?_
        ·go_simp
         (try simp only [i64_w])
         try rfl
        refine hK.out _ _ ⟨Ag,adz_v332,m11_,(by rw [ha.out];exact putSel_upk 6 hb_ rfl rfl rfl),Q_BK325,Q_BK327,Q_HB,Q_HO333,Q_HA_HO333,fun h0_=>absurd ((hoff 11 (by kernel_rfl)).symm.trans h0_) (by decide)⟩
       refine steps_cons ?_ ?_
       ·rintro b a w' ⟨Ag,adz_v332,m11_,ha,Q_BK325,Q_BK327,Q_HB,Q_HO333,Q_HA_HO333,Q_X11_⟩ hb_ hon hoff
        refine⟨_,rfl,fun K hK=>?_⟩
        have Ke:a.tmps[45]?=some (.int .i64 ((y17 Aa a1).f0)):=by rw [ha];exact putSel_on (e:=(9,45,.int .i64 ((y17 Aa a1).f0))) 6 rfl rfl (hon 9 (by kernel_rfl)) rfl
        replace ha:=y0.mk ha
        have Ab:=y0.mk Q_BK325
        have Ac:=y0.mk Q_BK327
        have HB:=y0.mk Q_HB
        refine value_ (w1:=w') (v:=.int .i64 Al) (by rfl) rfl ?_ ?_
        ·go_simp
         (try simp only [i64_w])
         try rfl
        refine hK.out _ _ ⟨Ag,adz_v332,m11_,(by rw [ha.out];exact putSel_upk 7 hb_ rfl rfl rfl),Q_BK325,Q_BK327,Q_HB,Q_HO333,Q_HA_HO333,fun h0_=>absurd ((hoff 11 (by kernel_rfl)).symm.trans h0_) (by decide)⟩
       refine steps_cons ?_ ?_
       ·rintro b a w' ⟨Ag,adz_v332,m11_,ha,Q_BK325,Q_BK327,Q_HB,Q_HO333,Q_HA_HO333,Q_X11_⟩ hb_ hon hoff
        refine⟨_,rfl,fun K hK=>?_⟩
        have Jl:a.tmps[43]?=some (Ag):=by rw [ha];exact putSel_on (e:=(7,43,Ag)) 5 rfl rfl (hon 7 (by kernel_rfl)) rfl
        have Kf:a.tmps[46]?=some (.int .i64 Al):=by rw [ha];exact putSel_on (e:=(10,46,.int .i64 Al)) 7 rfl rfl (hon 10 (by kernel_rfl)) rfl
        replace ha:=y0.mk ha
        have Ab:=y0.mk Q_BK325
        have Ac:=y0.mk Q_BK327
        have HB:=y0.mk Q_HB
        have Bl:=y0.mk (Q_HO333 (hon 7 (by kernel_rfl)))
        have HA_HO333:=y0.mk (Q_HA_HO333 (hon 7 (by kernel_rfl)))
        obtain⟨c_,hv_⟩:=HA_HO333.out
        rw [hv_]at Jl
        refine value_ (w1:=w') (v:=.pointer (some (adz_v332.add ((Al)).toNat))) (by rfl) rfl ?_ ?_
        ·go_simp
         (try simp only [i64_w])
         try rfl
        refine hK.out _ _ ⟨Ag,adz_v332,(.pointer (some (adz_v332.add ((Al)).toNat))),(by rw [ha.out];exact putSel_upk 8 hb_ rfl rfl rfl),Q_BK325,Q_BK327,Q_HB,Q_HO333,Q_HA_HO333,fun _=>rfl⟩
       refine steps_cons ?_ ?_
       ·rintro b a w' ⟨Ag,adz_v332,m11_,ha,Q_BK325,Q_BK327,Q_HB,Q_HO333,Q_HA_HO333,Q_X11_⟩ hb_ hon hoff
        refine⟨_,rfl,fun K hK=>?_⟩
        have Jm:a.tmps[47]?=some (m11_):=by rw [ha];exact putSel_on (e:=(11,47,m11_)) 8 rfl rfl (hon 11 (by kernel_rfl)) rfl
        rw [Q_X11_ (hon 11 (by kernel_rfl))]at Jm
        replace ha:=y0.mk ha
        have Ab:=y0.mk Q_BK325
        have Ac:=y0.mk Q_BK327
        have HB:=y0.mk Q_HB
        have Bl:=y0.mk (Q_HO333 (hon 7 (by kernel_rfl)))
        have HA_HO333:=y0.mk (Q_HA_HO333 (hon 7 (by kernel_rfl)))
        obtain⟨c_,hv_⟩:=HA_HO333.out
        have hF_:=Bl.out
        rw [hv_]at hF_
        obtain⟨ad_,ea_,hx_⟩:=Kd.at_string (Kd.R_reads' hF_).2.2 (Al) (of_eq_true Ez) (of_eq_true Fa)
        cases ea_
        refine value_ (w1:=w') (v:=.string (rdOf ByteArray.empty Am (Al))) (by rfl) rfl ?_ ?_
        ·go_simp
         (try simp only [i64_w])
         try rfl
        refine hK.out _ _ ⟨Ag,adz_v332,m11_,(by rw [ha.out];exact putSel_upk 9 hb_ rfl rfl rfl),Q_BK325,Q_BK327,Q_HB,Q_HO333,Q_HA_HO333,Q_X11_⟩
       refine steps_cons ?_ ?_
       ·rintro b a w' ⟨Ag,adz_v332,m11_,ha,Q_BK325,Q_BK327,Q_HB,Q_HO333,Q_HA_HO333,Q_X11_⟩ hb_ hon hoff
        refine⟨_,rfl,fun K hK=>?_⟩
        have Kg:a.tmps[42]?=some (.string (Ao ++ (⟨#[32]⟩:ByteArray))):=by rw [ha];exact putSel_on (e:=(6,42,.string (Ao ++ (⟨#[32]⟩:ByteArray)))) 4 rfl rfl (hon 6 (by kernel_rfl)) rfl
        have Kh:a.tmps[48]?=some (.string (rdOf ByteArray.empty Am (Al))):=by rw [ha];exact putSel_on (e:=(12,48,.string (rdOf ByteArray.empty Am (Al)))) 9 rfl rfl (hon 12 (by kernel_rfl)) rfl
        replace ha:=y0.mk ha
        have Ab:=y0.mk Q_BK325
        have Ac:=y0.mk Q_BK327
        have HB:=y0.mk Q_HB
        have Bl:=y0.mk (Q_HO333 (hon 7 (by kernel_rfl)))
        have HA_HO333:=y0.mk (Q_HA_HO333 (hon 7 (by kernel_rfl)))
        refine value_ (w1:=w') (v:=.string ((Ao ++ (⟨#[32]⟩:ByteArray)) ++ (rdOf ByteArray.empty Am (Al)))) (by rfl) rfl ?_ ?_
        ·go_simp
         (try simp only [i64_w])
         try first|rfl|(have hz_:=Dw;(try have hy7_:=of_eq_true c7b0);(try have hy8_:=of_eq_true c8b0);(try have hy9_:=of_eq_true c9b0);(try have hy10_:=of_eq_true c10b0);(try have hy11_:=of_eq_true At);(try have hy12_:=of_eq_true Au);(try have hy13_:=of_eq_true Aw);(try simp only [ByteArray.size_append,ByteArray.size_extract]at hz_);omega)|(have hz_:=Dx;(try have hy9_:=of_eq_true c9b0);(try have hy10_:=of_eq_true c10b0);(try have hy11_:=of_eq_true At);(try have hy12_:=of_eq_true Au);(try have hy13_:=of_eq_true Aw);(try have hy14_:=of_eq_true c14b0);(try have hy15_:=of_eq_true Bp);(try simp only [ByteArray.size_append,ByteArray.size_extract]at hz_);omega)|(have hz_:=Dy;(try have hy10_:=of_eq_true c10b0);(try have hy11_:=of_eq_true At);(try have hy12_:=of_eq_true Au);(try have hy13_:=of_eq_true Aw);(try have hy14_:=of_eq_true c14b0);(try have hy15_:=of_eq_true Bp);(try have hy16_:=of_eq_true Ce);(try simp only [ByteArray.size_append,ByteArray.size_extract]at hz_);omega)|(have hz_:=Dz;(try have hy35_:=of_eq_true c35b0);(try have hy36_:=of_eq_true Bq);(try have hy37_:=of_eq_true Bw);(try have hy38_:=of_eq_true c38b0);(try have hy39_:=of_eq_true Br);(try have hy40_:=of_eq_true c40b0);(try have hy41_:=of_eq_true Ay);(try simp only [ByteArray.size_append,ByteArray.size_extract]at hz_);omega)|(have hz_:=Ea;(try have hy39_:=of_eq_true Br);(try have hy40_:=of_eq_true c40b0);(try have hy41_:=of_eq_true Ay);(try have hy42_:=of_eq_true c42b0);(try have hy43_:=of_eq_true Az);(try have hy44_:=of_eq_true Ba);(try have hy45_:=of_eq_true Bb);(try simp only [ByteArray.size_append,ByteArray.size_extract]at hz_);omega)|(have hz_:=Eb;(try have hy40_:=of_eq_true c40b0);(try have hy41_:=of_eq_true Ay);(try have hy42_:=of_eq_true c42b0);(try have hy43_:=of_eq_true Az);(try have hy44_:=of_eq_true Ba);(try have hy45_:=of_eq_true Bb);(try have hy46_:=of_eq_true Bs);(try simp only [ByteArray.size_append,ByteArray.size_extract]at hz_);omega)|(have hz_:=Ec;(try have hy43_:=of_eq_true Az);(try have hy44_:=of_eq_true Ba);(try have hy45_:=of_eq_true Bb);(try have hy46_:=of_eq_true Bs);(try have hy47_:=of_eq_true Ch);(try have hy48_:=of_eq_true c48b0);(try have hy49_:=of_eq_true Ci);(try simp only [ByteArray.size_append,ByteArray.size_extract]at hz_);omega)
        refine hK.out _ _ ⟨Ag,adz_v332,m11_,(by rw [ha.out];exact putSel_upk 10 hb_ rfl rfl rfl),Q_BK325,Q_BK327,Q_HB,Q_HO333,Q_HA_HO333,Q_X11_⟩
       refine steps_cons ?_ ?_
       ·rintro b a w' ⟨Ag,adz_v332,m11_,ha,Q_BK325,Q_BK327,Q_HB,Q_HO333,Q_HA_HO333,Q_X11_⟩ hb_ hon hoff
        refine⟨_,rfl,fun K hK=>?_⟩
        have Ki:a.tmps[49]?=some (.string ((Ao ++ (⟨#[32]⟩:ByteArray)) ++ (rdOf ByteArray.empty Am (Al)))):=by rw [ha];exact putSel_on (e:=(13,49,.string ((Ao ++ (⟨#[32]⟩:ByteArray)) ++ (rdOf ByteArray.empty Am (Al))))) 10 rfl rfl (hon 13 (by kernel_rfl)) rfl
        replace ha:=y0.mk ha
        have Ab:=y0.mk Q_BK325
        have Ac:=y0.mk Q_BK327
        have HB:=y0.mk Q_HB
        have Bl:=y0.mk (Q_HO333 (hon 7 (by kernel_rfl)))
        have HA_HO333:=y0.mk (Q_HA_HO333 (hon 7 (by kernel_rfl)))
        refine value_ (w1:=w') (v:=.string (((Ao ++ (⟨#[32]⟩:ByteArray)) ++ (rdOf ByteArray.empty Am (Al))) ++ (⟨#[32]⟩:ByteArray))) (by rfl) rfl ?_ ?_
        ·go_simp
         (try simp only [i64_w])
         try first|rfl|(have hz_:=Dw;(try have hy7_:=of_eq_true c7b0);(try have hy8_:=of_eq_true c8b0);(try have hy9_:=of_eq_true c9b0);(try have hy10_:=of_eq_true c10b0);(try have hy11_:=of_eq_true At);(try have hy12_:=of_eq_true Au);(try have hy13_:=of_eq_true Aw);(try simp only [ByteArray.size_append,ByteArray.size_extract]at hz_);omega)|(have hz_:=Dx;(try have hy9_:=of_eq_true c9b0);(try have hy10_:=of_eq_true c10b0);(try have hy11_:=of_eq_true At);(try have hy12_:=of_eq_true Au);(try have hy13_:=of_eq_true Aw);(try have hy14_:=of_eq_true c14b0);(try have hy15_:=of_eq_true Bp);(try simp only [ByteArray.size_append,ByteArray.size_extract]at hz_);omega)|(have hz_:=Dy;(try have hy10_:=of_eq_true c10b0);(try have hy11_:=of_eq_true At);(try have hy12_:=of_eq_true Au);(try have hy13_:=of_eq_true Aw);(try have hy14_:=of_eq_true c14b0);(try have hy15_:=of_eq_true Bp);(try have hy16_:=of_eq_true Ce);(try simp only [ByteArray.size_append,ByteArray.size_extract]at hz_);omega)|(have hz_:=Dz;(try have hy35_:=of_eq_true c35b0);(try have hy36_:=of_eq_true Bq);(try have hy37_:=of_eq_true Bw);(try have hy38_:=of_eq_true c38b0);(try have hy39_:=of_eq_true Br);(try have hy40_:=of_eq_true c40b0);(try have hy41_:=of_eq_true Ay);(try simp only [ByteArray.size_append,ByteArray.size_extract]at hz_);omega)|(have hz_:=Ea;(try have hy39_:=of_eq_true Br);(try have hy40_:=of_eq_true c40b0);(try have hy41_:=of_eq_true Ay);(try have hy42_:=of_eq_true c42b0);(try have hy43_:=of_eq_true Az);(try have hy44_:=of_eq_true Ba);(try have hy45_:=of_eq_true Bb);(try simp only [ByteArray.size_append,ByteArray.size_extract]at hz_);omega)|(have hz_:=Eb;(try have hy40_:=of_eq_true c40b0);(try have hy41_:=of_eq_true Ay);(try have hy42_:=of_eq_true c42b0);(try have hy43_:=of_eq_true Az);(try have hy44_:=of_eq_true Ba);(try have hy45_:=of_eq_true Bb);(try have hy46_:=of_eq_true Bs);(try simp only [ByteArray.size_append,ByteArray.size_extract]at hz_);omega)|(have hz_:=Ec;(try have hy43_:=of_eq_true Az);(try have hy44_:=of_eq_true Ba);(try have hy45_:=of_eq_true Bb);(try have hy46_:=of_eq_true Bs);(try have hy47_:=of_eq_true Ch);(try have hy48_:=of_eq_true c48b0);(try have hy49_:=of_eq_true Ci);(try simp only [ByteArray.size_append,ByteArray.size_extract]at hz_);omega)
        refine hK.out _ _ ⟨Ag,adz_v332,m11_,(by rw [ha.out];exact putSel_upk 11 hb_ rfl rfl rfl),Q_BK325,Q_BK327,Q_HB,Q_HO333,Q_HA_HO333,Q_X11_⟩
       refine steps_cons ?_ ?_
       ·rintro b a w' ⟨Ag,adz_v332,m11_,ha,Q_BK325,Q_BK327,Q_HB,Q_HO333,Q_HA_HO333,Q_X11_⟩ hb_ hon hoff
        refine⟨_,rfl,fun K hK=>?_⟩
        have Kj:a.tmps[52]?=some (.pointer (some ⟨Ae,2,none⟩)):=by rw [ha];exact(putSel_off rfl).trans rfl
        replace ha:=y0.mk ha
        have Ab:=y0.mk Q_BK325
        have Ac:=y0.mk Q_BK327
        have HB:=y0.mk Q_HB
        have hc0_:w'.cell? ⟨Ae,0,none⟩=some (.int .i64 ((y17 Aa a1).f0)):=(y6 Ac.out 0).trans rfl
        have hc1_:w'.cell? ⟨Ae,1,none⟩=some (.string ((y17 Aa a1).f1)):=(y6 Ac.out 1).trans rfl
        have hc2_:w'.cell? ⟨Ae,2,none⟩=some (.slice (some Ak) ((y17 Aa a1).f2).length Af):=(y6 Ac.out 2).trans rfl
        refine value_ (w1:=w') (v:=.slice (some Ak) ((y17 Aa a1).f2).length Af) (by rfl) rfl ?_ ?_
        ·go_simp
         (try simp only [i64_w])
         try rfl
        refine hK.out _ _ ⟨Ag,adz_v332,m11_,(by rw [ha.out];exact putSel_upk 12 hb_ rfl rfl rfl),Q_BK325,Q_BK327,Q_HB,Q_HO333,Q_HA_HO333,Q_X11_⟩
       refine steps_cons ?_ ?_
       ·rintro b a w' ⟨Ag,adz_v332,m11_,ha,Q_BK325,Q_BK327,Q_HB,Q_HO333,Q_HA_HO333,Q_X11_⟩ hb_ hon hoff
        refine⟨_,rfl,fun K hK=>?_⟩
        have Kk:a.tmps[53]?=some (.slice (some Ak) ((y17 Aa a1).f2).length Af):=by rw [ha];exact putSel_on (e:=(17,53,.slice (some Ak) ((y17 Aa a1).f2).length Af)) 12 rfl rfl (hon 17 (by kernel_rfl)) rfl
        replace ha:=y0.mk ha
        have Ab:=y0.mk Q_BK325
        have Ac:=y0.mk Q_BK327
        have HB:=y0.mk Q_HB
        have hs1_:w'.cell? ⟨Ak.block,Ak.off + 1,none⟩=some (.int .i64 (rd ((y17 Aa a1).f2) 1)):=((HB.out.cell (World.block_lt_of_cell? w _ Bj)).trans Bj)
        refine value_ (w1:=w') (v:=.pointer (some (Ak.add 1))) (by rfl) rfl ?_ ?_
        ·go_simp
         (try simp only [i64_w])
         try rfl
        refine hK.out _ _ ⟨Ag,adz_v332,m11_,(by rw [ha.out];exact putSel_upk 13 hb_ rfl rfl rfl),Q_BK325,Q_BK327,Q_HB,Q_HO333,Q_HA_HO333,Q_X11_⟩
       refine steps_cons ?_ ?_
       ·rintro b a w' ⟨Ag,adz_v332,m11_,ha,Q_BK325,Q_BK327,Q_HB,Q_HO333,Q_HA_HO333,Q_X11_⟩ hb_ hon hoff
        refine⟨_,rfl,fun K hK=>?_⟩
        have Kl:a.tmps[54]?=some (.pointer (some (Ak.add 1))):=by rw [ha];exact putSel_on (e:=(18,54,.pointer (some (Ak.add 1)))) 13 rfl rfl (hon 18 (by kernel_rfl)) rfl
        replace ha:=y0.mk ha
        have Ab:=y0.mk Q_BK325
        have Ac:=y0.mk Q_BK327
        have HB:=y0.mk Q_HB
        have hs1_:w'.cell? ⟨Ak.block,Ak.off + 1,none⟩=some (.int .i64 (rd ((y17 Aa a1).f2) 1)):=((HB.out.cell (World.block_lt_of_cell? w _ Bj)).trans Bj)
        refine value_ (w1:=w') (v:=.int .i64 (rd ((y17 Aa a1).f2) 1)) (by rfl) rfl ?_ ?_
        ·go_simp
         (try simp only [i64_w])
         try rfl
        refine hK.out _ _ ⟨Ag,adz_v332,m11_,(by rw [ha.out];exact putSel_upk 14 hb_ rfl rfl rfl),Q_BK325,Q_BK327,Q_HB,Q_HO333,Q_HA_HO333,Q_X11_⟩
       refine steps_cons ?_ ?_
       ·rintro b a w' ⟨Ag,adz_v332,m11_,ha,Q_BK325,Q_BK327,Q_HB,Q_HO333,Q_HA_HO333,Q_X11_⟩ hb_ hon hoff
        refine⟨_,rfl,fun K hK=>?_⟩
        have Iy:a.tmps[51]?=some (.func (.func 93) #[] #[.pointer (some ⟨Aq,0,none⟩)]):=by rw [ha];exact(putSel_off rfl).trans rfl
        have Iz:a.tmps[55]?=some (.int .i64 (rd ((y17 Aa a1).f2) 1)):=by rw [ha];exact putSel_on (e:=(19,55,.int .i64 (rd ((y17 Aa a1).f2) 1))) 14 rfl rfl (hon 19 (by kernel_rfl)) rfl
        replace ha:=y0.mk ha
        have Ab:=y0.mk Q_BK325
        have Ac:=y0.mk Q_BK327
        have HB:=y0.mk Q_HB
        refine goesC_ Try.func93 (by kernel_rfl) rfl #[.int .i64 (rd ((y17 Aa a1).f2) 1),.pointer (some ⟨Aq,0,none⟩)] #[.pointer (some ⟨Aq,0,none⟩)] (by rfl) rfl rfl (by first|(simp only [qM_,List.map_cons,List.map_nil,Act.eval,Array.getD_eq_getD_getElem?,Option.getD_some,Iy,Iz];done)|(simp only [qM_,List.map_cons,List.map_nil,Act.eval,Array.getD_eq_getD_getElem?,Option.getD_some,Iy,Iz];rfl)) ?_
        with_reducible refine(ih_impl_Rule_expText_1 Do (by have:=Eu.out;omega) (rd ((y17 Aa a1).f2) 1) _ _ Aa Bc Bd _ _ Be _ _ Bf Aq Bk _ (qc (Kd.C_below Bv.out HB.out)) Cl.out (qc (Kd.C_below Cm.out HB.out)) Cn.out (qc (Kd.C_below Co.out HB.out)) Cp.out (by(with_reducible repeat(first|refine y8 ?_ _|refine y7 ?_|refine y4 ?_ _));exact Ab.out) Jj.out).mono ?_
        rintro e Jn ⟨rfl,hb⟩
        refine⟨_,rfl, ?_⟩
        have n0_:=y0.mk (qK Ab.out hb)
        have n1_:=y0.mk (qK Ac.out hb)
        have n2_:=y0.mk (y3 qb hb)
        have z_HO333:=fun(h0_:b 7=true)=>(show Kd.R Kd.string 9 Jn w.heap.size (fun _=>True) Ag Am from by first|exact(Kd.R_below (qR ((Q_HO333 h0_))) hb)|exact Kd.R_mono (Kd.R_below (qR ((Q_HO333 h0_))) hb) (fun _ h_=>by first|trivial|exact h_|exact h_.1))
        clear Ab
        clear Ac
        clear HB
        have Ab:=n0_
        have Ac:=n1_
        have HB:=n2_
        clear n0_ n1_ n2_
        (try clear hb)
        refine hK.out _ _ ⟨Ag,adz_v332,m11_,(by rw [ha.out];exact putSel_upk 15 hb_ rfl rfl rfl),(qk Ab.out),(qk Ac.out),qb,z_HO333,Q_HA_HO333,Q_X11_⟩
       refine steps_cons ?_ ?_
       ·rintro b a w' ⟨Ag,adz_v332,m11_,ha,Q_BK325,Q_BK327,Q_HB,Q_HO333,Q_HA_HO333,Q_X11_⟩ hb_ hon hoff
        refine⟨_,rfl,fun K hK=>?_⟩
        have Km:a.tmps[50]?=some (.string (((Ao ++ (⟨#[32]⟩:ByteArray)) ++ (rdOf ByteArray.empty Am (Al))) ++ (⟨#[32]⟩:ByteArray))):=by rw [ha];exact putSel_on (e:=(14,50,.string (((Ao ++ (⟨#[32]⟩:ByteArray)) ++ (rdOf ByteArray.empty Am (Al))) ++ (⟨#[32]⟩:ByteArray)))) 11 rfl rfl (hon 14 (by kernel_rfl)) rfl
        have Kn:a.tmps[56]?=some (.string Bk):=by rw [ha];exact putSel_on (e:=(20,56,.string Bk)) 15 rfl rfl (hon 20 (by kernel_rfl)) rfl
        replace ha:=y0.mk ha
        have Ab:=y0.mk Q_BK325
        have Ac:=y0.mk Q_BK327
        have HB:=y0.mk Q_HB
        have Bl:=y0.mk (Q_HO333 (hon 7 (by kernel_rfl)))
        have HA_HO333:=y0.mk (Q_HA_HO333 (hon 7 (by kernel_rfl)))
        refine value_ (w1:=w') (v:=.string ((((Ao ++ (⟨#[32]⟩:ByteArray)) ++ (rdOf ByteArray.empty Am (Al))) ++ (⟨#[32]⟩:ByteArray)) ++ Bk)) (by rfl) rfl ?_ ?_
        ·go_simp
         (try simp only [i64_w])
         try first|rfl|(have hz_:=Dw;(try have hy7_:=of_eq_true c7b0);(try have hy8_:=of_eq_true c8b0);(try have hy9_:=of_eq_true c9b0);(try have hy10_:=of_eq_true c10b0);(try have hy11_:=of_eq_true At);(try have hy12_:=of_eq_true Au);(try have hy13_:=of_eq_true Aw);(try simp only [ByteArray.size_append,ByteArray.size_extract]at hz_);omega)|(have hz_:=Dx;(try have hy9_:=of_eq_true c9b0);(try have hy10_:=of_eq_true c10b0);(try have hy11_:=of_eq_true At);(try have hy12_:=of_eq_true Au);(try have hy13_:=of_eq_true Aw);(try have hy14_:=of_eq_true c14b0);(try have hy15_:=of_eq_true Bp);(try simp only [ByteArray.size_append,ByteArray.size_extract]at hz_);omega)|(have hz_:=Dy;(try have hy10_:=of_eq_true c10b0);(try have hy11_:=of_eq_true At);(try have hy12_:=of_eq_true Au);(try have hy13_:=of_eq_true Aw);(try have hy14_:=of_eq_true c14b0);(try have hy15_:=of_eq_true Bp);(try have hy16_:=of_eq_true Ce);(try simp only [ByteArray.size_append,ByteArray.size_extract]at hz_);omega)|(have hz_:=Dz;(try have hy35_:=of_eq_true c35b0);(try have hy36_:=of_eq_true Bq);(try have hy37_:=of_eq_true Bw);(try have hy38_:=of_eq_true c38b0);(try have hy39_:=of_eq_true Br);(try have hy40_:=of_eq_true c40b0);(try have hy41_:=of_eq_true Ay);(try simp only [ByteArray.size_append,ByteArray.size_extract]at hz_);omega)|(have hz_:=Ea;(try have hy39_:=of_eq_true Br);(try have hy40_:=of_eq_true c40b0);(try have hy41_:=of_eq_true Ay);(try have hy42_:=of_eq_true c42b0);(try have hy43_:=of_eq_true Az);(try have hy44_:=of_eq_true Ba);(try have hy45_:=of_eq_true Bb);(try simp only [ByteArray.size_append,ByteArray.size_extract]at hz_);omega)|(have hz_:=Eb;(try have hy40_:=of_eq_true c40b0);(try have hy41_:=of_eq_true Ay);(try have hy42_:=of_eq_true c42b0);(try have hy43_:=of_eq_true Az);(try have hy44_:=of_eq_true Ba);(try have hy45_:=of_eq_true Bb);(try have hy46_:=of_eq_true Bs);(try simp only [ByteArray.size_append,ByteArray.size_extract]at hz_);omega)|(have hz_:=Ec;(try have hy43_:=of_eq_true Az);(try have hy44_:=of_eq_true Ba);(try have hy45_:=of_eq_true Bb);(try have hy46_:=of_eq_true Bs);(try have hy47_:=of_eq_true Ch);(try have hy48_:=of_eq_true c48b0);(try have hy49_:=of_eq_true Ci);(try simp only [ByteArray.size_append,ByteArray.size_extract]at hz_);omega)
        refine hK.out _ _ ⟨Ag,adz_v332,m11_,(by rw [ha.out];exact putSel_upk 16 hb_ rfl rfl rfl),Q_BK325,Q_BK327,Q_HB,Q_HO333,Q_HA_HO333,Q_X11_⟩
       refine steps_cons ?_ ?_
       ·rintro b a w' ⟨Ag,adz_v332,m11_,ha,Q_BK325,Q_BK327,Q_HB,Q_HO333,Q_HA_HO333,Q_X11_⟩ hb_ hon hoff
        refine⟨_,rfl,fun K hK=>?_⟩
        have Ko:a.tmps[57]?=some (.string ((((Ao ++ (⟨#[32]⟩:ByteArray)) ++ (rdOf ByteArray.empty Am (Al))) ++ (⟨#[32]⟩:ByteArray)) ++ Bk)):=by rw [ha];exact putSel_on (e:=(21,57,.string ((((Ao ++ (⟨#[32]⟩:ByteArray)) ++ (rdOf ByteArray.empty Am (Al))) ++ (⟨#[32]⟩:ByteArray)) ++ Bk))) 16 rfl rfl (hon 21 (by kernel_rfl)) rfl
        replace ha:=y0.mk ha
        have Ab:=y0.mk Q_BK325
        have Ac:=y0.mk Q_BK327
        have HB:=y0.mk Q_HB
        have Bl:=y0.mk (Q_HO333 (hon 7 (by kernel_rfl)))
        have HA_HO333:=y0.mk (Q_HA_HO333 (hon 7 (by kernel_rfl)))
        refine value_ (w1:=w') (v:=.string ((((Ao ++ (⟨#[32]⟩:ByteArray)) ++ (rdOf ByteArray.empty Am (Al))) ++ (⟨#[32]⟩:ByteArray)) ++ Bk)) (by rfl) rfl ?_ ?_
        ·go_simp
         (try simp only [i64_w])
         try first|rfl|(have hz_:=Dw;(try have hy7_:=of_eq_true c7b0);(try have hy8_:=of_eq_true c8b0);(try have hy9_:=of_eq_true c9b0);(try have hy10_:=of_eq_true c10b0);(try have hy11_:=of_eq_true At);(try have hy12_:=of_eq_true Au);(try have hy13_:=of_eq_true Aw);(try simp only [ByteArray.size_append,ByteArray.size_extract]at hz_);omega)|(have hz_:=Dx;(try have hy9_:=of_eq_true c9b0);(try have hy10_:=of_eq_true c10b0);(try have hy11_:=of_eq_true At);(try have hy12_:=of_eq_true Au);(try have hy13_:=of_eq_true Aw);(try have hy14_:=of_eq_true c14b0);(try have hy15_:=of_eq_true Bp);(try simp only [ByteArray.size_append,ByteArray.size_extract]at hz_);omega)|(have hz_:=Dy;(try have hy10_:=of_eq_true c10b0);(try have hy11_:=of_eq_true At);(try have hy12_:=of_eq_true Au);(try have hy13_:=of_eq_true Aw);(try have hy14_:=of_eq_true c14b0);(try have hy15_:=of_eq_true Bp);(try have hy16_:=of_eq_true Ce);(try simp only [ByteArray.size_append,ByteArray.size_extract]at hz_);omega)|(have hz_:=Dz;(try have hy35_:=of_eq_true c35b0);(try have hy36_:=of_eq_true Bq);(try have hy37_:=of_eq_true Bw);(try have hy38_:=of_eq_true c38b0);(try have hy39_:=of_eq_true Br);(try have hy40_:=of_eq_true c40b0);(try have hy41_:=of_eq_true Ay);(try simp only [ByteArray.size_append,ByteArray.size_extract]at hz_);omega)|(have hz_:=Ea;(try have hy39_:=of_eq_true Br);(try have hy40_:=of_eq_true c40b0);(try have hy41_:=of_eq_true Ay);(try have hy42_:=of_eq_true c42b0);(try have hy43_:=of_eq_true Az);(try have hy44_:=of_eq_true Ba);(try have hy45_:=of_eq_true Bb);(try simp only [ByteArray.size_append,ByteArray.size_extract]at hz_);omega)|(have hz_:=Eb;(try have hy40_:=of_eq_true c40b0);(try have hy41_:=of_eq_true Ay);(try have hy42_:=of_eq_true c42b0);(try have hy43_:=of_eq_true Az);(try have hy44_:=of_eq_true Ba);(try have hy45_:=of_eq_true Bb);(try have hy46_:=of_eq_true Bs);(try simp only [ByteArray.size_append,ByteArray.size_extract]at hz_);omega)|(have hz_:=Ec;(try have hy43_:=of_eq_true Az);(try have hy44_:=of_eq_true Ba);(try have hy45_:=of_eq_true Bb);(try have hy46_:=of_eq_true Bs);(try have hy47_:=of_eq_true Ch);(try have hy48_:=of_eq_true c48b0);(try have hy49_:=of_eq_true Ci);(try simp only [ByteArray.size_append,ByteArray.size_extract]at hz_);omega)
        refine hK.out _ _ ⟨Ag,adz_v332,m11_,(by rw [ha.out];exact putSel_upk 17 hb_ rfl rfl rfl),Q_BK325,Q_BK327,Q_HB,Q_HO333,Q_HA_HO333,Q_X11_⟩
       exact steps_nil
      rintro b a Kp hall ⟨Ag,adz_v332,m11_,ha,Q_BK325,Q_BK327,Q_HB,Q_HO333,Q_HA_HO333,Q_X11_⟩
      clear Ab Ac HB
      have hb2_:=hall 2 (by kernel_rfl)
      have hb3_:=hall 3 (by kernel_rfl)
      have hb4_:=hall 4 (by kernel_rfl)
      have hb5_:=hall 5 (by kernel_rfl)
      have hb6_:=hall 6 (by kernel_rfl)
      have hb7_:=hall 7 (by kernel_rfl)
      have hb9_:=hall 9 (by kernel_rfl)
      have hb10_:=hall 10 (by kernel_rfl)
      have hb11_:=hall 11 (by kernel_rfl)
      have hb12_:=hall 12 (by kernel_rfl)
      have hb13_:=hall 13 (by kernel_rfl)
      have hb14_:=hall 14 (by kernel_rfl)
      have hb17_:=hall 17 (by kernel_rfl)
      have hb18_:=hall 18 (by kernel_rfl)
      have hb19_:=hall 19 (by kernel_rfl)
      have hb20_:=hall 20 (by kernel_rfl)
      have hb21_:=hall 21 (by kernel_rfl)
      have hb22_:=hall 22 (by kernel_rfl)
      subst ha
      obtain rfl:=Q_X11_ hb11_
      simp only [putSel,hb2_,hb3_,hb4_,hb5_,hb6_,hb7_,hb9_,hb10_,hb11_,hb12_,hb13_,hb14_,hb17_,hb18_,hb19_,hb20_,hb21_,hb22_,if_true,Act.put,qS_,qZ_,qC_]
      have Ab:=y0.mk Q_BK325
      clear Q_BK325
      have Ac:=y0.mk Q_BK327
      clear Q_BK327
      have HB:=y0.mk Q_HB
      clear Q_HB
      have Bl:=y0.mk (Q_HO333 hb7_)
      clear Q_HO333
      have HA_HO333:=y0.mk (Q_HA_HO333 hb7_)
      clear Q_HA_HO333
      clear hall hb2_ hb3_ hb4_ hb5_ hb6_ hb7_ hb9_ hb10_ hb11_ hb12_ hb13_ hb14_ hb17_ hb18_ hb19_ hb20_ hb21_ hb22_
      obtain⟨Jo,Hp⟩:=HA_HO333.out
      clear HA_HO333
      subst Hp
      try go_wp2
      go_ret
      exact⟨by first|rfl|(simp [y10,y11] <;> rfl)|(simp only [← Cg];first|rfl|(simp [y10,y11] <;> rfl))|(simp [*,y10,y11] <;> rfl),qb⟩
     ·replace Gr:=Bool.eq_false_iff.mpr Gr
      subst Gr
      replace H:=qF H
      obtain rfl:=Option.some.inj H
      have Ja:=Ap.out
      have Jb:=Ad.out
      obtain⟨Gs,Gt,Gu,Gv,Gw,Gx⟩:=qz3 Ac.out
      go_wp2
      go_ret
      exact⟨qf,qb⟩
theorem z1_.all.Stm:∀ k,z1_.Stm k∧impl_Rule_expText_1.Stm k∧z0_.Stm k:=by
 intro k
 induction k using Nat.strongRecOn with
 | _ k ih =>
 exact⟨z1_.step k (fun m h=>(ih m h).1) (fun m h=>(ih m h).2.1) (fun m h=>(ih m h).2.2),impl_Rule_expText_1.step k (fun m h=>(ih m h).1) (fun m h=>(ih m h).2.1) (fun m h=>(ih m h).2.2),z0_.step k (fun m h=>(ih m h).1) (fun m h=>(ih m h).2.1) (fun m h=>(ih m h).2.2)⟩
theorem z1_.calls (k:Nat):∀(A0_0:Option Addr) (c0_0:Nat) (l0_0:List (S63)) (a0_1:Int) (a0_2:ByteArray) (A0_3:Option Addr) (c0_3:Nat) (l0_3:List Int) (A0_4:Option Addr) (c0_4:Nat) (l0_4:List (S33)) (A1:Option Addr) (c1:Nat) (l1:List Int) (r:ByteArray) (w:World) (hr0_0:Kd.C k63 w A0_0 l0_0.length l0_0) (hc0_0:l0_0.length≤c0_0) (hr0_3:Kd.C (Kd.int .i64) w A0_3 l0_3.length l0_3) (hc0_3:l0_3.length≤c0_3) (hr0_4:Kd.C k33 w A0_4 l0_4.length l0_4) (hc0_4:l0_4.length≤c0_4) (hr1:Kd.C (Kd.int .i64) w A1 l1.length l1) (hc1:l1.length≤c1) (h:z1_.f k l0_0 a0_1 a0_2 l0_3 l0_4 l1=some r),
  Calls Try.prog 84 #[.agg #[.slice A0_0 l0_0.length c0_0,.int .i64 a0_1,.string a0_2,.slice A0_3 l0_3.length c0_3,.slice A0_4 l0_4.length c0_4],.slice A1 l1.length c1] w fun e w'=>e=.returned (.string r)∧Below w.heap.size w w':=(z1_.all.Stm k).1
theorem z0_.calls (k:Nat):∀(A0_0:Option Addr) (c0_0:Nat) (l0_0:List (S63)) (a0_1:Int) (a0_2:ByteArray) (A0_3:Option Addr) (c0_3:Nat) (l0_3:List Int) (A0_4:Option Addr) (c0_4:Nat) (l0_4:List (S33)) (a1:Int) (r:ByteArray) (w:World) (hr0_0:Kd.C k63 w A0_0 l0_0.length l0_0) (hc0_0:l0_0.length≤c0_0) (hr0_3:Kd.C (Kd.int .i64) w A0_3 l0_3.length l0_3) (hc0_3:l0_3.length≤c0_3) (hr0_4:Kd.C k33 w A0_4 l0_4.length l0_4) (hc0_4:l0_4.length≤c0_4) (h:z0_.f k l0_0 a0_1 a0_2 l0_3 l0_4 a1=some r),
  Calls Try.prog 83 #[.agg #[.slice A0_0 l0_0.length c0_0,.int .i64 a0_1,.string a0_2,.slice A0_3 l0_3.length c0_3,.slice A0_4 l0_4.length c0_4],.int .i64 a1] w fun e w'=>e=.returned (.string r)∧Below w.heap.size w w':=(z1_.all.Stm k).2.2
end Go.Proofs.Ytkdabljlfbmpdaa.Pg

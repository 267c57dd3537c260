-- Cut by prune.py.
import Derived.Test.YtkdabljlfbmpdaaVgrPwx17
set_option maxHeartbeats 8000000
set_option maxRecDepth 100000
namespace Go.Proofs.Ytkdabljlfbmpdaa.Pw
open RowKit YtkdabljlfbmpdaaW.PrintWords YtkdabljlfbmpdaaW.PrintLast YtkdabljlfbmpdaaW.PrintMore
set_option linter.unusedVariables false
set_option linter.unusedSimpArgs false
mutual
def z1_.l0:Nat→List ByteArray→List Int→Int→Int→List (S63)→Int→ByteArray→List Int→List (S33)→Option (ByteArray)
 | 0,_,_,_,_,_,_,_,_,_=>none
 | k + 1,x5,x9,Al,Ae,An,Ao,Aq,By,Di=>if Ae < Al then(if 0≤Ae then(if Ae < (x9.length:Int)then((z0_.f k An Ao Aq By Di (rd x9 Ae)).bind fun Du=>(if x5.length < 8796093022208 then(z1_.l0 k (x5 ++ [Du]) x9 Al (wrap64 (Ae + 1)) An Ao Aq By Di)else(none)))else(none))else(none))else((strings_Join.f x5 (⟨#[44,32]⟩:ByteArray)).bind fun Ea=>(some Ea))
def z1_.f:Nat→List (S63)→Int→ByteArray→List Int→List (S33)→List Int→Option (ByteArray)
 | 0,_,_,_,_,_,_=>none
 | k + 1,Ae,Al,An,Ao,Aq,l1=>z1_.l0 k (([]:List ByteArray)) l1 (l1.length:Int) 0 Ae Al An Ao Aq
def impl_Rule_expText_1.f:Nat→Int→List (S63)→Int→ByteArray→List Int→List (S33)→Option (ByteArray)
 | 0,_,_,_,_,_,_=>none
 | k + 1,a0,Ae,An,Ao,Aq,By=>if 0≤a0 then(if a0 < (Ae.length:Int)then((impl_isSum.f ((y19 Ae a0).f0)).bind fun Di=>(if Di=true then((z0_.f k Ae An Ao Aq By a0).bind fun Al=>(if 1 + Al.size≤9223372036854775807 then(if((⟨#[40]⟩:ByteArray) ++ Al).size + 1≤9223372036854775807 then(some (((⟨#[40]⟩:ByteArray) ++ Al) ++ (⟨#[41]⟩:ByteArray)))else(none))else(none)))else((z0_.f k Ae An Ao Aq By a0).bind fun Du=>(some Du))))else(none))else(none)
def z0_.j0:Nat→Bool→List (S63)→Int→ByteArray→List Int→List (S33)→Int→ByteArray→List Int→Option (ByteArray)
 | 0,_,_,_,_,_,_,_,_,_=>none
 | k + 1,Fd,Ao,Aq,By,Di,Du,Ae,Ff,An=>if Fd=true then(if 0 < (An.length:Int)then((impl_Rule_expText_1.f k (rd An 0) Ao Aq By Di Du).bind fun Al=>(if Al.size + 1≤9223372036854775807 then((some (([(⟨#[43]⟩:ByteArray),(⟨#[45]⟩:ByteArray),(⟨#[42]⟩:ByteArray)]:List ByteArray):List ByteArray)).bind fun y489=>(if 0≤(wrap64 (Ae - 5))then(if(wrap64 (Ae - 5)) < (y489.length:Int)then(if(Al ++ (⟨#[32]⟩:ByteArray)).size + (rdOf ByteArray.empty y489 (wrap64 (Ae - 5))).size≤9223372036854775807 then(if((Al ++ (⟨#[32]⟩:ByteArray)) ++ (rdOf ByteArray.empty y489 (wrap64 (Ae - 5)))).size + 1≤9223372036854775807 then(if 1 < (An.length:Int)then((impl_Rule_expText_1.f k (rd An 1) Ao Aq By Di Du).bind fun Ea=>(if(((Al ++ (⟨#[32]⟩:ByteArray)) ++ (rdOf ByteArray.empty y489 (wrap64 (Ae - 5)))) ++ (⟨#[32]⟩:ByteArray)).size + Ea.size≤9223372036854775807 then(some ((((Al ++ (⟨#[32]⟩:ByteArray)) ++ (rdOf ByteArray.empty y489 (wrap64 (Ae - 5)))) ++ (⟨#[32]⟩:ByteArray)) ++ Ea))else(none)))else(none))else(none))else(none))else(none))else(none)))else(none)))else(none))else(some Ff)
def z0_.f:Nat→List (S63)→Int→ByteArray→List Int→List (S33)→Int→Option (ByteArray)
 | 0,_,_,_,_,_,_=>none
 | k + 1,Ae,Al,An,Ao,Aq,a1=>if 0≤a1 then(if a1 < (Ae.length:Int)then(if((y19 Ae a1).f0)=2 then(some (⟨#[95]⟩:ByteArray))else(if((y19 Ae a1).f0)=4 then(if(((y19 Ae a1).f2).length:Int) > 0 then(if((y19 Ae a1).f1).size + 1≤9223372036854775807 then((z1_.f k Ae Al An Ao Aq ((y19 Ae a1).f2)).bind fun By=>(if(((y19 Ae a1).f1) ++ (⟨#[40]⟩:ByteArray)).size + By.size≤9223372036854775807 then(if((((y19 Ae a1).f1) ++ (⟨#[40]⟩:ByteArray)) ++ By).size + 1≤9223372036854775807 then(some (((((y19 Ae a1).f1) ++ (⟨#[40]⟩:ByteArray)) ++ By) ++ (⟨#[41]⟩:ByteArray)))else(none))else(none)))else(none))else(some ((y19 Ae a1).f1)))else(if((y19 Ae a1).f0)=5 then(z0_.j0 k (((y19 Ae a1).f0) == 5) Ae Al An Ao Aq ((y19 Ae a1).f0) ((y19 Ae a1).f1) ((y19 Ae a1).f2))else(if((y19 Ae a1).f0)=6 then(z0_.j0 k (((y19 Ae a1).f0) == 6) Ae Al An Ao Aq ((y19 Ae a1).f0) ((y19 Ae a1).f1) ((y19 Ae a1).f2))else(z0_.j0 k (((y19 Ae a1).f0) == 7) Ae Al An Ao Aq ((y19 Ae a1).f0) ((y19 Ae a1).f1) ((y19 Ae a1).f2))))))else(none))else(none)
end
abbrev z1_.Stm (k:Nat):Prop:=∀(A0_0:Option Addr) (c0_0:Nat) (l0_0:List (S63)) (a0_1:Int) (a0_2:ByteArray) (A0_3:Option Addr) (c0_3:Nat) (l0_3:List Int) (A0_4:Option Addr) (c0_4:Nat) (l0_4:List (S33)) (A1:Option Addr) (c1:Nat) (l1:List Int) (r:ByteArray) (w:World) (hr0_0:Kd.C k63 w A0_0 l0_0.length l0_0) (hc0_0:l0_0.length≤c0_0) (hr0_3:Kd.C (Kd.int .i64) w A0_3 l0_3.length l0_3) (hc0_3:l0_3.length≤c0_3) (hr0_4:Kd.C k33 w A0_4 l0_4.length l0_4) (hc0_4:l0_4.length≤c0_4) (hr1:Kd.C (Kd.int .i64) w A1 l1.length l1) (hc1:l1.length≤c1) (h:z1_.f k l0_0 a0_1 a0_2 l0_3 l0_4 l1=some r),
  Calls Try.prog 84 #[.agg #[.slice A0_0 l0_0.length c0_0,.int .i64 a0_1,.string a0_2,.slice A0_3 l0_3.length c0_3,.slice A0_4 l0_4.length c0_4],.slice A1 l1.length c1] w fun e w'=>e=.returned (.string r)∧Below w.heap.size w w'
abbrev impl_Rule_expText_1.Stm (k:Nat):Prop:=∀(a0:Int) (A1_0:Option Addr) (c1_0:Nat) (l1_0:List (S63)) (a1_1:Int) (a1_2:ByteArray) (A1_3:Option Addr) (c1_3:Nat) (l1_3:List Int) (A1_4:Option Addr) (c1_4:Nat) (l1_4:List (S33)) (g1:Nat) (r:ByteArray) (w:World) (hr1_0:Kd.C k63 w A1_0 l1_0.length l1_0) (hc1_0:l1_0.length≤c1_0) (hr1_3:Kd.C (Kd.int .i64) w A1_3 l1_3.length l1_3) (hc1_3:l1_3.length≤c1_3) (hr1_4:Kd.C k33 w A1_4 l1_4.length l1_4) (hc1_4:l1_4.length≤c1_4) (hbx1:w.heap[g1]?=some (.cells #[.slice A1_0 l1_0.length c1_0,.int .i64 a1_1,.string a1_2,.slice A1_3 l1_3.length c1_3,.slice A1_4 l1_4.length c1_4] 36 (0,0))) (h:impl_Rule_expText_1.f k a0 l1_0 a1_1 a1_2 l1_3 l1_4=some r),
  Calls Try.prog 93 #[.int .i64 a0,.pointer (some ⟨g1,0,none⟩)] w fun e w'=>e=.returned (.string r)∧Below w.heap.size w w'
abbrev z0_.Stm (k:Nat):Prop:=∀(A0_0:Option Addr) (c0_0:Nat) (l0_0:List (S63)) (a0_1:Int) (a0_2:ByteArray) (A0_3:Option Addr) (c0_3:Nat) (l0_3:List Int) (A0_4:Option Addr) (c0_4:Nat) (l0_4:List (S33)) (a1:Int) (r:ByteArray) (w:World) (hr0_0:Kd.C k63 w A0_0 l0_0.length l0_0) (hc0_0:l0_0.length≤c0_0) (hr0_3:Kd.C (Kd.int .i64) w A0_3 l0_3.length l0_3) (hc0_3:l0_3.length≤c0_3) (hr0_4:Kd.C k33 w A0_4 l0_4.length l0_4) (hc0_4:l0_4.length≤c0_4) (h:z0_.f k l0_0 a0_1 a0_2 l0_3 l0_4 a1=some r),
  Calls Try.prog 83 #[.agg #[.slice A0_0 l0_0.length c0_0,.int .i64 a0_1,.string a0_2,.slice A0_3 l0_3.length c0_3,.slice A0_4 l0_4.length c0_4],.int .i64 a1] w fun e w'=>e=.returned (.string r)∧Below w.heap.size w w'
theorem z1_.step (k:Nat) (ih:∀ m,m < k→z1_.Stm m) (ih_impl_Rule_expText_1:∀ m,m < k→impl_Rule_expText_1.Stm m) (ih_impl_Rule_expText:∀ m,m < k→z0_.Stm m):z1_.Stm k:=by
 intro Az Ba Af Ag Ah Bb Bc Ai Bd Be Aj A1 c1 l1 r w As At Au Av Aw Ax Cn Cp h
 cases k with
 | zero=>exact absurd h (by simp [z1_.f])
 | succ k =>
 simp only [z1_.f]at h
 have Cu:=Try.underlying36
 have Bh:=y0.mk As
 have Bi:=y0.mk At
 clear As At
 have Bj:=y0.mk Au
 have Bk:=y0.mk Av
 clear Au Av
 have Bl:=y0.mk Aw
 have Bm:=y0.mk Ax
 clear Aw Ax
 have Cv:=y0.mk Cn
 have Dc:=y0.mk Cp
 clear Cn Cp
 have HB:=y0.mk (Below.refl w.heap.size w)
 have H:(z1_.l0 k (([]:List ByteArray)) l1 (l1.length:Int) 0 Af Ag Ah Ai Aj)=some r:=h
 clear h
 obtain⟨Bn,Ak⟩:∃ y_:List ByteArray,y_=(([]:List ByteArray)):=⟨_,rfl⟩
 replace H:(z1_.l0 k Bn l1 (l1.length:Int) 0 Af Ag Ah Ai Aj)=some r:=by first|exact Ak ▸ H|exact Ak ▸ (Option.bind_some _ _).symm.trans H
 replace Ak:=y0.mk Ak
 have H':=y0.mk H
 clear H
 go_enter Try.func84,Try.ntmps84
 go_wp2_with (first|((with_reducible refine y16 (N:=2) rfl ?_);refine qe 2 #[.slice Az Af.length Ba,.int .i64 Ag,.string Ah,.slice Bb Ai.length Bc,.slice Bd Aj.length Be] 36 ?_;intro Bo hg w3 hbox hb;have Aa:=y0.mk (hbox);have Cq:=y0.mk (qg (w:=w) hg);have Cr:=y0.mk (qg (w:=w) hg);replace HB:=y0.mk (y4 qb hb);clear hb hbox hg)|((with_reducible refine y16 (N:=8) rfl ?_);refine qL Kd.string 9 8 ([]:List ByteArray) ?_;intro Cw w4 Bp hb hg_ hnew_;clear hg_ hnew_;(first|rw [← Ak.out]at Bp|(simp only [Int.reduceToNat]at Bp;rw [← Ak.out]at Bp));have Bq:=y0.mk (Kd.R_lower Bp (y3 qb));replace Aa:=y0.mk (qK Aa.out hb);replace HB:=y0.mk (y4 qb hb);clear hb Bp))
 go_loopg [5,11] k (fun kq v5 Cx w'=>∃(Ap:List ByteArray) (Ab:Int),Cx=.int .i64 Ab∧y0 (z1_.l0 kq Ap l1 (l1.length:Int) Ab Af Ag Ah Ai Aj=some r)∧y0 (kq≤k)∧y0 (Kd.R Kd.string 9 w' w.heap.size (fun _=>True) v5 Ap)∧y0 (w'.heap[Bo]?=some (.cells #[(.slice Az Af.length Ba),.int .i64 Ag,.string Ah,(.slice Bb Ai.length Bc),(.slice Bd Aj.length Be)] 36 (0,0)))∧y0 (Below w.heap.size w w'))
 case atStart=>exact⟨(Bn),(0),qy2,H',⟨Nat.le_refl _⟩,⟨qR Bq.out⟩,⟨qk Aa.out⟩,⟨qb⟩⟩
 case round =>
  clear H'
  (try clear c1)
  obtain⟨Ap,Ab,rfl,HA,Cg,Ac,Aa,HB⟩:=hrel
  cases gk with
  | zero=>exact absurd HA.out (by simp [z1_.l0])
  | succ k1 =>
   have H:=HA.out
   clear HA
   simp only [z1_.l0]at H
   by_cases c6:Ab < (l1.length:Int)
   ·rw [if_pos c6]at H
    have Ch:=decide_eq_true c6
    clear c6
    obtain⟨c7,H⟩:=qo H
    have Cy:decide (0≤Ab)=true:=decide_eq_true c7
    clear c7
    obtain⟨c8,H⟩:=qo H
    have Cz:decide (Ab < (l1.length:Int))=true:=decide_eq_true c8
    clear c8
    obtain⟨Ar,A9,H⟩:=qB H
    obtain⟨Cs,H⟩:=qo H
    replace Cs:=y0.mk Cs
    obtain⟨Bs,Am⟩:∃ y_:List ByteArray,y_=(Ap ++ [Ar]):=⟨_,rfl⟩
    replace H:(z1_.l0 k1 Bs l1 (l1.length:Int) (wrap64 (Ab + 1)) Af Ag Ah Ai Aj)=some r:=by first|exact Am ▸ H|exact Am ▸ (Option.bind_some _ _).symm.trans H
    replace Am:=y0.mk Am
    have H':=y0.mk H
    clear H
    have Bf:0≤(Ab:Int):=qd
    have Bg:Ab < (l1.length:Int):=qd
    obtain⟨Ct,Ci,Ad⟩:=Kd.at_int Cv.out Ab Bf Bg
    cases Ci
    replace Ad:=qC Ad HB
    replace Bf:=eq_true Bf
    replace Bg:=eq_true Bg
    obtain⟨Bv,Bw,Bx,Bz,Ca,Cb,Cc,Cd,Ce,Cf⟩:=qz5 Aa.out
    go_wp2_with (first|((with_reducible refine y15 (f:=83) rfl ?_);refine y17 (some 18) rfl rfl Try.func83 (by kernel_rfl) rfl #[.agg #[.slice Az Af.length Ba,.int .i64 Ag,.string Ah,.slice Bb Ai.length Bc,.slice Bd Aj.length Be],.int .i64 (rd l1 Ab)] rfl qy1 ?_;(with_reducible refine(ih_impl_Rule_expText k1 (by have:=Cg.out;omega) _ _ Af Ag Ah _ _ Ai _ _ Aj (rd l1 Ab) Ar _ (qc (Kd.C_below Bh.out HB.out)) Bi.out (qc (Kd.C_below Bj.out HB.out)) Bk.out (qc (Kd.C_below Bl.out HB.out)) Bm.out A9.out).mono ?_);rintro e Dd ⟨rfl,hb⟩;refine⟨_,rfl, ?_⟩;replace Ac:=y0.mk (Kd.R_below (qR Ac.out) hb);replace Aa:=y0.mk (qK Aa.out hb);replace HB:=y0.mk (y4 qb hb);(try clear hb))|((with_reducible refine gate_builtin (b:=.append) (xs:=#[.tmp 15,.tmp 19]) rfl ?_);at_builtin;refine Kd.R_append Kd.string (w0:=w) w.heap.size rfl (.tmp 15) (.tmp 19) 30 9 (.string ⟨#[]⟩) 16 rfl Try.underlying30 info9 rfl (by decide) (by omega) u5 Ap Ar [.string Ar] (fun _=>True) (fun _=>False) rfl rfl ?aP (fun _ hk=>hk.elim) ?aF ?aO ?aB ?aS ?aL ?_;(case aP=>exact rfl);(case aB=>exact qb);(case aF=>exact(fun _ _=>trivial));(case aO=>exact(qR Ac.out));(case aS=>exact(y3 qb));(case aL=>have:=Cs.out;omega);intro Da De ho hb hg hat;rw [← Am.out]at ho;replace Aa:=y0.mk (blk_grown (qk Aa.out) hg (Kd.R_ne Ac.out Aa.out (by decide)));replace HB:=y0.mk (hb);have Bu:=y0.mk (ho);clear Ac;clear ho hb hg hat))
    go_roundg k1
    case measure=>have:=Cg.out;omega
    exact⟨(Bs),(wrap64 (Ab + 1)),qy2,H',⟨by have:=Cg.out;omega⟩,⟨qR Bu.out⟩,⟨qk Aa.out⟩,⟨qb⟩⟩
   ·rw [if_neg c6]at H
    have Ch:=decide_eq_false c6
    clear c6
    obtain⟨Cj,Db,H⟩:=qB H
    obtain rfl:=Option.some.inj H
    obtain⟨Ck,Cl,Cm⟩:=Kd.R_slice Ac.out
    subst Cm
    go_wp2_with (first|((with_reducible refine y15 (f:=69) rfl ?_);refine y17 (some 23) rfl rfl Try.func69 (by kernel_rfl) rfl #[.slice Ck Ap.length Cl,.string (⟨#[44,32]⟩:ByteArray)] rfl qy1 ?_;(with_reducible refine(strings_Join.calls _ _ Ap (⟨#[44,32]⟩:ByteArray) Cj _ (qc ((Kd.R_reads' Ac.out).2.2)) (by exact(Kd.R_reads' Ac.out).2.1) Db.out).mono ?_);rintro e Df ⟨rfl,hb⟩;refine⟨_,rfl, ?_⟩;replace Ac:=y0.mk (Kd.R_below (qR Ac.out) hb);replace Aa:=y0.mk (qK Aa.out hb);replace HB:=y0.mk (y4 qb hb);(try clear hb)))
    go_ret
    exact⟨qf,qb⟩
theorem impl_Rule_expText_1.step (k:Nat) (ih_impl_Rule_expTexts:∀ m,m < k→z1_.Stm m) (ih:∀ m,m < k→impl_Rule_expText_1.Stm m) (ih_impl_Rule_expText:∀ m,m < k→z0_.Stm m):impl_Rule_expText_1.Stm k:=by
 intro a0 Cq Bn Aa Ah Ai Bo Bp Aj Bq Br Ak g1 r w Aw Ax Ay Az Ba Bb Bs h
 cases k with
 | zero=>exact absurd h (by simp [impl_Rule_expText_1.f])
 | succ k =>
 simp only [impl_Rule_expText_1.f]at h
 have Cr:=Try.underlying36
 have Ag:=y0.mk Aw
 have Bc:=y0.mk Ax
 clear Aw Ax
 have Bd:=y0.mk Ay
 have Be:=y0.mk Az
 clear Ay Az
 have Bf:=y0.mk Ba
 have Bg:=y0.mk Bb
 clear Ba Bb
 replace Bs:=y0.mk Bs
 have HB:=y0.mk (Below.refl w.heap.size w)
 have H:(if 0≤a0 then(if a0 < (Aa.length:Int)then((impl_isSum.f ((y19 Aa a0).f0)).bind fun Bh=>(if Bh=true then((z0_.f k Aa Ah Ai Aj Ak a0).bind fun Am=>(if 1 + Am.size≤9223372036854775807 then(if((⟨#[40]⟩:ByteArray) ++ Am).size + 1≤9223372036854775807 then(some (((⟨#[40]⟩:ByteArray) ++ Am) ++ (⟨#[41]⟩:ByteArray)))else(none))else(none)))else((z0_.f k Aa Ah Ai Aj Ak a0).bind fun Bi=>(some Bi))))else(none))else(none))=some r:=h
 clear h
 obtain⟨c3,H⟩:=qo H
 have Cs:decide (0≤a0)=true:=decide_eq_true c3
 clear c3
 obtain⟨c4,H⟩:=qo H
 have Ct:decide (a0 < (Aa.length:Int))=true:=decide_eq_true c4
 clear c4
 obtain⟨Bh,A5,H⟩:=qB H
 by_cases c6:Bh=true
 ·subst c6
  replace H:=qT H
  obtain⟨Am,A7,H⟩:=qB H
  obtain⟨c8,H⟩:=qo H
  have Cu:=eq_true c8
  have Cv:=decide_eq_true c8
  have Cw:=eq_false (Nat.not_lt.2 c8)
  obtain⟨c9,H⟩:=qo H
  have Cx:=eq_true c9
  have Cy:=decide_eq_true c9
  have Cp:=eq_false (Nat.not_lt.2 c9)
  have Cz:(9223372036854775807 < 1 + Am.size + 1)=False:=qs Cp
  obtain rfl:=Option.some.inj H
  obtain⟨Bt,Bu,Bv,Bw,Bx,Bz,Ca,Cb,Cc,Cd⟩:=qz5 Bs.out
  have Ad:0≤(a0:Int):=qd
  have Af:a0 < (Aa.length:Int):=qd
  obtain⟨Ap,Bj,Bk,Bl,Ar,As,At,Ab,Ac⟩:=at_T63 Ag.out a0 Ad Af
  cases Bl
  have Au:=y0.mk Ac
  have Av:=y0.mk Ab
  clear Ac Ab
  replace Ad:=eq_true Ad
  replace Af:=eq_true Af
  go_enter Try.func93,Try.ntmps93
  go_wp2_with (first|((with_reducible refine y15 (f:=65) rfl ?_);refine y17 (some 10) rfl rfl Try.func65 (by kernel_rfl) rfl #[.int .i64 ((y19 Aa a0).f0)] rfl qy1 ?_;(with_reducible refine(impl_isSum.calls ((y19 Aa a0).f0) true _ A5.out).mono ?_);rintro e w' ⟨rfl,⟨nd,rfl⟩⟩;refine⟨_,rfl, ?_⟩)|((with_reducible refine y15 (f:=83) rfl ?_);refine y17 (some 13) rfl rfl Try.func83 (by kernel_rfl) rfl #[.agg #[.slice (some Ap) Aa.length Bn,.int .i64 Ah,.string Ai,.slice Bo Aj.length Bp,.slice Bq Ak.length Br],.int .i64 a0] rfl qy1 ?_;(with_reducible refine(ih_impl_Rule_expText k (by omega) _ _ Aa Ah Ai _ _ Aj _ _ Ak a0 Am _ (qc Ag.out) Bc.out (qc Bd.out) Be.out (qc Bf.out) Bg.out A7.out).mono ?_);rintro e Db ⟨rfl,hb⟩;refine⟨_,rfl, ?_⟩;replace Bs:=y0.mk (qK Bs.out hb);replace HB:=y0.mk (y4 qb hb);(try clear hb)))
  go_ret
  exact⟨qf,qb⟩
 ·replace c6:=Bool.eq_false_iff.mpr c6
  subst c6
  replace H:=qF H
  obtain⟨Bi,Da,H⟩:=qB H
  obtain rfl:=Option.some.inj H
  obtain⟨Ce,Cf,Cg,Ch,Ci,Cj,Ck,Cl,Cm,Cn⟩:=qz5 Bs.out
  have Ad:0≤(a0:Int):=qd
  have Af:a0 < (Aa.length:Int):=qd
  obtain⟨Ap,Bj,Bk,Bl,Ar,As,At,Ab,Ac⟩:=at_T63 Ag.out a0 Ad Af
  cases Bl
  have Au:=y0.mk Ac
  have Av:=y0.mk Ab
  clear Ac Ab
  replace Ad:=eq_true Ad
  replace Af:=eq_true Af
  go_enter Try.func93,Try.ntmps93
  go_wp2_with (first|((with_reducible refine y15 (f:=65) rfl ?_);refine y17 (some 10) rfl rfl Try.func65 (by kernel_rfl) rfl #[.int .i64 ((y19 Aa a0).f0)] rfl qy1 ?_;(with_reducible refine(impl_isSum.calls ((y19 Aa a0).f0) false _ A5.out).mono ?_);rintro e w' ⟨rfl,⟨nd,rfl⟩⟩;refine⟨_,rfl, ?_⟩)|((with_reducible refine y15 (f:=83) rfl ?_);refine y17 (some 18) rfl rfl Try.func83 (by kernel_rfl) rfl #[.agg #[.slice (some Ap) Aa.length Bn,.int .i64 Ah,.string Ai,.slice Bo Aj.length Bp,.slice Bq Ak.length Br],.int .i64 a0] rfl qy1 ?_;(with_reducible refine(ih_impl_Rule_expText k (by omega) _ _ Aa Ah Ai _ _ Aj _ _ Ak a0 Bi _ (qc Ag.out) Bc.out (qc Bd.out) Be.out (qc Bf.out) Bg.out Da.out).mono ?_);rintro e Dc ⟨rfl,hb⟩;refine⟨_,rfl, ?_⟩;replace Bs:=y0.mk (qK Bs.out hb);replace HB:=y0.mk (y4 qb hb);(try clear hb)))
  go_ret
  exact⟨qf,qb⟩
def z0_.T7:Bool×List (List Nat×List Nat):=(true,[([],[]),([0],[0]),([1],[1]),([],[]),([],[]),([4],[4]),([3,5],[3,5]),([2,6],[2,6]),([7],[7]),([8,6,0,1,2,3,4,5,6,7,8],[8])])
def z0_.B7:List Nat:=[0,1,3,0,0,16,56,127,255,511]
theorem z0_.tab7:rtab .any (opsOf Try.f83 7)=z0_.T7:=by kernel_rfl
theorem z0_.bits7:waitsOk z0_.T7.2 z0_.B7=true:=by kernel_rfl
def z0_.T12:Bool×List (List Nat×List Nat):=(true,[([],[]),([],[]),([1],[1]),([2],[2]),([3],[3]),([0,4],[0,4]),([5],[5]),([],[]),([],[]),([8],[8]),([9],[9]),([7,10],[7,10]),([11],[11]),([6,12],[6,12]),([13],[13]),([],[]),([],[]),([16],[16]),([17],[17]),([18],[18]),([15,19,5],[15,19]),([14,20],[14,20]),([21,20,0,1,2,3,4,5,6,7,8,9,10,11,12,13,14,15,16,17,18,19,20,21],[21])])
def z0_.B12:List Nat:=[0,0,2,6,14,31,63,0,0,256,768,1920,3968,8191,16383,0,0,65536,196608,458752,1015871,2097151,4194303]
theorem z0_.tab12:rtab .any (opsOf Try.f83 12)=z0_.T12:=by kernel_rfl
theorem z0_.bits12:waitsOk z0_.T12.2 z0_.B12=true:=by kernel_rfl
theorem z0_.step (k:Nat) (ih_impl_Rule_expTexts:∀ m,m < k→z1_.Stm m) (ih_impl_Rule_expText_1:∀ m,m < k→impl_Rule_expText_1.Stm m) (ih:∀ m,m < k→z0_.Stm m):z0_.Stm k:=by
 intro Da Cb Aa Bf Bg Cc Cd Bh Ce Cf Bi a1 r w Dt Du Dw Dx Dy Dz h
 cases k with
 | zero=>exact absurd h (by simp [z0_.f])
 | succ k =>
 simp only [z0_.f]at h
 have Ji:=Try.underlying36
 have Jj:=Try.underlying63
 have Bz:=y0.mk Dt
 have Cp:=y0.mk Du
 clear Dt Du
 have Cq:=y0.mk Dw
 have Cr:=y0.mk Dx
 clear Dw Dx
 have Cs:=y0.mk Dy
 have Ct:=y0.mk Dz
 clear Dy Dz
 have HB:=y0.mk (Below.refl w.heap.size w)
 have H:(if 0≤a1 then(if a1 < (Aa.length:Int)then(if((y19 Aa a1).f0)=2 then(some (⟨#[95]⟩:ByteArray))else(if((y19 Aa a1).f0)=4 then(if(((y19 Aa a1).f2).length:Int) > 0 then(if((y19 Aa a1).f1).size + 1≤9223372036854775807 then((z1_.f k Aa Bf Bg Bh Bi ((y19 Aa a1).f2)).bind fun Cm=>(if(((y19 Aa a1).f1) ++ (⟨#[40]⟩:ByteArray)).size + Cm.size≤9223372036854775807 then(if((((y19 Aa a1).f1) ++ (⟨#[40]⟩:ByteArray)) ++ Cm).size + 1≤9223372036854775807 then(some (((((y19 Aa a1).f1) ++ (⟨#[40]⟩:ByteArray)) ++ Cm) ++ (⟨#[41]⟩:ByteArray)))else(none))else(none)))else(none))else(some ((y19 Aa a1).f1)))else(if((y19 Aa a1).f0)=5 then(z0_.j0 k (((y19 Aa a1).f0) == 5) Aa Bf Bg Bh Bi ((y19 Aa a1).f0) ((y19 Aa a1).f1) ((y19 Aa a1).f2))else(if((y19 Aa a1).f0)=6 then(z0_.j0 k (((y19 Aa a1).f0) == 6) Aa Bf Bg Bh Bi ((y19 Aa a1).f0) ((y19 Aa a1).f1) ((y19 Aa a1).f2))else(z0_.j0 k (((y19 Aa a1).f0) == 7) Aa Bf Bg Bh Bi ((y19 Aa a1).f0) ((y19 Aa a1).f1) ((y19 Aa a1).f2))))))else(none))else(none))=some r:=h
 clear h
 obtain⟨c3,H⟩:=qo H
 have He:decide (0≤a1)=true:=decide_eq_true c3
 clear c3
 obtain⟨c4,H⟩:=qo H
 have Hf:decide (a1 < (Aa.length:Int))=true:=decide_eq_true c4
 clear c4
 by_cases c5:((y19 Aa a1).f0)=2
 ·rw [if_pos c5]at H
  have Es:(((y19 Aa a1).f0) == 2)=true:=beq_iff_eq.mpr c5
  have Et:(((y19 Aa a1).f0) != 2)=false:=bne_eq_false_iff_eq.mpr c5
  clear c5
  obtain rfl:=Option.some.inj H
  go_enter Try.func83,Try.ntmps83
  go_wp2_with (first|((with_reducible refine y16 (N:=2) rfl ?_);refine qe 2 #[.slice Da Aa.length Cb,.int .i64 Bf,.string Bg,.slice Cc Bh.length Cd,.slice Ce Bi.length Cf] 36 ?_;intro Au hg w6 hbox hb;have Ab:=y0.mk (hbox);have Cu:=y0.mk (qg (w:=w) hg);have Cv:=y0.mk (qg (w:=w) hg);replace HB:=y0.mk (y4 qb hb);clear hb hbox hg;obtain⟨Hg,Hh,Hi,Hj,Hk,Hl,Hm,Hn,Ho,Hp⟩:=qz5 Ab.out;have Bq:0≤(a1:Int):=qd;have Br:a1 < (Aa.length:Int):=qd;obtain⟨Bw,Az,Ag,Cn,Ai,Aj,Ak,Av,Aw⟩:=at_T63 Bz.out a1 Bq Br;cases Cn;replace Ai:=qC Ai HB;replace Aj:=qC Aj HB;replace Ak:=qC Ak HB;have Bp:=y0.mk Aw;have Bx:=y0.mk Av;clear Aw Av;replace Bq:=eq_true Bq;replace Br:=eq_true Br)|((with_reducible refine y16 (N:=5) rfl ?_);refine qe 5 #[.int .i64 0,.string (⟨#[]⟩:ByteArray),.slice none 0 0] 63 ?_;intro Af hg w8 hbox hb;have Ac:=y0.mk (hbox);have Cw:=y0.mk (qg (w:=w) hg);have Cx:=y0.mk (qg (w:=w) hg);replace HB:=y0.mk (y4 qb hb);have Ad:=y0.mk (qn Ab.out hg);have At:=y0.mk (qm Ab.out hg);replace Ab:=y0.mk (qK Ab.out hb);clear hb hbox hg;have Jk:=At.out;have Jl:=Ad.out;obtain⟨Fh,Fi,Fj,Fk,Fl,Fm⟩:=qz3 Ac.out))
  go_ret
  exact⟨qf,qb⟩
 ·rw [if_neg c5]at H
  have Es:(((y19 Aa a1).f0) == 2)=false:=beq_eq_false_iff_ne.mpr c5
  have Et:(((y19 Aa a1).f0) != 2)=true:=bne_iff_ne.mpr c5
  by_cases Ej:((y19 Aa a1).f0)=4
  ·rw [if_pos Ej]at H
   have Ax:(((y19 Aa a1).f0) == 4)=true:=beq_iff_eq.mpr Ej
   have Ea:(((y19 Aa a1).f0) != 4)=false:=bne_eq_false_iff_eq.mpr Ej
   clear Ej
   by_cases Er:(((y19 Aa a1).f2).length:Int) > 0
   ·rw [if_pos Er]at H
    have Ay:decide (0 < (((y19 Aa a1).f2).length:Int))=true:=decide_eq_true Er
    have Eu:decide (0 < ((y19 Aa a1).f2).length)=true:=decide_eq_true (by omega)
    clear Er
    obtain⟨Eb,H⟩:=qo H
    have Ba:=eq_true Eb
    have Hw:=decide_eq_true Eb
    have Hx:=eq_false (Nat.not_lt.2 Eb)
    obtain⟨Cm,Jm,H⟩:=qB H
    obtain⟨Ec,H⟩:=qo H
    have Bs:=eq_true Ec
    have Hy:=decide_eq_true Ec
    have Ew:=eq_false (Nat.not_lt.2 Ec)
    have Hz:(9223372036854775807 < ((y19 Aa a1).f1).size + 1 + Cm.size)=False:=qs Ew
    obtain⟨Ed,H⟩:=qo H
    have Ch:=eq_true Ed
    have Ia:=decide_eq_true Ed
    have Ex:=eq_false (Nat.not_lt.2 Ed)
    have Ib:(9223372036854775807 < ((y19 Aa a1).f1).size + 1 + Cm.size + 1)=False:=qs Ex
    obtain rfl:=Option.some.inj H
    go_enter Try.func83,Try.ntmps83
    try go_wp2_with (first|((with_reducible refine y16 (N:=2) rfl ?_);refine qe 2 #[.slice Da Aa.length Cb,.int .i64 Bf,.string Bg,.slice Cc Bh.length Cd,.slice Ce Bi.length Cf] 36 ?_;intro Au hg Jv hbox hb;have Ab:=y0.mk (hbox);have Cu:=y0.mk (qg (w:=w) hg);have Cv:=y0.mk (qg (w:=w) hg);replace HB:=y0.mk (y4 qb hb);clear hb hbox hg;obtain⟨Fn,Fo,Fp,Fq,Fr,Fs,Ft,Fu,Fv,Fx⟩:=qz5 Ab.out;have Bq:0≤(a1:Int):=qd;have Br:a1 < (Aa.length:Int):=qd;obtain⟨Bw,Az,Ag,Cn,Ai,Aj,Ak,Av,Aw⟩:=at_T63 Bz.out a1 Bq Br;cases Cn;replace Ai:=qC Ai HB;replace Aj:=qC Aj HB;replace Ak:=qC Ak HB;have Bp:=y0.mk Aw;have Bx:=y0.mk Av;clear Aw Av;replace Bq:=eq_true Bq;replace Br:=eq_true Br)|((with_reducible refine y16 (N:=5) rfl ?_);refine qe 5 #[.int .i64 0,.string (⟨#[]⟩:ByteArray),.slice none 0 0] 63 ?_;intro Af hg Fy hbox hb;have Ac:=y0.mk (hbox);have Cw:=y0.mk (qg (w:=w) hg);have Cx:=y0.mk (qg (w:=w) hg);replace HB:=y0.mk (y4 qb hb);have Ad:=y0.mk (qn Ab.out hg);have At:=y0.mk (qm Ab.out hg);replace Ab:=y0.mk (qK Ab.out hb);clear hb hbox hg;have Ic:=At.out;have Id:=Ad.out;obtain⟨Fz,Ga,Gb,Gc,Gd,Ge⟩:=qz3 Ac.out))
    have n0_:y0 ((((Fy.setCell ⟨Af,0,none⟩ (.int .i64 ((y19 Aa a1).f0))).setCell ⟨Af,1,none⟩ (.string ((y19 Aa a1).f1))).setCell ⟨Af,2,none⟩ (.slice Az ((y19 Aa a1).f2).length Ag)).heap[Au]?=some (.cells #[.slice (some Bw) Aa.length Cb,.int .i64 Bf,.string Bg,.slice Cc Bh.length Cd,.slice Ce Bi.length Cf] 36 (0,0))):=⟨by(with_reducible repeat(first|refine y9 ?_ _|refine y8 ?_|refine y5 ?_ _));refine y10 ?_ Ad.out _;refine y10 ?_ Ad.out _;refine y10 ?_ Ad.out _;(with_reducible repeat(first|refine y9 ?_ _|refine y8 ?_|refine y5 ?_ _));exact Ab.out⟩
    have n1_:y0 ((((Fy.setCell ⟨Af,0,none⟩ (.int .i64 ((y19 Aa a1).f0))).setCell ⟨Af,1,none⟩ (.string ((y19 Aa a1).f1))).setCell ⟨Af,2,none⟩ (.slice Az ((y19 Aa a1).f2).length Ag)).heap[Af]?=some (.cells #[.int .i64 ((y19 Aa a1).f0),.string ((y19 Aa a1).f1),.slice Az ((y19 Aa a1).f2).length Ag] 63 (0,0))):=⟨by(with_reducible repeat(first|refine y9 ?_ _|refine y8 ?_|refine y5 ?_ _));refine y11 (cs:=#[.int .i64 ((y19 Aa a1).f0),.string ((y19 Aa a1).f1),.slice none 0 0]) ?_ 2 _ rfl;refine y11 (cs:=#[.int .i64 ((y19 Aa a1).f0),.string (⟨#[]⟩:ByteArray),.slice none 0 0]) ?_ 1 _ rfl;refine y11 (cs:=#[.int .i64 0,.string (⟨#[]⟩:ByteArray),.slice none 0 0]) ?_ 0 _ rfl;(with_reducible repeat(first|refine y9 ?_ _|refine y8 ?_|refine y5 ?_ _));exact Ac.out⟩
    have n2_:y0 (Below w.heap.size w (((Fy.setCell ⟨Af,0,none⟩ (.int .i64 ((y19 Aa a1).f0))).setCell ⟨Af,1,none⟩ (.string ((y19 Aa a1).f1))).setCell ⟨Af,2,none⟩ (.slice Az ((y19 Aa a1).f2).length Ag))):=⟨qb⟩
    (try clear Ab)
    (try clear Ac)
    (try clear HB)
    generalize (((Fy.setCell ⟨Af,0,none⟩ (.int .i64 ((y19 Aa a1).f0))).setCell ⟨Af,1,none⟩ (.string ((y19 Aa a1).f1))).setCell ⟨Af,2,none⟩ (.slice Az ((y19 Aa a1).f2).length Ag))=Jn at n0_ n1_ n2_ ⊢
    have Ab:=n0_
    have Ac:=n1_
    have HB:=n2_
    clear n0_ n1_ n2_
    replace Ab:=y0.mk (y8 Ab.out)
    replace Ac:=y0.mk (y8 Ac.out)
    replace HB:=y0.mk (y2 HB.out)
    refine start_ (n:=10) (S:=fun w'=>w'.cell? ⟨Af,0,none⟩=some (.int .i64 ((y19 Aa a1).f0))∧w'.cell? ⟨Af,1,none⟩=some (.string ((y19 Aa a1).f1))∧w'.cell? ⟨Af,2,none⟩=some (.slice Az ((y19 Aa a1).f2).length Ag)∧w'.cell? ⟨Au,0,none⟩=some (.slice (some Bw) Aa.length Cb)∧w'.cell? ⟨Au,1,none⟩=some (.int .i64 Bf)∧w'.cell? ⟨Au,2,none⟩=some (.string Bg)∧w'.cell? ⟨Au,3,none⟩=some (.slice Cc Bh.length Cd)∧w'.cell? ⟨Au,4,none⟩=some (.slice Ce Bi.length Cf)) (ds:=[]) (fl_ 10 0) (by kernel_rfl) rfl rfl ⟨(y7 Ac.out 0).trans rfl,(y7 Ac.out 1).trans rfl,(y7 Ac.out 2).trans rfl,(y7 Ab.out 0).trans rfl,(y7 Ab.out 1).trans rfl,(y7 Ab.out 2).trans rfl,(y7 Ab.out 3).trans rfl,(y7 Ab.out 4).trans rfl⟩ (fun hHeld=>?_);refine with_tabW z0_.tab7 z0_.bits7 (fun HT_ HW_=>?_)
    generalize Jn.drew=Jw at Ab Ac HB hHeld ⊢
    refine qp 0 22 (fl_ 10 1) ?_
    refine qp 4 26 (fl_ 10 17) ?_
    refine qt 1 23 (fl_ 10 19) hHeld ?_
    refine qp 2 24 (fl_ 10 23) ?_
    refine qt 3 25 (fl_ 10 31) hHeld ?_
    refine qt 5 27 (fl_ 10 63) hHeld ?_
    refine qO 6 28 (fl_ 10 127) (fun K hK=>?_)
    refine goes_ Try.func84 (by kernel_rfl) rfl #[.agg #[.slice (some Bw) Aa.length Cb,.int .i64 Bf,.string Bg,.slice Cc Bh.length Cd,.slice Ce Bi.length Cf],.slice Az ((y19 Aa a1).f2).length Ag] (by rfl) rfl rfl qy1 ?_
    with_reducible refine(ih_impl_Rule_expTexts k (by omega) _ _ Aa Bf Bg _ _ Bh _ _ Bi _ _ ((y19 Aa a1).f2) Cm _ (qc (Kd.C_below Bz.out HB.out)) Cp.out (qc (Kd.C_below Cq.out HB.out)) Cr.out (qc (Kd.C_below Cs.out HB.out)) Ct.out (qc (Kd.C_below Bp.out HB.out)) Bx.out Jm.out).mono ?_
    rintro e Jx ⟨rfl,hb⟩
    refine⟨_,rfl, ?_⟩
    replace Ab:=y0.mk (qK Ab.out hb)
    replace Ac:=y0.mk (qK Ac.out hb)
    replace HB:=y0.mk (y4 qb hb)
    (try clear hb)
    refine hK.out _ _ ⟨(y7 Ac.out 0).trans rfl,(y7 Ac.out 1).trans rfl,(y7 Ac.out 2).trans rfl,(y7 Ab.out 0).trans rfl,(y7 Ab.out 1).trans rfl,(y7 Ab.out 2).trans rfl,(y7 Ab.out 3).trans rfl,(y7 Ab.out 4).trans rfl⟩ (fun hHeld=>?_)
    clear hK K
    refine qx 28 ?_
    refine qp2 7 29 10 ?_
    refine qp 9 4 (fl_ 10 1023) ?_
    refine done_ (done_of HT_.out (by kernel_rfl)) ?_
    try go_wp2
    go_ret
    exact⟨qf,qb⟩
   ·rw [if_neg Er]at H
    have Ay:decide (0 < (((y19 Aa a1).f2).length:Int))=false:=decide_eq_false Er
    have Eu:decide (0 < ((y19 Aa a1).f2).length)=false:=decide_eq_false (by omega)
    clear Er
    obtain rfl:=Option.some.inj H
    go_enter Try.func83,Try.ntmps83
    go_wp2_with (first|((with_reducible refine y16 (N:=2) rfl ?_);refine qe 2 #[.slice Da Aa.length Cb,.int .i64 Bf,.string Bg,.slice Cc Bh.length Cd,.slice Ce Bi.length Cf] 36 ?_;intro Au hg Jy hbox hb;have Ab:=y0.mk (hbox);have Cu:=y0.mk (qg (w:=w) hg);have Cv:=y0.mk (qg (w:=w) hg);replace HB:=y0.mk (y4 qb hb);clear hb hbox hg;obtain⟨Gf,Gg,Gh,Gi,Gj,Gk,Gl,Gm,Gn,Gp⟩:=qz5 Ab.out;have Bq:0≤(a1:Int):=qd;have Br:a1 < (Aa.length:Int):=qd;obtain⟨Bw,Az,Ag,Cn,Ai,Aj,Ak,Av,Aw⟩:=at_T63 Bz.out a1 Bq Br;cases Cn;replace Ai:=qC Ai HB;replace Aj:=qC Aj HB;replace Ak:=qC Ak HB;have Bp:=y0.mk Aw;have Bx:=y0.mk Av;clear Aw Av;replace Bq:=eq_true Bq;replace Br:=eq_true Br)|((with_reducible refine y16 (N:=5) rfl ?_);refine qe 5 #[.int .i64 0,.string (⟨#[]⟩:ByteArray),.slice none 0 0] 63 ?_;intro Af hg Jz hbox hb;have Ac:=y0.mk (hbox);have Cw:=y0.mk (qg (w:=w) hg);have Cx:=y0.mk (qg (w:=w) hg);replace HB:=y0.mk (y4 qb hb);have Ad:=y0.mk (qn Ab.out hg);have At:=y0.mk (qm Ab.out hg);replace Ab:=y0.mk (qK Ab.out hb);clear hb hbox hg;have Ie:=At.out;have If:=Ad.out;obtain⟨Gq,Gr,Gs,Gt,Gu,Gv⟩:=qz3 Ac.out))
    go_ret
    exact⟨qf,qb⟩
  ·rw [if_neg Ej]at H
   have Ax:(((y19 Aa a1).f0) == 4)=false:=beq_eq_false_iff_ne.mpr Ej
   have Ea:(((y19 Aa a1).f0) != 4)=true:=bne_iff_ne.mpr Ej
   have Ek:=y0.mk H
   clear H
   go_enter Try.func83,Try.ntmps83
   go_upto_if 31 with(first|((with_reducible refine y16 (N:=2) rfl ?_);refine qe 2 #[.slice Da Aa.length Cb,.int .i64 Bf,.string Bg,.slice Cc Bh.length Cd,.slice Ce Bi.length Cf] 36 ?_;intro Au hg Ka hbox hb;have Ab:=y0.mk (hbox);have Cu:=y0.mk (qg (w:=w) hg);have Cv:=y0.mk (qg (w:=w) hg);replace HB:=y0.mk (y4 qb hb);clear hb hbox hg;obtain⟨Db,Dc,Dd,De,Df,Dg,Dh,Di,Dj,Dk⟩:=qz5 Ab.out;have Bq:0≤(a1:Int):=qd;have Br:a1 < (Aa.length:Int):=qd;obtain⟨Bw,Az,Ag,Cn,Ai,Aj,Ak,Av,Aw⟩:=at_T63 Bz.out a1 Bq Br;cases Cn;replace Ai:=qC Ai HB;replace Aj:=qC Aj HB;replace Ak:=qC Ak HB;have Bp:=y0.mk Aw;have Bx:=y0.mk Av;clear Aw Av;replace Bq:=eq_true Bq;replace Br:=eq_true Br)|((with_reducible refine y16 (N:=5) rfl ?_);refine qe 5 #[.int .i64 0,.string (⟨#[]⟩:ByteArray),.slice none 0 0] 63 ?_;intro Af hg Kb hbox hb;have Ac:=y0.mk (hbox);have Cw:=y0.mk (qg (w:=w) hg);have Cx:=y0.mk (qg (w:=w) hg);replace HB:=y0.mk (y4 qb hb);have Ad:=y0.mk (qn Ab.out hg);have At:=y0.mk (qm Ab.out hg);replace Ab:=y0.mk (qK Ab.out hb);clear hb hbox hg;have Ig:=At.out;have Ih:=Ad.out;obtain⟨Dl,Dm,Do,Dp,Dq,Dr⟩:=qz3 Ac.out))
   (try simp only [Act.put,qS_,qZ_,qC_])
   go_cut [31] (fun Jo wc=>∃(kq:Nat) (Cg:Bool),Jo=.bool Cg∧y0 (z0_.j0 kq Cg Aa Bf Bg Bh Bi ((y19 Aa a1).f0) ((y19 Aa a1).f1) ((y19 Aa a1).f2)=some r)∧y0 (kq≤k)∧y0 (wc.heap[Au]?=some (.cells #[(.slice (some Bw) Aa.length Cb),.int .i64 Bf,.string Bg,(.slice Cc Bh.length Cd),(.slice Ce Bi.length Cf)] 36 (0,0)))∧y0 (wc.heap[Af]?=some (.cells #[.int .i64 ((y19 Aa a1).f0),.string ((y19 Aa a1).f1),(.slice Az ((y19 Aa a1).f2).length Ag)] 63 (0,0)))∧y0 (Below w.heap.size w wc))
   case first =>
    have H:=Ek.out
    clear Ek
    by_cases El:((y19 Aa a1).f0)=5
    ·rw [if_pos El]at H
     have Bt:(((y19 Aa a1).f0) == 5)=true:=beq_iff_eq.mpr El
     have Ey:(((y19 Aa a1).f0) != 5)=false:=bne_eq_false_iff_eq.mpr El
     clear El
     (first|rw [Bt]|(simp only [i64_w,i32_w];rw [Bt])|skip)
     have H':=y0.mk H
     clear H
     go_wp2
     go_meet
     exact⟨_,((((y19 Aa a1).f0) == 5)),qy2,H',⟨by first|omega|exact Nat.le_refl _⟩,⟨by(with_reducible repeat(first|refine y9 ?_ _|refine y8 ?_|refine y5 ?_ _));refine y10 ?_ Ad.out _;refine y10 ?_ Ad.out _;refine y10 ?_ Ad.out _;(with_reducible repeat(first|refine y9 ?_ _|refine y8 ?_|refine y5 ?_ _));exact Ab.out⟩,⟨by(with_reducible repeat(first|refine y9 ?_ _|refine y8 ?_|refine y5 ?_ _));refine y11 (cs:=#[.int .i64 ((y19 Aa a1).f0),.string ((y19 Aa a1).f1),.slice none 0 0]) ?_ 2 _ rfl;refine y11 (cs:=#[.int .i64 ((y19 Aa a1).f0),.string (⟨#[]⟩:ByteArray),.slice none 0 0]) ?_ 1 _ rfl;refine y11 (cs:=#[.int .i64 0,.string (⟨#[]⟩:ByteArray),.slice none 0 0]) ?_ 0 _ rfl;(with_reducible repeat(first|refine y9 ?_ _|refine y8 ?_|refine y5 ?_ _));exact Ac.out⟩,⟨qb⟩⟩
    ·rw [if_neg El]at H
     have Bt:(((y19 Aa a1).f0) == 5)=false:=beq_eq_false_iff_ne.mpr El
     have Ey:(((y19 Aa a1).f0) != 5)=true:=bne_iff_ne.mpr El
     (first|rw [Bt]|(simp only [i64_w,i32_w];rw [Bt])|skip)
     by_cases Em:((y19 Aa a1).f0)=6
     ·rw [if_pos Em]at H
      have Ca:(((y19 Aa a1).f0) == 6)=true:=beq_iff_eq.mpr Em
      have Ez:(((y19 Aa a1).f0) != 6)=false:=bne_eq_false_iff_eq.mpr Em
      clear Em
      have H':=y0.mk H
      clear H
      go_wp2
      go_meet
      exact⟨_,((((y19 Aa a1).f0) == 6)),qy2,H',⟨by first|omega|exact Nat.le_refl _⟩,⟨by(with_reducible repeat(first|refine y9 ?_ _|refine y8 ?_|refine y5 ?_ _));refine y10 ?_ Ad.out _;refine y10 ?_ Ad.out _;refine y10 ?_ Ad.out _;(with_reducible repeat(first|refine y9 ?_ _|refine y8 ?_|refine y5 ?_ _));exact Ab.out⟩,⟨by(with_reducible repeat(first|refine y9 ?_ _|refine y8 ?_|refine y5 ?_ _));refine y11 (cs:=#[.int .i64 ((y19 Aa a1).f0),.string ((y19 Aa a1).f1),.slice none 0 0]) ?_ 2 _ rfl;refine y11 (cs:=#[.int .i64 ((y19 Aa a1).f0),.string (⟨#[]⟩:ByteArray),.slice none 0 0]) ?_ 1 _ rfl;refine y11 (cs:=#[.int .i64 0,.string (⟨#[]⟩:ByteArray),.slice none 0 0]) ?_ 0 _ rfl;(with_reducible repeat(first|refine y9 ?_ _|refine y8 ?_|refine y5 ?_ _));exact Ac.out⟩,⟨qb⟩⟩
     ·rw [if_neg Em]at H
      have Ca:(((y19 Aa a1).f0) == 6)=false:=beq_eq_false_iff_ne.mpr Em
      have Ez:(((y19 Aa a1).f0) != 6)=true:=bne_iff_ne.mpr Em
      have H':=y0.mk H
      clear H
      go_wp2
      go_meet
      exact⟨_,((((y19 Aa a1).f0) == 7)),qy2,H',⟨by first|omega|exact Nat.le_refl _⟩,⟨by(with_reducible repeat(first|refine y9 ?_ _|refine y8 ?_|refine y5 ?_ _));refine y10 ?_ Ad.out _;refine y10 ?_ Ad.out _;refine y10 ?_ Ad.out _;(with_reducible repeat(first|refine y9 ?_ _|refine y8 ?_|refine y5 ?_ _));exact Ab.out⟩,⟨by(with_reducible repeat(first|refine y9 ?_ _|refine y8 ?_|refine y5 ?_ _));refine y11 (cs:=#[.int .i64 ((y19 Aa a1).f0),.string ((y19 Aa a1).f1),.slice none 0 0]) ?_ 2 _ rfl;refine y11 (cs:=#[.int .i64 ((y19 Aa a1).f0),.string (⟨#[]⟩:ByteArray),.slice none 0 0]) ?_ 1 _ rfl;refine y11 (cs:=#[.int .i64 0,.string (⟨#[]⟩:ByteArray),.slice none 0 0]) ?_ 0 _ rfl;(with_reducible repeat(first|refine y9 ?_ _|refine y8 ?_|refine y5 ?_ _));exact Ac.out⟩,⟨qb⟩⟩
   case rest =>
    clear Ek
    (try clear He Hf Es Et Ax Ea Db Dc Dd De Df Dl Dm Do Dg Dh Di Dj Dk Dp Dq Dr Ai Aj Ak Bq Br)
    obtain⟨kq,Cg,rfl,HA,Fa,Ab,Ac,HB⟩:=hcut
    cases kq with
    | zero=>exact absurd HA.out (by simp [z0_.j0])
    | succ Ds =>
     have H:=HA.out
     clear HA
     simp only [z0_.j0]at H
     by_cases Gw:Cg=true
     ·subst Gw
      replace H:=qT H
      obtain⟨Ii,H⟩:=qo H
      have Bu:decide (0 < (((y19 Aa a1).f2).length:Int))=true:=decide_eq_true Ii
      have Ij:decide (0 < ((y19 Aa a1).f2).length)=true:=decide_eq_true (by omega)
      clear Ii
      obtain⟨As,Ik,H⟩:=qB H
      obtain⟨Ee,H⟩:=qo H
      have Bb:=eq_true Ee
      have Il:=decide_eq_true Ee
      have Im:=eq_false (Nat.not_lt.2 Ee)
      obtain⟨Ar,Ci⟩:∃ y_:List ByteArray,y_=(([(⟨#[43]⟩:ByteArray),(⟨#[45]⟩:ByteArray),(⟨#[42]⟩:ByteArray)]:List ByteArray)):=⟨_,rfl⟩
      replace H:(if 0≤(wrap64 (((y19 Aa a1).f0) - 5))then(if(wrap64 (((y19 Aa a1).f0) - 5)) < (Ar.length:Int)then(if(As ++ (⟨#[32]⟩:ByteArray)).size + (rdOf ByteArray.empty Ar (wrap64 (((y19 Aa a1).f0) - 5))).size≤9223372036854775807 then(if((As ++ (⟨#[32]⟩:ByteArray)) ++ (rdOf ByteArray.empty Ar (wrap64 (((y19 Aa a1).f0) - 5)))).size + 1≤9223372036854775807 then(if 1 < (((y19 Aa a1).f2).length:Int)then((impl_Rule_expText_1.f Ds (rd ((y19 Aa a1).f2) 1) Aa Bf Bg Bh Bi).bind fun Bn=>(if(((As ++ (⟨#[32]⟩:ByteArray)) ++ (rdOf ByteArray.empty Ar (wrap64 (((y19 Aa a1).f0) - 5)))) ++ (⟨#[32]⟩:ByteArray)).size + Bn.size≤9223372036854775807 then(some ((((As ++ (⟨#[32]⟩:ByteArray)) ++ (rdOf ByteArray.empty Ar (wrap64 (((y19 Aa a1).f0) - 5)))) ++ (⟨#[32]⟩:ByteArray)) ++ Bn))else(none)))else(none))else(none))else(none))else(none))else(none))=some r:=by first|exact Ci ▸ H|exact Ci ▸ (Option.bind_some _ _).symm.trans H
      replace Ci:=y0.mk Ci
      obtain⟨Ap,Cj⟩:∃ j_:Int,(wrap64 (((y19 Aa a1).f0) - 5))=j_:=⟨_,rfl⟩
      replace H:(if 0≤(Ap)then(if(Ap) < (Ar.length:Int)then(if(As ++ (⟨#[32]⟩:ByteArray)).size + (rdOf ByteArray.empty Ar (Ap)).size≤9223372036854775807 then(if((As ++ (⟨#[32]⟩:ByteArray)) ++ (rdOf ByteArray.empty Ar (Ap))).size + 1≤9223372036854775807 then(if 1 < (((y19 Aa a1).f2).length:Int)then((impl_Rule_expText_1.f Ds (rd ((y19 Aa a1).f2) 1) Aa Bf Bg Bh Bi).bind fun Bn=>(if(((As ++ (⟨#[32]⟩:ByteArray)) ++ (rdOf ByteArray.empty Ar (Ap))) ++ (⟨#[32]⟩:ByteArray)).size + Bn.size≤9223372036854775807 then(some ((((As ++ (⟨#[32]⟩:ByteArray)) ++ (rdOf ByteArray.empty Ar (Ap))) ++ (⟨#[32]⟩:ByteArray)) ++ Bn))else(none)))else(none))else(none))else(none))else(none))else(none))=some r:=by first|(rw [Cj]at H;exact H)|(simp only [Cj]at H ⊢;exact H)
      (try rw [Cj]at Ik)
      have hji42w:(IntKind.i64.wrap (((y19 Aa a1).f0) - 5))=Ap:=(i64_w _).trans Cj
      obtain⟨Io,H⟩:=qo H
      have Bc:decide (0≤(Ap))=true:=decide_eq_true Io
      clear Io
      obtain⟨Ip,H⟩:=qo H
      have Bd:decide ((Ap) < (Ar.length:Int))=true:=decide_eq_true Ip
      clear Ip
      obtain⟨Ef,H⟩:=qo H
      have Be:=eq_true Ef
      have Iq:=decide_eq_true Ef
      have Fb:=eq_false (Nat.not_lt.2 Ef)
      have Ir:(9223372036854775807 < As.size + 1 + (rdOf ByteArray.empty Ar (Ap)).size)=False:=qs Fb
      obtain⟨Eg,H⟩:=qo H
      have Bv:=eq_true Eg
      have Is:=decide_eq_true Eg
      have Fc:=eq_false (Nat.not_lt.2 Eg)
      have Iu:(9223372036854775807 < As.size + 1 + (rdOf ByteArray.empty Ar (Ap)).size + 1)=False:=qs Fc
      obtain⟨Iv,H⟩:=qo H
      have Ck:decide (1 < (((y19 Aa a1).f2).length:Int))=true:=decide_eq_true Iv
      have Iw:decide (1 < ((y19 Aa a1).f2).length)=true:=decide_eq_true (by omega)
      clear Iv
      obtain⟨Bn,Jp,H⟩:=qB H
      obtain⟨Eh,H⟩:=qo H
      have Cl:=eq_true Eh
      have Ix:=decide_eq_true Eh
      have Fd:=eq_false (Nat.not_lt.2 Eh)
      have Iy:(9223372036854775807 < As.size + 1 + (rdOf ByteArray.empty Ar (Ap)).size + 1 + Bn.size)=False:=qs Fd
      obtain rfl:=Option.some.inj H
      try go_wp2
      have Fe:(0≤((Ap):Int))=True:=eq_true (of_decide_eq_true qy0)
      have Ff:((Ap) < (Ar.length:Int))=True:=eq_true (of_decide_eq_true qy0)
      replace Ab:=y0.mk (y8 Ab.out)
      replace Ac:=y0.mk (y8 Ac.out)
      replace HB:=y0.mk (y2 HB.out)
      have En:0≤(0:Int):=(by omega)
      have Eo:0 < (((y19 Aa a1).f2).length:Int):=qd
      obtain⟨Am,Hq,Bj⟩:=Kd.at_int Bp.out 0 En Eo
      have Bk:=Bj
      (try rw [show((0:Int)).toNat=0 from rfl]at Bk)
      (try rw [show 0 * 1=0 from rfl]at Bk)
      (try rw [Addr.add_zero']at Bk)
      cases Hq
      have Iz:(0 < ((y19 Aa a1).f2).length)=True:=eq_true (by omega)
      (try rw [show((0:Int)).toNat=0 from rfl]at Bj)
      (try rw [Addr.add_zero']at Bj)
      replace Bj:=qC Bj HB
      replace En:=eq_true En
      replace Eo:=eq_true Eo
      have Ep:0≤(1:Int):=(by omega)
      have Eq:1 < (((y19 Aa a1).f2).length:Int):=qd
      obtain⟨Fg,Hr,Bl⟩:=Kd.at_int Bp.out 1 Ep Eq
      have Bm:=Bl
      (try rw [show((1:Int)).toNat=1 from rfl]at Bm)
      (try rw [show 1 * 1=1 from rfl]at Bm)
      (try simp only [Nat.reduceMul,Nat.reduceEqDiff,Go.Addr.add,↓reduceIte]at Bm)
      obtain rfl:Am=Fg:=(by injection Hr)
      (try simp only [show(1:Int).toNat=1 from rfl,Nat.reduceMul,Nat.reduceEqDiff,Go.Addr.add,↓reduceIte]at Bl)
      have Ja:(1 < ((y19 Aa a1).f2).length)=True:=eq_true (by omega)
      (try rw [show((1:Int)).toNat=1 from rfl]at Bl)
      replace Bl:=qC Bl HB
      replace Ep:=eq_true Ep
      replace Eq:=eq_true Eq
      refine start_ (n:=23) (S:=fun w'=>True) (ds:=[]) (fl_ 23 0) (by kernel_rfl) rfl rfl trivial (fun hHeld=>?_);refine with_tabW z0_.tab12 z0_.bits12 (fun HT_ HW_=>?_)
      generalize wc.drew=Ke at Ab Ac HB Bj Bl hHeld ⊢
      refine qp2 0 36 23 ?_
      refine qp 8 44 (fl_ 23 259) ?_
      refine qp 15 51 (fl_ 23 33027) ?_
      refine qp 16 52 (fl_ 23 98563) ?_
      refine inv_at [2,3,4,5,6,7,9,10,11,12,13,14,17,18,19,20,21,22] (fun a0_ b a w'=>∃(Ah:Value) (adz_v490:Addr) (m11_:Value),a=putSel a0_ b [(2,38,.slice (some Am) ((y19 Aa a1).f2).length Ag),(3,39,.pointer (some Am)),(4,40,.int .i64 (rd ((y19 Aa a1).f2) 0)),(5,41,.string As),(6,42,.string (As ++ (⟨#[32]⟩:ByteArray))),(7,43,Ah),(9,45,.int .i64 ((y19 Aa a1).f0)),(10,46,.int .i64 Ap),(11,47,m11_),(12,48,.string (rdOf ByteArray.empty Ar (Ap))),(13,49,.string ((As ++ (⟨#[32]⟩:ByteArray)) ++ (rdOf ByteArray.empty Ar (Ap)))),(14,50,.string (((As ++ (⟨#[32]⟩:ByteArray)) ++ (rdOf ByteArray.empty Ar (Ap))) ++ (⟨#[32]⟩:ByteArray))),(17,53,.slice (some Am) ((y19 Aa a1).f2).length Ag),(18,54,.pointer (some (Am.add 1))),(19,55,.int .i64 (rd ((y19 Aa a1).f2) 1)),(20,56,.string Bn),(21,57,.string ((((As ++ (⟨#[32]⟩:ByteArray)) ++ (rdOf ByteArray.empty Ar (Ap))) ++ (⟨#[32]⟩:ByteArray)) ++ Bn)),(22,4,.string ((((As ++ (⟨#[32]⟩:ByteArray)) ++ (rdOf ByteArray.empty Ar (Ap))) ++ (⟨#[32]⟩:ByteArray)) ++ Bn))]∧(w'.heap[Au]?=some (.cells #[.slice (some Bw) Aa.length Cb,.int .i64 Bf,.string Bg,.slice Cc Bh.length Cd,.slice Ce Bi.length Cf] 36 (0,0)))∧(w'.heap[Af]?=some (.cells #[.int .i64 ((y19 Aa a1).f0),.string ((y19 Aa a1).f1),.slice (some Am) ((y19 Aa a1).f2).length Ag] 63 (0,0)))∧(Below w.heap.size w w')∧(b 7=true→Kd.R Kd.string 9 w' w.heap.size (fun _=>True) Ah Ar)∧(b 7=true→∃ c_,(Ah:Value)=.slice (some adz_v490) Ar.length c_)∧(b 11=true→(m11_:Value)=.pointer (some (adz_v490.add ((Ap)).toNat)))) HT_.out HW_.out (by kernel_rfl) (by kernel_rfl) ?_ ?_ ?_
      ·exact⟨.bool false,⟨0,0,none⟩,.bool false,by simp only [putSel,Bool.false_eq_true,if_false],Ab.out,Ac.out,HB.out,fun h_=>absurd h_ (by decide),fun h_=>absurd h_ (by decide),fun h_=>absurd h_ (by decide)⟩
      ·skip
       clear Ab Ac HB
       refine steps_cons ?_ ?_
       ·rintro b a w' ⟨Ah,adz_v490,m11_,ha,Q_BK483,Q_BK485,Q_HB,Q_HO491,Q_HA_HO491,Q_X11_⟩ hb_ hon hoff
        refine⟨_,rfl,fun K hK=>?_⟩
        have Kf:a.tmps[37]?=some (.pointer (some ⟨Af,2,none⟩)):=by rw [ha];exact(putSel_off rfl).trans rfl
        replace ha:=y0.mk ha
        have Ab:=y0.mk Q_BK483
        have Ac:=y0.mk Q_BK485
        have HB:=y0.mk Q_HB
        have hc0_:w'.cell? ⟨Af,0,none⟩=some (.int .i64 ((y19 Aa a1).f0)):=(y7 Ac.out 0).trans rfl
        have hc1_:w'.cell? ⟨Af,1,none⟩=some (.string ((y19 Aa a1).f1)):=(y7 Ac.out 1).trans rfl
        have hc2_:w'.cell? ⟨Af,2,none⟩=some (.slice (some Am) ((y19 Aa a1).f2).length Ag):=(y7 Ac.out 2).trans rfl
        refine value_ (w1:=w') (v:=.slice (some Am) ((y19 Aa a1).f2).length Ag) (by rfl) rfl ?_ ?_
        ·go_simp
         (try simp only [i64_w])
         try rfl
        refine hK.out _ _ ⟨Ah,adz_v490,m11_,(by rw [ha.out];exact putSel_upk 0 hb_ rfl rfl rfl),Q_BK483,Q_BK485,Q_HB,Q_HO491,Q_HA_HO491,Q_X11_⟩
       refine steps_cons ?_ ?_
       ·rintro b a w' ⟨Ah,adz_v490,m11_,ha,Q_BK483,Q_BK485,Q_HB,Q_HO491,Q_HA_HO491,Q_X11_⟩ hb_ hon hoff
        refine⟨_,rfl,fun K hK=>?_⟩
        have Kg:a.tmps[38]?=some (.slice (some Am) ((y19 Aa a1).f2).length Ag):=by rw [ha];exact putSel_on (e:=(2,38,.slice (some Am) ((y19 Aa a1).f2).length Ag)) 0 rfl rfl (hon 2 (by kernel_rfl)) rfl
        replace ha:=y0.mk ha
        have Ab:=y0.mk Q_BK483
        have Ac:=y0.mk Q_BK485
        have HB:=y0.mk Q_HB
        have hs0_:w'.cell? Am=some (.int .i64 (rd ((y19 Aa a1).f2) 0)):=(qC Bk HB)
        refine value_ (w1:=w') (v:=.pointer (some Am)) (by rfl) rfl ?_ ?_
        ·go_simp
         (try simp only [i64_w])
         try rfl
        refine hK.out _ _ ⟨Ah,adz_v490,m11_,(by rw [ha.out];exact putSel_upk 1 hb_ rfl rfl rfl),Q_BK483,Q_BK485,Q_HB,Q_HO491,Q_HA_HO491,Q_X11_⟩
       refine steps_cons ?_ ?_
       ·rintro b a w' ⟨Ah,adz_v490,m11_,ha,Q_BK483,Q_BK485,Q_HB,Q_HO491,Q_HA_HO491,Q_X11_⟩ hb_ hon hoff
        refine⟨_,rfl,fun K hK=>?_⟩
        have Kh:a.tmps[39]?=some (.pointer (some Am)):=by rw [ha];exact putSel_on (e:=(3,39,.pointer (some Am))) 1 rfl rfl (hon 3 (by kernel_rfl)) rfl
        replace ha:=y0.mk ha
        have Ab:=y0.mk Q_BK483
        have Ac:=y0.mk Q_BK485
        have HB:=y0.mk Q_HB
        have hs0_:w'.cell? Am=some (.int .i64 (rd ((y19 Aa a1).f2) 0)):=(qC Bk HB)
        refine value_ (w1:=w') (v:=.int .i64 (rd ((y19 Aa a1).f2) 0)) (by rfl) rfl ?_ ?_
        ·go_simp
         (try simp only [i64_w])
         try rfl
        refine hK.out _ _ ⟨Ah,adz_v490,m11_,(by rw [ha.out];exact putSel_upk 2 hb_ rfl rfl rfl),Q_BK483,Q_BK485,Q_HB,Q_HO491,Q_HA_HO491,Q_X11_⟩
       refine steps_cons ?_ ?_
       ·rintro b a w' ⟨Ah,adz_v490,m11_,ha,Q_BK483,Q_BK485,Q_HB,Q_HO491,Q_HA_HO491,Q_X11_⟩ hb_ hon hoff
        refine⟨_,rfl,fun K hK=>?_⟩
        have Jb:a.tmps[36]?=some (.func (.func 93) #[] #[.pointer (some ⟨Au,0,none⟩)]):=by rw [ha];exact(putSel_off rfl).trans rfl
        have Jc:a.tmps[40]?=some (.int .i64 (rd ((y19 Aa a1).f2) 0)):=by rw [ha];exact putSel_on (e:=(4,40,.int .i64 (rd ((y19 Aa a1).f2) 0))) 2 rfl rfl (hon 4 (by kernel_rfl)) rfl
        replace ha:=y0.mk ha
        have Ab:=y0.mk Q_BK483
        have Ac:=y0.mk Q_BK485
        have HB:=y0.mk Q_HB
        refine goesC_ Try.func93 (by kernel_rfl) rfl #[.int .i64 (rd ((y19 Aa a1).f2) 0),.pointer (some ⟨Au,0,none⟩)] #[.pointer (some ⟨Au,0,none⟩)] (by rfl) rfl rfl (by first|(simp only [qM_,List.map_cons,List.map_nil,Act.eval,Array.getD_eq_getD_getElem?,Option.getD_some,Jb,Jc];done)|(simp only [qM_,List.map_cons,List.map_nil,Act.eval,Array.getD_eq_getD_getElem?,Option.getD_some,Jb,Jc];rfl)) ?_
        with_reducible refine(ih_impl_Rule_expText_1 Ds (by have:=Fa.out;omega) (rd ((y19 Aa a1).f2) 0) _ _ Aa Bf Bg _ _ Bh _ _ Bi Au As _ (qc (Kd.C_below Bz.out HB.out)) Cp.out (qc (Kd.C_below Cq.out HB.out)) Cr.out (qc (Kd.C_below Cs.out HB.out)) Ct.out (by(with_reducible repeat(first|refine y9 ?_ _|refine y8 ?_|refine y5 ?_ _));exact Ab.out) Ik.out).mono ?_
        rintro e Jd ⟨rfl,hb⟩
        refine⟨_,rfl, ?_⟩
        have n0_:=y0.mk (qK Ab.out hb)
        have n1_:=y0.mk (qK Ac.out hb)
        have n2_:=y0.mk (y4 qb hb)
        have z_HO491:=fun(h0_:b 7=true)=>(show Kd.R Kd.string 9 Jd w.heap.size (fun _=>True) Ah Ar from by first|exact(Kd.R_below (qR ((Q_HO491 h0_))) hb)|exact Kd.R_mono (Kd.R_below (qR ((Q_HO491 h0_))) hb) (fun _ h_=>by first|trivial|exact h_|exact h_.1))
        clear Ab
        clear Ac
        clear HB
        have Ab:=n0_
        have Ac:=n1_
        have HB:=n2_
        clear n0_ n1_ n2_
        (try clear hb)
        refine hK.out _ _ ⟨Ah,adz_v490,m11_,(by rw [ha.out];exact putSel_upk 3 hb_ rfl rfl rfl),(qk Ab.out),(qk Ac.out),qb,z_HO491,Q_HA_HO491,Q_X11_⟩
       refine steps_cons ?_ ?_
       ·rintro b a w' ⟨Ah,adz_v490,m11_,ha,Q_BK483,Q_BK485,Q_HB,Q_HO491,Q_HA_HO491,Q_X11_⟩ hb_ hon hoff
        refine⟨_,rfl,fun K hK=>?_⟩
        have Ki:a.tmps[41]?=some (.string As):=by rw [ha];exact putSel_on (e:=(5,41,.string As)) 3 rfl rfl (hon 5 (by kernel_rfl)) rfl
        replace ha:=y0.mk ha
        have Ab:=y0.mk Q_BK483
        have Ac:=y0.mk Q_BK485
        have HB:=y0.mk Q_HB
        refine value_ (w1:=w') (v:=.string (As ++ (⟨#[32]⟩:ByteArray))) (by rfl) rfl ?_ ?_
        ·go_simp
         (try simp only [i64_w])
         try first|rfl|(have hz_:=Eb;(try have hy7_:=of_eq_true c7b0);(try have hy8_:=of_eq_true c8b0);(try have hy9_:=of_eq_true c9b0);(try have hy10_:=of_eq_true c10b0);(try have hy11_:=of_eq_true Ax);(try have hy12_:=of_eq_true Ay);(try have hy13_:=of_eq_true Ba);(try simp only [ByteArray.size_append,ByteArray.size_extract]at hz_);omega)|(have hz_:=Ec;(try have hy9_:=of_eq_true c9b0);(try have hy10_:=of_eq_true c10b0);(try have hy11_:=of_eq_true Ax);(try have hy12_:=of_eq_true Ay);(try have hy13_:=of_eq_true Ba);(try have hy14_:=of_eq_true c14b0);(try have hy15_:=of_eq_true Bs);(try simp only [ByteArray.size_append,ByteArray.size_extract]at hz_);omega)|(have hz_:=Ed;(try have hy10_:=of_eq_true c10b0);(try have hy11_:=of_eq_true Ax);(try have hy12_:=of_eq_true Ay);(try have hy13_:=of_eq_true Ba);(try have hy14_:=of_eq_true c14b0);(try have hy15_:=of_eq_true Bs);(try have hy16_:=of_eq_true Ch);(try simp only [ByteArray.size_append,ByteArray.size_extract]at hz_);omega)|(have hz_:=Ee;(try have hy35_:=of_eq_true c35b0);(try have hy36_:=of_eq_true Bt);(try have hy37_:=of_eq_true Ca);(try have hy38_:=of_eq_true c38b0);(try have hy39_:=of_eq_true Bu);(try have hy40_:=of_eq_true c40b0);(try have hy41_:=of_eq_true Bb);(try simp only [ByteArray.size_append,ByteArray.size_extract]at hz_);omega)|(have hz_:=Ef;(try have hy39_:=of_eq_true Bu);(try have hy40_:=of_eq_true c40b0);(try have hy41_:=of_eq_true Bb);(try have hy42_:=of_eq_true c42b0);(try have hy43_:=of_eq_true Bc);(try have hy44_:=of_eq_true Bd);(try have hy45_:=of_eq_true Be);(try simp only [ByteArray.size_append,ByteArray.size_extract]at hz_);omega)|(have hz_:=Eg;(try have hy40_:=of_eq_true c40b0);(try have hy41_:=of_eq_true Bb);(try have hy42_:=of_eq_true c42b0);(try have hy43_:=of_eq_true Bc);(try have hy44_:=of_eq_true Bd);(try have hy45_:=of_eq_true Be);(try have hy46_:=of_eq_true Bv);(try simp only [ByteArray.size_append,ByteArray.size_extract]at hz_);omega)|(have hz_:=Eh;(try have hy43_:=of_eq_true Bc);(try have hy44_:=of_eq_true Bd);(try have hy45_:=of_eq_true Be);(try have hy46_:=of_eq_true Bv);(try have hy47_:=of_eq_true Ck);(try have hy48_:=of_eq_true c48b0);(try have hy49_:=of_eq_true Cl);(try simp only [ByteArray.size_append,ByteArray.size_extract]at hz_);omega)
        refine hK.out _ _ ⟨Ah,adz_v490,m11_,(by rw [ha.out];exact putSel_upk 4 hb_ rfl rfl rfl),Q_BK483,Q_BK485,Q_HB,Q_HO491,Q_HA_HO491,Q_X11_⟩
       refine steps_cons ?_ ?_
       ·rintro b a w' ⟨Ah,adz_v490,m11_,ha,Q_BK483,Q_BK485,Q_HB,Q_HO491,Q_HA_HO491,Q_X11_⟩ hb_ hon hoff
        refine⟨_,rfl,fun K hK=>?_⟩
        replace ha:=y0.mk ha
        have Ab:=y0.mk Q_BK483
        have Ac:=y0.mk Q_BK485
        have HB:=y0.mk Q_HB
        refine qLs Kd.string 9 43 ([(⟨#[43]⟩:ByteArray),(⟨#[45]⟩:ByteArray),(⟨#[42]⟩:ByteArray)]:List ByteArray) ?_
        intro Ah Jd Cz hb hg_ hnew_
        clear hg_ hnew_
        (first|rw [← Ci.out]at Cz|(simp only [Int.reduceToNat]at Cz;rw [← Ci.out]at Cz))
        have Bo:=y0.mk (Kd.R_lower Cz (y3 qb))
        replace Ab:=y0.mk (qK Ab.out hb)
        replace Ac:=y0.mk (qK Ac.out hb)
        replace HB:=y0.mk (y4 qb hb)
        clear hb Cz
        obtain⟨Jq,Hs,Ht⟩:=Kd.R_slice Bo.out
        subst Ht
        obtain⟨Ei,Hu,_⟩:=Kd.at_string (Kd.R_reads' Bo.out).2.2 0 (by decide) (by rw [Ci.out];simp)
        cases Hu
        refine hK.out _ _ ⟨.slice (some Ei) Ar.length Hs,Ei,m11_,(by rw [ha.out];exact putSel_upk 5 hb_ rfl rfl rfl),(qk Ab.out),(qk Ac.out),qb,fun _=>(qR Bo.out),fun _=>⟨_,rfl⟩,fun h0_=>absurd ((hoff 11 (by kernel_rfl)).symm.trans h0_) (by decide)⟩
       refine steps_cons ?_ ?_
       ·rintro b a w' ⟨Ah,adz_v490,m11_,ha,Q_BK483,Q_BK485,Q_HB,Q_HO491,Q_HA_HO491,Q_X11_⟩ hb_ hon hoff
        refine⟨_,rfl,fun K hK=>?_⟩
        have Kj:a.tmps[44]?=some (.pointer (some ⟨Af,0,none⟩)):=by rw [ha];exact(putSel_off rfl).trans rfl
        replace ha:=y0.mk ha
        have Ab:=y0.mk Q_BK483
        have Ac:=y0.mk Q_BK485
        have HB:=y0.mk Q_HB
        have hc0_:w'.cell? ⟨Af,0,none⟩=some (.int .i64 ((y19 Aa a1).f0)):=(y7 Ac.out 0).trans rfl
        have hc1_:w'.cell? ⟨Af,1,none⟩=some (.string ((y19 Aa a1).f1)):=(y7 Ac.out 1).trans rfl
        have hc2_:w'.cell? ⟨Af,2,none⟩=some (.slice (some Am) ((y19 Aa a1).f2).length Ag):=(y7 Ac.out 2).trans rfl
        refine value_ (w1:=w') (v:=.int .i64 ((y19 Aa a1).f0)) (by rfl) rfl ?_ ?_
        ·go_simp
         (try simp only [i64_w])
         try rfl
        refine hK.out _ _ ⟨Ah,adz_v490,m11_,(by rw [ha.out];exact putSel_upk 6 hb_ rfl rfl rfl),Q_BK483,Q_BK485,Q_HB,Q_HO491,Q_HA_HO491,fun h0_=>absurd ((hoff 11 (by kernel_rfl)).symm.trans h0_) (by decide)⟩
       refine steps_cons ?_ ?_
       ·rintro b a w' ⟨Ah,adz_v490,m11_,ha,Q_BK483,Q_BK485,Q_HB,Q_HO491,Q_HA_HO491,Q_X11_⟩ hb_ hon hoff
        refine⟨_,rfl,fun K hK=>?_⟩
        have Kk:a.tmps[45]?=some (.int .i64 ((y19 Aa a1).f0)):=by rw [ha];exact putSel_on (e:=(9,45,.int .i64 ((y19 Aa a1).f0))) 6 rfl rfl (hon 9 (by kernel_rfl)) rfl
        replace ha:=y0.mk ha
        have Ab:=y0.mk Q_BK483
        have Ac:=y0.mk Q_BK485
        have HB:=y0.mk Q_HB
        refine value_ (w1:=w') (v:=.int .i64 Ap) (by rfl) rfl ?_ ?_
        ·go_simp
         (try simp only [i64_w])
         try rfl
        refine hK.out _ _ ⟨Ah,adz_v490,m11_,(by rw [ha.out];exact putSel_upk 7 hb_ rfl rfl rfl),Q_BK483,Q_BK485,Q_HB,Q_HO491,Q_HA_HO491,fun h0_=>absurd ((hoff 11 (by kernel_rfl)).symm.trans h0_) (by decide)⟩
       refine steps_cons ?_ ?_
       ·rintro b a w' ⟨Ah,adz_v490,m11_,ha,Q_BK483,Q_BK485,Q_HB,Q_HO491,Q_HA_HO491,Q_X11_⟩ hb_ hon hoff
        refine⟨_,rfl,fun K hK=>?_⟩
        have Jr:a.tmps[43]?=some (Ah):=by rw [ha];exact putSel_on (e:=(7,43,Ah)) 5 rfl rfl (hon 7 (by kernel_rfl)) rfl
        have Kl:a.tmps[46]?=some (.int .i64 Ap):=by rw [ha];exact putSel_on (e:=(10,46,.int .i64 Ap)) 7 rfl rfl (hon 10 (by kernel_rfl)) rfl
        replace ha:=y0.mk ha
        have Ab:=y0.mk Q_BK483
        have Ac:=y0.mk Q_BK485
        have HB:=y0.mk Q_HB
        have Bo:=y0.mk (Q_HO491 (hon 7 (by kernel_rfl)))
        have HA_HO491:=y0.mk (Q_HA_HO491 (hon 7 (by kernel_rfl)))
        obtain⟨c_,hv_⟩:=HA_HO491.out
        rw [hv_]at Jr
        refine value_ (w1:=w') (v:=.pointer (some (adz_v490.add ((Ap)).toNat))) (by rfl) rfl ?_ ?_
        ·go_simp
         (try simp only [i64_w])
         try rfl
        refine hK.out _ _ ⟨Ah,adz_v490,(.pointer (some (adz_v490.add ((Ap)).toNat))),(by rw [ha.out];exact putSel_upk 8 hb_ rfl rfl rfl),Q_BK483,Q_BK485,Q_HB,Q_HO491,Q_HA_HO491,fun _=>rfl⟩
       refine steps_cons ?_ ?_
       ·rintro b a w' ⟨Ah,adz_v490,m11_,ha,Q_BK483,Q_BK485,Q_HB,Q_HO491,Q_HA_HO491,Q_X11_⟩ hb_ hon hoff
        refine⟨_,rfl,fun K hK=>?_⟩
        have Js:a.tmps[47]?=some (m11_):=by rw [ha];exact putSel_on (e:=(11,47,m11_)) 8 rfl rfl (hon 11 (by kernel_rfl)) rfl
        rw [Q_X11_ (hon 11 (by kernel_rfl))]at Js
        replace ha:=y0.mk ha
        have Ab:=y0.mk Q_BK483
        have Ac:=y0.mk Q_BK485
        have HB:=y0.mk Q_HB
        have Bo:=y0.mk (Q_HO491 (hon 7 (by kernel_rfl)))
        have HA_HO491:=y0.mk (Q_HA_HO491 (hon 7 (by kernel_rfl)))
        obtain⟨c_,hv_⟩:=HA_HO491.out
        have hF_:=Bo.out
        rw [hv_]at hF_
        obtain⟨ad_,ea_,hx_⟩:=Kd.at_string (Kd.R_reads' hF_).2.2 (Ap) (of_eq_true Fe) (of_eq_true Ff)
        cases ea_
        refine value_ (w1:=w') (v:=.string (rdOf ByteArray.empty Ar (Ap))) (by rfl) rfl ?_ ?_
        ·go_simp
         (try simp only [i64_w])
         try rfl
        refine hK.out _ _ ⟨Ah,adz_v490,m11_,(by rw [ha.out];exact putSel_upk 9 hb_ rfl rfl rfl),Q_BK483,Q_BK485,Q_HB,Q_HO491,Q_HA_HO491,Q_X11_⟩
       refine steps_cons ?_ ?_
       ·rintro b a w' ⟨Ah,adz_v490,m11_,ha,Q_BK483,Q_BK485,Q_HB,Q_HO491,Q_HA_HO491,Q_X11_⟩ hb_ hon hoff
        refine⟨_,rfl,fun K hK=>?_⟩
        have Km:a.tmps[42]?=some (.string (As ++ (⟨#[32]⟩:ByteArray))):=by rw [ha];exact putSel_on (e:=(6,42,.string (As ++ (⟨#[32]⟩:ByteArray)))) 4 rfl rfl (hon 6 (by kernel_rfl)) rfl
        have Kn:a.tmps[48]?=some (.string (rdOf ByteArray.empty Ar (Ap))):=by rw [ha];exact putSel_on (e:=(12,48,.string (rdOf ByteArray.empty Ar (Ap)))) 9 rfl rfl (hon 12 (by kernel_rfl)) rfl
        replace ha:=y0.mk ha
        have Ab:=y0.mk Q_BK483
        have Ac:=y0.mk Q_BK485
        have HB:=y0.mk Q_HB
        have Bo:=y0.mk (Q_HO491 (hon 7 (by kernel_rfl)))
        have HA_HO491:=y0.mk (Q_HA_HO491 (hon 7 (by kernel_rfl)))
        refine value_ (w1:=w') (v:=.string ((As ++ (⟨#[32]⟩:ByteArray)) ++ (rdOf ByteArray.empty Ar (Ap)))) (by rfl) rfl ?_ ?_
        ·go_simp
         (try simp only [i64_w])
         try first|rfl|(have hz_:=Eb;(try have hy7_:=of_eq_true c7b0);(try have hy8_:=of_eq_true c8b0);(try have hy9_:=of_eq_true c9b0);(try have hy10_:=of_eq_true c10b0);(try have hy11_:=of_eq_true Ax);(try have hy12_:=of_eq_true Ay);(try have hy13_:=of_eq_true Ba);(try simp only [ByteArray.size_append,ByteArray.size_extract]at hz_);omega)|(have hz_:=Ec;(try have hy9_:=of_eq_true c9b0);(try have hy10_:=of_eq_true c10b0);(try have hy11_:=of_eq_true Ax);(try have hy12_:=of_eq_true Ay);(try have hy13_:=of_eq_true Ba);(try have hy14_:=of_eq_true c14b0);(try have hy15_:=of_eq_true Bs);(try simp only [ByteArray.size_append,ByteArray.size_extract]at hz_);omega)|(have hz_:=Ed;(try have hy10_:=of_eq_true c10b0);(try have hy11_:=of_eq_true Ax);(try have hy12_:=of_eq_true Ay);(try have hy13_:=of_eq_true Ba);(try have hy14_:=of_eq_true c14b0);(try have hy15_:=of_eq_true Bs);(try have hy16_:=of_eq_true Ch);(try simp only [ByteArray.size_append,ByteArray.size_extract]at hz_);omega)|(have hz_:=Ee;(try have hy35_:=of_eq_true c35b0);(try have hy36_:=of_eq_true Bt);(try have hy37_:=of_eq_true Ca);(try have hy38_:=of_eq_true c38b0);(try have hy39_:=of_eq_true Bu);(try have hy40_:=of_eq_true c40b0);(try have hy41_:=of_eq_true Bb);(try simp only [ByteArray.size_append,ByteArray.size_extract]at hz_);omega)|(have hz_:=Ef;(try have hy39_:=of_eq_true Bu);(try have hy40_:=of_eq_true c40b0);(try have hy41_:=of_eq_true Bb);(try have hy42_:=of_eq_true c42b0);(try have hy43_:=of_eq_true Bc);(try have hy44_:=of_eq_true Bd);(try have hy45_:=of_eq_true Be);(try simp only [ByteArray.size_append,ByteArray.size_extract]at hz_);omega)|(have hz_:=Eg;(try have hy40_:=of_eq_true c40b0);(try have hy41_:=of_eq_true Bb);(try have hy42_:=of_eq_true c42b0);(try have hy43_:=of_eq_true Bc);(try have hy44_:=of_eq_true Bd);(try have hy45_:=of_eq_true Be);(try have hy46_:=of_eq_true Bv);(try simp only [ByteArray.size_append,ByteArray.size_extract]at hz_);omega)|(have hz_:=Eh;(try have hy43_:=of_eq_true Bc);(try have hy44_:=of_eq_true Bd);(try have hy45_:=of_eq_true Be);(try have hy46_:=of_eq_true Bv);(try have hy47_:=of_eq_true Ck);(try have hy48_:=of_eq_true c48b0);(try have hy49_:=of_eq_true Cl);(try simp only [ByteArray.size_append,ByteArray.size_extract]at hz_);omega)
        refine hK.out _ _ ⟨Ah,adz_v490,m11_,(by rw [ha.out];exact putSel_upk 10 hb_ rfl rfl rfl),Q_BK483,Q_BK485,Q_HB,Q_HO491,Q_HA_HO491,Q_X11_⟩
       refine steps_cons ?_ ?_
       ·rintro b a w' ⟨Ah,adz_v490,m11_,ha,Q_BK483,Q_BK485,Q_HB,Q_HO491,Q_HA_HO491,Q_X11_⟩ hb_ hon hoff
        refine⟨_,rfl,fun K hK=>?_⟩
        have Ko:a.tmps[49]?=some (.string ((As ++ (⟨#[32]⟩:ByteArray)) ++ (rdOf ByteArray.empty Ar (Ap)))):=by rw [ha];exact putSel_on (e:=(13,49,.string ((As ++ (⟨#[32]⟩:ByteArray)) ++ (rdOf ByteArray.empty Ar (Ap))))) 10 rfl rfl (hon 13 (by kernel_rfl)) rfl
        replace ha:=y0.mk ha
        have Ab:=y0.mk Q_BK483
        have Ac:=y0.mk Q_BK485
        have HB:=y0.mk Q_HB
        have Bo:=y0.mk (Q_HO491 (hon 7 (by kernel_rfl)))
        have HA_HO491:=y0.mk (Q_HA_HO491 (hon 7 (by kernel_rfl)))
        refine value_ (w1:=w') (v:=.string (((As ++ (⟨#[32]⟩:ByteArray)) ++ (rdOf ByteArray.empty Ar (Ap))) ++ (⟨#[32]⟩:ByteArray))) (by rfl) rfl ?_ ?_
        ·go_simp
         (try simp only [i64_w])
         try first|rfl|(have hz_:=Eb;(try have hy7_:=of_eq_true c7b0);(try have hy8_:=of_eq_true c8b0);(try have hy9_:=of_eq_true c9b0);(try have hy10_:=of_eq_true c10b0);(try have hy11_:=of_eq_true Ax);(try have hy12_:=of_eq_true Ay);(try have hy13_:=of_eq_true Ba);(try simp only [ByteArray.size_append,ByteArray.size_extract]at hz_);omega)|(have hz_:=Ec;(try have hy9_:=of_eq_true c9b0);(try have hy10_:=of_eq_true c10b0);(try have hy11_:=of_eq_true Ax);(try have hy12_:=of_eq_true Ay);(try have hy13_:=of_eq_true Ba);(try have hy14_:=of_eq_true c14b0);(try have hy15_:=of_eq_true Bs);(try simp only [ByteArray.size_append,ByteArray.size_extract]at hz_);omega)|(have hz_:=Ed;(try have hy10_:=of_eq_true c10b0);(try have hy11_:=of_eq_true Ax);(try have hy12_:=of_eq_true Ay);(try have hy13_:=of_eq_true Ba);(try have hy14_:=of_eq_true c14b0);(try have hy15_:=of_eq_true Bs);(try have hy16_:=of_eq_true Ch);(try simp only [ByteArray.size_append,ByteArray.size_extract]at hz_);omega)|(have hz_:=Ee;(try have hy35_:=of_eq_true c35b0);(try have hy36_:=of_eq_true Bt);(try have hy37_:=of_eq_true Ca);(try have hy38_:=of_eq_true c38b0);(try have hy39_:=of_eq_true Bu);(try have hy40_:=of_eq_true c40b0);(try have hy41_:=of_eq_true Bb);(try simp only [ByteArray.size_append,ByteArray.size_extract]at hz_);omega)|(have hz_:=Ef;(try have hy39_:=of_eq_true Bu);(try have hy40_:=of_eq_true c40b0);(try have hy41_:=of_eq_true Bb);(try have hy42_:=of_eq_true c42b0);(try have hy43_:=of_eq_true Bc);(try have hy44_:=of_eq_true Bd);(try have hy45_:=of_eq_true Be);(try simp only [ByteArray.size_append,ByteArray.size_extract]at hz_);omega)|(have hz_:=Eg;(try have hy40_:=of_eq_true c40b0);(try have hy41_:=of_eq_true Bb);(try have hy42_:=of_eq_true c42b0);(try have hy43_:=of_eq_true Bc);(try have hy44_:=of_eq_true Bd);(try have hy45_:=of_eq_true Be);(try have hy46_:=of_eq_true Bv);(try simp only [ByteArray.size_append,ByteArray.size_extract]at hz_);omega)|(have hz_:=Eh;(try have hy43_:=of_eq_true Bc);(try have hy44_:=of_eq_true Bd);(try have hy45_:=of_eq_true Be);(try have hy46_:=of_eq_true Bv);(try have hy47_:=of_eq_true Ck);(try have hy48_:=of_eq_true c48b0);(try have hy49_:=of_eq_true Cl);(try simp only [ByteArray.size_append,ByteArray.size_extract]at hz_);omega)
        refine hK.out _ _ ⟨Ah,adz_v490,m11_,(by rw [ha.out];exact putSel_upk 11 hb_ rfl rfl rfl),Q_BK483,Q_BK485,Q_HB,Q_HO491,Q_HA_HO491,Q_X11_⟩
       refine steps_cons ?_ ?_
       ·rintro b a w' ⟨Ah,adz_v490,m11_,ha,Q_BK483,Q_BK485,Q_HB,Q_HO491,Q_HA_HO491,Q_X11_⟩ hb_ hon hoff
        refine⟨_,rfl,fun K hK=>?_⟩
        have Kp:a.tmps[52]?=some (.pointer (some ⟨Af,2,none⟩)):=by rw [ha];exact(putSel_off rfl).trans rfl
        replace ha:=y0.mk ha
        have Ab:=y0.mk Q_BK483
        have Ac:=y0.mk Q_BK485
        have HB:=y0.mk Q_HB
        have hc0_:w'.cell? ⟨Af,0,none⟩=some (.int .i64 ((y19 Aa a1).f0)):=(y7 Ac.out 0).trans rfl
        have hc1_:w'.cell? ⟨Af,1,none⟩=some (.string ((y19 Aa a1).f1)):=(y7 Ac.out 1).trans rfl
        have hc2_:w'.cell? ⟨Af,2,none⟩=some (.slice (some Am) ((y19 Aa a1).f2).length Ag):=(y7 Ac.out 2).trans rfl
        refine value_ (w1:=w') (v:=.slice (some Am) ((y19 Aa a1).f2).length Ag) (by rfl) rfl ?_ ?_
        ·go_simp
         (try simp only [i64_w])
         try rfl
        refine hK.out _ _ ⟨Ah,adz_v490,m11_,(by rw [ha.out];exact putSel_upk 12 hb_ rfl rfl rfl),Q_BK483,Q_BK485,Q_HB,Q_HO491,Q_HA_HO491,Q_X11_⟩
       refine steps_cons ?_ ?_
       ·rintro b a w' ⟨Ah,adz_v490,m11_,ha,Q_BK483,Q_BK485,Q_HB,Q_HO491,Q_HA_HO491,Q_X11_⟩ hb_ hon hoff
        refine⟨_,rfl,fun K hK=>?_⟩
        have Kq:a.tmps[53]?=some (.slice (some Am) ((y19 Aa a1).f2).length Ag):=by rw [ha];exact putSel_on (e:=(17,53,.slice (some Am) ((y19 Aa a1).f2).length Ag)) 12 rfl rfl (hon 17 (by kernel_rfl)) rfl
        replace ha:=y0.mk ha
        have Ab:=y0.mk Q_BK483
        have Ac:=y0.mk Q_BK485
        have HB:=y0.mk Q_HB
        have hs1_:w'.cell? ⟨Am.block,Am.off + 1,none⟩=some (.int .i64 (rd ((y19 Aa a1).f2) 1)):=(qC Bm HB)
        refine value_ (w1:=w') (v:=.pointer (some (Am.add 1))) (by rfl) rfl ?_ ?_
        ·go_simp
         (try simp only [i64_w])
         try rfl
        refine hK.out _ _ ⟨Ah,adz_v490,m11_,(by rw [ha.out];exact putSel_upk 13 hb_ rfl rfl rfl),Q_BK483,Q_BK485,Q_HB,Q_HO491,Q_HA_HO491,Q_X11_⟩
       refine steps_cons ?_ ?_
       ·rintro b a w' ⟨Ah,adz_v490,m11_,ha,Q_BK483,Q_BK485,Q_HB,Q_HO491,Q_HA_HO491,Q_X11_⟩ hb_ hon hoff
        refine⟨_,rfl,fun K hK=>?_⟩
        have Kr:a.tmps[54]?=some (.pointer (some (Am.add 1))):=by rw [ha];exact putSel_on (e:=(18,54,.pointer (some (Am.add 1)))) 13 rfl rfl (hon 18 (by kernel_rfl)) rfl
        replace ha:=y0.mk ha
        have Ab:=y0.mk Q_BK483
        have Ac:=y0.mk Q_BK485
        have HB:=y0.mk Q_HB
        have hs1_:w'.cell? ⟨Am.block,Am.off + 1,none⟩=some (.int .i64 (rd ((y19 Aa a1).f2) 1)):=(qC Bm HB)
        refine value_ (w1:=w') (v:=.int .i64 (rd ((y19 Aa a1).f2) 1)) (by rfl) rfl ?_ ?_
        ·go_simp
         (try simp only [i64_w])
         try rfl
        refine hK.out _ _ ⟨Ah,adz_v490,m11_,(by rw [ha.out];exact putSel_upk 14 hb_ rfl rfl rfl),Q_BK483,Q_BK485,Q_HB,Q_HO491,Q_HA_HO491,Q_X11_⟩
       refine steps_cons ?_ ?_
       ·rintro b a w' ⟨Ah,adz_v490,m11_,ha,Q_BK483,Q_BK485,Q_HB,Q_HO491,Q_HA_HO491,Q_X11_⟩ hb_ hon hoff
        refine⟨_,rfl,fun K hK=>?_⟩
        have Je:a.tmps[51]?=some (.func (.func 93) #[] #[.pointer (some ⟨Au,0,none⟩)]):=by rw [ha];exact(putSel_off rfl).trans rfl
        have Jf:a.tmps[55]?=some (.int .i64 (rd ((y19 Aa a1).f2) 1)):=by rw [ha];exact putSel_on (e:=(19,55,.int .i64 (rd ((y19 Aa a1).f2) 1))) 14 rfl rfl (hon 19 (by kernel_rfl)) rfl
        replace ha:=y0.mk ha
        have Ab:=y0.mk Q_BK483
        have Ac:=y0.mk Q_BK485
        have HB:=y0.mk Q_HB
        refine goesC_ Try.func93 (by kernel_rfl) rfl #[.int .i64 (rd ((y19 Aa a1).f2) 1),.pointer (some ⟨Au,0,none⟩)] #[.pointer (some ⟨Au,0,none⟩)] (by rfl) rfl rfl (by first|(simp only [qM_,List.map_cons,List.map_nil,Act.eval,Array.getD_eq_getD_getElem?,Option.getD_some,Je,Jf];done)|(simp only [qM_,List.map_cons,List.map_nil,Act.eval,Array.getD_eq_getD_getElem?,Option.getD_some,Je,Jf];rfl)) ?_
        with_reducible refine(ih_impl_Rule_expText_1 Ds (by have:=Fa.out;omega) (rd ((y19 Aa a1).f2) 1) _ _ Aa Bf Bg _ _ Bh _ _ Bi Au Bn _ (qc (Kd.C_below Bz.out HB.out)) Cp.out (qc (Kd.C_below Cq.out HB.out)) Cr.out (qc (Kd.C_below Cs.out HB.out)) Ct.out (by(with_reducible repeat(first|refine y9 ?_ _|refine y8 ?_|refine y5 ?_ _));exact Ab.out) Jp.out).mono ?_
        rintro e Jt ⟨rfl,hb⟩
        refine⟨_,rfl, ?_⟩
        have n0_:=y0.mk (qK Ab.out hb)
        have n1_:=y0.mk (qK Ac.out hb)
        have n2_:=y0.mk (y4 qb hb)
        have z_HO491:=fun(h0_:b 7=true)=>(show Kd.R Kd.string 9 Jt w.heap.size (fun _=>True) Ah Ar from by first|exact(Kd.R_below (qR ((Q_HO491 h0_))) hb)|exact Kd.R_mono (Kd.R_below (qR ((Q_HO491 h0_))) hb) (fun _ h_=>by first|trivial|exact h_|exact h_.1))
        clear Ab
        clear Ac
        clear HB
        have Ab:=n0_
        have Ac:=n1_
        have HB:=n2_
        clear n0_ n1_ n2_
        (try clear hb)
        refine hK.out _ _ ⟨Ah,adz_v490,m11_,(by rw [ha.out];exact putSel_upk 15 hb_ rfl rfl rfl),(qk Ab.out),(qk Ac.out),qb,z_HO491,Q_HA_HO491,Q_X11_⟩
       refine steps_cons ?_ ?_
       ·rintro b a w' ⟨Ah,adz_v490,m11_,ha,Q_BK483,Q_BK485,Q_HB,Q_HO491,Q_HA_HO491,Q_X11_⟩ hb_ hon hoff
        refine⟨_,rfl,fun K hK=>?_⟩
        have Ks:a.tmps[50]?=some (.string (((As ++ (⟨#[32]⟩:ByteArray)) ++ (rdOf ByteArray.empty Ar (Ap))) ++ (⟨#[32]⟩:ByteArray))):=by rw [ha];exact putSel_on (e:=(14,50,.string (((As ++ (⟨#[32]⟩:ByteArray)) ++ (rdOf ByteArray.empty Ar (Ap))) ++ (⟨#[32]⟩:ByteArray)))) 11 rfl rfl (hon 14 (by kernel_rfl)) rfl
        have Kt:a.tmps[56]?=some (.string Bn):=by rw [ha];exact putSel_on (e:=(20,56,.string Bn)) 15 rfl rfl (hon 20 (by kernel_rfl)) rfl
        replace ha:=y0.mk ha
        have Ab:=y0.mk Q_BK483
        have Ac:=y0.mk Q_BK485
        have HB:=y0.mk Q_HB
        have Bo:=y0.mk (Q_HO491 (hon 7 (by kernel_rfl)))
        have HA_HO491:=y0.mk (Q_HA_HO491 (hon 7 (by kernel_rfl)))
        refine value_ (w1:=w') (v:=.string ((((As ++ (⟨#[32]⟩:ByteArray)) ++ (rdOf ByteArray.empty Ar (Ap))) ++ (⟨#[32]⟩:ByteArray)) ++ Bn)) (by rfl) rfl ?_ ?_
        ·go_simp
         (try simp only [i64_w])
         try first|rfl|(have hz_:=Eb;(try have hy7_:=of_eq_true c7b0);(try have hy8_:=of_eq_true c8b0);(try have hy9_:=of_eq_true c9b0);(try have hy10_:=of_eq_true c10b0);(try have hy11_:=of_eq_true Ax);(try have hy12_:=of_eq_true Ay);(try have hy13_:=of_eq_true Ba);(try simp only [ByteArray.size_append,ByteArray.size_extract]at hz_);omega)|(have hz_:=Ec;(try have hy9_:=of_eq_true c9b0);(try have hy10_:=of_eq_true c10b0);(try have hy11_:=of_eq_true Ax);(try have hy12_:=of_eq_true Ay);(try have hy13_:=of_eq_true Ba);(try have hy14_:=of_eq_true c14b0);(try have hy15_:=of_eq_true Bs);(try simp only [ByteArray.size_append,ByteArray.size_extract]at hz_);omega)|(have hz_:=Ed;(try have hy10_:=of_eq_true c10b0);(try have hy11_:=of_eq_true Ax);(try have hy12_:=of_eq_true Ay);(try have hy13_:=of_eq_true Ba);(try have hy14_:=of_eq_true c14b0);(try have hy15_:=of_eq_true Bs);(try have hy16_:=of_eq_true Ch);(try simp only [ByteArray.size_append,ByteArray.size_extract]at hz_);omega)|(have hz_:=Ee;(try have hy35_:=of_eq_true c35b0);(try have hy36_:=of_eq_true Bt);(try have hy37_:=of_eq_true Ca);(try have hy38_:=of_eq_true c38b0);(try have hy39_:=of_eq_true Bu);(try have hy40_:=of_eq_true c40b0);(try have hy41_:=of_eq_true Bb);(try simp only [ByteArray.size_append,ByteArray.size_extract]at hz_);omega)|(have hz_:=Ef;(try have hy39_:=of_eq_true Bu);(try have hy40_:=of_eq_true c40b0);(try have hy41_:=of_eq_true Bb);(try have hy42_:=of_eq_true c42b0);(try have hy43_:=of_eq_true Bc);(try have hy44_:=of_eq_true Bd);(try have hy45_:=of_eq_true Be);(try simp only [ByteArray.size_append,ByteArray.size_extract]at hz_);omega)|(have hz_:=Eg;(try have hy40_:=of_eq_true c40b0);(try have hy41_:=of_eq_true Bb);(try have hy42_:=of_eq_true c42b0);(try have hy43_:=of_eq_true Bc);(try have hy44_:=of_eq_true Bd);(try have hy45_:=of_eq_true Be);(try have hy46_:=of_eq_true Bv);(try simp only [ByteArray.size_append,ByteArray.size_extract]at hz_);omega)|(have hz_:=Eh;(try have hy43_:=of_eq_true Bc);(try have hy44_:=of_eq_true Bd);(try have hy45_:=of_eq_true Be);(try have hy46_:=of_eq_true Bv);(try have hy47_:=of_eq_true Ck);(try have hy48_:=of_eq_true c48b0);(try have hy49_:=of_eq_true Cl);(try simp only [ByteArray.size_append,ByteArray.size_extract]at hz_);omega)
        refine hK.out _ _ ⟨Ah,adz_v490,m11_,(by rw [ha.out];exact putSel_upk 16 hb_ rfl rfl rfl),Q_BK483,Q_BK485,Q_HB,Q_HO491,Q_HA_HO491,Q_X11_⟩
       refine steps_cons ?_ ?_
       ·rintro b a w' ⟨Ah,adz_v490,m11_,ha,Q_BK483,Q_BK485,Q_HB,Q_HO491,Q_HA_HO491,Q_X11_⟩ hb_ hon hoff
        refine⟨_,rfl,fun K hK=>?_⟩
        have Ku:a.tmps[57]?=some (.string ((((As ++ (⟨#[32]⟩:ByteArray)) ++ (rdOf ByteArray.empty Ar (Ap))) ++ (⟨#[32]⟩:ByteArray)) ++ Bn)):=by rw [ha];exact putSel_on (e:=(21,57,.string ((((As ++ (⟨#[32]⟩:ByteArray)) ++ (rdOf ByteArray.empty Ar (Ap))) ++ (⟨#[32]⟩:ByteArray)) ++ Bn))) 16 rfl rfl (hon 21 (by kernel_rfl)) rfl
        replace ha:=y0.mk ha
        have Ab:=y0.mk Q_BK483
        have Ac:=y0.mk Q_BK485
        have HB:=y0.mk Q_HB
        have Bo:=y0.mk (Q_HO491 (hon 7 (by kernel_rfl)))
        have HA_HO491:=y0.mk (Q_HA_HO491 (hon 7 (by kernel_rfl)))
        refine value_ (w1:=w') (v:=.string ((((As ++ (⟨#[32]⟩:ByteArray)) ++ (rdOf ByteArray.empty Ar (Ap))) ++ (⟨#[32]⟩:ByteArray)) ++ Bn)) (by rfl) rfl ?_ ?_
        ·go_simp
         (try simp only [i64_w])
         try first|rfl|(have hz_:=Eb;(try have hy7_:=of_eq_true c7b0);(try have hy8_:=of_eq_true c8b0);(try have hy9_:=of_eq_true c9b0);(try have hy10_:=of_eq_true c10b0);(try have hy11_:=of_eq_true Ax);(try have hy12_:=of_eq_true Ay);(try have hy13_:=of_eq_true Ba);(try simp only [ByteArray.size_append,ByteArray.size_extract]at hz_);omega)|(have hz_:=Ec;(try have hy9_:=of_eq_true c9b0);(try have hy10_:=of_eq_true c10b0);(try have hy11_:=of_eq_true Ax);(try have hy12_:=of_eq_true Ay);(try have hy13_:=of_eq_true Ba);(try have hy14_:=of_eq_true c14b0);(try have hy15_:=of_eq_true Bs);(try simp only [ByteArray.size_append,ByteArray.size_extract]at hz_);omega)|(have hz_:=Ed;(try have hy10_:=of_eq_true c10b0);(try have hy11_:=of_eq_true Ax);(try have hy12_:=of_eq_true Ay);(try have hy13_:=of_eq_true Ba);(try have hy14_:=of_eq_true c14b0);(try have hy15_:=of_eq_true Bs);(try have hy16_:=of_eq_true Ch);(try simp only [ByteArray.size_append,ByteArray.size_extract]at hz_);omega)|(have hz_:=Ee;(try have hy35_:=of_eq_true c35b0);(try have hy36_:=of_eq_true Bt);(try have hy37_:=of_eq_true Ca);(try have hy38_:=of_eq_true c38b0);(try have hy39_:=of_eq_true Bu);(try have hy40_:=of_eq_true c40b0);(try have hy41_:=of_eq_true Bb);(try simp only [ByteArray.size_append,ByteArray.size_extract]at hz_);omega)|(have hz_:=Ef;(try have hy39_:=of_eq_true Bu);(try have hy40_:=of_eq_true c40b0);(try have hy41_:=of_eq_true Bb);(try have hy42_:=of_eq_true c42b0);(try have hy43_:=of_eq_true Bc);(try have hy44_:=of_eq_true Bd);(try have hy45_:=of_eq_true Be);(try simp only [ByteArray.size_append,ByteArray.size_extract]at hz_);omega)|(have hz_:=Eg;(try have hy40_:=of_eq_true c40b0);(try have hy41_:=of_eq_true Bb);(try have hy42_:=of_eq_true c42b0);(try have hy43_:=of_eq_true Bc);(try have hy44_:=of_eq_true Bd);(try have hy45_:=of_eq_true Be);(try have hy46_:=of_eq_true Bv);(try simp only [ByteArray.size_append,ByteArray.size_extract]at hz_);omega)|(have hz_:=Eh;(try have hy43_:=of_eq_true Bc);(try have hy44_:=of_eq_true Bd);(try have hy45_:=of_eq_true Be);(try have hy46_:=of_eq_true Bv);(try have hy47_:=of_eq_true Ck);(try have hy48_:=of_eq_true c48b0);(try have hy49_:=of_eq_true Cl);(try simp only [ByteArray.size_append,ByteArray.size_extract]at hz_);omega)
        refine hK.out _ _ ⟨Ah,adz_v490,m11_,(by rw [ha.out];exact putSel_upk 17 hb_ rfl rfl rfl),Q_BK483,Q_BK485,Q_HB,Q_HO491,Q_HA_HO491,Q_X11_⟩
       exact steps_nil
      rintro b a Kv hall ⟨Ah,adz_v490,m11_,ha,Q_BK483,Q_BK485,Q_HB,Q_HO491,Q_HA_HO491,Q_X11_⟩
      clear Ab Ac HB
      have hb2_:=hall 2 (by kernel_rfl)
      have hb3_:=hall 3 (by kernel_rfl)
      have hb4_:=hall 4 (by kernel_rfl)
      have hb5_:=hall 5 (by kernel_rfl)
      have hb6_:=hall 6 (by kernel_rfl)
      have hb7_:=hall 7 (by kernel_rfl)
      have hb9_:=hall 9 (by kernel_rfl)
      have hb10_:=hall 10 (by kernel_rfl)
      have hb11_:=hall 11 (by kernel_rfl)
      have hb12_:=hall 12 (by kernel_rfl)
      have hb13_:=hall 13 (by kernel_rfl)
      have hb14_:=hall 14 (by kernel_rfl)
      have hb17_:=hall 17 (by kernel_rfl)
      have hb18_:=hall 18 (by kernel_rfl)
      have hb19_:=hall 19 (by kernel_rfl)
      have hb20_:=hall 20 (by kernel_rfl)
      have hb21_:=hall 21 (by kernel_rfl)
      have hb22_:=hall 22 (by kernel_rfl)
      subst ha
      obtain rfl:=Q_X11_ hb11_
      simp only [putSel,hb2_,hb3_,hb4_,hb5_,hb6_,hb7_,hb9_,hb10_,hb11_,hb12_,hb13_,hb14_,hb17_,hb18_,hb19_,hb20_,hb21_,hb22_,if_true,Act.put,qS_,qZ_,qC_]
      have Ab:=y0.mk Q_BK483
      clear Q_BK483
      have Ac:=y0.mk Q_BK485
      clear Q_BK485
      have HB:=y0.mk Q_HB
      clear Q_HB
      have Bo:=y0.mk (Q_HO491 hb7_)
      clear Q_HO491
      have HA_HO491:=y0.mk (Q_HA_HO491 hb7_)
      clear Q_HA_HO491
      clear hall hb2_ hb3_ hb4_ hb5_ hb6_ hb7_ hb9_ hb10_ hb11_ hb12_ hb13_ hb14_ hb17_ hb18_ hb19_ hb20_ hb21_ hb22_
      obtain⟨Ju,Hv⟩:=HA_HO491.out
      clear HA_HO491
      subst Hv
      try go_wp2
      go_ret
      exact⟨by first|rfl|(simp [y12,y13] <;> rfl)|(simp only [← Cj];first|rfl|(simp [y12,y13] <;> rfl))|(simp [*,y12,y13] <;> rfl),qb⟩
     ·replace Gw:=Bool.eq_false_iff.mpr Gw
      subst Gw
      replace H:=qF H
      obtain rfl:=Option.some.inj H
      have Jg:=At.out
      have Jh:=Ad.out
      obtain⟨Gx,Gz,Ha,Hb,Hc,Hd⟩:=qz3 Ac.out
      go_wp2
      go_ret
      exact⟨qf,qb⟩
theorem z1_.all.Stm:∀ k,z1_.Stm k∧impl_Rule_expText_1.Stm k∧z0_.Stm k:=by
 intro k
 induction k using Nat.strongRecOn with
 | _ k ih =>
 exact⟨z1_.step k (fun m h=>(ih m h).1) (fun m h=>(ih m h).2.1) (fun m h=>(ih m h).2.2),impl_Rule_expText_1.step k (fun m h=>(ih m h).1) (fun m h=>(ih m h).2.1) (fun m h=>(ih m h).2.2),z0_.step k (fun m h=>(ih m h).1) (fun m h=>(ih m h).2.1) (fun m h=>(ih m h).2.2)⟩
theorem z1_.calls (k:Nat):∀(A0_0:Option Addr) (c0_0:Nat) (l0_0:List (S63)) (a0_1:Int) (a0_2:ByteArray) (A0_3:Option Addr) (c0_3:Nat) (l0_3:List Int) (A0_4:Option Addr) (c0_4:Nat) (l0_4:List (S33)) (A1:Option Addr) (c1:Nat) (l1:List Int) (r:ByteArray) (w:World) (hr0_0:Kd.C k63 w A0_0 l0_0.length l0_0) (hc0_0:l0_0.length≤c0_0) (hr0_3:Kd.C (Kd.int .i64) w A0_3 l0_3.length l0_3) (hc0_3:l0_3.length≤c0_3) (hr0_4:Kd.C k33 w A0_4 l0_4.length l0_4) (hc0_4:l0_4.length≤c0_4) (hr1:Kd.C (Kd.int .i64) w A1 l1.length l1) (hc1:l1.length≤c1) (h:z1_.f k l0_0 a0_1 a0_2 l0_3 l0_4 l1=some r),
  Calls Try.prog 84 #[.agg #[.slice A0_0 l0_0.length c0_0,.int .i64 a0_1,.string a0_2,.slice A0_3 l0_3.length c0_3,.slice A0_4 l0_4.length c0_4],.slice A1 l1.length c1] w fun e w'=>e=.returned (.string r)∧Below w.heap.size w w':=(z1_.all.Stm k).1
theorem z0_.calls (k:Nat):∀(A0_0:Option Addr) (c0_0:Nat) (l0_0:List (S63)) (a0_1:Int) (a0_2:ByteArray) (A0_3:Option Addr) (c0_3:Nat) (l0_3:List Int) (A0_4:Option Addr) (c0_4:Nat) (l0_4:List (S33)) (a1:Int) (r:ByteArray) (w:World) (hr0_0:Kd.C k63 w A0_0 l0_0.length l0_0) (hc0_0:l0_0.length≤c0_0) (hr0_3:Kd.C (Kd.int .i64) w A0_3 l0_3.length l0_3) (hc0_3:l0_3.length≤c0_3) (hr0_4:Kd.C k33 w A0_4 l0_4.length l0_4) (hc0_4:l0_4.length≤c0_4) (h:z0_.f k l0_0 a0_1 a0_2 l0_3 l0_4 a1=some r),
  Calls Try.prog 83 #[.agg #[.slice A0_0 l0_0.length c0_0,.int .i64 a0_1,.string a0_2,.slice A0_3 l0_3.length c0_3,.slice A0_4 l0_4.length c0_4],.int .i64 a1] w fun e w'=>e=.returned (.string r)∧Below w.heap.size w w':=(z1_.all.Stm k).2.2
end Go.Proofs.Ytkdabljlfbmpdaa.Pw

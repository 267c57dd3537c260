-- Cut by prune.py.
import Derived.Test.YtimhlficlhafbaaGreatDoorVvlPvx15
set_option maxHeartbeats 8000000
set_option maxRecDepth 100000
namespace Go.Proofs.YtimhlficlhafbaaGreatDoor.Pv
open RowKit YtimhlficlhafbaaGreatDoorW.PrintWords YtimhlficlhafbaaGreatDoorW.PrintLast YtimhlficlhafbaaGreatDoorW.PrintMore
set_option linter.unusedVariables false
set_option linter.unusedSimpArgs false
mutual
def z1_.l0:Nat→List ByteArray→List Int→Int→Int→List (S67)→Int→ByteArray→List Int→List (S35)→Option (ByteArray)
 | 0,_,_,_,_,_,_,_,_,_=>none
 | k + 1,x5,x9,An,Ae,Ao,By,Dd,De,Dz=>if Ae < An then(if 0≤Ae then(if Ae < (x9.length:Int)then((z0_.f k Ao By Dd De Dz (rd x9 Ae)).bind fun Ea=>(if x5.length < 8796093022208 then(z1_.l0 k (x5 ++ [Ea]) x9 An (wrap64 (Ae + 1)) Ao By Dd De Dz)else(none)))else(none))else(none))else((strings_Join.f x5 (⟨#[44,32]⟩:ByteArray)).bind fun Ec=>(some Ec))
def z1_.f:Nat→List (S67)→Int→ByteArray→List Int→List (S35)→List Int→Option (ByteArray)
 | 0,_,_,_,_,_,_=>none
 | k + 1,Ae,An,Ao,By,Dd,l1=>z1_.l0 k (([]:List ByteArray)) l1 (l1.length:Int) 0 Ae An Ao By Dd
def impl_Rule_expText_1.f:Nat→Int→List (S67)→Int→ByteArray→List Int→List (S35)→Option (ByteArray)
 | 0,_,_,_,_,_,_=>none
 | k + 1,a0,Ae,Ao,By,Dd,De=>if 0≤a0 then(if a0 < (Ae.length:Int)then((impl_isSum.f ((y23 Ae a0).f0)).bind fun Dz=>(if Dz=true then((z0_.f k Ae Ao By Dd De a0).bind fun An=>(if 1 + An.size≤9223372036854775807 then(if((⟨#[40]⟩:ByteArray) ++ An).size + 1≤9223372036854775807 then(some (((⟨#[40]⟩:ByteArray) ++ An) ++ (⟨#[41]⟩:ByteArray)))else(none))else(none)))else((z0_.f k Ae Ao By Dd De a0).bind fun Ea=>(some Ea))))else(none))else(none)
def z0_.j0:Nat→Bool→List (S67)→Int→ByteArray→List Int→List (S35)→Int→ByteArray→List Int→Option (ByteArray)
 | 0,_,_,_,_,_,_,_,_,_=>none
 | k + 1,Ee,By,Dd,De,Dz,Ea,Ae,Em,Ao=>if Ee=true then(if 0 < (Ao.length:Int)then((impl_Rule_expText_1.f k (rd Ao 0) By Dd De Dz Ea).bind fun An=>(if An.size + 1≤9223372036854775807 then((some (([(⟨#[43]⟩:ByteArray),(⟨#[45]⟩:ByteArray),(⟨#[42]⟩:ByteArray)]:List ByteArray):List ByteArray)).bind fun y423=>(if 0≤(wrap64 (Ae - 5))then(if(wrap64 (Ae - 5)) < (y423.length:Int)then(if(An ++ (⟨#[32]⟩:ByteArray)).size + (rdOf ByteArray.empty y423 (wrap64 (Ae - 5))).size≤9223372036854775807 then(if((An ++ (⟨#[32]⟩:ByteArray)) ++ (rdOf ByteArray.empty y423 (wrap64 (Ae - 5)))).size + 1≤9223372036854775807 then(if 1 < (Ao.length:Int)then((impl_Rule_expText_1.f k (rd Ao 1) By Dd De Dz Ea).bind fun Ec=>(if(((An ++ (⟨#[32]⟩:ByteArray)) ++ (rdOf ByteArray.empty y423 (wrap64 (Ae - 5)))) ++ (⟨#[32]⟩:ByteArray)).size + Ec.size≤9223372036854775807 then(some ((((An ++ (⟨#[32]⟩:ByteArray)) ++ (rdOf ByteArray.empty y423 (wrap64 (Ae - 5)))) ++ (⟨#[32]⟩:ByteArray)) ++ Ec))else(none)))else(none))else(none))else(none))else(none))else(none)))else(none)))else(none))else(some Em)
def z0_.f:Nat→List (S67)→Int→ByteArray→List Int→List (S35)→Int→Option (ByteArray)
 | 0,_,_,_,_,_,_=>none
 | k + 1,Ae,An,Ao,By,Dd,a1=>if 0≤a1 then(if a1 < (Ae.length:Int)then(if((y23 Ae a1).f0)=2 then(some (⟨#[95]⟩:ByteArray))else(if((y23 Ae a1).f0)=4 then(if(((y23 Ae a1).f2).length:Int) > 0 then(if((y23 Ae a1).f1).size + 1≤9223372036854775807 then((z1_.f k Ae An Ao By Dd ((y23 Ae a1).f2)).bind fun De=>(if(((y23 Ae a1).f1) ++ (⟨#[40]⟩:ByteArray)).size + De.size≤9223372036854775807 then(if((((y23 Ae a1).f1) ++ (⟨#[40]⟩:ByteArray)) ++ De).size + 1≤9223372036854775807 then(some (((((y23 Ae a1).f1) ++ (⟨#[40]⟩:ByteArray)) ++ De) ++ (⟨#[41]⟩:ByteArray)))else(none))else(none)))else(none))else(some ((y23 Ae a1).f1)))else(if((y23 Ae a1).f0)=5 then(z0_.j0 k (((y23 Ae a1).f0) == 5) Ae An Ao By Dd ((y23 Ae a1).f0) ((y23 Ae a1).f1) ((y23 Ae a1).f2))else(if((y23 Ae a1).f0)=6 then(z0_.j0 k (((y23 Ae a1).f0) == 6) Ae An Ao By Dd ((y23 Ae a1).f0) ((y23 Ae a1).f1) ((y23 Ae a1).f2))else(z0_.j0 k (((y23 Ae a1).f0) == 7) Ae An Ao By Dd ((y23 Ae a1).f0) ((y23 Ae a1).f1) ((y23 Ae a1).f2))))))else(none))else(none)
end
abbrev z1_.Stm (k:Nat):Prop:=∀(A0_0:Option Addr) (c0_0:Nat) (l0_0:List (S67)) (a0_1:Int) (a0_2:ByteArray) (A0_3:Option Addr) (c0_3:Nat) (l0_3:List Int) (A0_4:Option Addr) (c0_4:Nat) (l0_4:List (S35)) (A1:Option Addr) (c1:Nat) (l1:List Int) (r:ByteArray) (w:World) (hr0_0:Kd.C k67 w A0_0 l0_0.length l0_0) (hc0_0:l0_0.length≤c0_0) (hr0_3:Kd.C (Kd.int .i64) w A0_3 l0_3.length l0_3) (hc0_3:l0_3.length≤c0_3) (hr0_4:Kd.C k35 w A0_4 l0_4.length l0_4) (hc0_4:l0_4.length≤c0_4) (hr1:Kd.C (Kd.int .i64) w A1 l1.length l1) (hc1:l1.length≤c1) (h:z1_.f k l0_0 a0_1 a0_2 l0_3 l0_4 l1=some r),
  Calls Tryz.prog 70 #[.agg #[.slice A0_0 l0_0.length c0_0,.int .i64 a0_1,.string a0_2,.slice A0_3 l0_3.length c0_3,.slice A0_4 l0_4.length c0_4],.slice A1 l1.length c1] w fun e w'=>e=.returned (.string r)∧Below w.heap.size w w'
abbrev impl_Rule_expText_1.Stm (k:Nat):Prop:=∀(a0:Int) (A1_0:Option Addr) (c1_0:Nat) (l1_0:List (S67)) (a1_1:Int) (a1_2:ByteArray) (A1_3:Option Addr) (c1_3:Nat) (l1_3:List Int) (A1_4:Option Addr) (c1_4:Nat) (l1_4:List (S35)) (g1:Nat) (r:ByteArray) (w:World) (hr1_0:Kd.C k67 w A1_0 l1_0.length l1_0) (hc1_0:l1_0.length≤c1_0) (hr1_3:Kd.C (Kd.int .i64) w A1_3 l1_3.length l1_3) (hc1_3:l1_3.length≤c1_3) (hr1_4:Kd.C k35 w A1_4 l1_4.length l1_4) (hc1_4:l1_4.length≤c1_4) (hbx1:w.heap[g1]?=some (.cells #[.slice A1_0 l1_0.length c1_0,.int .i64 a1_1,.string a1_2,.slice A1_3 l1_3.length c1_3,.slice A1_4 l1_4.length c1_4] 38 (0,0))) (h:impl_Rule_expText_1.f k a0 l1_0 a1_1 a1_2 l1_3 l1_4=some r),
  Calls Tryz.prog 83 #[.int .i64 a0,.pointer (some ⟨g1,0,none⟩)] w fun e w'=>e=.returned (.string r)∧Below w.heap.size w w'
abbrev z0_.Stm (k:Nat):Prop:=∀(A0_0:Option Addr) (c0_0:Nat) (l0_0:List (S67)) (a0_1:Int) (a0_2:ByteArray) (A0_3:Option Addr) (c0_3:Nat) (l0_3:List Int) (A0_4:Option Addr) (c0_4:Nat) (l0_4:List (S35)) (a1:Int) (r:ByteArray) (w:World) (hr0_0:Kd.C k67 w A0_0 l0_0.length l0_0) (hc0_0:l0_0.length≤c0_0) (hr0_3:Kd.C (Kd.int .i64) w A0_3 l0_3.length l0_3) (hc0_3:l0_3.length≤c0_3) (hr0_4:Kd.C k35 w A0_4 l0_4.length l0_4) (hc0_4:l0_4.length≤c0_4) (h:z0_.f k l0_0 a0_1 a0_2 l0_3 l0_4 a1=some r),
  Calls Tryz.prog 69 #[.agg #[.slice A0_0 l0_0.length c0_0,.int .i64 a0_1,.string a0_2,.slice A0_3 l0_3.length c0_3,.slice A0_4 l0_4.length c0_4],.int .i64 a1] w fun e w'=>e=.returned (.string r)∧Below w.heap.size w w'
theorem z1_.step (k:Nat) (ih:∀ m,m < k→z1_.Stm m) (ih_impl_Rule_expText_1:∀ m,m < k→impl_Rule_expText_1.Stm m) (ih_impl_Rule_expText:∀ m,m < k→z0_.Stm m):z1_.Stm k:=by
 intro Ax Ay Af Ag Ah Az Ba Ai Bb Bc Aj A1 c1 l1 r w Aq Ar As At Au Av Cl Cm h
 cases k with
 | zero=>exact absurd h (by simp [z1_.f])
 | succ k =>
 simp only [z1_.f]at h
 have Cr:=Tryz.underlying38
 have Bf:=y0.mk Aq
 have Bg:=y0.mk Ar
 clear Aq Ar
 have Bh:=y0.mk As
 have Bi:=y0.mk At
 clear As At
 have Bj:=y0.mk Au
 have Bk:=y0.mk Av
 clear Au Av
 have Cs:=y0.mk Cl
 have Cz:=y0.mk Cm
 clear Cl Cm
 have HB:=y0.mk (Below.refl w.heap.size w)
 have H:(z1_.l0 k (([]:List ByteArray)) l1 (l1.length:Int) 0 Af Ag Ah Ai Aj)=some r:=h
 clear h
 obtain⟨Bl,Ak⟩:∃ y_:List ByteArray,y_=(([]:List ByteArray)):=⟨_,rfl⟩
 replace H:(z1_.l0 k Bl l1 (l1.length:Int) 0 Af Ag Ah Ai Aj)=some r:=by first|exact Ak ▸ H|exact Ak ▸ (Option.bind_some _ _).symm.trans H
 replace Ak:=y0.mk Ak
 have H':=y0.mk H
 clear H
 go_enter Tryz.func70,Tryz.ntmps70
 go_wp2_with (first|((with_reducible refine y19 (N:=2) rfl ?_);refine qe 2 #[.slice Ax Af.length Ay,.int .i64 Ag,.string Ah,.slice Az Ai.length Ba,.slice Bb Aj.length Bc] 38 ?_;intro Bm hg w3 hbox hb;have Aa:=y0.mk (hbox);have Cn:=y0.mk (qg (w:=w) hg);have Co:=y0.mk (qg (w:=w) hg);replace HB:=y0.mk (y5 qb hb);clear hb hbox hg)|((with_reducible refine y19 (N:=8) rfl ?_);refine qL Kd.string 9 8 ([]:List ByteArray) ?_;intro Ct w4 Bn hb hg_ hnew_;clear hg_ hnew_;(first|rw [← Ak.out]at Bn|(simp only [Int.reduceToNat]at Bn;rw [← Ak.out]at Bn));have Bo:=y0.mk (Kd.R_lower Bn (y4 qb));replace Aa:=y0.mk (qK Aa.out hb);replace HB:=y0.mk (y5 qb hb);clear hb Bn))
 go_loopg [5,11] k (fun kq v5 Cu w'=>∃(Am:List ByteArray) (Ab:Int),Cu=.int .i64 Ab∧y0 (z1_.l0 kq Am l1 (l1.length:Int) Ab Af Ag Ah Ai Aj=some r)∧y0 (kq≤k)∧y0 (Kd.R Kd.string 9 w' w.heap.size (fun _=>True) v5 Am)∧y0 (w'.heap[Bm]?=some (.cells #[(.slice Ax Af.length Ay),.int .i64 Ag,.string Ah,(.slice Az Ai.length Ba),(.slice Bb Aj.length Bc)] 38 (0,0)))∧y0 (Below w.heap.size w w'))
 case atStart=>exact⟨(Bl),(0),qy2,H',⟨Nat.le_refl _⟩,⟨qR Bo.out⟩,⟨qk Aa.out⟩,⟨qb⟩⟩
 case round =>
  clear H'
  (try clear c1)
  obtain⟨Am,Ab,rfl,HA,Ce,Ac,Aa,HB⟩:=hrel
  cases gk with
  | zero=>exact absurd HA.out (by simp [z1_.l0])
  | succ k1 =>
   have H:=HA.out
   clear HA
   simp only [z1_.l0]at H
   by_cases c6:Ab < (l1.length:Int)
   ·rw [if_pos c6]at H
    have Cf:=decide_eq_true c6
    clear c6
    obtain⟨c7,H⟩:=qo H
    have Cv:decide (0≤Ab)=true:=decide_eq_true c7
    clear c7
    obtain⟨c8,H⟩:=qo H
    have Cw:decide (Ab < (l1.length:Int))=true:=decide_eq_true c8
    clear c8
    obtain⟨Ap,A9,H⟩:=qB H
    obtain⟨Cp,H⟩:=qo H
    replace Cp:=y0.mk Cp
    obtain⟨Bq,Al⟩:∃ y_:List ByteArray,y_=(Am ++ [Ap]):=⟨_,rfl⟩
    replace H:(z1_.l0 k1 Bq l1 (l1.length:Int) (wrap64 (Ab + 1)) Af Ag Ah Ai Aj)=some r:=by first|exact Al ▸ H|exact Al ▸ (Option.bind_some _ _).symm.trans H
    replace Al:=y0.mk Al
    have H':=y0.mk H
    clear H
    have Bd:0≤(Ab:Int):=qd
    have Be:Ab < (l1.length:Int):=qd
    obtain⟨Cq,Cg,Ad⟩:=Kd.at_int Cs.out Ab Bd Be
    cases Cg
    replace Ad:=qC Ad HB
    replace Bd:=eq_true Bd
    replace Be:=eq_true Be
    obtain⟨Bt,Bu,Bv,Bw,Bx,Bz,Ca,Cb,Cc,Cd⟩:=qz5 Aa.out
    go_wp2_with (first|((with_reducible refine y18 (f:=69) rfl ?_);refine y21 (some 18) rfl rfl Tryz.func69 (by kernel_rfl) rfl #[.agg #[.slice Ax Af.length Ay,.int .i64 Ag,.string Ah,.slice Az Ai.length Ba,.slice Bb Aj.length Bc],.int .i64 (rd l1 Ab)] rfl qy1 ?_;(with_reducible refine(ih_impl_Rule_expText k1 (by have:=Ce.out;omega) _ _ Af Ag Ah _ _ Ai _ _ Aj (rd l1 Ab) Ap _ (qc (Kd.C_below Bf.out HB.out)) Bg.out (qc (Kd.C_below Bh.out HB.out)) Bi.out (qc (Kd.C_below Bj.out HB.out)) Bk.out A9.out).mono ?_);rintro e Da ⟨rfl,hb⟩;refine⟨_,rfl, ?_⟩;replace Ac:=y0.mk (Kd.R_below (qR Ac.out) hb);replace Aa:=y0.mk (qK Aa.out hb);replace HB:=y0.mk (y5 qb hb);(try clear hb))|((with_reducible refine gate_builtin (b:=.append) (xs:=#[.tmp 15,.tmp 19]) rfl ?_);at_builtin;refine Kd.R_append Kd.string (w0:=w) w.heap.size rfl (.tmp 15) (.tmp 19) 29 9 (.string ⟨#[]⟩) 16 rfl Tryz.underlying29 info9 rfl (by decide) (by omega) u5 Am Ap [.string Ap] (fun _=>True) (fun _=>False) rfl rfl ?aP (fun _ hk=>hk.elim) ?aF ?aO ?aB ?aS ?aL ?_;(case aP=>exact rfl);(case aB=>exact qb);(case aF=>exact(fun _ _=>trivial));(case aO=>exact(qR Ac.out));(case aS=>exact(y4 qb));(case aL=>have:=Cp.out;omega);intro Cx Db ho hb hg hat;rw [← Al.out]at ho;replace Aa:=y0.mk (y12 (qk Aa.out) hg (Kd.R_ne Ac.out Aa.out (by decide)));replace HB:=y0.mk (hb);have Bs:=y0.mk (ho);clear Ac;clear ho hb hg hat))
    go_roundg k1
    case measure=>have:=Ce.out;omega
    exact⟨(Bq),(wrap64 (Ab + 1)),qy2,H',⟨by have:=Ce.out;omega⟩,⟨qR Bs.out⟩,⟨qk Aa.out⟩,⟨qb⟩⟩
   ·rw [if_neg c6]at H
    have Cf:=decide_eq_false c6
    clear c6
    obtain⟨Ch,Cy,H⟩:=qB H
    obtain rfl:=Option.some.inj H
    obtain⟨Ci,Cj,Ck⟩:=Kd.R_slice Ac.out
    subst Ck
    go_wp2_with (first|((with_reducible refine y18 (f:=54) rfl ?_);refine y21 (some 23) rfl rfl Tryz.func54 (by kernel_rfl) rfl #[.slice Ci Am.length Cj,.string (⟨#[44,32]⟩:ByteArray)] rfl qy1 ?_;(with_reducible refine(strings_Join.calls _ _ Am (⟨#[44,32]⟩:ByteArray) Ch _ (qc ((Kd.R_reads' Ac.out).2.2)) (by exact(Kd.R_reads' Ac.out).2.1) Cy.out).mono ?_);rintro e Dc ⟨rfl,hb⟩;refine⟨_,rfl, ?_⟩;replace Ac:=y0.mk (Kd.R_below (qR Ac.out) hb);replace Aa:=y0.mk (qK Aa.out hb);replace HB:=y0.mk (y5 qb hb);(try clear hb)))
    go_ret
    exact⟨qf,qb⟩
theorem impl_Rule_expText_1.step (k:Nat) (ih_impl_Rule_expTexts:∀ m,m < k→z1_.Stm m) (ih:∀ m,m < k→impl_Rule_expText_1.Stm m) (ih_impl_Rule_expText:∀ m,m < k→z0_.Stm m):impl_Rule_expText_1.Stm k:=by
 intro a0 Cn Bl Aa Ah Ai Bm Bn Aj Bo Bp Ak g1 r w Au Av Aw Ax Ay Az Bq h
 cases k with
 | zero=>exact absurd h (by simp [impl_Rule_expText_1.f])
 | succ k =>
 simp only [impl_Rule_expText_1.f]at h
 have Co:=Tryz.underlying38
 have Ag:=y0.mk Au
 have Ba:=y0.mk Av
 clear Au Av
 have Bb:=y0.mk Aw
 have Bc:=y0.mk Ax
 clear Aw Ax
 have Bd:=y0.mk Ay
 have Be:=y0.mk Az
 clear Ay Az
 replace Bq:=y0.mk Bq
 have HB:=y0.mk (Below.refl w.heap.size w)
 have H:(if 0≤a0 then(if a0 < (Aa.length:Int)then((impl_isSum.f ((y23 Aa a0).f0)).bind fun Bf=>(if Bf=true then((z0_.f k Aa Ah Ai Aj Ak a0).bind fun Al=>(if 1 + Al.size≤9223372036854775807 then(if((⟨#[40]⟩:ByteArray) ++ Al).size + 1≤9223372036854775807 then(some (((⟨#[40]⟩:ByteArray) ++ Al) ++ (⟨#[41]⟩:ByteArray)))else(none))else(none)))else((z0_.f k Aa Ah Ai Aj Ak a0).bind fun Bg=>(some Bg))))else(none))else(none))=some r:=h
 clear h
 obtain⟨c3,H⟩:=qo H
 have Cp:decide (0≤a0)=true:=decide_eq_true c3
 clear c3
 obtain⟨c4,H⟩:=qo H
 have Cq:decide (a0 < (Aa.length:Int))=true:=decide_eq_true c4
 clear c4
 obtain⟨Bf,A5,H⟩:=qB H
 by_cases c6:Bf=true
 ·subst c6
  replace H:=qT H
  obtain⟨Al,A7,H⟩:=qB H
  obtain⟨c8,H⟩:=qo H
  have Cr:=eq_true c8
  have Cs:=decide_eq_true c8
  have Ct:=eq_false (Nat.not_lt.2 c8)
  obtain⟨c9,H⟩:=qo H
  have Cu:=eq_true c9
  have Cv:=decide_eq_true c9
  have Cm:=eq_false (Nat.not_lt.2 c9)
  have Cw:(9223372036854775807 < 1 + Al.size + 1)=False:=qs Cm
  obtain rfl:=Option.some.inj H
  obtain⟨Br,Bs,Bt,Bu,Bv,Bw,Bx,Bz,Ca,Cb⟩:=qz5 Bq.out
  have Ad:0≤(a0:Int):=qd
  have Af:a0 < (Aa.length:Int):=qd
  obtain⟨Am,Bh,Bi,Bj,Ap,Aq,Ar,Ab,Ac⟩:=at_T67 Ag.out a0 Ad Af
  cases Bj
  have As:=y0.mk Ac
  have At:=y0.mk Ab
  clear Ac Ab
  replace Ad:=eq_true Ad
  replace Af:=eq_true Af
  go_enter Tryz.func83,Tryz.ntmps83
  go_wp2_with (first|((with_reducible refine y18 (f:=65) rfl ?_);refine y21 (some 10) rfl rfl Tryz.func65 (by kernel_rfl) rfl #[.int .i64 ((y23 Aa a0).f0)] rfl qy1 ?_;(with_reducible refine(impl_isSum.calls ((y23 Aa a0).f0) true _ A5.out).mono ?_);rintro e w' ⟨rfl,⟨nd,rfl⟩⟩;refine⟨_,rfl, ?_⟩)|((with_reducible refine y18 (f:=69) rfl ?_);refine y21 (some 13) rfl rfl Tryz.func69 (by kernel_rfl) rfl #[.agg #[.slice (some Am) Aa.length Bl,.int .i64 Ah,.string Ai,.slice Bm Aj.length Bn,.slice Bo Ak.length Bp],.int .i64 a0] rfl qy1 ?_;(with_reducible refine(ih_impl_Rule_expText k (by omega) _ _ Aa Ah Ai _ _ Aj _ _ Ak a0 Al _ (qc Ag.out) Ba.out (qc Bb.out) Bc.out (qc Bd.out) Be.out A7.out).mono ?_);rintro e Cy ⟨rfl,hb⟩;refine⟨_,rfl, ?_⟩;replace Bq:=y0.mk (qK Bq.out hb);replace HB:=y0.mk (y5 qb hb);(try clear hb)))
  go_ret
  exact⟨qf,qb⟩
 ·replace c6:=Bool.eq_false_iff.mpr c6
  subst c6
  replace H:=qF H
  obtain⟨Bg,Cx,H⟩:=qB H
  obtain rfl:=Option.some.inj H
  obtain⟨Cc,Cd,Ce,Cf,Cg,Ch,Ci,Cj,Ck,Cl⟩:=qz5 Bq.out
  have Ad:0≤(a0:Int):=qd
  have Af:a0 < (Aa.length:Int):=qd
  obtain⟨Am,Bh,Bi,Bj,Ap,Aq,Ar,Ab,Ac⟩:=at_T67 Ag.out a0 Ad Af
  cases Bj
  have As:=y0.mk Ac
  have At:=y0.mk Ab
  clear Ac Ab
  replace Ad:=eq_true Ad
  replace Af:=eq_true Af
  go_enter Tryz.func83,Tryz.ntmps83
  go_wp2_with (first|((with_reducible refine y18 (f:=65) rfl ?_);refine y21 (some 10) rfl rfl Tryz.func65 (by kernel_rfl) rfl #[.int .i64 ((y23 Aa a0).f0)] rfl qy1 ?_;(with_reducible refine(impl_isSum.calls ((y23 Aa a0).f0) false _ A5.out).mono ?_);rintro e w' ⟨rfl,⟨nd,rfl⟩⟩;refine⟨_,rfl, ?_⟩)|((with_reducible refine y18 (f:=69) rfl ?_);refine y21 (some 18) rfl rfl Tryz.func69 (by kernel_rfl) rfl #[.agg #[.slice (some Am) Aa.length Bl,.int .i64 Ah,.string Ai,.slice Bm Aj.length Bn,.slice Bo Ak.length Bp],.int .i64 a0] rfl qy1 ?_;(with_reducible refine(ih_impl_Rule_expText k (by omega) _ _ Aa Ah Ai _ _ Aj _ _ Ak a0 Bg _ (qc Ag.out) Ba.out (qc Bb.out) Bc.out (qc Bd.out) Be.out Cx.out).mono ?_);rintro e Cz ⟨rfl,hb⟩;refine⟨_,rfl, ?_⟩;replace Bq:=y0.mk (qK Bq.out hb);replace HB:=y0.mk (y5 qb hb);(try clear hb)))
  go_ret
  exact⟨qf,qb⟩
def z0_.T7:Bool×List (List Nat×List Nat):=(true,[([],[]),([0],[0]),([1],[1]),([],[]),([],[]),([4],[4]),([3,5],[3,5]),([2,6],[2,6]),([7],[7]),([8,6,0,1,2,3,4,5,6,7,8],[8])])
def z0_.B7:List Nat:=[0,1,3,0,0,16,56,127,255,511]
theorem z0_.tab7:rtab .any (opsOf Tryz.f69 7)=z0_.T7:=by kernel_rfl
theorem z0_.bits7:waitsOk z0_.T7.2 z0_.B7=true:=by kernel_rfl
def z0_.T12:Bool×List (List Nat×List Nat):=(true,[([],[]),([],[]),([1],[1]),([2],[2]),([3],[3]),([0,4],[0,4]),([5],[5]),([],[]),([],[]),([8],[8]),([9],[9]),([7,10],[7,10]),([11],[11]),([6,12],[6,12]),([13],[13]),([],[]),([],[]),([16],[16]),([17],[17]),([18],[18]),([15,19,5],[15,19]),([14,20],[14,20]),([21,20,0,1,2,3,4,5,6,7,8,9,10,11,12,13,14,15,16,17,18,19,20,21],[21])])
def z0_.B12:List Nat:=[0,0,2,6,14,31,63,0,0,256,768,1920,3968,8191,16383,0,0,65536,196608,458752,1015871,2097151,4194303]
theorem z0_.tab12:rtab .any (opsOf Tryz.f69 12)=z0_.T12:=by kernel_rfl
theorem z0_.bits12:waitsOk z0_.T12.2 z0_.B12=true:=by kernel_rfl
theorem z0_.step (k:Nat) (ih_impl_Rule_expTexts:∀ m,m < k→z1_.Stm m) (ih_impl_Rule_expText_1:∀ m,m < k→impl_Rule_expText_1.Stm m) (ih:∀ m,m < k→z0_.Stm m):z0_.Stm k:=by
 intro Cx Bz Aa Bd Be Ca Cb Bf Cc Cd Bg a1 r w Dq Dr Ds Dt Du Dv h
 cases k with
 | zero=>exact absurd h (by simp [z0_.f])
 | succ k =>
 simp only [z0_.f]at h
 have Je:=Tryz.underlying38
 have Jf:=Tryz.underlying67
 have Bw:=y0.mk Dq
 have Cm:=y0.mk Dr
 clear Dq Dr
 have Cn:=y0.mk Ds
 have Co:=y0.mk Dt
 clear Ds Dt
 have Cp:=y0.mk Du
 have Cq:=y0.mk Dv
 clear Du Dv
 have HB:=y0.mk (Below.refl w.heap.size w)
 have H:(if 0≤a1 then(if a1 < (Aa.length:Int)then(if((y23 Aa a1).f0)=2 then(some (⟨#[95]⟩:ByteArray))else(if((y23 Aa a1).f0)=4 then(if(((y23 Aa a1).f2).length:Int) > 0 then(if((y23 Aa a1).f1).size + 1≤9223372036854775807 then((z1_.f k Aa Bd Be Bf Bg ((y23 Aa a1).f2)).bind fun Ck=>(if(((y23 Aa a1).f1) ++ (⟨#[40]⟩:ByteArray)).size + Ck.size≤9223372036854775807 then(if((((y23 Aa a1).f1) ++ (⟨#[40]⟩:ByteArray)) ++ Ck).size + 1≤9223372036854775807 then(some (((((y23 Aa a1).f1) ++ (⟨#[40]⟩:ByteArray)) ++ Ck) ++ (⟨#[41]⟩:ByteArray)))else(none))else(none)))else(none))else(some ((y23 Aa a1).f1)))else(if((y23 Aa a1).f0)=5 then(z0_.j0 k (((y23 Aa a1).f0) == 5) Aa Bd Be Bf Bg ((y23 Aa a1).f0) ((y23 Aa a1).f1) ((y23 Aa a1).f2))else(if((y23 Aa a1).f0)=6 then(z0_.j0 k (((y23 Aa a1).f0) == 6) Aa Bd Be Bf Bg ((y23 Aa a1).f0) ((y23 Aa a1).f1) ((y23 Aa a1).f2))else(z0_.j0 k (((y23 Aa a1).f0) == 7) Aa Bd Be Bf Bg ((y23 Aa a1).f0) ((y23 Aa a1).f1) ((y23 Aa a1).f2))))))else(none))else(none))=some r:=h
 clear h
 obtain⟨c3,H⟩:=qo H
 have Ha:decide (0≤a1)=true:=decide_eq_true c3
 clear c3
 obtain⟨c4,H⟩:=qo H
 have Hb:decide (a1 < (Aa.length:Int))=true:=decide_eq_true c4
 clear c4
 by_cases c5:((y23 Aa a1).f0)=2
 ·rw [if_pos c5]at H
  have Eo:(((y23 Aa a1).f0) == 2)=true:=beq_iff_eq.mpr c5
  have Ep:(((y23 Aa a1).f0) != 2)=false:=bne_eq_false_iff_eq.mpr c5
  clear c5
  obtain rfl:=Option.some.inj H
  go_enter Tryz.func69,Tryz.ntmps69
  go_wp2_with (first|((with_reducible refine y19 (N:=2) rfl ?_);refine qe 2 #[.slice Cx Aa.length Bz,.int .i64 Bd,.string Be,.slice Ca Bf.length Cb,.slice Cc Bg.length Cd] 38 ?_;intro As hg w6 hbox hb;have Ab:=y0.mk (hbox);have Cr:=y0.mk (qg (w:=w) hg);have Cs:=y0.mk (qg (w:=w) hg);replace HB:=y0.mk (y5 qb hb);clear hb hbox hg;obtain⟨Hc,Hd,He,Hf,Hg,Hh,Hi,Hj,Hk,Hl⟩:=qz5 Ab.out;have Bo:0≤(a1:Int):=qd;have Bp:a1 < (Aa.length:Int):=qd;obtain⟨Bu,Ax,Ag,Cl,Ai,Aj,Ak,At,Au⟩:=at_T67 Bw.out a1 Bo Bp;cases Cl;replace Ai:=qC Ai HB;replace Aj:=qC Aj HB;replace Ak:=qC Ak HB;have Bn:=y0.mk Au;have Bv:=y0.mk At;clear Au At;replace Bo:=eq_true Bo;replace Bp:=eq_true Bp)|((with_reducible refine y19 (N:=5) rfl ?_);refine qe 5 #[.int .i64 0,.string (⟨#[]⟩:ByteArray),.slice none 0 0] 67 ?_;intro Af hg w8 hbox hb;have Ac:=y0.mk (hbox);have Ct:=y0.mk (qg (w:=w) hg);have Cu:=y0.mk (qg (w:=w) hg);replace HB:=y0.mk (y5 qb hb);have Ad:=y0.mk (qn Ab.out hg);have Ar:=y0.mk (qm Ab.out hg);replace Ab:=y0.mk (qK Ab.out hb);clear hb hbox hg;have Jg:=Ar.out;have Jh:=Ad.out;obtain⟨Fe,Ff,Fg,Fh,Fi,Fj⟩:=qz3 Ac.out))
  go_ret
  exact⟨qf,qb⟩
 ·rw [if_neg c5]at H
  have Eo:(((y23 Aa a1).f0) == 2)=false:=beq_eq_false_iff_ne.mpr c5
  have Ep:(((y23 Aa a1).f0) != 2)=true:=bne_iff_ne.mpr c5
  by_cases Ef:((y23 Aa a1).f0)=4
  ·rw [if_pos Ef]at H
   have Av:(((y23 Aa a1).f0) == 4)=true:=beq_iff_eq.mpr Ef
   have Dw:(((y23 Aa a1).f0) != 4)=false:=bne_eq_false_iff_eq.mpr Ef
   clear Ef
   by_cases En:(((y23 Aa a1).f2).length:Int) > 0
   ·rw [if_pos En]at H
    have Aw:decide (0 < (((y23 Aa a1).f2).length:Int))=true:=decide_eq_true En
    have Er:decide (0 < ((y23 Aa a1).f2).length)=true:=decide_eq_true (by omega)
    clear En
    obtain⟨Dx,H⟩:=qo H
    have Ay:=eq_true Dx
    have Hs:=decide_eq_true Dx
    have Ht:=eq_false (Nat.not_lt.2 Dx)
    obtain⟨Ck,Ji,H⟩:=qB H
    obtain⟨Dy,H⟩:=qo H
    have Bq:=eq_true Dy
    have Hu:=decide_eq_true Dy
    have Es:=eq_false (Nat.not_lt.2 Dy)
    have Hv:(9223372036854775807 < ((y23 Aa a1).f1).size + 1 + Ck.size)=False:=qs Es
    obtain⟨Dz,H⟩:=qo H
    have Cf:=eq_true Dz
    have Hw:=decide_eq_true Dz
    have Et:=eq_false (Nat.not_lt.2 Dz)
    have Hx:(9223372036854775807 < ((y23 Aa a1).f1).size + 1 + Ck.size + 1)=False:=qs Et
    obtain rfl:=Option.some.inj H
    go_enter Tryz.func69,Tryz.ntmps69
    try go_wp2_with (first|((with_reducible refine y19 (N:=2) rfl ?_);refine qe 2 #[.slice Cx Aa.length Bz,.int .i64 Bd,.string Be,.slice Ca Bf.length Cb,.slice Cc Bg.length Cd] 38 ?_;intro As hg Jr hbox hb;have Ab:=y0.mk (hbox);have Cr:=y0.mk (qg (w:=w) hg);have Cs:=y0.mk (qg (w:=w) hg);replace HB:=y0.mk (y5 qb hb);clear hb hbox hg;obtain⟨Fk,Fl,Fm,Fn,Fo,Fp,Fq,Fr,Fs,Ft⟩:=qz5 Ab.out;have Bo:0≤(a1:Int):=qd;have Bp:a1 < (Aa.length:Int):=qd;obtain⟨Bu,Ax,Ag,Cl,Ai,Aj,Ak,At,Au⟩:=at_T67 Bw.out a1 Bo Bp;cases Cl;replace Ai:=qC Ai HB;replace Aj:=qC Aj HB;replace Ak:=qC Ak HB;have Bn:=y0.mk Au;have Bv:=y0.mk At;clear Au At;replace Bo:=eq_true Bo;replace Bp:=eq_true Bp)|((with_reducible refine y19 (N:=5) rfl ?_);refine qe 5 #[.int .i64 0,.string (⟨#[]⟩:ByteArray),.slice none 0 0] 67 ?_;intro Af hg Fu hbox hb;have Ac:=y0.mk (hbox);have Ct:=y0.mk (qg (w:=w) hg);have Cu:=y0.mk (qg (w:=w) hg);replace HB:=y0.mk (y5 qb hb);have Ad:=y0.mk (qn Ab.out hg);have Ar:=y0.mk (qm Ab.out hg);replace Ab:=y0.mk (qK Ab.out hb);clear hb hbox hg;have Hy:=Ar.out;have Hz:=Ad.out;obtain⟨Fv,Fx,Fy,Fz,Ga,Gb⟩:=qz3 Ac.out))
    have n0_:y0 ((((Fu.setCell ⟨Af,0,none⟩ (.int .i64 ((y23 Aa a1).f0))).setCell ⟨Af,1,none⟩ (.string ((y23 Aa a1).f1))).setCell ⟨Af,2,none⟩ (.slice Ax ((y23 Aa a1).f2).length Ag)).heap[As]?=some (.cells #[.slice (some Bu) Aa.length Bz,.int .i64 Bd,.string Be,.slice Ca Bf.length Cb,.slice Cc Bg.length Cd] 38 (0,0))):=⟨by(with_reducible repeat(first|refine y10 ?_ _|refine y9 ?_|refine y6 ?_ _));refine y11 ?_ Ad.out _;refine y11 ?_ Ad.out _;refine y11 ?_ Ad.out _;(with_reducible repeat(first|refine y10 ?_ _|refine y9 ?_|refine y6 ?_ _));exact Ab.out⟩
    have n1_:y0 ((((Fu.setCell ⟨Af,0,none⟩ (.int .i64 ((y23 Aa a1).f0))).setCell ⟨Af,1,none⟩ (.string ((y23 Aa a1).f1))).setCell ⟨Af,2,none⟩ (.slice Ax ((y23 Aa a1).f2).length Ag)).heap[Af]?=some (.cells #[.int .i64 ((y23 Aa a1).f0),.string ((y23 Aa a1).f1),.slice Ax ((y23 Aa a1).f2).length Ag] 67 (0,0))):=⟨by(with_reducible repeat(first|refine y10 ?_ _|refine y9 ?_|refine y6 ?_ _));refine y13 (cs:=#[.int .i64 ((y23 Aa a1).f0),.string ((y23 Aa a1).f1),.slice none 0 0]) ?_ 2 _ rfl;refine y13 (cs:=#[.int .i64 ((y23 Aa a1).f0),.string (⟨#[]⟩:ByteArray),.slice none 0 0]) ?_ 1 _ rfl;refine y13 (cs:=#[.int .i64 0,.string (⟨#[]⟩:ByteArray),.slice none 0 0]) ?_ 0 _ rfl;(with_reducible repeat(first|refine y10 ?_ _|refine y9 ?_|refine y6 ?_ _));exact Ac.out⟩
    have n2_:y0 (Below w.heap.size w (((Fu.setCell ⟨Af,0,none⟩ (.int .i64 ((y23 Aa a1).f0))).setCell ⟨Af,1,none⟩ (.string ((y23 Aa a1).f1))).setCell ⟨Af,2,none⟩ (.slice Ax ((y23 Aa a1).f2).length Ag))):=⟨qb⟩
    (try clear Ab)
    (try clear Ac)
    (try clear HB)
    generalize (((Fu.setCell ⟨Af,0,none⟩ (.int .i64 ((y23 Aa a1).f0))).setCell ⟨Af,1,none⟩ (.string ((y23 Aa a1).f1))).setCell ⟨Af,2,none⟩ (.slice Ax ((y23 Aa a1).f2).length Ag))=Jj at n0_ n1_ n2_ ⊢
    have Ab:=n0_
    have Ac:=n1_
    have HB:=n2_
    clear n0_ n1_ n2_
    replace Ab:=y0.mk (y9 Ab.out)
    replace Ac:=y0.mk (y9 Ac.out)
    replace HB:=y0.mk (below_drew1 HB.out)
    refine start_ (n:=10) (S:=fun w'=>w'.cell? ⟨Af,0,none⟩=some (.int .i64 ((y23 Aa a1).f0))∧w'.cell? ⟨Af,1,none⟩=some (.string ((y23 Aa a1).f1))∧w'.cell? ⟨Af,2,none⟩=some (.slice Ax ((y23 Aa a1).f2).length Ag)∧w'.cell? ⟨As,0,none⟩=some (.slice (some Bu) Aa.length Bz)∧w'.cell? ⟨As,1,none⟩=some (.int .i64 Bd)∧w'.cell? ⟨As,2,none⟩=some (.string Be)∧w'.cell? ⟨As,3,none⟩=some (.slice Ca Bf.length Cb)∧w'.cell? ⟨As,4,none⟩=some (.slice Cc Bg.length Cd)) (ds:=[]) (fl_ 10 0) (by kernel_rfl) rfl rfl ⟨(y8 Ac.out 0).trans rfl,(y8 Ac.out 1).trans rfl,(y8 Ac.out 2).trans rfl,(y8 Ab.out 0).trans rfl,(y8 Ab.out 1).trans rfl,(y8 Ab.out 2).trans rfl,(y8 Ab.out 3).trans rfl,(y8 Ab.out 4).trans rfl⟩ (fun hHeld=>?_);refine with_tabW z0_.tab7 z0_.bits7 (fun HT_ HW_=>?_)
    generalize Jj.drew=Js at Ab Ac HB hHeld ⊢
    refine qp 0 22 (fl_ 10 1) ?_
    refine qp 4 26 (fl_ 10 17) ?_
    refine qt 1 23 (fl_ 10 19) hHeld ?_
    refine qp 2 24 (fl_ 10 23) ?_
    refine qt 3 25 (fl_ 10 31) hHeld ?_
    refine qt 5 27 (fl_ 10 63) hHeld ?_
    refine qO 6 28 (fl_ 10 127) (fun K hK=>?_)
    refine goes_ Tryz.func70 (by kernel_rfl) rfl #[.agg #[.slice (some Bu) Aa.length Bz,.int .i64 Bd,.string Be,.slice Ca Bf.length Cb,.slice Cc Bg.length Cd],.slice Ax ((y23 Aa a1).f2).length Ag] (by rfl) rfl rfl qy1 ?_
    with_reducible refine(ih_impl_Rule_expTexts k (by omega) _ _ Aa Bd Be _ _ Bf _ _ Bg _ _ ((y23 Aa a1).f2) Ck _ (qc (Kd.C_below Bw.out HB.out)) Cm.out (qc (Kd.C_below Cn.out HB.out)) Co.out (qc (Kd.C_below Cp.out HB.out)) Cq.out (qc (Kd.C_below Bn.out HB.out)) Bv.out Ji.out).mono ?_
    rintro e Jt ⟨rfl,hb⟩
    refine⟨_,rfl, ?_⟩
    replace Ab:=y0.mk (qK Ab.out hb)
    replace Ac:=y0.mk (qK Ac.out hb)
    replace HB:=y0.mk (y5 qb hb)
    (try clear hb)
    refine hK.out _ _ ⟨(y8 Ac.out 0).trans rfl,(y8 Ac.out 1).trans rfl,(y8 Ac.out 2).trans rfl,(y8 Ab.out 0).trans rfl,(y8 Ab.out 1).trans rfl,(y8 Ab.out 2).trans rfl,(y8 Ab.out 3).trans rfl,(y8 Ab.out 4).trans rfl⟩ (fun hHeld=>?_)
    clear hK K
    refine qx 28 ?_
    refine qp2 7 29 10 ?_
    refine qp 9 4 (fl_ 10 1023) ?_
    refine done_ (done_of HT_.out (by kernel_rfl)) ?_
    try go_wp2
    go_ret
    exact⟨qf,qb⟩
   ·rw [if_neg En]at H
    have Aw:decide (0 < (((y23 Aa a1).f2).length:Int))=false:=decide_eq_false En
    have Er:decide (0 < ((y23 Aa a1).f2).length)=false:=decide_eq_false (by omega)
    clear En
    obtain rfl:=Option.some.inj H
    go_enter Tryz.func69,Tryz.ntmps69
    go_wp2_with (first|((with_reducible refine y19 (N:=2) rfl ?_);refine qe 2 #[.slice Cx Aa.length Bz,.int .i64 Bd,.string Be,.slice Ca Bf.length Cb,.slice Cc Bg.length Cd] 38 ?_;intro As hg Ju hbox hb;have Ab:=y0.mk (hbox);have Cr:=y0.mk (qg (w:=w) hg);have Cs:=y0.mk (qg (w:=w) hg);replace HB:=y0.mk (y5 qb hb);clear hb hbox hg;obtain⟨Gc,Gd,Ge,Gf,Gg,Gh,Gi,Gj,Gk,Gl⟩:=qz5 Ab.out;have Bo:0≤(a1:Int):=qd;have Bp:a1 < (Aa.length:Int):=qd;obtain⟨Bu,Ax,Ag,Cl,Ai,Aj,Ak,At,Au⟩:=at_T67 Bw.out a1 Bo Bp;cases Cl;replace Ai:=qC Ai HB;replace Aj:=qC Aj HB;replace Ak:=qC Ak HB;have Bn:=y0.mk Au;have Bv:=y0.mk At;clear Au At;replace Bo:=eq_true Bo;replace Bp:=eq_true Bp)|((with_reducible refine y19 (N:=5) rfl ?_);refine qe 5 #[.int .i64 0,.string (⟨#[]⟩:ByteArray),.slice none 0 0] 67 ?_;intro Af hg Jv hbox hb;have Ac:=y0.mk (hbox);have Ct:=y0.mk (qg (w:=w) hg);have Cu:=y0.mk (qg (w:=w) hg);replace HB:=y0.mk (y5 qb hb);have Ad:=y0.mk (qn Ab.out hg);have Ar:=y0.mk (qm Ab.out hg);replace Ab:=y0.mk (qK Ab.out hb);clear hb hbox hg;have Ia:=Ar.out;have Ib:=Ad.out;obtain⟨Gm,Gn,Gp,Gq,Gr,Gs⟩:=qz3 Ac.out))
    go_ret
    exact⟨qf,qb⟩
  ·rw [if_neg Ef]at H
   have Av:(((y23 Aa a1).f0) == 4)=false:=beq_eq_false_iff_ne.mpr Ef
   have Dw:(((y23 Aa a1).f0) != 4)=true:=bne_iff_ne.mpr Ef
   have Eg:=y0.mk H
   clear H
   go_enter Tryz.func69,Tryz.ntmps69
   go_upto_if 31 with(first|((with_reducible refine y19 (N:=2) rfl ?_);refine qe 2 #[.slice Cx Aa.length Bz,.int .i64 Bd,.string Be,.slice Ca Bf.length Cb,.slice Cc Bg.length Cd] 38 ?_;intro As hg Jw hbox hb;have Ab:=y0.mk (hbox);have Cr:=y0.mk (qg (w:=w) hg);have Cs:=y0.mk (qg (w:=w) hg);replace HB:=y0.mk (y5 qb hb);clear hb hbox hg;obtain⟨Cy,Cz,Da,Db,Dc,Dd,De,Df,Dg,Dh⟩:=qz5 Ab.out;have Bo:0≤(a1:Int):=qd;have Bp:a1 < (Aa.length:Int):=qd;obtain⟨Bu,Ax,Ag,Cl,Ai,Aj,Ak,At,Au⟩:=at_T67 Bw.out a1 Bo Bp;cases Cl;replace Ai:=qC Ai HB;replace Aj:=qC Aj HB;replace Ak:=qC Ak HB;have Bn:=y0.mk Au;have Bv:=y0.mk At;clear Au At;replace Bo:=eq_true Bo;replace Bp:=eq_true Bp)|((with_reducible refine y19 (N:=5) rfl ?_);refine qe 5 #[.int .i64 0,.string (⟨#[]⟩:ByteArray),.slice none 0 0] 67 ?_;intro Af hg Jx hbox hb;have Ac:=y0.mk (hbox);have Ct:=y0.mk (qg (w:=w) hg);have Cu:=y0.mk (qg (w:=w) hg);replace HB:=y0.mk (y5 qb hb);have Ad:=y0.mk (qn Ab.out hg);have Ar:=y0.mk (qm Ab.out hg);replace Ab:=y0.mk (qK Ab.out hb);clear hb hbox hg;have Ic:=Ar.out;have Id:=Ad.out;obtain⟨Di,Dj,Dk,Dl,Dm,Do⟩:=qz3 Ac.out))
   (try simp only [Act.put,qS_,qZ_,qC_])
   go_cut [31] (fun Jk wc=>∃(kq:Nat) (Ce:Bool),Jk=.bool Ce∧y0 (z0_.j0 kq Ce Aa Bd Be Bf Bg ((y23 Aa a1).f0) ((y23 Aa a1).f1) ((y23 Aa a1).f2)=some r)∧y0 (kq≤k)∧y0 (wc.heap[As]?=some (.cells #[(.slice (some Bu) Aa.length Bz),.int .i64 Bd,.string Be,(.slice Ca Bf.length Cb),(.slice Cc Bg.length Cd)] 38 (0,0)))∧y0 (wc.heap[Af]?=some (.cells #[.int .i64 ((y23 Aa a1).f0),.string ((y23 Aa a1).f1),(.slice Ax ((y23 Aa a1).f2).length Ag)] 67 (0,0)))∧y0 (Below w.heap.size w wc))
   case first =>
    have H:=Eg.out
    clear Eg
    by_cases Eh:((y23 Aa a1).f0)=5
    ·rw [if_pos Eh]at H
     have Br:(((y23 Aa a1).f0) == 5)=true:=beq_iff_eq.mpr Eh
     have Eu:(((y23 Aa a1).f0) != 5)=false:=bne_eq_false_iff_eq.mpr Eh
     clear Eh
     (first|rw [Br]|(simp only [i64_w,i32_w];rw [Br])|skip)
     have H':=y0.mk H
     clear H
     go_wp2
     go_meet
     exact⟨_,((((y23 Aa a1).f0) == 5)),qy2,H',⟨by first|omega|exact Nat.le_refl _⟩,⟨by(with_reducible repeat(first|refine y10 ?_ _|refine y9 ?_|refine y6 ?_ _));refine y11 ?_ Ad.out _;refine y11 ?_ Ad.out _;refine y11 ?_ Ad.out _;(with_reducible repeat(first|refine y10 ?_ _|refine y9 ?_|refine y6 ?_ _));exact Ab.out⟩,⟨by(with_reducible repeat(first|refine y10 ?_ _|refine y9 ?_|refine y6 ?_ _));refine y13 (cs:=#[.int .i64 ((y23 Aa a1).f0),.string ((y23 Aa a1).f1),.slice none 0 0]) ?_ 2 _ rfl;refine y13 (cs:=#[.int .i64 ((y23 Aa a1).f0),.string (⟨#[]⟩:ByteArray),.slice none 0 0]) ?_ 1 _ rfl;refine y13 (cs:=#[.int .i64 0,.string (⟨#[]⟩:ByteArray),.slice none 0 0]) ?_ 0 _ rfl;(with_reducible repeat(first|refine y10 ?_ _|refine y9 ?_|refine y6 ?_ _));exact Ac.out⟩,⟨qb⟩⟩
    ·rw [if_neg Eh]at H
     have Br:(((y23 Aa a1).f0) == 5)=false:=beq_eq_false_iff_ne.mpr Eh
     have Eu:(((y23 Aa a1).f0) != 5)=true:=bne_iff_ne.mpr Eh
     (first|rw [Br]|(simp only [i64_w,i32_w];rw [Br])|skip)
     by_cases Ei:((y23 Aa a1).f0)=6
     ·rw [if_pos Ei]at H
      have Bx:(((y23 Aa a1).f0) == 6)=true:=beq_iff_eq.mpr Ei
      have Ew:(((y23 Aa a1).f0) != 6)=false:=bne_eq_false_iff_eq.mpr Ei
      clear Ei
      have H':=y0.mk H
      clear H
      go_wp2
      go_meet
      exact⟨_,((((y23 Aa a1).f0) == 6)),qy2,H',⟨by first|omega|exact Nat.le_refl _⟩,⟨by(with_reducible repeat(first|refine y10 ?_ _|refine y9 ?_|refine y6 ?_ _));refine y11 ?_ Ad.out _;refine y11 ?_ Ad.out _;refine y11 ?_ Ad.out _;(with_reducible repeat(first|refine y10 ?_ _|refine y9 ?_|refine y6 ?_ _));exact Ab.out⟩,⟨by(with_reducible repeat(first|refine y10 ?_ _|refine y9 ?_|refine y6 ?_ _));refine y13 (cs:=#[.int .i64 ((y23 Aa a1).f0),.string ((y23 Aa a1).f1),.slice none 0 0]) ?_ 2 _ rfl;refine y13 (cs:=#[.int .i64 ((y23 Aa a1).f0),.string (⟨#[]⟩:ByteArray),.slice none 0 0]) ?_ 1 _ rfl;refine y13 (cs:=#[.int .i64 0,.string (⟨#[]⟩:ByteArray),.slice none 0 0]) ?_ 0 _ rfl;(with_reducible repeat(first|refine y10 ?_ _|refine y9 ?_|refine y6 ?_ _));exact Ac.out⟩,⟨qb⟩⟩
     ·rw [if_neg Ei]at H
      have Bx:(((y23 Aa a1).f0) == 6)=false:=beq_eq_false_iff_ne.mpr Ei
      have Ew:(((y23 Aa a1).f0) != 6)=true:=bne_iff_ne.mpr Ei
      have H':=y0.mk H
      clear H
      go_wp2
      go_meet
      exact⟨_,((((y23 Aa a1).f0) == 7)),qy2,H',⟨by first|omega|exact Nat.le_refl _⟩,⟨by(with_reducible repeat(first|refine y10 ?_ _|refine y9 ?_|refine y6 ?_ _));refine y11 ?_ Ad.out _;refine y11 ?_ Ad.out _;refine y11 ?_ Ad.out _;(with_reducible repeat(first|refine y10 ?_ _|refine y9 ?_|refine y6 ?_ _));exact Ab.out⟩,⟨by(with_reducible repeat(first|refine y10 ?_ _|refine y9 ?_|refine y6 ?_ _));refine y13 (cs:=#[.int .i64 ((y23 Aa a1).f0),.string ((y23 Aa a1).f1),.slice none 0 0]) ?_ 2 _ rfl;refine y13 (cs:=#[.int .i64 ((y23 Aa a1).f0),.string (⟨#[]⟩:ByteArray),.slice none 0 0]) ?_ 1 _ rfl;refine y13 (cs:=#[.int .i64 0,.string (⟨#[]⟩:ByteArray),.slice none 0 0]) ?_ 0 _ rfl;(with_reducible repeat(first|refine y10 ?_ _|refine y9 ?_|refine y6 ?_ _));exact Ac.out⟩,⟨qb⟩⟩
   case rest =>
    clear Eg
    (try clear Ha Hb Eo Ep Av Dw Cy Cz Da Db Dc Di Dj Dk Dd De Df Dg Dh Dl Dm Do Ai Aj Ak Bo Bp)
    obtain⟨kq,Ce,rfl,HA,Ex,Ab,Ac,HB⟩:=hcut
    cases kq with
    | zero=>exact absurd HA.out (by simp [z0_.j0])
    | succ Dp =>
     have H:=HA.out
     clear HA
     simp only [z0_.j0]at H
     by_cases Gt:Ce=true
     ·subst Gt
      replace H:=qT H
      obtain⟨Ie,H⟩:=qo H
      have Bs:decide (0 < (((y23 Aa a1).f2).length:Int))=true:=decide_eq_true Ie
      have If:decide (0 < ((y23 Aa a1).f2).length)=true:=decide_eq_true (by omega)
      clear Ie
      obtain⟨Aq,Ig,H⟩:=qB H
      obtain⟨Ea,H⟩:=qo H
      have Az:=eq_true Ea
      have Ih:=decide_eq_true Ea
      have Ii:=eq_false (Nat.not_lt.2 Ea)
      obtain⟨Ap,Cg⟩:∃ y_:List ByteArray,y_=(([(⟨#[43]⟩:ByteArray),(⟨#[45]⟩:ByteArray),(⟨#[42]⟩:ByteArray)]:List ByteArray)):=⟨_,rfl⟩
      replace H:(if 0≤(wrap64 (((y23 Aa a1).f0) - 5))then(if(wrap64 (((y23 Aa a1).f0) - 5)) < (Ap.length:Int)then(if(Aq ++ (⟨#[32]⟩:ByteArray)).size + (rdOf ByteArray.empty Ap (wrap64 (((y23 Aa a1).f0) - 5))).size≤9223372036854775807 then(if((Aq ++ (⟨#[32]⟩:ByteArray)) ++ (rdOf ByteArray.empty Ap (wrap64 (((y23 Aa a1).f0) - 5)))).size + 1≤9223372036854775807 then(if 1 < (((y23 Aa a1).f2).length:Int)then((impl_Rule_expText_1.f Dp (rd ((y23 Aa a1).f2) 1) Aa Bd Be Bf Bg).bind fun Bl=>(if(((Aq ++ (⟨#[32]⟩:ByteArray)) ++ (rdOf ByteArray.empty Ap (wrap64 (((y23 Aa a1).f0) - 5)))) ++ (⟨#[32]⟩:ByteArray)).size + Bl.size≤9223372036854775807 then(some ((((Aq ++ (⟨#[32]⟩:ByteArray)) ++ (rdOf ByteArray.empty Ap (wrap64 (((y23 Aa a1).f0) - 5)))) ++ (⟨#[32]⟩:ByteArray)) ++ Bl))else(none)))else(none))else(none))else(none))else(none))else(none))=some r:=by first|exact Cg ▸ H|exact Cg ▸ (Option.bind_some _ _).symm.trans H
      replace Cg:=y0.mk Cg
      obtain⟨Am,Ch⟩:∃ j_:Int,(wrap64 (((y23 Aa a1).f0) - 5))=j_:=⟨_,rfl⟩
      replace H:(if 0≤(Am)then(if(Am) < (Ap.length:Int)then(if(Aq ++ (⟨#[32]⟩:ByteArray)).size + (rdOf ByteArray.empty Ap (Am)).size≤9223372036854775807 then(if((Aq ++ (⟨#[32]⟩:ByteArray)) ++ (rdOf ByteArray.empty Ap (Am))).size + 1≤9223372036854775807 then(if 1 < (((y23 Aa a1).f2).length:Int)then((impl_Rule_expText_1.f Dp (rd ((y23 Aa a1).f2) 1) Aa Bd Be Bf Bg).bind fun Bl=>(if(((Aq ++ (⟨#[32]⟩:ByteArray)) ++ (rdOf ByteArray.empty Ap (Am))) ++ (⟨#[32]⟩:ByteArray)).size + Bl.size≤9223372036854775807 then(some ((((Aq ++ (⟨#[32]⟩:ByteArray)) ++ (rdOf ByteArray.empty Ap (Am))) ++ (⟨#[32]⟩:ByteArray)) ++ Bl))else(none)))else(none))else(none))else(none))else(none))else(none))=some r:=by first|(rw [Ch]at H;exact H)|(simp only [Ch]at H ⊢;exact H)
      (try rw [Ch]at Ig)
      have hji42w:(IntKind.i64.wrap (((y23 Aa a1).f0) - 5))=Am:=(i64_w _).trans Ch
      obtain⟨Ij,H⟩:=qo H
      have Ba:decide (0≤(Am))=true:=decide_eq_true Ij
      clear Ij
      obtain⟨Ik,H⟩:=qo H
      have Bb:decide ((Am) < (Ap.length:Int))=true:=decide_eq_true Ik
      clear Ik
      obtain⟨Eb,H⟩:=qo H
      have Bc:=eq_true Eb
      have Il:=decide_eq_true Eb
      have Ey:=eq_false (Nat.not_lt.2 Eb)
      have Im:(9223372036854775807 < Aq.size + 1 + (rdOf ByteArray.empty Ap (Am)).size)=False:=qs Ey
      obtain⟨Ec,H⟩:=qo H
      have Bt:=eq_true Ec
      have Io:=decide_eq_true Ec
      have Ez:=eq_false (Nat.not_lt.2 Ec)
      have Ip:(9223372036854775807 < Aq.size + 1 + (rdOf ByteArray.empty Ap (Am)).size + 1)=False:=qs Ez
      obtain⟨Iq,H⟩:=qo H
      have Ci:decide (1 < (((y23 Aa a1).f2).length:Int))=true:=decide_eq_true Iq
      have Ir:decide (1 < ((y23 Aa a1).f2).length)=true:=decide_eq_true (by omega)
      clear Iq
      obtain⟨Bl,Jl,H⟩:=qB H
      obtain⟨Ed,H⟩:=qo H
      have Cj:=eq_true Ed
      have Is:=decide_eq_true Ed
      have Fa:=eq_false (Nat.not_lt.2 Ed)
      have Iu:(9223372036854775807 < Aq.size + 1 + (rdOf ByteArray.empty Ap (Am)).size + 1 + Bl.size)=False:=qs Fa
      obtain rfl:=Option.some.inj H
      try go_wp2
      have Fb:(0≤((Am):Int))=True:=eq_true (of_decide_eq_true qy0)
      have Fc:((Am) < (Ap.length:Int))=True:=eq_true (of_decide_eq_true qy0)
      replace Ab:=y0.mk (y9 Ab.out)
      replace Ac:=y0.mk (y9 Ac.out)
      replace HB:=y0.mk (below_drew1 HB.out)
      have Ej:0≤(0:Int):=(by omega)
      have Ek:0 < (((y23 Aa a1).f2).length:Int):=qd
      obtain⟨Al,Hm,Bh⟩:=Kd.at_int Bn.out 0 Ej Ek
      have Bi:=Bh
      (try rw [show((0:Int)).toNat=0 from rfl]at Bi)
      (try rw [show 0 * 1=0 from rfl]at Bi)
      (try rw [Addr.add_zero']at Bi)
      cases Hm
      have Iv:(0 < ((y23 Aa a1).f2).length)=True:=eq_true (by omega)
      (try rw [show((0:Int)).toNat=0 from rfl]at Bh)
      (try rw [Addr.add_zero']at Bh)
      replace Bh:=qC Bh HB
      replace Ej:=eq_true Ej
      replace Ek:=eq_true Ek
      have El:0≤(1:Int):=(by omega)
      have Em:1 < (((y23 Aa a1).f2).length:Int):=qd
      obtain⟨Fd,Hn,Bj⟩:=Kd.at_int Bn.out 1 El Em
      have Bk:=Bj
      (try rw [show((1:Int)).toNat=1 from rfl]at Bk)
      (try rw [show 1 * 1=1 from rfl]at Bk)
      (try simp only [Nat.reduceMul,Nat.reduceEqDiff,Go.Addr.add,↓reduceIte]at Bk)
      obtain rfl:Al=Fd:=(by injection Hn)
      (try simp only [show(1:Int).toNat=1 from rfl,Nat.reduceMul,Nat.reduceEqDiff,Go.Addr.add,↓reduceIte]at Bj)
      have Iw:(1 < ((y23 Aa a1).f2).length)=True:=eq_true (by omega)
      (try rw [show((1:Int)).toNat=1 from rfl]at Bj)
      replace Bj:=qC Bj HB
      replace El:=eq_true El
      replace Em:=eq_true Em
      refine start_ (n:=23) (S:=fun w'=>True) (ds:=[]) (fl_ 23 0) (by kernel_rfl) rfl rfl trivial (fun hHeld=>?_);refine with_tabW z0_.tab12 z0_.bits12 (fun HT_ HW_=>?_)
      generalize wc.drew=Jy at Ab Ac HB Bh Bj hHeld ⊢
      refine qp2 0 36 23 ?_
      refine qp 8 44 (fl_ 23 259) ?_
      refine qp 15 51 (fl_ 23 33027) ?_
      refine qp 16 52 (fl_ 23 98563) ?_
      refine inv_at [2,3,4,5,6,7,9,10,11,12,13,14,17,18,19,20,21,22] (fun a0_ b a w'=>∃(Ah:Value) (adz_v424:Addr) (m11_:Value),a=putSel a0_ b [(2,38,.slice (some Al) ((y23 Aa a1).f2).length Ag),(3,39,.pointer (some Al)),(4,40,.int .i64 (rd ((y23 Aa a1).f2) 0)),(5,41,.string Aq),(6,42,.string (Aq ++ (⟨#[32]⟩:ByteArray))),(7,43,Ah),(9,45,.int .i64 ((y23 Aa a1).f0)),(10,46,.int .i64 Am),(11,47,m11_),(12,48,.string (rdOf ByteArray.empty Ap (Am))),(13,49,.string ((Aq ++ (⟨#[32]⟩:ByteArray)) ++ (rdOf ByteArray.empty Ap (Am)))),(14,50,.string (((Aq ++ (⟨#[32]⟩:ByteArray)) ++ (rdOf ByteArray.empty Ap (Am))) ++ (⟨#[32]⟩:ByteArray))),(17,53,.slice (some Al) ((y23 Aa a1).f2).length Ag),(18,54,.pointer (some (Al.add 1))),(19,55,.int .i64 (rd ((y23 Aa a1).f2) 1)),(20,56,.string Bl),(21,57,.string ((((Aq ++ (⟨#[32]⟩:ByteArray)) ++ (rdOf ByteArray.empty Ap (Am))) ++ (⟨#[32]⟩:ByteArray)) ++ Bl)),(22,4,.string ((((Aq ++ (⟨#[32]⟩:ByteArray)) ++ (rdOf ByteArray.empty Ap (Am))) ++ (⟨#[32]⟩:ByteArray)) ++ Bl))]∧(w'.heap[As]?=some (.cells #[.slice (some Bu) Aa.length Bz,.int .i64 Bd,.string Be,.slice Ca Bf.length Cb,.slice Cc Bg.length Cd] 38 (0,0)))∧(w'.heap[Af]?=some (.cells #[.int .i64 ((y23 Aa a1).f0),.string ((y23 Aa a1).f1),.slice (some Al) ((y23 Aa a1).f2).length Ag] 67 (0,0)))∧(Below w.heap.size w w')∧(b 7=true→Kd.R Kd.string 9 w' w.heap.size (fun _=>True) Ah Ap)∧(b 7=true→∃ c_,(Ah:Value)=.slice (some adz_v424) Ap.length c_)∧(b 11=true→(m11_:Value)=.pointer (some (adz_v424.add ((Am)).toNat)))) HT_.out HW_.out (by kernel_rfl) (by kernel_rfl) ?_ ?_ ?_
      ·exact⟨.bool false,⟨0,0,none⟩,.bool false,by simp only [putSel,Bool.false_eq_true,if_false],Ab.out,Ac.out,HB.out,fun h_=>absurd h_ (by decide),fun h_=>absurd h_ (by decide),fun h_=>absurd h_ (by decide)⟩
      ·skip
       clear Ab Ac HB
       refine steps_cons ?_ ?_
       ·rintro b a w' ⟨Ah,adz_v424,m11_,ha,Q_BK417,Q_BK419,Q_HB,Q_HO425,Q_HA_HO425,Q_X11_⟩ hb_ hon hoff
        refine⟨_,rfl,fun K hK=>?_⟩
        have Jz:a.tmps[37]?=some (.pointer (some ⟨Af,2,none⟩)):=by rw [ha];exact(putSel_off rfl).trans rfl
        replace ha:=y0.mk ha
        have Ab:=y0.mk Q_BK417
        have Ac:=y0.mk Q_BK419
        have HB:=y0.mk Q_HB
        have hc0_:w'.cell? ⟨Af,0,none⟩=some (.int .i64 ((y23 Aa a1).f0)):=(y8 Ac.out 0).trans rfl
        have hc1_:w'.cell? ⟨Af,1,none⟩=some (.string ((y23 Aa a1).f1)):=(y8 Ac.out 1).trans rfl
        have hc2_:w'.cell? ⟨Af,2,none⟩=some (.slice (some Al) ((y23 Aa a1).f2).length Ag):=(y8 Ac.out 2).trans rfl
        refine value_ (w1:=w') (v:=.slice (some Al) ((y23 Aa a1).f2).length Ag) (by rfl) rfl ?_ ?_
        ·go_simp
         (try simp only [i64_w])
         try rfl
        refine hK.out _ _ ⟨Ah,adz_v424,m11_,(by rw [ha.out];exact putSel_upk 0 hb_ rfl rfl rfl),Q_BK417,Q_BK419,Q_HB,Q_HO425,Q_HA_HO425,Q_X11_⟩
       refine steps_cons ?_ ?_
       ·rintro b a w' ⟨Ah,adz_v424,m11_,ha,Q_BK417,Q_BK419,Q_HB,Q_HO425,Q_HA_HO425,Q_X11_⟩ hb_ hon hoff
        refine⟨_,rfl,fun K hK=>?_⟩
        have Ka:a.tmps[38]?=some (.slice (some Al) ((y23 Aa a1).f2).length Ag):=by rw [ha];exact putSel_on (e:=(2,38,.slice (some Al) ((y23 Aa a1).f2).length Ag)) 0 rfl rfl (hon 2 (by kernel_rfl)) rfl
        replace ha:=y0.mk ha
        have Ab:=y0.mk Q_BK417
        have Ac:=y0.mk Q_BK419
        have HB:=y0.mk Q_HB
        have hs0_:w'.cell? Al=some (.int .i64 (rd ((y23 Aa a1).f2) 0)):=(qC Bi HB)
        refine value_ (w1:=w') (v:=.pointer (some Al)) (by rfl) rfl ?_ ?_
        ·go_simp
         (try simp only [i64_w])
         try rfl
        refine hK.out _ _ ⟨Ah,adz_v424,m11_,(by rw [ha.out];exact putSel_upk 1 hb_ rfl rfl rfl),Q_BK417,Q_BK419,Q_HB,Q_HO425,Q_HA_HO425,Q_X11_⟩
       refine steps_cons ?_ ?_
       ·rintro b a w' ⟨Ah,adz_v424,m11_,ha,Q_BK417,Q_BK419,Q_HB,Q_HO425,Q_HA_HO425,Q_X11_⟩ hb_ hon hoff
        refine⟨_,rfl,fun K hK=>?_⟩
        have Kb:a.tmps[39]?=some (.pointer (some Al)):=by rw [ha];exact putSel_on (e:=(3,39,.pointer (some Al))) 1 rfl rfl (hon 3 (by kernel_rfl)) rfl
        replace ha:=y0.mk ha
        have Ab:=y0.mk Q_BK417
        have Ac:=y0.mk Q_BK419
        have HB:=y0.mk Q_HB
        have hs0_:w'.cell? Al=some (.int .i64 (rd ((y23 Aa a1).f2) 0)):=(qC Bi HB)
        refine value_ (w1:=w') (v:=.int .i64 (rd ((y23 Aa a1).f2) 0)) (by rfl) rfl ?_ ?_
        ·go_simp
         (try simp only [i64_w])
         try rfl
        refine hK.out _ _ ⟨Ah,adz_v424,m11_,(by rw [ha.out];exact putSel_upk 2 hb_ rfl rfl rfl),Q_BK417,Q_BK419,Q_HB,Q_HO425,Q_HA_HO425,Q_X11_⟩
       refine steps_cons ?_ ?_
       ·rintro b a w' ⟨Ah,adz_v424,m11_,ha,Q_BK417,Q_BK419,Q_HB,Q_HO425,Q_HA_HO425,Q_X11_⟩ hb_ hon hoff
        refine⟨_,rfl,fun K hK=>?_⟩
        have Ix:a.tmps[36]?=some (.func (.func 83) #[] #[.pointer (some ⟨As,0,none⟩)]):=by rw [ha];exact(putSel_off rfl).trans rfl
        have Iy:a.tmps[40]?=some (.int .i64 (rd ((y23 Aa a1).f2) 0)):=by rw [ha];exact putSel_on (e:=(4,40,.int .i64 (rd ((y23 Aa a1).f2) 0))) 2 rfl rfl (hon 4 (by kernel_rfl)) rfl
        replace ha:=y0.mk ha
        have Ab:=y0.mk Q_BK417
        have Ac:=y0.mk Q_BK419
        have HB:=y0.mk Q_HB
        refine goesC_ Tryz.func83 (by kernel_rfl) rfl #[.int .i64 (rd ((y23 Aa a1).f2) 0),.pointer (some ⟨As,0,none⟩)] #[.pointer (some ⟨As,0,none⟩)] (by rfl) rfl rfl (by first|(simp only [qM_,List.map_cons,List.map_nil,Act.eval,Array.getD_eq_getD_getElem?,Option.getD_some,Ix,Iy];done)|(simp only [qM_,List.map_cons,List.map_nil,Act.eval,Array.getD_eq_getD_getElem?,Option.getD_some,Ix,Iy];rfl)) ?_
        with_reducible refine(ih_impl_Rule_expText_1 Dp (by have:=Ex.out;omega) (rd ((y23 Aa a1).f2) 0) _ _ Aa Bd Be _ _ Bf _ _ Bg As Aq _ (qc (Kd.C_below Bw.out HB.out)) Cm.out (qc (Kd.C_below Cn.out HB.out)) Co.out (qc (Kd.C_below Cp.out HB.out)) Cq.out (by(with_reducible repeat(first|refine y10 ?_ _|refine y9 ?_|refine y6 ?_ _));exact Ab.out) Ig.out).mono ?_
        rintro e Iz ⟨rfl,hb⟩
        refine⟨_,rfl, ?_⟩
        have n0_:=y0.mk (qK Ab.out hb)
        have n1_:=y0.mk (qK Ac.out hb)
        have n2_:=y0.mk (y5 qb hb)
        have z_HO425:=fun(h0_:b 7=true)=>(show Kd.R Kd.string 9 Iz w.heap.size (fun _=>True) Ah Ap from by first|exact(Kd.R_below (qR ((Q_HO425 h0_))) hb)|exact Kd.R_mono (Kd.R_below (qR ((Q_HO425 h0_))) hb) (fun _ h_=>by first|trivial|exact h_|exact h_.1))
        clear Ab
        clear Ac
        clear HB
        have Ab:=n0_
        have Ac:=n1_
        have HB:=n2_
        clear n0_ n1_ n2_
        (try clear hb)
        refine hK.out _ _ ⟨Ah,adz_v424,m11_,(by rw [ha.out];exact putSel_upk 3 hb_ rfl rfl rfl),(qk Ab.out),(qk Ac.out),qb,z_HO425,Q_HA_HO425,Q_X11_⟩
       refine steps_cons ?_ ?_
       ·rintro b a w' ⟨Ah,adz_v424,m11_,ha,Q_BK417,Q_BK419,Q_HB,Q_HO425,Q_HA_HO425,Q_X11_⟩ hb_ hon hoff
        refine⟨_,rfl,fun K hK=>?_⟩
        have Ke:a.tmps[41]?=some (.string Aq):=by rw [ha];exact putSel_on (e:=(5,41,.string Aq)) 3 rfl rfl (hon 5 (by kernel_rfl)) rfl
        replace ha:=y0.mk ha
        have Ab:=y0.mk Q_BK417
        have Ac:=y0.mk Q_BK419
        have HB:=y0.mk Q_HB
        refine value_ (w1:=w') (v:=.string (Aq ++ (⟨#[32]⟩:ByteArray))) (by rfl) rfl ?_ ?_
        ·go_simp
         (try simp only [i64_w])
         try first|rfl|(have hz_:=Dx;(try have hy7_:=of_eq_true c7b0);(try have hy8_:=of_eq_true c8b0);(try have hy9_:=of_eq_true c9b0);(try have hy10_:=of_eq_true c10b0);(try have hy11_:=of_eq_true Av);(try have hy12_:=of_eq_true Aw);(try have hy13_:=of_eq_true Ay);(try simp only [ByteArray.size_append,ByteArray.size_extract]at hz_);omega)|(have hz_:=Dy;(try have hy9_:=of_eq_true c9b0);(try have hy10_:=of_eq_true c10b0);(try have hy11_:=of_eq_true Av);(try have hy12_:=of_eq_true Aw);(try have hy13_:=of_eq_true Ay);(try have hy14_:=of_eq_true c14b0);(try have hy15_:=of_eq_true Bq);(try simp only [ByteArray.size_append,ByteArray.size_extract]at hz_);omega)|(have hz_:=Dz;(try have hy10_:=of_eq_true c10b0);(try have hy11_:=of_eq_true Av);(try have hy12_:=of_eq_true Aw);(try have hy13_:=of_eq_true Ay);(try have hy14_:=of_eq_true c14b0);(try have hy15_:=of_eq_true Bq);(try have hy16_:=of_eq_true Cf);(try simp only [ByteArray.size_append,ByteArray.size_extract]at hz_);omega)|(have hz_:=Ea;(try have hy35_:=of_eq_true c35b0);(try have hy36_:=of_eq_true Br);(try have hy37_:=of_eq_true Bx);(try have hy38_:=of_eq_true c38b0);(try have hy39_:=of_eq_true Bs);(try have hy40_:=of_eq_true c40b0);(try have hy41_:=of_eq_true Az);(try simp only [ByteArray.size_append,ByteArray.size_extract]at hz_);omega)|(have hz_:=Eb;(try have hy39_:=of_eq_true Bs);(try have hy40_:=of_eq_true c40b0);(try have hy41_:=of_eq_true Az);(try have hy42_:=of_eq_true c42b0);(try have hy43_:=of_eq_true Ba);(try have hy44_:=of_eq_true Bb);(try have hy45_:=of_eq_true Bc);(try simp only [ByteArray.size_append,ByteArray.size_extract]at hz_);omega)|(have hz_:=Ec;(try have hy40_:=of_eq_true c40b0);(try have hy41_:=of_eq_true Az);(try have hy42_:=of_eq_true c42b0);(try have hy43_:=of_eq_true Ba);(try have hy44_:=of_eq_true Bb);(try have hy45_:=of_eq_true Bc);(try have hy46_:=of_eq_true Bt);(try simp only [ByteArray.size_append,ByteArray.size_extract]at hz_);omega)|(have hz_:=Ed;(try have hy43_:=of_eq_true Ba);(try have hy44_:=of_eq_true Bb);(try have hy45_:=of_eq_true Bc);(try have hy46_:=of_eq_true Bt);(try have hy47_:=of_eq_true Ci);(try have hy48_:=of_eq_true c48b0);(try have hy49_:=of_eq_true Cj);(try simp only [ByteArray.size_append,ByteArray.size_extract]at hz_);omega)
        refine hK.out _ _ ⟨Ah,adz_v424,m11_,(by rw [ha.out];exact putSel_upk 4 hb_ rfl rfl rfl),Q_BK417,Q_BK419,Q_HB,Q_HO425,Q_HA_HO425,Q_X11_⟩
       refine steps_cons ?_ ?_
       ·rintro b a w' ⟨Ah,adz_v424,m11_,ha,Q_BK417,Q_BK419,Q_HB,Q_HO425,Q_HA_HO425,Q_X11_⟩ hb_ hon hoff
        refine⟨_,rfl,fun K hK=>?_⟩
        replace ha:=y0.mk ha
        have Ab:=y0.mk Q_BK417
        have Ac:=y0.mk Q_BK419
        have HB:=y0.mk Q_HB
        refine qLs Kd.string 9 43 ([(⟨#[43]⟩:ByteArray),(⟨#[45]⟩:ByteArray),(⟨#[42]⟩:ByteArray)]:List ByteArray) ?_
        intro Ah Iz Cw hb hg_ hnew_
        clear hg_ hnew_
        (first|rw [← Cg.out]at Cw|(simp only [Int.reduceToNat]at Cw;rw [← Cg.out]at Cw))
        have Bm:=y0.mk (Kd.R_lower Cw (y4 qb))
        replace Ab:=y0.mk (qK Ab.out hb)
        replace Ac:=y0.mk (qK Ac.out hb)
        replace HB:=y0.mk (y5 qb hb)
        clear hb Cw
        obtain⟨Jm,Ho,Hp⟩:=Kd.R_slice Bm.out
        subst Hp
        obtain⟨Ee,Hq,_⟩:=Kd.at_string (Kd.R_reads' Bm.out).2.2 0 (by decide) (by rw [Cg.out];simp)
        cases Hq
        refine hK.out _ _ ⟨.slice (some Ee) Ap.length Ho,Ee,m11_,(by rw [ha.out];exact putSel_upk 5 hb_ rfl rfl rfl),(qk Ab.out),(qk Ac.out),qb,fun _=>(qR Bm.out),fun _=>⟨_,rfl⟩,fun h0_=>absurd ((hoff 11 (by kernel_rfl)).symm.trans h0_) (by decide)⟩
       refine steps_cons ?_ ?_
       ·rintro b a w' ⟨Ah,adz_v424,m11_,ha,Q_BK417,Q_BK419,Q_HB,Q_HO425,Q_HA_HO425,Q_X11_⟩ hb_ hon hoff
        refine⟨_,rfl,fun K hK=>?_⟩
        have Kf:a.tmps[44]?=some (.pointer (some ⟨Af,0,none⟩)):=by rw [ha];exact(putSel_off rfl).trans rfl
        replace ha:=y0.mk ha
        have Ab:=y0.mk Q_BK417
        have Ac:=y0.mk Q_BK419
        have HB:=y0.mk Q_HB
        have hc0_:w'.cell? ⟨Af,0,none⟩=some (.int .i64 ((y23 Aa a1).f0)):=(y8 Ac.out 0).trans rfl
        have hc1_:w'.cell? ⟨Af,1,none⟩=some (.string ((y23 Aa a1).f1)):=(y8 Ac.out 1).trans rfl
        have hc2_:w'.cell? ⟨Af,2,none⟩=some (.slice (some Al) ((y23 Aa a1).f2).length Ag):=(y8 Ac.out 2).trans rfl
        refine value_ (w1:=w') (v:=.int .i64 ((y23 Aa a1).f0)) (by rfl) rfl ?_ ?_
        ·go_simp
         (try simp only [i64_w])
         try rfl
        refine hK.out _ _ ⟨Ah,adz_v424,m11_,(by rw [ha.out];exact putSel_upk 6 hb_ rfl rfl rfl),Q_BK417,Q_BK419,Q_HB,Q_HO425,Q_HA_HO425,fun h0_=>absurd ((hoff 11 (by kernel_rfl)).symm.trans h0_) (by decide)⟩
       refine steps_cons ?_ ?_
       ·rintro b a w' ⟨Ah,adz_v424,m11_,ha,Q_BK417,Q_BK419,Q_HB,Q_HO425,Q_HA_HO425,Q_X11_⟩ hb_ hon hoff
        refine⟨_,rfl,fun K hK=>?_⟩
        have Kg:a.tmps[45]?=some (.int .i64 ((y23 Aa a1).f0)):=by rw [ha];exact putSel_on (e:=(9,45,.int .i64 ((y23 Aa a1).f0))) 6 rfl rfl (hon 9 (by kernel_rfl)) rfl
        replace ha:=y0.mk ha
        have Ab:=y0.mk Q_BK417
        have Ac:=y0.mk Q_BK419
        have HB:=y0.mk Q_HB
        refine value_ (w1:=w') (v:=.int .i64 Am) (by rfl) rfl ?_ ?_
        ·go_simp
         (try simp only [i64_w])
         try rfl
        refine hK.out _ _ ⟨Ah,adz_v424,m11_,(by rw [ha.out];exact putSel_upk 7 hb_ rfl rfl rfl),Q_BK417,Q_BK419,Q_HB,Q_HO425,Q_HA_HO425,fun h0_=>absurd ((hoff 11 (by kernel_rfl)).symm.trans h0_) (by decide)⟩
       refine steps_cons ?_ ?_
       ·rintro b a w' ⟨Ah,adz_v424,m11_,ha,Q_BK417,Q_BK419,Q_HB,Q_HO425,Q_HA_HO425,Q_X11_⟩ hb_ hon hoff
        refine⟨_,rfl,fun K hK=>?_⟩
        have Jn:a.tmps[43]?=some (Ah):=by rw [ha];exact putSel_on (e:=(7,43,Ah)) 5 rfl rfl (hon 7 (by kernel_rfl)) rfl
        have Kh:a.tmps[46]?=some (.int .i64 Am):=by rw [ha];exact putSel_on (e:=(10,46,.int .i64 Am)) 7 rfl rfl (hon 10 (by kernel_rfl)) rfl
        replace ha:=y0.mk ha
        have Ab:=y0.mk Q_BK417
        have Ac:=y0.mk Q_BK419
        have HB:=y0.mk Q_HB
        have Bm:=y0.mk (Q_HO425 (hon 7 (by kernel_rfl)))
        have HA_HO425:=y0.mk (Q_HA_HO425 (hon 7 (by kernel_rfl)))
        obtain⟨c_,hv_⟩:=HA_HO425.out
        rw [hv_]at Jn
        refine value_ (w1:=w') (v:=.pointer (some (adz_v424.add ((Am)).toNat))) (by rfl) rfl ?_ ?_
        ·go_simp
         (try simp only [i64_w])
         try rfl
        refine hK.out _ _ ⟨Ah,adz_v424,(.pointer (some (adz_v424.add ((Am)).toNat))),(by rw [ha.out];exact putSel_upk 8 hb_ rfl rfl rfl),Q_BK417,Q_BK419,Q_HB,Q_HO425,Q_HA_HO425,fun _=>rfl⟩
       refine steps_cons ?_ ?_
       ·rintro b a w' ⟨Ah,adz_v424,m11_,ha,Q_BK417,Q_BK419,Q_HB,Q_HO425,Q_HA_HO425,Q_X11_⟩ hb_ hon hoff
        refine⟨_,rfl,fun K hK=>?_⟩
        have Jo:a.tmps[47]?=some (m11_):=by rw [ha];exact putSel_on (e:=(11,47,m11_)) 8 rfl rfl (hon 11 (by kernel_rfl)) rfl
        rw [Q_X11_ (hon 11 (by kernel_rfl))]at Jo
        replace ha:=y0.mk ha
        have Ab:=y0.mk Q_BK417
        have Ac:=y0.mk Q_BK419
        have HB:=y0.mk Q_HB
        have Bm:=y0.mk (Q_HO425 (hon 7 (by kernel_rfl)))
        have HA_HO425:=y0.mk (Q_HA_HO425 (hon 7 (by kernel_rfl)))
        obtain⟨c_,hv_⟩:=HA_HO425.out
        have hF_:=Bm.out
        rw [hv_]at hF_
        obtain⟨ad_,ea_,hx_⟩:=Kd.at_string (Kd.R_reads' hF_).2.2 (Am) (of_eq_true Fb) (of_eq_true Fc)
        cases ea_
        refine value_ (w1:=w') (v:=.string (rdOf ByteArray.empty Ap (Am))) (by rfl) rfl ?_ ?_
        ·go_simp
         (try simp only [i64_w])
         try rfl
        refine hK.out _ _ ⟨Ah,adz_v424,m11_,(by rw [ha.out];exact putSel_upk 9 hb_ rfl rfl rfl),Q_BK417,Q_BK419,Q_HB,Q_HO425,Q_HA_HO425,Q_X11_⟩
       refine steps_cons ?_ ?_
       ·rintro b a w' ⟨Ah,adz_v424,m11_,ha,Q_BK417,Q_BK419,Q_HB,Q_HO425,Q_HA_HO425,Q_X11_⟩ hb_ hon hoff
        refine⟨_,rfl,fun K hK=>?_⟩
        have Ki:a.tmps[42]?=some (.string (Aq ++ (⟨#[32]⟩:ByteArray))):=by rw [ha];exact putSel_on (e:=(6,42,.string (Aq ++ (⟨#[32]⟩:ByteArray)))) 4 rfl rfl (hon 6 (by kernel_rfl)) rfl
        have Kj:a.tmps[48]?=some (.string (rdOf ByteArray.empty Ap (Am))):=by rw [ha];exact putSel_on (e:=(12,48,.string (rdOf ByteArray.empty Ap (Am)))) 9 rfl rfl (hon 12 (by kernel_rfl)) rfl
        replace ha:=y0.mk ha
        have Ab:=y0.mk Q_BK417
        have Ac:=y0.mk Q_BK419
        have HB:=y0.mk Q_HB
        have Bm:=y0.mk (Q_HO425 (hon 7 (by kernel_rfl)))
        have HA_HO425:=y0.mk (Q_HA_HO425 (hon 7 (by kernel_rfl)))
        refine value_ (w1:=w') (v:=.string ((Aq ++ (⟨#[32]⟩:ByteArray)) ++ (rdOf ByteArray.empty Ap (Am)))) (by rfl) rfl ?_ ?_
        ·go_simp
         (try simp only [i64_w])
         try first|rfl|(have hz_:=Dx;(try have hy7_:=of_eq_true c7b0);(try have hy8_:=of_eq_true c8b0);(try have hy9_:=of_eq_true c9b0);(try have hy10_:=of_eq_true c10b0);(try have hy11_:=of_eq_true Av);(try have hy12_:=of_eq_true Aw);(try have hy13_:=of_eq_true Ay);(try simp only [ByteArray.size_append,ByteArray.size_extract]at hz_);omega)|(have hz_:=Dy;(try have hy9_:=of_eq_true c9b0);(try have hy10_:=of_eq_true c10b0);(try have hy11_:=of_eq_true Av);(try have hy12_:=of_eq_true Aw);(try have hy13_:=of_eq_true Ay);(try have hy14_:=of_eq_true c14b0);(try have hy15_:=of_eq_true Bq);(try simp only [ByteArray.size_append,ByteArray.size_extract]at hz_);omega)|(have hz_:=Dz;(try have hy10_:=of_eq_true c10b0);(try have hy11_:=of_eq_true Av);(try have hy12_:=of_eq_true Aw);(try have hy13_:=of_eq_true Ay);(try have hy14_:=of_eq_true c14b0);(try have hy15_:=of_eq_true Bq);(try have hy16_:=of_eq_true Cf);(try simp only [ByteArray.size_append,ByteArray.size_extract]at hz_);omega)|(have hz_:=Ea;(try have hy35_:=of_eq_true c35b0);(try have hy36_:=of_eq_true Br);(try have hy37_:=of_eq_true Bx);(try have hy38_:=of_eq_true c38b0);(try have hy39_:=of_eq_true Bs);(try have hy40_:=of_eq_true c40b0);(try have hy41_:=of_eq_true Az);(try simp only [ByteArray.size_append,ByteArray.size_extract]at hz_);omega)|(have hz_:=Eb;(try have hy39_:=of_eq_true Bs);(try have hy40_:=of_eq_true c40b0);(try have hy41_:=of_eq_true Az);(try have hy42_:=of_eq_true c42b0);(try have hy43_:=of_eq_true Ba);(try have hy44_:=of_eq_true Bb);(try have hy45_:=of_eq_true Bc);(try simp only [ByteArray.size_append,ByteArray.size_extract]at hz_);omega)|(have hz_:=Ec;(try have hy40_:=of_eq_true c40b0);(try have hy41_:=of_eq_true Az);(try have hy42_:=of_eq_true c42b0);(try have hy43_:=of_eq_true Ba);(try have hy44_:=of_eq_true Bb);(try have hy45_:=of_eq_true Bc);(try have hy46_:=of_eq_true Bt);(try simp only [ByteArray.size_append,ByteArray.size_extract]at hz_);omega)|(have hz_:=Ed;(try have hy43_:=of_eq_true Ba);(try have hy44_:=of_eq_true Bb);(try have hy45_:=of_eq_true Bc);(try have hy46_:=of_eq_true Bt);(try have hy47_:=of_eq_true Ci);(try have hy48_:=of_eq_true c48b0);(try have hy49_:=of_eq_true Cj);(try simp only [ByteArray.size_append,ByteArray.size_extract]at hz_);omega)
        refine hK.out _ _ ⟨Ah,adz_v424,m11_,(by rw [ha.out];exact putSel_upk 10 hb_ rfl rfl rfl),Q_BK417,Q_BK419,Q_HB,Q_HO425,Q_HA_HO425,Q_X11_⟩
       refine steps_cons ?_ ?_
       ·rintro b a w' ⟨Ah,adz_v424,m11_,ha,Q_BK417,Q_BK419,Q_HB,Q_HO425,Q_HA_HO425,Q_X11_⟩ hb_ hon hoff
        refine⟨_,rfl,fun K hK=>?_⟩
        have Kk:a.tmps[49]?=some (.string ((Aq ++ (⟨#[32]⟩:ByteArray)) ++ (rdOf ByteArray.empty Ap (Am)))):=by rw [ha];exact putSel_on (e:=(13,49,.string ((Aq ++ (⟨#[32]⟩:ByteArray)) ++ (rdOf ByteArray.empty Ap (Am))))) 10 rfl rfl (hon 13 (by kernel_rfl)) rfl
        replace ha:=y0.mk ha
        have Ab:=y0.mk Q_BK417
        have Ac:=y0.mk Q_BK419
        have HB:=y0.mk Q_HB
        have Bm:=y0.mk (Q_HO425 (hon 7 (by kernel_rfl)))
        have HA_HO425:=y0.mk (Q_HA_HO425 (hon 7 (by kernel_rfl)))
        refine value_ (w1:=w') (v:=.string (((Aq ++ (⟨#[32]⟩:ByteArray)) ++ (rdOf ByteArray.empty Ap (Am))) ++ (⟨#[32]⟩:ByteArray))) (by rfl) rfl ?_ ?_
        ·go_simp
         (try simp only [i64_w])
         try first|rfl|(have hz_:=Dx;(try have hy7_:=of_eq_true c7b0);(try have hy8_:=of_eq_true c8b0);(try have hy9_:=of_eq_true c9b0);(try have hy10_:=of_eq_true c10b0);(try have hy11_:=of_eq_true Av);(try have hy12_:=of_eq_true Aw);(try have hy13_:=of_eq_true Ay);(try simp only [ByteArray.size_append,ByteArray.size_extract]at hz_);omega)|(have hz_:=Dy;(try have hy9_:=of_eq_true c9b0);(try have hy10_:=of_eq_true c10b0);(try have hy11_:=of_eq_true Av);(try have hy12_:=of_eq_true Aw);(try have hy13_:=of_eq_true Ay);(try have hy14_:=of_eq_true c14b0);(try have hy15_:=of_eq_true Bq);(try simp only [ByteArray.size_append,ByteArray.size_extract]at hz_);omega)|(have hz_:=Dz;(try have hy10_:=of_eq_true c10b0);(try have hy11_:=of_eq_true Av);(try have hy12_:=of_eq_true Aw);(try have hy13_:=of_eq_true Ay);(try have hy14_:=of_eq_true c14b0);(try have hy15_:=of_eq_true Bq);(try have hy16_:=of_eq_true Cf);(try simp only [ByteArray.size_append,ByteArray.size_extract]at hz_);omega)|(have hz_:=Ea;(try have hy35_:=of_eq_true c35b0);(try have hy36_:=of_eq_true Br);(try have hy37_:=of_eq_true Bx);(try have hy38_:=of_eq_true c38b0);(try have hy39_:=of_eq_true Bs);(try have hy40_:=of_eq_true c40b0);(try have hy41_:=of_eq_true Az);(try simp only [ByteArray.size_append,ByteArray.size_extract]at hz_);omega)|(have hz_:=Eb;(try have hy39_:=of_eq_true Bs);(try have hy40_:=of_eq_true c40b0);(try have hy41_:=of_eq_true Az);(try have hy42_:=of_eq_true c42b0);(try have hy43_:=of_eq_true Ba);(try have hy44_:=of_eq_true Bb);(try have hy45_:=of_eq_true Bc);(try simp only [ByteArray.size_append,ByteArray.size_extract]at hz_);omega)|(have hz_:=Ec;(try have hy40_:=of_eq_true c40b0);(try have hy41_:=of_eq_true Az);(try have hy42_:=of_eq_true c42b0);(try have hy43_:=of_eq_true Ba);(try have hy44_:=of_eq_true Bb);(try have hy45_:=of_eq_true Bc);(try have hy46_:=of_eq_true Bt);(try simp only [ByteArray.size_append,ByteArray.size_extract]at hz_);omega)|(have hz_:=Ed;(try have hy43_:=of_eq_true Ba);(try have hy44_:=of_eq_true Bb);(try have hy45_:=of_eq_true Bc);(try have hy46_:=of_eq_true Bt);(try have hy47_:=of_eq_true Ci);(try have hy48_:=of_eq_true c48b0);(try have hy49_:=of_eq_true Cj);(try simp only [ByteArray.size_append,ByteArray.size_extract]at hz_);omega)
        refine hK.out _ _ ⟨Ah,adz_v424,m11_,(by rw [ha.out];exact putSel_upk 11 hb_ rfl rfl rfl),Q_BK417,Q_BK419,Q_HB,Q_HO425,Q_HA_HO425,Q_X11_⟩
       refine steps_cons ?_ ?_
       ·rintro b a w' ⟨Ah,adz_v424,m11_,ha,Q_BK417,Q_BK419,Q_HB,Q_HO425,Q_HA_HO425,Q_X11_⟩ hb_ hon hoff
        refine⟨_,rfl,fun K hK=>?_⟩
        have Kl:a.tmps[52]?=some (.pointer (some ⟨Af,2,none⟩)):=by rw [ha];exact(putSel_off rfl).trans rfl
        replace ha:=y0.mk ha
        have Ab:=y0.mk Q_BK417
        have Ac:=y0.mk Q_BK419
        have HB:=y0.mk Q_HB
        have hc0_:w'.cell? ⟨Af,0,none⟩=some (.int .i64 ((y23 Aa a1).f0)):=(y8 Ac.out 0).trans rfl
        have hc1_:w'.cell? ⟨Af,1,none⟩=some (.string ((y23 Aa a1).f1)):=(y8 Ac.out 1).trans rfl
        have hc2_:w'.cell? ⟨Af,2,none⟩=some (.slice (some Al) ((y23 Aa a1).f2).length Ag):=(y8 Ac.out 2).trans rfl
        refine value_ (w1:=w') (v:=.slice (some Al) ((y23 Aa a1).f2).length Ag) (by rfl) rfl ?_ ?_
        ·go_simp
         (try simp only [i64_w])
         try rfl
        refine hK.out _ _ ⟨Ah,adz_v424,m11_,(by rw [ha.out];exact putSel_upk 12 hb_ rfl rfl rfl),Q_BK417,Q_BK419,Q_HB,Q_HO425,Q_HA_HO425,Q_X11_⟩
       refine steps_cons ?_ ?_
       ·rintro b a w' ⟨Ah,adz_v424,m11_,ha,Q_BK417,Q_BK419,Q_HB,Q_HO425,Q_HA_HO425,Q_X11_⟩ hb_ hon hoff
        refine⟨_,rfl,fun K hK=>?_⟩
        have Km:a.tmps[53]?=some (.slice (some Al) ((y23 Aa a1).f2).length Ag):=by rw [ha];exact putSel_on (e:=(17,53,.slice (some Al) ((y23 Aa a1).f2).length Ag)) 12 rfl rfl (hon 17 (by kernel_rfl)) rfl
        replace ha:=y0.mk ha
        have Ab:=y0.mk Q_BK417
        have Ac:=y0.mk Q_BK419
        have HB:=y0.mk Q_HB
        have hs1_:w'.cell? ⟨Al.block,Al.off + 1,none⟩=some (.int .i64 (rd ((y23 Aa a1).f2) 1)):=(qC Bk HB)
        refine value_ (w1:=w') (v:=.pointer (some (Al.add 1))) (by rfl) rfl ?_ ?_
        ·go_simp
         (try simp only [i64_w])
         try rfl
        refine hK.out _ _ ⟨Ah,adz_v424,m11_,(by rw [ha.out];exact putSel_upk 13 hb_ rfl rfl rfl),Q_BK417,Q_BK419,Q_HB,Q_HO425,Q_HA_HO425,Q_X11_⟩
       refine steps_cons ?_ ?_
       ·rintro b a w' ⟨Ah,adz_v424,m11_,ha,Q_BK417,Q_BK419,Q_HB,Q_HO425,Q_HA_HO425,Q_X11_⟩ hb_ hon hoff
        refine⟨_,rfl,fun K hK=>?_⟩
        have Kn:a.tmps[54]?=some (.pointer (some (Al.add 1))):=by rw [ha];exact putSel_on (e:=(18,54,.pointer (some (Al.add 1)))) 13 rfl rfl (hon 18 (by kernel_rfl)) rfl
        replace ha:=y0.mk ha
        have Ab:=y0.mk Q_BK417
        have Ac:=y0.mk Q_BK419
        have HB:=y0.mk Q_HB
        have hs1_:w'.cell? ⟨Al.block,Al.off + 1,none⟩=some (.int .i64 (rd ((y23 Aa a1).f2) 1)):=(qC Bk HB)
        refine value_ (w1:=w') (v:=.int .i64 (rd ((y23 Aa a1).f2) 1)) (by rfl) rfl ?_ ?_
        ·go_simp
         (try simp only [i64_w])
         try rfl
        refine hK.out _ _ ⟨Ah,adz_v424,m11_,(by rw [ha.out];exact putSel_upk 14 hb_ rfl rfl rfl),Q_BK417,Q_BK419,Q_HB,Q_HO425,Q_HA_HO425,Q_X11_⟩
       refine steps_cons ?_ ?_
       ·rintro b a w' ⟨Ah,adz_v424,m11_,ha,Q_BK417,Q_BK419,Q_HB,Q_HO425,Q_HA_HO425,Q_X11_⟩ hb_ hon hoff
        refine⟨_,rfl,fun K hK=>?_⟩
        have Ja:a.tmps[51]?=some (.func (.func 83) #[] #[.pointer (some ⟨As,0,none⟩)]):=by rw [ha];exact(putSel_off rfl).trans rfl
        have Jb:a.tmps[55]?=some (.int .i64 (rd ((y23 Aa a1).f2) 1)):=by rw [ha];exact putSel_on (e:=(19,55,.int .i64 (rd ((y23 Aa a1).f2) 1))) 14 rfl rfl (hon 19 (by kernel_rfl)) rfl
        replace ha:=y0.mk ha
        have Ab:=y0.mk Q_BK417
        have Ac:=y0.mk Q_BK419
        have HB:=y0.mk Q_HB
        refine goesC_ Tryz.func83 (by kernel_rfl) rfl #[.int .i64 (rd ((y23 Aa a1).f2) 1),.pointer (some ⟨As,0,none⟩)] #[.pointer (some ⟨As,0,none⟩)] (by rfl) rfl rfl (by first|(simp only [qM_,List.map_cons,List.map_nil,Act.eval,Array.getD_eq_getD_getElem?,Option.getD_some,Ja,Jb];done)|(simp only [qM_,List.map_cons,List.map_nil,Act.eval,Array.getD_eq_getD_getElem?,Option.getD_some,Ja,Jb];rfl)) ?_
        with_reducible refine(ih_impl_Rule_expText_1 Dp (by have:=Ex.out;omega) (rd ((y23 Aa a1).f2) 1) _ _ Aa Bd Be _ _ Bf _ _ Bg As Bl _ (qc (Kd.C_below Bw.out HB.out)) Cm.out (qc (Kd.C_below Cn.out HB.out)) Co.out (qc (Kd.C_below Cp.out HB.out)) Cq.out (by(with_reducible repeat(first|refine y10 ?_ _|refine y9 ?_|refine y6 ?_ _));exact Ab.out) Jl.out).mono ?_
        rintro e Jp ⟨rfl,hb⟩
        refine⟨_,rfl, ?_⟩
        have n0_:=y0.mk (qK Ab.out hb)
        have n1_:=y0.mk (qK Ac.out hb)
        have n2_:=y0.mk (y5 qb hb)
        have z_HO425:=fun(h0_:b 7=true)=>(show Kd.R Kd.string 9 Jp w.heap.size (fun _=>True) Ah Ap from by first|exact(Kd.R_below (qR ((Q_HO425 h0_))) hb)|exact Kd.R_mono (Kd.R_below (qR ((Q_HO425 h0_))) hb) (fun _ h_=>by first|trivial|exact h_|exact h_.1))
        clear Ab
        clear Ac
        clear HB
        have Ab:=n0_
        have Ac:=n1_
        have HB:=n2_
        clear n0_ n1_ n2_
        (try clear hb)
        refine hK.out _ _ ⟨Ah,adz_v424,m11_,(by rw [ha.out];exact putSel_upk 15 hb_ rfl rfl rfl),(qk Ab.out),(qk Ac.out),qb,z_HO425,Q_HA_HO425,Q_X11_⟩
       refine steps_cons ?_ ?_
       ·rintro b a w' ⟨Ah,adz_v424,m11_,ha,Q_BK417,Q_BK419,Q_HB,Q_HO425,Q_HA_HO425,Q_X11_⟩ hb_ hon hoff
        refine⟨_,rfl,fun K hK=>?_⟩
        have Ko:a.tmps[50]?=some (.string (((Aq ++ (⟨#[32]⟩:ByteArray)) ++ (rdOf ByteArray.empty Ap (Am))) ++ (⟨#[32]⟩:ByteArray))):=by rw [ha];exact putSel_on (e:=(14,50,.string (((Aq ++ (⟨#[32]⟩:ByteArray)) ++ (rdOf ByteArray.empty Ap (Am))) ++ (⟨#[32]⟩:ByteArray)))) 11 rfl rfl (hon 14 (by kernel_rfl)) rfl
        have Kp:a.tmps[56]?=some (.string Bl):=by rw [ha];exact putSel_on (e:=(20,56,.string Bl)) 15 rfl rfl (hon 20 (by kernel_rfl)) rfl
        replace ha:=y0.mk ha
        have Ab:=y0.mk Q_BK417
        have Ac:=y0.mk Q_BK419
        have HB:=y0.mk Q_HB
        have Bm:=y0.mk (Q_HO425 (hon 7 (by kernel_rfl)))
        have HA_HO425:=y0.mk (Q_HA_HO425 (hon 7 (by kernel_rfl)))
        refine value_ (w1:=w') (v:=.string ((((Aq ++ (⟨#[32]⟩:ByteArray)) ++ (rdOf ByteArray.empty Ap (Am))) ++ (⟨#[32]⟩:ByteArray)) ++ Bl)) (by rfl) rfl ?_ ?_
        ·go_simp
         (try simp only [i64_w])
         try first|rfl|(have hz_:=Dx;(try have hy7_:=of_eq_true c7b0);(try have hy8_:=of_eq_true c8b0);(try have hy9_:=of_eq_true c9b0);(try have hy10_:=of_eq_true c10b0);(try have hy11_:=of_eq_true Av);(try have hy12_:=of_eq_true Aw);(try have hy13_:=of_eq_true Ay);(try simp only [ByteArray.size_append,ByteArray.size_extract]at hz_);omega)|(have hz_:=Dy;(try have hy9_:=of_eq_true c9b0);(try have hy10_:=of_eq_true c10b0);(try have hy11_:=of_eq_true Av);(try have hy12_:=of_eq_true Aw);(try have hy13_:=of_eq_true Ay);(try have hy14_:=of_eq_true c14b0);(try have hy15_:=of_eq_true Bq);(try simp only [ByteArray.size_append,ByteArray.size_extract]at hz_);omega)|(have hz_:=Dz;(try have hy10_:=of_eq_true c10b0);(try have hy11_:=of_eq_true Av);(try have hy12_:=of_eq_true Aw);(try have hy13_:=of_eq_true Ay);(try have hy14_:=of_eq_true c14b0);(try have hy15_:=of_eq_true Bq);(try have hy16_:=of_eq_true Cf);(try simp only [ByteArray.size_append,ByteArray.size_extract]at hz_);omega)|(have hz_:=Ea;(try have hy35_:=of_eq_true c35b0);(try have hy36_:=of_eq_true Br);(try have hy37_:=of_eq_true Bx);(try have hy38_:=of_eq_true c38b0);(try have hy39_:=of_eq_true Bs);(try have hy40_:=of_eq_true c40b0);(try have hy41_:=of_eq_true Az);(try simp only [ByteArray.size_append,ByteArray.size_extract]at hz_);omega)|(have hz_:=Eb;(try have hy39_:=of_eq_true Bs);(try have hy40_:=of_eq_true c40b0);(try have hy41_:=of_eq_true Az);(try have hy42_:=of_eq_true c42b0);(try have hy43_:=of_eq_true Ba);(try have hy44_:=of_eq_true Bb);(try have hy45_:=of_eq_true Bc);(try simp only [ByteArray.size_append,ByteArray.size_extract]at hz_);omega)|(have hz_:=Ec;(try have hy40_:=of_eq_true c40b0);(try have hy41_:=of_eq_true Az);(try have hy42_:=of_eq_true c42b0);(try have hy43_:=of_eq_true Ba);(try have hy44_:=of_eq_true Bb);(try have hy45_:=of_eq_true Bc);(try have hy46_:=of_eq_true Bt);(try simp only [ByteArray.size_append,ByteArray.size_extract]at hz_);omega)|(have hz_:=Ed;(try have hy43_:=of_eq_true Ba);(try have hy44_:=of_eq_true Bb);(try have hy45_:=of_eq_true Bc);(try have hy46_:=of_eq_true Bt);(try have hy47_:=of_eq_true Ci);(try have hy48_:=of_eq_true c48b0);(try have hy49_:=of_eq_true Cj);(try simp only [ByteArray.size_append,ByteArray.size_extract]at hz_);omega)
        refine hK.out _ _ ⟨Ah,adz_v424,m11_,(by rw [ha.out];exact putSel_upk 16 hb_ rfl rfl rfl),Q_BK417,Q_BK419,Q_HB,Q_HO425,Q_HA_HO425,Q_X11_⟩
       refine steps_cons ?_ ?_
       ·rintro b a w' ⟨Ah,adz_v424,m11_,ha,Q_BK417,Q_BK419,Q_HB,Q_HO425,Q_HA_HO425,Q_X11_⟩ hb_ hon hoff
        refine⟨_,rfl,fun K hK=>?_⟩
        have Kq:a.tmps[57]?=some (.string ((((Aq ++ (⟨#[32]⟩:ByteArray)) ++ (rdOf ByteArray.empty Ap (Am))) ++ (⟨#[32]⟩:ByteArray)) ++ Bl)):=by rw [ha];exact putSel_on (e:=(21,57,.string ((((Aq ++ (⟨#[32]⟩:ByteArray)) ++ (rdOf ByteArray.empty Ap (Am))) ++ (⟨#[32]⟩:ByteArray)) ++ Bl))) 16 rfl rfl (hon 21 (by kernel_rfl)) rfl
        replace ha:=y0.mk ha
        have Ab:=y0.mk Q_BK417
        have Ac:=y0.mk Q_BK419
        have HB:=y0.mk Q_HB
        have Bm:=y0.mk (Q_HO425 (hon 7 (by kernel_rfl)))
        have HA_HO425:=y0.mk (Q_HA_HO425 (hon 7 (by kernel_rfl)))
        refine value_ (w1:=w') (v:=.string ((((Aq ++ (⟨#[32]⟩:ByteArray)) ++ (rdOf ByteArray.empty Ap (Am))) ++ (⟨#[32]⟩:ByteArray)) ++ Bl)) (by rfl) rfl ?_ ?_
        ·go_simp
         (try simp only [i64_w])
         try first|rfl|(have hz_:=Dx;(try have hy7_:=of_eq_true c7b0);(try have hy8_:=of_eq_true c8b0);(try have hy9_:=of_eq_true c9b0);(try have hy10_:=of_eq_true c10b0);(try have hy11_:=of_eq_true Av);(try have hy12_:=of_eq_true Aw);(try have hy13_:=of_eq_true Ay);(try simp only [ByteArray.size_append,ByteArray.size_extract]at hz_);omega)|(have hz_:=Dy;(try have hy9_:=of_eq_true c9b0);(try have hy10_:=of_eq_true c10b0);(try have hy11_:=of_eq_true Av);(try have hy12_:=of_eq_true Aw);(try have hy13_:=of_eq_true Ay);(try have hy14_:=of_eq_true c14b0);(try have hy15_:=of_eq_true Bq);(try simp only [ByteArray.size_append,ByteArray.size_extract]at hz_);omega)|(have hz_:=Dz;(try have hy10_:=of_eq_true c10b0);(try have hy11_:=of_eq_true Av);(try have hy12_:=of_eq_true Aw);(try have hy13_:=of_eq_true Ay);(try have hy14_:=of_eq_true c14b0);(try have hy15_:=of_eq_true Bq);(try have hy16_:=of_eq_true Cf);(try simp only [ByteArray.size_append,ByteArray.size_extract]at hz_);omega)|(have hz_:=Ea;(try have hy35_:=of_eq_true c35b0);(try have hy36_:=of_eq_true Br);(try have hy37_:=of_eq_true Bx);(try have hy38_:=of_eq_true c38b0);(try have hy39_:=of_eq_true Bs);(try have hy40_:=of_eq_true c40b0);(try have hy41_:=of_eq_true Az);(try simp only [ByteArray.size_append,ByteArray.size_extract]at hz_);omega)|(have hz_:=Eb;(try have hy39_:=of_eq_true Bs);(try have hy40_:=of_eq_true c40b0);(try have hy41_:=of_eq_true Az);(try have hy42_:=of_eq_true c42b0);(try have hy43_:=of_eq_true Ba);(try have hy44_:=of_eq_true Bb);(try have hy45_:=of_eq_true Bc);(try simp only [ByteArray.size_append,ByteArray.size_extract]at hz_);omega)|(have hz_:=Ec;(try have hy40_:=of_eq_true c40b0);(try have hy41_:=of_eq_true Az);(try have hy42_:=of_eq_true c42b0);(try have hy43_:=of_eq_true Ba);(try have hy44_:=of_eq_true Bb);(try have hy45_:=of_eq_true Bc);(try have hy46_:=of_eq_true Bt);(try simp only [ByteArray.size_append,ByteArray.size_extract]at hz_);omega)|(have hz_:=Ed;(try have hy43_:=of_eq_true Ba);(try have hy44_:=of_eq_true Bb);(try have hy45_:=of_eq_true Bc);(try have hy46_:=of_eq_true Bt);(try have hy47_:=of_eq_true Ci);(try have hy48_:=of_eq_true c48b0);(try have hy49_:=of_eq_true Cj);(try simp only [ByteArray.size_append,ByteArray.size_extract]at hz_);omega)
        refine hK.out _ _ ⟨Ah,adz_v424,m11_,(by rw [ha.out];exact putSel_upk 17 hb_ rfl rfl rfl),Q_BK417,Q_BK419,Q_HB,Q_HO425,Q_HA_HO425,Q_X11_⟩
       exact steps_nil
      rintro b a Kr hall ⟨Ah,adz_v424,m11_,ha,Q_BK417,Q_BK419,Q_HB,Q_HO425,Q_HA_HO425,Q_X11_⟩
      clear Ab Ac HB
      have hb2_:=hall 2 (by kernel_rfl)
      have hb3_:=hall 3 (by kernel_rfl)
      have hb4_:=hall 4 (by kernel_rfl)
      have hb5_:=hall 5 (by kernel_rfl)
      have hb6_:=hall 6 (by kernel_rfl)
      have hb7_:=hall 7 (by kernel_rfl)
      have hb9_:=hall 9 (by kernel_rfl)
      have hb10_:=hall 10 (by kernel_rfl)
      have hb11_:=hall 11 (by kernel_rfl)
      have hb12_:=hall 12 (by kernel_rfl)
      have hb13_:=hall 13 (by kernel_rfl)
      have hb14_:=hall 14 (by kernel_rfl)
      have hb17_:=hall 17 (by kernel_rfl)
      have hb18_:=hall 18 (by kernel_rfl)
      have hb19_:=hall 19 (by kernel_rfl)
      have hb20_:=hall 20 (by kernel_rfl)
      have hb21_:=hall 21 (by kernel_rfl)
      have hb22_:=hall 22 (by kernel_rfl)
      subst ha
      obtain rfl:=Q_X11_ hb11_
      simp only [putSel,hb2_,hb3_,hb4_,hb5_,hb6_,hb7_,hb9_,hb10_,hb11_,hb12_,hb13_,hb14_,hb17_,hb18_,hb19_,hb20_,hb21_,hb22_,if_true,Act.put,qS_,qZ_,qC_]
      have Ab:=y0.mk Q_BK417
      clear Q_BK417
      have Ac:=y0.mk Q_BK419
      clear Q_BK419
      have HB:=y0.mk Q_HB
      clear Q_HB
      have Bm:=y0.mk (Q_HO425 hb7_)
      clear Q_HO425
      have HA_HO425:=y0.mk (Q_HA_HO425 hb7_)
      clear Q_HA_HO425
      clear hall hb2_ hb3_ hb4_ hb5_ hb6_ hb7_ hb9_ hb10_ hb11_ hb12_ hb13_ hb14_ hb17_ hb18_ hb19_ hb20_ hb21_ hb22_
      obtain⟨Jq,Hr⟩:=HA_HO425.out
      clear HA_HO425
      subst Hr
      try go_wp2
      go_ret
      exact⟨by first|rfl|(simp [y15,y16] <;> rfl)|(simp only [← Ch];first|rfl|(simp [y15,y16] <;> rfl))|(simp [*,y15,y16] <;> rfl),qb⟩
     ·replace Gt:=Bool.eq_false_iff.mpr Gt
      subst Gt
      replace H:=qF H
      obtain rfl:=Option.some.inj H
      have Jc:=Ar.out
      have Jd:=Ad.out
      obtain⟨Gu,Gv,Gw,Gx,Gy,Gz⟩:=qz3 Ac.out
      go_wp2
      go_ret
      exact⟨qf,qb⟩
theorem z1_.all.Stm:∀ k,z1_.Stm k∧impl_Rule_expText_1.Stm k∧z0_.Stm k:=by
 intro k
 induction k using Nat.strongRecOn with
 | _ k ih =>
 exact⟨z1_.step k (fun m h=>(ih m h).1) (fun m h=>(ih m h).2.1) (fun m h=>(ih m h).2.2),impl_Rule_expText_1.step k (fun m h=>(ih m h).1) (fun m h=>(ih m h).2.1) (fun m h=>(ih m h).2.2),z0_.step k (fun m h=>(ih m h).1) (fun m h=>(ih m h).2.1) (fun m h=>(ih m h).2.2)⟩
theorem z1_.calls (k:Nat):∀(A0_0:Option Addr) (c0_0:Nat) (l0_0:List (S67)) (a0_1:Int) (a0_2:ByteArray) (A0_3:Option Addr) (c0_3:Nat) (l0_3:List Int) (A0_4:Option Addr) (c0_4:Nat) (l0_4:List (S35)) (A1:Option Addr) (c1:Nat) (l1:List Int) (r:ByteArray) (w:World) (hr0_0:Kd.C k67 w A0_0 l0_0.length l0_0) (hc0_0:l0_0.length≤c0_0) (hr0_3:Kd.C (Kd.int .i64) w A0_3 l0_3.length l0_3) (hc0_3:l0_3.length≤c0_3) (hr0_4:Kd.C k35 w A0_4 l0_4.length l0_4) (hc0_4:l0_4.length≤c0_4) (hr1:Kd.C (Kd.int .i64) w A1 l1.length l1) (hc1:l1.length≤c1) (h:z1_.f k l0_0 a0_1 a0_2 l0_3 l0_4 l1=some r),
  Calls Tryz.prog 70 #[.agg #[.slice A0_0 l0_0.length c0_0,.int .i64 a0_1,.string a0_2,.slice A0_3 l0_3.length c0_3,.slice A0_4 l0_4.length c0_4],.slice A1 l1.length c1] w fun e w'=>e=.returned (.string r)∧Below w.heap.size w w':=(z1_.all.Stm k).1
theorem z0_.calls (k:Nat):∀(A0_0:Option Addr) (c0_0:Nat) (l0_0:List (S67)) (a0_1:Int) (a0_2:ByteArray) (A0_3:Option Addr) (c0_3:Nat) (l0_3:List Int) (A0_4:Option Addr) (c0_4:Nat) (l0_4:List (S35)) (a1:Int) (r:ByteArray) (w:World) (hr0_0:Kd.C k67 w A0_0 l0_0.length l0_0) (hc0_0:l0_0.length≤c0_0) (hr0_3:Kd.C (Kd.int .i64) w A0_3 l0_3.length l0_3) (hc0_3:l0_3.length≤c0_3) (hr0_4:Kd.C k35 w A0_4 l0_4.length l0_4) (hc0_4:l0_4.length≤c0_4) (h:z0_.f k l0_0 a0_1 a0_2 l0_3 l0_4 a1=some r),
  Calls Tryz.prog 69 #[.agg #[.slice A0_0 l0_0.length c0_0,.int .i64 a0_1,.string a0_2,.slice A0_3 l0_3.length c0_3,.slice A0_4 l0_4.length c0_4],.int .i64 a1] w fun e w'=>e=.returned (.string r)∧Below w.heap.size w w':=(z1_.all.Stm k).2.2
end Go.Proofs.YtimhlficlhafbaaGreatDoor.Pv

-- Cut by prune.py.
import Derived.Test.YtimhlficlhafbaaGreatDoorVvlPvx22
set_option maxHeartbeats 8000000
set_option maxRecDepth 100000
section
namespace Go.Proofs.YtimhlficlhafbaaGreatDoor.Pv
open RowKit YtimhlficlhafbaaGreatDoorW.PrintWords YtimhlficlhafbaaGreatDoorW.PrintLast YtimhlficlhafbaaGreatDoorW.PrintMore
set_option linter.unusedVariables false
set_option linter.unusedSimpArgs false
def impl_ExpValue.f (k:Nat) (Ae:List (S67)) (An:Int) (Ao:ByteArray) (By:List Int) (Dd:List (S35)) (a1:Int) (l2:List ByteArray) (l3:List ByteArray):Option (ByteArray×Int):=(impl_hasForm.f k Ae An Ao By Dd).bind fun De=>(if De=true then((impl_in.f a1 0 (wrap64 ((Ae.length:Int) - 1))).bind fun Dz=>(if Dz=true then((impl_Rule_value.f k Ae An Ao By Dd a1 l2 l3).bind fun bt500=>(some (bt500.1,bt500.2)))else(some ((⟨#[]⟩:ByteArray),1))))else(some ((⟨#[]⟩:ByteArray),1)))
theorem impl_ExpValue.calls (k:Nat) (Ah:Option Addr) (Ai:Nat) (Ab:List (S67)) (Af:Int) (Ag:ByteArray) (Aj:Option Addr) (Ak:Nat) (Ac:List Int) (Al:Option Addr) (Am:Nat) (Ad:List (S35)) (a1:Int) (A2:Option Addr) (c2:Nat) (l2:List ByteArray) (A3:Option Addr) (c3:Nat) (l3:List ByteArray) (r1:ByteArray) (r2:Int) (w:World) (Av:Kd.C k67 w Ah Ab.length Ab) (Aw:Ab.length≤Ai) (Ax:Kd.C (Kd.int .i64) w Aj Ac.length Ac) (Ay:Ac.length≤Ak) (Az:Kd.C k35 w Al Ad.length Ad) (Ba:Ad.length≤Am) (Di:Kd.C Kd.string w A2 l2.length l2) (Dj:l2.length≤c2) (Dk:Kd.C Kd.string w A3 l3.length l3) (Dl:l3.length≤c3) (hT:Tb w) (h:impl_ExpValue.f k Ab Af Ag Ac Ad a1 l2 l3=some (r1,r2)) :
  Calls Tryz.prog 9 #[.agg #[.slice Ah Ab.length Ai,.int .i64 Af,.string Ag,.slice Aj Ac.length Ak,.slice Al Ad.length Am],.int .i64 a1,.slice A2 l2.length c2,.slice A3 l3.length c3] w fun e w'=>e=.returned (.tuple #[.string r1,.int .i64 r2])∧Below w.heap.size w w':=by
 have Dm:=Tryz.underlying38
 replace hT:=y0.mk hT
 have Ap:=y0.mk Av
 have Aq:=y0.mk Aw
 clear Av Aw
 have Ar:=y0.mk Ax
 have As:=y0.mk Ay
 clear Ax Ay
 have At:=y0.mk Az
 have Au:=y0.mk Ba
 clear Az Ba
 have Do:=y0.mk Di
 have Dp:=y0.mk Dj
 clear Di Dj
 have Dq:=y0.mk Dk
 have Dr:=y0.mk Dl
 clear Dk Dl
 have HB:=y0.mk (Below.refl w.heap.size w)
 have H:((impl_hasForm.f k Ab Af Ag Ac Ad).bind fun Bf=>(if Bf=true then((impl_in.f a1 0 (wrap64 ((Ab.length:Int) - 1))).bind fun Bg=>(if Bg=true then((impl_Rule_value.f k Ab Af Ag Ac Ad a1 l2 l3).bind fun Bb=>(some (Bb.1,Bb.2)))else(some ((⟨#[]⟩:ByteArray),1))))else(some ((⟨#[]⟩:ByteArray),1))))=some (r1,r2):=h
 clear h
 obtain⟨Bf,A5,H⟩:=qB H
 by_cases c6:Bf=true
 ·subst c6
  replace H:=qT H
  obtain⟨Bg,A7,H⟩:=qB H
  by_cases c8:Bg=true
  ·subst c8
   replace H:=qT H
   obtain⟨⟨Bh,Bi⟩,A9,H⟩:=qB H
   replace H:(some (Bh,Bi))=some (r1,r2):=H
   simp only [Option.some.injEq,Prod.mk.injEq]at H
   obtain⟨rfl,rfl⟩:=H
   go_enter Tryz.func9,Tryz.ntmps9
   go_wp2_with (first|((with_reducible refine y19 (N:=4) rfl ?_);(try(refine y20 (by rfl) ?_;dsimp only));refine qe 4 #[.slice Ah Ab.length Ai,.int .i64 Af,.string Ag,.slice Aj Ac.length Ak,.slice Al Ad.length Am] 38 ?_;intro Bc hg Ds hbox hb;have Aa:=y0.mk (hbox);have Bd:=y0.mk (qg (w:=w) hg);have Be:=y0.mk (qg (w:=w) hg);replace HB:=y0.mk (y5 qb hb);clear hb hbox hg;obtain⟨Bj,Bk,Bl,Bm,Bn,Bo,Bp,Bq,Br,Bs⟩:=qz5 Aa.out)|((with_reducible refine y18 (f:=21) rfl ?_);refine y21 (some 11) rfl rfl Tryz.func21 (by kernel_rfl) rfl #[.agg #[.slice Ah Ab.length Ai,.int .i64 Af,.string Ag,.slice Aj Ac.length Ak,.slice Al Ad.length Am]] rfl qy1 ?_;(with_reducible refine(impl_hasForm.calls k _ _ Ab Af Ag _ _ Ac _ _ Ad true _ ?side1 ?side2 ?side3 ?side4 ?side5 ?side6 A5.out).mono ?_);(case side1=>repeat(first|exact(Kd.C_below Ap.out HB.out)|(with_reducible refine Kd.C_alloc ?_ _)|(with_reducible refine Kd.C_drewN ?_ _)|(with_reducible refine Kd.C_drew ?_)));(case side2=>exact Aq.out);(case side3=>repeat(first|exact(Kd.C_below Ar.out HB.out)|(with_reducible refine Kd.C_alloc ?_ _)|(with_reducible refine Kd.C_drewN ?_ _)|(with_reducible refine Kd.C_drew ?_)));(case side4=>exact As.out);(case side5=>repeat(first|exact(Kd.C_below At.out HB.out)|(with_reducible refine Kd.C_alloc ?_ _)|(with_reducible refine Kd.C_drewN ?_ _)|(with_reducible refine Kd.C_drew ?_)));(case side6=>exact Au.out);rintro e Dt ⟨rfl,hb⟩;refine⟨_,rfl, ?_⟩;replace Aa:=y0.mk (qK Aa.out hb);replace HB:=y0.mk (y5 qb hb);(try clear hb);obtain⟨Bt,Bu,Bv,Bw,Bx,Bz,Ca,Cb,Cc,Cd⟩:=qz5 Aa.out)|(go_at_call 22;(with_reducible refine(impl_in.calls a1 0 (wrap64 ((Ab.length:Int) - 1)) true _ A7.out).mono ?_);rintro e w' ⟨rfl,⟨nd,rfl⟩⟩)|((with_reducible refine y18 (f:=23) rfl ?_);refine y21 (some 26) rfl rfl Tryz.func23 (by kernel_rfl) rfl #[.agg #[.slice Ah Ab.length Ai,.int .i64 Af,.string Ag,.slice Aj Ac.length Ak,.slice Al Ad.length Am],.int .i64 a1,.slice A2 l2.length c2,.slice A3 l3.length c3] rfl qy1 ?_;(with_reducible refine(impl_Rule_value.calls k _ _ Ab Af Ag _ _ Ac _ _ Ad a1 _ _ l2 _ _ l3 Bh Bi _ ?side1 ?side2 ?side3 ?side4 ?side5 ?side6 ?side7 ?side8 ?side9 ?side10 ?side11 A9.out).mono ?_);(case side1=>repeat(first|exact(Kd.C_below Ap.out qb)|(with_reducible refine Kd.C_alloc ?_ _)|(with_reducible refine Kd.C_drewN ?_ _)|(with_reducible refine Kd.C_drew ?_)));(case side2=>exact Aq.out);(case side3=>repeat(first|exact(Kd.C_below Ar.out qb)|(with_reducible refine Kd.C_alloc ?_ _)|(with_reducible refine Kd.C_drewN ?_ _)|(with_reducible refine Kd.C_drew ?_)));(case side4=>exact As.out);(case side5=>repeat(first|exact(Kd.C_below At.out qb)|(with_reducible refine Kd.C_alloc ?_ _)|(with_reducible refine Kd.C_drewN ?_ _)|(with_reducible refine Kd.C_drew ?_)));(case side6=>exact Au.out);(case side7=>repeat(first|exact(Kd.C_below Do.out qb)|(with_reducible refine Kd.C_alloc ?_ _)|(with_reducible refine Kd.C_drewN ?_ _)|(with_reducible refine Kd.C_drew ?_)));(case side8=>exact Dp.out);(case side9=>repeat(first|exact(Kd.C_below Dq.out qb)|(with_reducible refine Kd.C_alloc ?_ _)|(with_reducible refine Kd.C_drewN ?_ _)|(with_reducible refine Kd.C_drew ?_)));(case side10=>exact Dr.out);(case side11=>exact Tb.below hT.out qb);rintro e Du ⟨rfl,hb⟩;refine⟨_,rfl, ?_⟩;replace Aa:=y0.mk (qK Aa.out hb);replace HB:=y0.mk (y5 qb hb);(try clear hb)))
   go_ret2
   exact⟨qf,qb⟩
  ·replace c8:=Bool.eq_false_iff.mpr c8
   subst c8
   replace H:=qF H
   simp only [Option.some.injEq,Prod.mk.injEq]at H
   obtain⟨rfl,rfl⟩:=H
   go_enter Tryz.func9,Tryz.ntmps9
   go_wp2_with (first|((with_reducible refine y19 (N:=4) rfl ?_);(try(refine y20 (by rfl) ?_;dsimp only));refine qe 4 #[.slice Ah Ab.length Ai,.int .i64 Af,.string Ag,.slice Aj Ac.length Ak,.slice Al Ad.length Am] 38 ?_;intro Bc hg Dv hbox hb;have Aa:=y0.mk (hbox);have Bd:=y0.mk (qg (w:=w) hg);have Be:=y0.mk (qg (w:=w) hg);replace HB:=y0.mk (y5 qb hb);clear hb hbox hg;obtain⟨Ce,Cf,Cg,Ch,Ci,Cj,Ck,Cl,Cm,Cn⟩:=qz5 Aa.out)|((with_reducible refine y18 (f:=21) rfl ?_);refine y21 (some 11) rfl rfl Tryz.func21 (by kernel_rfl) rfl #[.agg #[.slice Ah Ab.length Ai,.int .i64 Af,.string Ag,.slice Aj Ac.length Ak,.slice Al Ad.length Am]] rfl qy1 ?_;(with_reducible refine(impl_hasForm.calls k _ _ Ab Af Ag _ _ Ac _ _ Ad true _ (qc (Kd.C_below Ap.out HB.out)) Aq.out (qc (Kd.C_below Ar.out HB.out)) As.out (qc (Kd.C_below At.out HB.out)) Au.out A5.out).mono ?_);rintro e Dw ⟨rfl,hb⟩;refine⟨_,rfl, ?_⟩;replace Aa:=y0.mk (qK Aa.out hb);replace HB:=y0.mk (y5 qb hb);(try clear hb);obtain⟨Co,Cp,Cq,Cr,Cs,Ct,Cu,Cv,Cw,Cx⟩:=qz5 Aa.out)|(go_at_call 22;(with_reducible refine(impl_in.calls a1 0 (wrap64 ((Ab.length:Int) - 1)) false _ A7.out).mono ?_);rintro e w' ⟨rfl,⟨nd,rfl⟩⟩))
   go_ret2
   exact⟨qf,qb⟩
 ·replace c6:=Bool.eq_false_iff.mpr c6
  subst c6
  replace H:=qF H
  simp only [Option.some.injEq,Prod.mk.injEq]at H
  obtain⟨rfl,rfl⟩:=H
  go_enter Tryz.func9,Tryz.ntmps9
  go_wp2_with (first|((with_reducible refine y19 (N:=4) rfl ?_);(try(refine y20 (by rfl) ?_;dsimp only));refine qe 4 #[.slice Ah Ab.length Ai,.int .i64 Af,.string Ag,.slice Aj Ac.length Ak,.slice Al Ad.length Am] 38 ?_;intro Bc hg Dx hbox hb;have Aa:=y0.mk (hbox);have Bd:=y0.mk (qg (w:=w) hg);have Be:=y0.mk (qg (w:=w) hg);replace HB:=y0.mk (y5 qb hb);clear hb hbox hg;obtain⟨Cy,Cz,Da,Db,Dc,Dd,De,Df,Dg,Dh⟩:=qz5 Aa.out)|((with_reducible refine y18 (f:=21) rfl ?_);refine y21 (some 11) rfl rfl Tryz.func21 (by kernel_rfl) rfl #[.agg #[.slice Ah Ab.length Ai,.int .i64 Af,.string Ag,.slice Aj Ac.length Ak,.slice Al Ad.length Am]] rfl qy1 ?_;(with_reducible refine(impl_hasForm.calls k _ _ Ab Af Ag _ _ Ac _ _ Ad false _ (qc (Kd.C_below Ap.out HB.out)) Aq.out (qc (Kd.C_below Ar.out HB.out)) As.out (qc (Kd.C_below At.out HB.out)) Au.out A5.out).mono ?_);rintro e Dy ⟨rfl,hb⟩;refine⟨_,rfl, ?_⟩;replace Aa:=y0.mk (qK Aa.out hb);replace HB:=y0.mk (y5 qb hb);(try clear hb)))
  go_ret2
  exact⟨qf,qb⟩
def laws_eqIntS.l0:Nat→List Int→List Int→Int→Option (Bool)
 | 0,_,_,_=>none
 | k + 1,x0,x1,x5=>if x5 < (x0.length:Int)then(if 0≤x5 then(if x5 < (x1.length:Int)then(if(rd x0 x5)=(rd x1 x5)then(laws_eqIntS.l0 k x0 x1 (wrap64 (x5 + 1)))else(some false))else(none))else(none))else(some true)
def laws_eqIntS.f (k:Nat) (l0:List Int) (l1:List Int):Option (Bool):=if(l0.length:Int)=(l1.length:Int)then(laws_eqIntS.l0 k l0 l1 0)else(some false)
theorem laws_eqIntS.calls (k:Nat) (A0:Option Addr) (c0:Nat) (l0:List Int) (A1:Option Addr) (c1:Nat) (l1:List Int) (r:Bool) (w:World) (As:Kd.C (Kd.int .i64) w A0 l0.length l0) (At:l0.length≤c0) (Au:Kd.C (Kd.int .i64) w A1 l1.length l1) (Av:l1.length≤c1) (h:laws_eqIntS.f k l0 l1=some r) :
  Calls Tryz.prog 47 #[.slice A0 l0.length c0,.slice A1 l1.length c1] w fun e w'=>e=.returned (.bool r)∧y1 w w':=by
 have Az:=y0.mk As
 have Bd:=y0.mk At
 clear As At
 have Ba:=y0.mk Au
 have Be:=y0.mk Av
 clear Au Av
 have H:(if(l0.length:Int)=(l1.length:Int)then(laws_eqIntS.l0 k l0 l1 0)else(some false))=some r:=h
 clear h
 by_cases c3:(l0.length:Int)=(l1.length:Int)
 ·rw [if_pos c3]at H
  have Ag:((l0.length:Int) == (l1.length:Int))=true:=beq_iff_eq.mpr c3
  have Ah:((l0.length:Int) != (l1.length:Int))=false:=bne_eq_false_iff_eq.mpr c3
  have Ai:(l0.length == l1.length)=true:=by first|simpa using c3|(simp at c3 ⊢;omega)
  clear c3
  have H':=y0.mk H
  clear H
  go_enter Tryz.func47,Tryz.ntmps47
  go_wp2
  repeat(go_quiet (fail);try go_wp2)
  go_loopg [5] k (fun kq v5 w'=>∃(Aa:Int),v5=.int .i64 Aa∧y0 (laws_eqIntS.l0 kq l0 l1 Aa=some r)∧y0 (kq≤k)∧y1 w w')
  case atStart=>exact⟨(0),qy2,H',⟨Nat.le_refl _⟩,by repeat(first|exact y1.refl _|apply y1.step)⟩
  case round =>
   clear H'
   (try clear Ag Ah Ai)
   obtain⟨Aa,rfl,HA,Aw,⟨m1,rfl⟩⟩:=hrel
   cases gk with
   | zero=>exact absurd HA.out (by simp [laws_eqIntS.l0])
   | succ k1 =>
    have H:=HA.out
    clear HA
    simp only [laws_eqIntS.l0]at H
    by_cases c4:Aa < (l0.length:Int)
    ·rw [if_pos c4]at H
     have Al:=decide_eq_true c4
     clear c4
     obtain⟨c5,H⟩:=qo H
     have Bb:decide (0≤Aa)=true:=decide_eq_true c5
     clear c5
     obtain⟨c6,H⟩:=qo H
     have Bc:decide (Aa < (l1.length:Int))=true:=decide_eq_true c6
     clear c6
     have Ab:0≤(Aa:Int):=qd
     have Ac:Aa < (l0.length:Int):=qd
     obtain⟨Ax,Am,Aj⟩:=Kd.at_int Az.out Aa Ab Ac
     cases Am
     replace Ab:=eq_true Ab
     replace Ac:=eq_true Ac
     have Ad:0≤(Aa:Int):=qd
     have Af:Aa < (l1.length:Int):=qd
     obtain⟨Ay,Ap,Ak⟩:=Kd.at_int Ba.out Aa Ad Af
     cases Ap
     replace Ad:=eq_true Ad
     replace Af:=eq_true Af
     by_cases c7:(rd l0 Aa)=(rd l1 Aa)
     ·rw [if_pos c7]at H
      have Aq:((rd l0 Aa) == (rd l1 Aa))=true:=beq_iff_eq.mpr c7
      have Ar:((rd l0 Aa) != (rd l1 Aa))=false:=bne_eq_false_iff_eq.mpr c7
      clear c7
      have H':=y0.mk H
      clear H
      go_wp2
      repeat(go_quiet (fail);try go_wp2)
      go_roundg k1
      case measure=>have:=Aw.out;omega
      exact⟨(wrap64 (Aa + 1)),qy2,H',⟨by have:=Aw.out;omega⟩,by repeat(first|exact y1.refl _|apply y1.step)⟩
     ·rw [if_neg c7]at H
      have Aq:((rd l0 Aa) == (rd l1 Aa))=false:=beq_eq_false_iff_ne.mpr c7
      have Ar:((rd l0 Aa) != (rd l1 Aa))=true:=bne_iff_ne.mpr c7
      obtain rfl:=Option.some.inj H
      go_wp2
      repeat(go_quiet (fail);try go_wp2)
      go_ret
      exact qf2
    ·rw [if_neg c4]at H
     have Al:=decide_eq_false c4
     clear c4
     obtain rfl:=Option.some.inj H
     go_wp2
     repeat(go_quiet (fail);try go_wp2)
     go_ret
     exact qf2
 ·rw [if_neg c3]at H
  have Ag:((l0.length:Int) == (l1.length:Int))=false:=beq_eq_false_iff_ne.mpr c3
  have Ah:((l0.length:Int) != (l1.length:Int))=true:=bne_iff_ne.mpr c3
  have Ai:(l0.length == l1.length)=false:=by first|simpa using c3|(simp at c3 ⊢;omega)
  obtain rfl:=Option.some.inj H
  go_enter Tryz.func47,Tryz.ntmps47
  go_wp2
  repeat(go_quiet (fail);try go_wp2)
  go_ret
  exact qf2
def laws_eqExp.f (k:Nat) (Ae:Int) (An:ByteArray) (Ao:List Int) (By:Int) (Dd:ByteArray) (De:List Int):Option (Bool):=if Ae=By then(if An.toList=Dd.toList then((laws_eqIntS.f k Ao De).bind fun Dz=>(if Dz=true then(some true)else(some false)))else(some false))else(some false)
theorem laws_eqExp.calls (k:Nat) (Ag:Int) (Ah:ByteArray) (Al:Option Addr) (Am:Nat) (Ad:List Int) (Ai:Int) (Aj:ByteArray) (Ap:Option Addr) (Aq:Nat) (Af:List Int) (r:Bool) (w:World) (Ax:Kd.C (Kd.int .i64) w Al Ad.length Ad) (Ay:Ad.length≤Am) (Az:Kd.C (Kd.int .i64) w Ap Af.length Af) (Ba:Af.length≤Aq) (h:laws_eqExp.f k Ag Ah Ad Ai Aj Af=some r) :
  Calls Tryz.prog 46 #[.agg #[.int .i64 Ag,.string Ah,.slice Al Ad.length Am],.agg #[.int .i64 Ai,.string Aj,.slice Ap Af.length Aq]] w fun e w'=>e=.returned (.bool r)∧Below w.heap.size w w':=by
 have Do:=Tryz.underlying67
 have Bb:=y0.mk Ax
 have Bc:=y0.mk Ay
 clear Ax Ay
 have Bd:=y0.mk Az
 have Be:=y0.mk Ba
 clear Az Ba
 have HB:=y0.mk (Below.refl w.heap.size w)
 have H:(if Ag=Ai then(if Ah.toList=Aj.toList then((laws_eqIntS.f k Ad Af).bind fun Bf=>(if Bf=true then(some true)else(some false)))else(some false))else(some false))=some r:=h
 clear h
 by_cases c3:Ag=Ai
 ·rw [if_pos c3]at H
  have Dd:(Ag == Ai)=true:=beq_iff_eq.mpr c3
  have De:(Ag != Ai)=false:=bne_eq_false_iff_eq.mpr c3
  clear c3
  by_cases c4:Ah.toList=Aj.toList
  ·rw [if_pos c4]at H
   have Df:(Ah.toList == Aj.toList)=true:=beq_iff_eq.mpr c4
   have Dg:(Ah.toList != Aj.toList)=false:=bne_eq_false_iff_eq.mpr c4
   clear c4
   obtain⟨Bf,A5,H⟩:=qB H
   by_cases c6:Bf=true
   ·subst c6
    replace H:=qT H
    obtain rfl:=Option.some.inj H
    go_enter Tryz.func46,Tryz.ntmps46
    go_wp2_with (first|((with_reducible refine y19 (N:=2) rfl ?_);refine qe 2 #[.int .i64 Ag,.string Ah,.slice Al Ad.length Am] 67 ?_;intro Ar hg w7 hbox hb;have Aa:=y0.mk (hbox);have As:=y0.mk (qg (w:=w) hg);have At:=y0.mk (qg (w:=w) hg);replace HB:=y0.mk (y5 qb hb);clear hb hbox hg)|((with_reducible refine y19 (N:=3) rfl ?_);refine qe 3 #[.int .i64 Ai,.string Aj,.slice Ap Af.length Aq] 67 ?_;intro Au hg w8 hbox hb;have Ak:=y0.mk (hbox);have Av:=y0.mk (qg (w:=w) hg);have Aw:=y0.mk (qg (w:=w) hg);replace HB:=y0.mk (y5 qb hb);have Ab:=y0.mk (qn Aa.out hg);have Ac:=y0.mk (qm Aa.out hg);replace Aa:=y0.mk (qK Aa.out hb);clear hb hbox hg;have Dp:=Ab.out;have Dq:=Ac.out;obtain⟨Bg,Bh,Bi,Bj,Bk,Bl⟩:=qz3 Aa.out;obtain⟨Bm,Bn,Bo,Bp,Bq,Br⟩:=qz3 Ak.out)|((with_reducible refine y18 (f:=47) rfl ?_);refine y21 (some 19) rfl rfl Tryz.func47 (by kernel_rfl) rfl #[.slice Al Ad.length Am,.slice Ap Af.length Aq] rfl qy1 ?_;(with_reducible refine(laws_eqIntS.calls k _ _ Ad _ _ Af true _ (qc (Kd.C_below Bb.out HB.out)) Bc.out (qc (Kd.C_below Bd.out HB.out)) Be.out A5.out).mono ?_);rintro e w' ⟨rfl,⟨nd,rfl⟩⟩;refine⟨_,rfl, ?_⟩))
    go_ret
    exact⟨qf,qb⟩
   ·replace c6:=Bool.eq_false_iff.mpr c6
    subst c6
    replace H:=qF H
    obtain rfl:=Option.some.inj H
    go_enter Tryz.func46,Tryz.ntmps46
    go_wp2_with (first|((with_reducible refine y19 (N:=2) rfl ?_);refine qe 2 #[.int .i64 Ag,.string Ah,.slice Al Ad.length Am] 67 ?_;intro Ar hg Dr hbox hb;have Aa:=y0.mk (hbox);have As:=y0.mk (qg (w:=w) hg);have At:=y0.mk (qg (w:=w) hg);replace HB:=y0.mk (y5 qb hb);clear hb hbox hg)|((with_reducible refine y19 (N:=3) rfl ?_);refine qe 3 #[.int .i64 Ai,.string Aj,.slice Ap Af.length Aq] 67 ?_;intro Au hg Ds hbox hb;have Ak:=y0.mk (hbox);have Av:=y0.mk (qg (w:=w) hg);have Aw:=y0.mk (qg (w:=w) hg);replace HB:=y0.mk (y5 qb hb);have Ab:=y0.mk (qn Aa.out hg);have Ac:=y0.mk (qm Aa.out hg);replace Aa:=y0.mk (qK Aa.out hb);clear hb hbox hg;have Dh:=Ab.out;have Di:=Ac.out;obtain⟨Bs,Bt,Bu,Bv,Bw,Bx⟩:=qz3 Aa.out;obtain⟨Bz,Ca,Cb,Cc,Cd,Ce⟩:=qz3 Ak.out)|((with_reducible refine y18 (f:=47) rfl ?_);refine y21 (some 19) rfl rfl Tryz.func47 (by kernel_rfl) rfl #[.slice Al Ad.length Am,.slice Ap Af.length Aq] rfl qy1 ?_;(with_reducible refine(laws_eqIntS.calls k _ _ Ad _ _ Af false _ (qc (Kd.C_below Bb.out HB.out)) Bc.out (qc (Kd.C_below Bd.out HB.out)) Be.out A5.out).mono ?_);rintro e w' ⟨rfl,⟨nd,rfl⟩⟩;refine⟨_,rfl, ?_⟩))
    go_ret
    exact⟨qf,qb⟩
  ·rw [if_neg c4]at H
   have Df:(Ah.toList == Aj.toList)=false:=beq_eq_false_iff_ne.mpr c4
   have Dg:(Ah.toList != Aj.toList)=true:=bne_iff_ne.mpr c4
   obtain rfl:=Option.some.inj H
   go_enter Tryz.func46,Tryz.ntmps46
   go_wp2_with (first|((with_reducible refine y19 (N:=2) rfl ?_);refine qe 2 #[.int .i64 Ag,.string Ah,.slice Al Ad.length Am] 67 ?_;intro Ar hg Dt hbox hb;have Aa:=y0.mk (hbox);have As:=y0.mk (qg (w:=w) hg);have At:=y0.mk (qg (w:=w) hg);replace HB:=y0.mk (y5 qb hb);clear hb hbox hg)|((with_reducible refine y19 (N:=3) rfl ?_);refine qe 3 #[.int .i64 Ai,.string Aj,.slice Ap Af.length Aq] 67 ?_;intro Au hg Du hbox hb;have Ak:=y0.mk (hbox);have Av:=y0.mk (qg (w:=w) hg);have Aw:=y0.mk (qg (w:=w) hg);replace HB:=y0.mk (y5 qb hb);have Ab:=y0.mk (qn Aa.out hg);have Ac:=y0.mk (qm Aa.out hg);replace Aa:=y0.mk (qK Aa.out hb);clear hb hbox hg;have Dj:=Ab.out;have Dk:=Ac.out;obtain⟨Cf,Cg,Ch,Ci,Cj,Ck⟩:=qz3 Aa.out;obtain⟨Cl,Cm,Cn,Co,Cp,Cq⟩:=qz3 Ak.out))
   go_ret
   exact⟨qf,qb⟩
 ·rw [if_neg c3]at H
  have Dd:(Ag == Ai)=false:=beq_eq_false_iff_ne.mpr c3
  have De:(Ag != Ai)=true:=bne_iff_ne.mpr c3
  obtain rfl:=Option.some.inj H
  go_enter Tryz.func46,Tryz.ntmps46
  go_wp2_with (first|((with_reducible refine y19 (N:=2) rfl ?_);refine qe 2 #[.int .i64 Ag,.string Ah,.slice Al Ad.length Am] 67 ?_;intro Ar hg Dv hbox hb;have Aa:=y0.mk (hbox);have As:=y0.mk (qg (w:=w) hg);have At:=y0.mk (qg (w:=w) hg);replace HB:=y0.mk (y5 qb hb);clear hb hbox hg)|((with_reducible refine y19 (N:=3) rfl ?_);refine qe 3 #[.int .i64 Ai,.string Aj,.slice Ap Af.length Aq] 67 ?_;intro Au hg Dw hbox hb;have Ak:=y0.mk (hbox);have Av:=y0.mk (qg (w:=w) hg);have Aw:=y0.mk (qg (w:=w) hg);replace HB:=y0.mk (y5 qb hb);have Ab:=y0.mk (qn Aa.out hg);have Ac:=y0.mk (qm Aa.out hg);replace Aa:=y0.mk (qK Aa.out hb);clear hb hbox hg;have Dl:=Ab.out;have Dm:=Ac.out;obtain⟨Cr,Cs,Ct,Cu,Cv,Cw⟩:=qz3 Aa.out;obtain⟨Cx,Cy,Cz,Da,Db,Dc⟩:=qz3 Ak.out))
  go_ret
  exact⟨qf,qb⟩
def laws_eqExpS.l0:Nat→List (S67)→List (S67)→Int→Option (Bool)
 | 0,_,_,_=>none
 | k + 1,x0,x1,x5=>if x5 < (x0.length:Int)then(if 0≤x5 then(if x5 < (x1.length:Int)then((laws_eqExp.f k ((y23 x0 x5).f0) ((y23 x0 x5).f1) ((y23 x0 x5).f2) ((y23 x1 x5).f0) ((y23 x1 x5).f1) ((y23 x1 x5).f2)).bind fun Ae=>(if Ae=true then(laws_eqExpS.l0 k x0 x1 (wrap64 (x5 + 1)))else(some false)))else(none))else(none))else(some true)
def laws_eqExpS.f (k:Nat) (l0:List (S67)) (l1:List (S67)):Option (Bool):=if(l0.length:Int)=(l1.length:Int)then(laws_eqExpS.l0 k l0 l1 0)else(some false)
def laws_eqExpS.T6:Bool×List (List Nat×List Nat):=(true,[([],[]),([],[]),([0,1],[0,1]),([2],[2]),([],[]),([],[]),([4,5],[4,5]),([6],[6]),([3,7],[3,7]),([8],[8])])
def laws_eqExpS.B6:List Nat:=[0,0,3,7,0,0,48,112,255,511]
theorem laws_eqExpS.tab6:rtab .any (opsOf Tryz.f24 6)=laws_eqExpS.T6:=by kernel_rfl
theorem laws_eqExpS.bits6:waitsOk laws_eqExpS.T6.2 laws_eqExpS.B6=true:=by kernel_rfl
theorem laws_eqExpS.calls (k:Nat) (A0:Option Addr) (c0:Nat) (l0:List (S67)) (A1:Option Addr) (c1:Nat) (l1:List (S67)) (r:Bool) (w:World) (Bp:Kd.C k67 w A0 l0.length l0) (Bq:l0.length≤c0) (Br:Kd.C k67 w A1 l1.length l1) (Bs:l1.length≤c1) (h:laws_eqExpS.f k l0 l1=some r) :
  Calls Tryz.prog 24 #[.slice A0 l0.length c0,.slice A1 l1.length c1] w fun e w'=>e=.returned (.bool r)∧Below w.heap.size w w':=by
 have Bu:=Tryz.underlying67
 have Bv:=y0.mk Bp
 have Ca:=y0.mk Bq
 clear Bp Bq
 have Bw:=y0.mk Br
 have Cb:=y0.mk Bs
 clear Br Bs
 have HB:=y0.mk (Below.refl w.heap.size w)
 have H:(if(l0.length:Int)=(l1.length:Int)then(laws_eqExpS.l0 k l0 l1 0)else(some false))=some r:=h
 clear h
 by_cases c3:(l0.length:Int)=(l1.length:Int)
 ·rw [if_pos c3]at H
  have Bi:((l0.length:Int) == (l1.length:Int))=true:=beq_iff_eq.mpr c3
  have Bj:((l0.length:Int) != (l1.length:Int))=false:=bne_eq_false_iff_eq.mpr c3
  have Bk:(l0.length == l1.length)=true:=by first|simpa using c3|(simp at c3 ⊢;omega)
  clear c3
  have H':=y0.mk H
  clear H
  go_enter Tryz.func24,Tryz.ntmps24
  go_wp2
  go_loopg [5] k (fun kq v5 w'=>∃(Aa:Int),v5=.int .i64 Aa∧y0 (laws_eqExpS.l0 kq l0 l1 Aa=some r)∧y0 (kq≤k)∧y0 (Below w.heap.size w w'))
  case atStart=>exact⟨(0),qy2,H',⟨Nat.le_refl _⟩,⟨qb⟩⟩
  case round =>
   clear H'
   (try clear Bi Bj Bk)
   obtain⟨Aa,rfl,HA,Bt,HB⟩:=hrel
   cases gk with
   | zero=>exact absurd HA.out (by simp [laws_eqExpS.l0])
   | succ k1 =>
    have H:=HA.out
    clear HA
    simp only [laws_eqExpS.l0]at H
    by_cases c4:Aa < (l0.length:Int)
    ·rw [if_pos c4]at H
     have Bl:=decide_eq_true c4
     clear c4
     obtain⟨c5,H⟩:=qo H
     have Bx:decide (0≤Aa)=true:=decide_eq_true c5
     clear c5
     obtain⟨c6,H⟩:=qo H
     have Bz:decide (Aa < (l1.length:Int))=true:=decide_eq_true c6
     clear c6
     obtain⟨Bm,A7,H⟩:=qB H
     try go_wp2
     replace HB:=y0.mk (below_drew1 HB.out)
     have Be:0≤(Aa:Int):=qd
     have Bf:Aa < (l0.length:Int):=qd
     obtain⟨As,Au,Av,Bn,Ai,Aj,Ak,Ay,Az⟩:=at_T67 Bv.out Aa Be Bf
     have Ab:=Ak
     have Ac:=Aj
     have Ad:=Ai
     cases Bn
     replace Ai:=qC Ai HB
     replace Aj:=qC Aj HB
     replace Ak:=qC Ak HB
     have Aq:=y0.mk Az
     have Ba:=y0.mk Ay
     clear Az Ay
     replace Be:=eq_true Be
     replace Bf:=eq_true Bf
     have Bg:0≤(Aa:Int):=qd
     have Bh:Aa < (l1.length:Int):=qd
     obtain⟨At,Aw,Ax,Bo,Al,Am,Ap,Bb,Bc⟩:=at_T67 Bw.out Aa Bg Bh
     have Af:=Ap
     have Ag:=Am
     have Ah:=Al
     cases Bo
     replace Al:=qC Al HB
     replace Am:=qC Am HB
     replace Ap:=qC Ap HB
     have Ar:=y0.mk Bc
     have Bd:=y0.mk Bb
     clear Bc Bb
     replace Bg:=eq_true Bg
     replace Bh:=eq_true Bh
     refine start_ (n:=10) (S:=fun w'=>w'.cell? (As.add ((Aa).toNat * 3))=some (.int .i64 ((y23 l0 Aa).f0))∧w'.cell? ⟨(As.add ((Aa).toNat * 3)).block,(As.add ((Aa).toNat * 3)).off + 1,none⟩=some (.string ((y23 l0 Aa).f1))∧w'.cell? ⟨(As.add ((Aa).toNat * 3)).block,(As.add ((Aa).toNat * 3)).off + 2,none⟩=some (.slice Au ((y23 l0 Aa).f2).length Av)∧w'.cell? (At.add ((Aa).toNat * 3))=some (.int .i64 ((y23 l1 Aa).f0))∧w'.cell? ⟨(At.add ((Aa).toNat * 3)).block,(At.add ((Aa).toNat * 3)).off + 1,none⟩=some (.string ((y23 l1 Aa).f1))∧w'.cell? ⟨(At.add ((Aa).toNat * 3)).block,(At.add ((Aa).toNat * 3)).off + 2,none⟩=some (.slice Aw ((y23 l1 Aa).f2).length Ax)) (ds:=[]) (fl_ 10 0) (by kernel_rfl) rfl rfl ⟨(qC Ad HB),(qC Ac HB),(qC Ab HB),(qC Ah HB),(qC Ag HB),(qC Af HB)⟩ (fun hHeld=>?_);refine with_tabW laws_eqExpS.tab6 laws_eqExpS.bits6 (fun HT_ HW_=>?_)
     generalize wr.drew=w9 at HB Aq Ar Ai Aj Ak Al Am Ap hHeld ⊢
     refine qp3 0 17 10 ?_
     by_cases c8:Bm=true
     ·subst c8
      replace H:=qT H
      have H':=y0.mk H
      clear H
      refine qp 4 21 (fl_ 10 23) ?_
      refine qp 5 22 (fl_ 10 55) ?_
      refine qp 6 23 (fl_ 10 119) ?_
      refine qt 3 20 (fl_ 10 127) hHeld ?_
      refine qt 7 24 (fl_ 10 255) hHeld ?_
      refine qO 8 25 (fl_ 10 511) (fun K hK=>?_)
      refine goes_ Tryz.func46 (by kernel_rfl) rfl #[.agg #[.int .i64 ((y23 l0 Aa).f0),.string ((y23 l0 Aa).f1),.slice Au ((y23 l0 Aa).f2).length Av],.agg #[.int .i64 ((y23 l1 Aa).f0),.string ((y23 l1 Aa).f1),.slice Aw ((y23 l1 Aa).f2).length Ax]] (by rfl) rfl rfl qy1 ?_
      with_reducible refine(laws_eqExp.calls k1 ((y23 l0 Aa).f0) ((y23 l0 Aa).f1) _ _ ((y23 l0 Aa).f2) ((y23 l1 Aa).f0) ((y23 l1 Aa).f1) _ _ ((y23 l1 Aa).f2) true _ (qc (Kd.C_below Aq.out HB.out)) Ba.out (qc (Kd.C_below Ar.out HB.out)) Bd.out A7.out).mono ?_
      rintro e Cc ⟨rfl,hb⟩
      refine⟨_,rfl, ?_⟩
      replace HB:=y0.mk (y5 qb hb)
      (try clear hb)
      refine hK.out _ _ ⟨(qC Ad HB),(qC Ac HB),(qC Ab HB),(qC Ah HB),(qC Ag HB),(qC Af HB)⟩ (fun hHeld=>?_)
      clear hK K
      refine qx 25 ?_
      refine qp 9 26 (fl_ 10 1023) ?_
      refine done_ (done_of HT_.out (by kernel_rfl)) ?_
      try go_wp2
      go_roundg k1
      case measure=>have:=Bt.out;omega
      exact⟨(wrap64 (Aa + 1)),qy2,H',⟨by have:=Bt.out;omega⟩,⟨qb⟩⟩
     ·replace c8:=Bool.eq_false_iff.mpr c8
      subst c8
      replace H:=qF H
      obtain rfl:=Option.some.inj H
      refine qp 4 21 (fl_ 10 23) ?_
      refine qp 5 22 (fl_ 10 55) ?_
      refine qp 6 23 (fl_ 10 119) ?_
      refine qt 3 20 (fl_ 10 127) hHeld ?_
      refine qt 7 24 (fl_ 10 255) hHeld ?_
      refine qO 8 25 (fl_ 10 511) (fun K hK=>?_)
      refine goes_ Tryz.func46 (by kernel_rfl) rfl #[.agg #[.int .i64 ((y23 l0 Aa).f0),.string ((y23 l0 Aa).f1),.slice Au ((y23 l0 Aa).f2).length Av],.agg #[.int .i64 ((y23 l1 Aa).f0),.string ((y23 l1 Aa).f1),.slice Aw ((y23 l1 Aa).f2).length Ax]] (by rfl) rfl rfl qy1 ?_
      with_reducible refine(laws_eqExp.calls k1 ((y23 l0 Aa).f0) ((y23 l0 Aa).f1) _ _ ((y23 l0 Aa).f2) ((y23 l1 Aa).f0) ((y23 l1 Aa).f1) _ _ ((y23 l1 Aa).f2) false _ (qc (Kd.C_below Aq.out HB.out)) Ba.out (qc (Kd.C_below Ar.out HB.out)) Bd.out A7.out).mono ?_
      rintro e Cd ⟨rfl,hb⟩
      refine⟨_,rfl, ?_⟩
      replace HB:=y0.mk (y5 qb hb)
      (try clear hb)
      refine hK.out _ _ ⟨(qC Ad HB),(qC Ac HB),(qC Ab HB),(qC Ah HB),(qC Ag HB),(qC Af HB)⟩ (fun hHeld=>?_)
      clear hK K
      refine qx 25 ?_
      refine qp 9 26 (fl_ 10 1023) ?_
      refine done_ (done_of HT_.out (by kernel_rfl)) ?_
      try go_wp2
      go_ret
      exact⟨qf,qb⟩
    ·rw [if_neg c4]at H
     have Bl:=decide_eq_false c4
     clear c4
     obtain rfl:=Option.some.inj H
     go_wp2
     go_ret
     exact⟨qf,qb⟩
 ·rw [if_neg c3]at H
  have Bi:((l0.length:Int) == (l1.length:Int))=false:=beq_eq_false_iff_ne.mpr c3
  have Bj:((l0.length:Int) != (l1.length:Int))=true:=bne_iff_ne.mpr c3
  have Bk:(l0.length == l1.length)=false:=by first|simpa using c3|(simp at c3 ⊢;omega)
  obtain rfl:=Option.some.inj H
  go_enter Tryz.func24,Tryz.ntmps24
  go_wp2
  go_ret
  exact⟨qf,qb⟩
def laws_eqLit.f (k:Nat) (Ae:Int) (An:ByteArray) (Ao:List Int) (By:Int) (Dd:ByteArray) (De:List Int):Option (Bool):=if Ae=By then(if An.toList=Dd.toList then((laws_eqIntS.f k Ao De).bind fun Dz=>(if Dz=true then(some true)else(some false)))else(some false))else(some false)
theorem laws_eqLit.calls (k:Nat) (Ag:Int) (Ah:ByteArray) (Al:Option Addr) (Am:Nat) (Ad:List Int) (Ai:Int) (Aj:ByteArray) (Ap:Option Addr) (Aq:Nat) (Af:List Int) (r:Bool) (w:World) (Ax:Kd.C (Kd.int .i64) w Al Ad.length Ad) (Ay:Ad.length≤Am) (Az:Kd.C (Kd.int .i64) w Ap Af.length Af) (Ba:Af.length≤Aq) (h:laws_eqLit.f k Ag Ah Ad Ai Aj Af=some r) :
  Calls Tryz.prog 25 #[.agg #[.int .i64 Ag,.string Ah,.slice Al Ad.length Am],.agg #[.int .i64 Ai,.string Aj,.slice Ap Af.length Aq]] w fun e w'=>e=.returned (.bool r)∧Below w.heap.size w w':=by
 have Do:=Tryz.underlying35
 have Bb:=y0.mk Ax
 have Bc:=y0.mk Ay
 clear Ax Ay
 have Bd:=y0.mk Az
 have Be:=y0.mk Ba
 clear Az Ba
 have HB:=y0.mk (Below.refl w.heap.size w)
 have H:(if Ag=Ai then(if Ah.toList=Aj.toList then((laws_eqIntS.f k Ad Af).bind fun Bf=>(if Bf=true then(some true)else(some false)))else(some false))else(some false))=some r:=h
 clear h
 by_cases c3:Ag=Ai
 ·rw [if_pos c3]at H
  have Dd:(Ag == Ai)=true:=beq_iff_eq.mpr c3
  have De:(Ag != Ai)=false:=bne_eq_false_iff_eq.mpr c3
  clear c3
  by_cases c4:Ah.toList=Aj.toList
  ·rw [if_pos c4]at H
   have Df:(Ah.toList == Aj.toList)=true:=beq_iff_eq.mpr c4
   have Dg:(Ah.toList != Aj.toList)=false:=bne_eq_false_iff_eq.mpr c4
   clear c4
   obtain⟨Bf,A5,H⟩:=qB H
   by_cases c6:Bf=true
   ·subst c6
    replace H:=qT H
    obtain rfl:=Option.some.inj H
    go_enter Tryz.func25,Tryz.ntmps25
    go_wp2_with (first|((with_reducible refine y19 (N:=2) rfl ?_);refine qe 2 #[.int .i64 Ag,.string Ah,.slice Al Ad.length Am] 35 ?_;intro Ar hg w7 hbox hb;have Aa:=y0.mk (hbox);have As:=y0.mk (qg (w:=w) hg);have At:=y0.mk (qg (w:=w) hg);replace HB:=y0.mk (y5 qb hb);clear hb hbox hg)|((with_reducible refine y19 (N:=3) rfl ?_);refine qe 3 #[.int .i64 Ai,.string Aj,.slice Ap Af.length Aq] 35 ?_;intro Au hg w8 hbox hb;have Ak:=y0.mk (hbox);have Av:=y0.mk (qg (w:=w) hg);have Aw:=y0.mk (qg (w:=w) hg);replace HB:=y0.mk (y5 qb hb);have Ab:=y0.mk (qn Aa.out hg);have Ac:=y0.mk (qm Aa.out hg);replace Aa:=y0.mk (qK Aa.out hb);clear hb hbox hg;have Dp:=Ab.out;have Dq:=Ac.out;obtain⟨Bg,Bh,Bi,Bj,Bk,Bl⟩:=qz3 Aa.out;obtain⟨Bm,Bn,Bo,Bp,Bq,Br⟩:=qz3 Ak.out)|((with_reducible refine y18 (f:=47) rfl ?_);refine y21 (some 19) rfl rfl Tryz.func47 (by kernel_rfl) rfl #[.slice Al Ad.length Am,.slice Ap Af.length Aq] rfl qy1 ?_;(with_reducible refine(laws_eqIntS.calls k _ _ Ad _ _ Af true _ (qc (Kd.C_below Bb.out HB.out)) Bc.out (qc (Kd.C_below Bd.out HB.out)) Be.out A5.out).mono ?_);rintro e w' ⟨rfl,⟨nd,rfl⟩⟩;refine⟨_,rfl, ?_⟩))
    go_ret
    exact⟨qf,qb⟩
   ·replace c6:=Bool.eq_false_iff.mpr c6
    subst c6
    replace H:=qF H
    obtain rfl:=Option.some.inj H
    go_enter Tryz.func25,Tryz.ntmps25
    go_wp2_with (first|((with_reducible refine y19 (N:=2) rfl ?_);refine qe 2 #[.int .i64 Ag,.string Ah,.slice Al Ad.length Am] 35 ?_;intro Ar hg Dr hbox hb;have Aa:=y0.mk (hbox);have As:=y0.mk (qg (w:=w) hg);have At:=y0.mk (qg (w:=w) hg);replace HB:=y0.mk (y5 qb hb);clear hb hbox hg)|((with_reducible refine y19 (N:=3) rfl ?_);refine qe 3 #[.int .i64 Ai,.string Aj,.slice Ap Af.length Aq] 35 ?_;intro Au hg Ds hbox hb;have Ak:=y0.mk (hbox);have Av:=y0.mk (qg (w:=w) hg);have Aw:=y0.mk (qg (w:=w) hg);replace HB:=y0.mk (y5 qb hb);have Ab:=y0.mk (qn Aa.out hg);have Ac:=y0.mk (qm Aa.out hg);replace Aa:=y0.mk (qK Aa.out hb);clear hb hbox hg;have Dh:=Ab.out;have Di:=Ac.out;obtain⟨Bs,Bt,Bu,Bv,Bw,Bx⟩:=qz3 Aa.out;obtain⟨Bz,Ca,Cb,Cc,Cd,Ce⟩:=qz3 Ak.out)|((with_reducible refine y18 (f:=47) rfl ?_);refine y21 (some 19) rfl rfl Tryz.func47 (by kernel_rfl) rfl #[.slice Al Ad.length Am,.slice Ap Af.length Aq] rfl qy1 ?_;(with_reducible refine(laws_eqIntS.calls k _ _ Ad _ _ Af false _ (qc (Kd.C_below Bb.out HB.out)) Bc.out (qc (Kd.C_below Bd.out HB.out)) Be.out A5.out).mono ?_);rintro e w' ⟨rfl,⟨nd,rfl⟩⟩;refine⟨_,rfl, ?_⟩))
    go_ret
    exact⟨qf,qb⟩
  ·rw [if_neg c4]at H
   have Df:(Ah.toList == Aj.toList)=false:=beq_eq_false_iff_ne.mpr c4
   have Dg:(Ah.toList != Aj.toList)=true:=bne_iff_ne.mpr c4
   obtain rfl:=Option.some.inj H
   go_enter Tryz.func25,Tryz.ntmps25
   go_wp2_with (first|((with_reducible refine y19 (N:=2) rfl ?_);refine qe 2 #[.int .i64 Ag,.string Ah,.slice Al Ad.length Am] 35 ?_;intro Ar hg Dt hbox hb;have Aa:=y0.mk (hbox);have As:=y0.mk (qg (w:=w) hg);have At:=y0.mk (qg (w:=w) hg);replace HB:=y0.mk (y5 qb hb);clear hb hbox hg)|((with_reducible refine y19 (N:=3) rfl ?_);refine qe 3 #[.int .i64 Ai,.string Aj,.slice Ap Af.length Aq] 35 ?_;intro Au hg Du hbox hb;have Ak:=y0.mk (hbox);have Av:=y0.mk (qg (w:=w) hg);have Aw:=y0.mk (qg (w:=w) hg);replace HB:=y0.mk (y5 qb hb);have Ab:=y0.mk (qn Aa.out hg);have Ac:=y0.mk (qm Aa.out hg);replace Aa:=y0.mk (qK Aa.out hb);clear hb hbox hg;have Dj:=Ab.out;have Dk:=Ac.out;obtain⟨Cf,Cg,Ch,Ci,Cj,Ck⟩:=qz3 Aa.out;obtain⟨Cl,Cm,Cn,Co,Cp,Cq⟩:=qz3 Ak.out))
   go_ret
   exact⟨qf,qb⟩
 ·rw [if_neg c3]at H
  have Dd:(Ag == Ai)=false:=beq_eq_false_iff_ne.mpr c3
  have De:(Ag != Ai)=true:=bne_iff_ne.mpr c3
  obtain rfl:=Option.some.inj H
  go_enter Tryz.func25,Tryz.ntmps25
  go_wp2_with (first|((with_reducible refine y19 (N:=2) rfl ?_);refine qe 2 #[.int .i64 Ag,.string Ah,.slice Al Ad.length Am] 35 ?_;intro Ar hg Dv hbox hb;have Aa:=y0.mk (hbox);have As:=y0.mk (qg (w:=w) hg);have At:=y0.mk (qg (w:=w) hg);replace HB:=y0.mk (y5 qb hb);clear hb hbox hg)|((with_reducible refine y19 (N:=3) rfl ?_);refine qe 3 #[.int .i64 Ai,.string Aj,.slice Ap Af.length Aq] 35 ?_;intro Au hg Dw hbox hb;have Ak:=y0.mk (hbox);have Av:=y0.mk (qg (w:=w) hg);have Aw:=y0.mk (qg (w:=w) hg);replace HB:=y0.mk (y5 qb hb);have Ab:=y0.mk (qn Aa.out hg);have Ac:=y0.mk (qm Aa.out hg);replace Aa:=y0.mk (qK Aa.out hb);clear hb hbox hg;have Dl:=Ab.out;have Dm:=Ac.out;obtain⟨Cr,Cs,Ct,Cu,Cv,Cw⟩:=qz3 Aa.out;obtain⟨Cx,Cy,Cz,Da,Db,Dc⟩:=qz3 Ak.out))
  go_ret
  exact⟨qf,qb⟩
def laws_eqLitS.l0:Nat→List (S35)→List (S35)→Int→Option (Bool)
 | 0,_,_,_=>none
 | k + 1,x0,x1,x5=>if x5 < (x0.length:Int)then(if 0≤x5 then(if x5 < (x1.length:Int)then((laws_eqLit.f k ((y22 x0 x5).f0) ((y22 x0 x5).f1) ((y22 x0 x5).f2) ((y22 x1 x5).f0) ((y22 x1 x5).f1) ((y22 x1 x5).f2)).bind fun Ae=>(if Ae=true then(laws_eqLitS.l0 k x0 x1 (wrap64 (x5 + 1)))else(some false)))else(none))else(none))else(some true)
def laws_eqLitS.f (k:Nat) (l0:List (S35)) (l1:List (S35)):Option (Bool):=if(l0.length:Int)=(l1.length:Int)then(laws_eqLitS.l0 k l0 l1 0)else(some false)
def laws_eqLitS.T6:Bool×List (List Nat×List Nat):=(true,[([],[]),([],[]),([0,1],[0,1]),([2],[2]),([],[]),([],[]),([4,5],[4,5]),([6],[6]),([3,7],[3,7]),([8],[8])])
def laws_eqLitS.B6:List Nat:=[0,0,3,7,0,0,48,112,255,511]
theorem laws_eqLitS.tab6:rtab .any (opsOf Tryz.f26 6)=laws_eqLitS.T6:=by kernel_rfl
theorem laws_eqLitS.bits6:waitsOk laws_eqLitS.T6.2 laws_eqLitS.B6=true:=by kernel_rfl
theorem laws_eqLitS.calls (k:Nat) (A0:Option Addr) (c0:Nat) (l0:List (S35)) (A1:Option Addr) (c1:Nat) (l1:List (S35)) (r:Bool) (w:World) (Bp:Kd.C k35 w A0 l0.length l0) (Bq:l0.length≤c0) (Br:Kd.C k35 w A1 l1.length l1) (Bs:l1.length≤c1) (h:laws_eqLitS.f k l0 l1=some r) :
  Calls Tryz.prog 26 #[.slice A0 l0.length c0,.slice A1 l1.length c1] w fun e w'=>e=.returned (.bool r)∧Below w.heap.size w w':=by
 have Bu:=Tryz.underlying35
 have Bv:=y0.mk Bp
 have Ca:=y0.mk Bq
 clear Bp Bq
 have Bw:=y0.mk Br
 have Cb:=y0.mk Bs
 clear Br Bs
 have HB:=y0.mk (Below.refl w.heap.size w)
 have H:(if(l0.length:Int)=(l1.length:Int)then(laws_eqLitS.l0 k l0 l1 0)else(some false))=some r:=h
 clear h
 by_cases c3:(l0.length:Int)=(l1.length:Int)
 ·rw [if_pos c3]at H
  have Bi:((l0.length:Int) == (l1.length:Int))=true:=beq_iff_eq.mpr c3
  have Bj:((l0.length:Int) != (l1.length:Int))=false:=bne_eq_false_iff_eq.mpr c3
  have Bk:(l0.length == l1.length)=true:=by first|simpa using c3|(simp at c3 ⊢;omega)
  clear c3
  have H':=y0.mk H
  clear H
  go_enter Tryz.func26,Tryz.ntmps26
  go_wp2
  go_loopg [5] k (fun kq v5 w'=>∃(Aa:Int),v5=.int .i64 Aa∧y0 (laws_eqLitS.l0 kq l0 l1 Aa=some r)∧y0 (kq≤k)∧y0 (Below w.heap.size w w'))
  case atStart=>exact⟨(0),qy2,H',⟨Nat.le_refl _⟩,⟨qb⟩⟩
  case round =>
   clear H'
   (try clear Bi Bj Bk)
   obtain⟨Aa,rfl,HA,Bt,HB⟩:=hrel
   cases gk with
   | zero=>exact absurd HA.out (by simp [laws_eqLitS.l0])
   | succ k1 =>
    have H:=HA.out
    clear HA
    simp only [laws_eqLitS.l0]at H
    by_cases c4:Aa < (l0.length:Int)
    ·rw [if_pos c4]at H
     have Bl:=decide_eq_true c4
     clear c4
     obtain⟨c5,H⟩:=qo H
     have Bx:decide (0≤Aa)=true:=decide_eq_true c5
     clear c5
     obtain⟨c6,H⟩:=qo H
     have Bz:decide (Aa < (l1.length:Int))=true:=decide_eq_true c6
     clear c6
     obtain⟨Bm,A7,H⟩:=qB H
     try go_wp2
     replace HB:=y0.mk (below_drew1 HB.out)
     have Be:0≤(Aa:Int):=qd
     have Bf:Aa < (l0.length:Int):=qd
     obtain⟨As,Au,Av,Bn,Ai,Aj,Ak,Ay,Az⟩:=at_T35 Bv.out Aa Be Bf
     have Ab:=Ak
     have Ac:=Aj
     have Ad:=Ai
     cases Bn
     replace Ai:=qC Ai HB
     replace Aj:=qC Aj HB
     replace Ak:=qC Ak HB
     have Aq:=y0.mk Az
     have Ba:=y0.mk Ay
     clear Az Ay
     replace Be:=eq_true Be
     replace Bf:=eq_true Bf
     have Bg:0≤(Aa:Int):=qd
     have Bh:Aa < (l1.length:Int):=qd
     obtain⟨At,Aw,Ax,Bo,Al,Am,Ap,Bb,Bc⟩:=at_T35 Bw.out Aa Bg Bh
     have Af:=Ap
     have Ag:=Am
     have Ah:=Al
     cases Bo
     replace Al:=qC Al HB
     replace Am:=qC Am HB
     replace Ap:=qC Ap HB
     have Ar:=y0.mk Bc
     have Bd:=y0.mk Bb
     clear Bc Bb
     replace Bg:=eq_true Bg
     replace Bh:=eq_true Bh
     refine start_ (n:=10) (S:=fun w'=>w'.cell? (As.add ((Aa).toNat * 3))=some (.int .i64 ((y22 l0 Aa).f0))∧w'.cell? ⟨(As.add ((Aa).toNat * 3)).block,(As.add ((Aa).toNat * 3)).off + 1,none⟩=some (.string ((y22 l0 Aa).f1))∧w'.cell? ⟨(As.add ((Aa).toNat * 3)).block,(As.add ((Aa).toNat * 3)).off + 2,none⟩=some (.slice Au ((y22 l0 Aa).f2).length Av)∧w'.cell? (At.add ((Aa).toNat * 3))=some (.int .i64 ((y22 l1 Aa).f0))∧w'.cell? ⟨(At.add ((Aa).toNat * 3)).block,(At.add ((Aa).toNat * 3)).off + 1,none⟩=some (.string ((y22 l1 Aa).f1))∧w'.cell? ⟨(At.add ((Aa).toNat * 3)).block,(At.add ((Aa).toNat * 3)).off + 2,none⟩=some (.slice Aw ((y22 l1 Aa).f2).length Ax)) (ds:=[]) (fl_ 10 0) (by kernel_rfl) rfl rfl ⟨(qC Ad HB),(qC Ac HB),(qC Ab HB),(qC Ah HB),(qC Ag HB),(qC Af HB)⟩ (fun hHeld=>?_);refine with_tabW laws_eqLitS.tab6 laws_eqLitS.bits6 (fun HT_ HW_=>?_)
     generalize wr.drew=w9 at HB Aq Ar Ai Aj Ak Al Am Ap hHeld ⊢
     refine qp3 0 17 10 ?_
     by_cases c8:Bm=true
     ·subst c8
      replace H:=qT H
      have H':=y0.mk H
      clear H
      refine qp 4 21 (fl_ 10 23) ?_
      refine qp 5 22 (fl_ 10 55) ?_
      refine qp 6 23 (fl_ 10 119) ?_
      refine qt 3 20 (fl_ 10 127) hHeld ?_
      refine qt 7 24 (fl_ 10 255) hHeld ?_
      refine qO 8 25 (fl_ 10 511) (fun K hK=>?_)
      refine goes_ Tryz.func25 (by kernel_rfl) rfl #[.agg #[.int .i64 ((y22 l0 Aa).f0),.string ((y22 l0 Aa).f1),.slice Au ((y22 l0 Aa).f2).length Av],.agg #[.int .i64 ((y22 l1 Aa).f0),.string ((y22 l1 Aa).f1),.slice Aw ((y22 l1 Aa).f2).length Ax]] (by rfl) rfl rfl qy1 ?_
      with_reducible refine(laws_eqLit.calls k1 ((y22 l0 Aa).f0) ((y22 l0 Aa).f1) _ _ ((y22 l0 Aa).f2) ((y22 l1 Aa).f0) ((y22 l1 Aa).f1) _ _ ((y22 l1 Aa).f2) true _ (qc (Kd.C_below Aq.out HB.out)) Ba.out (qc (Kd.C_below Ar.out HB.out)) Bd.out A7.out).mono ?_
      rintro e Cc ⟨rfl,hb⟩
      refine⟨_,rfl, ?_⟩
      replace HB:=y0.mk (y5 qb hb)
      (try clear hb)
      refine hK.out _ _ ⟨(qC Ad HB),(qC Ac HB),(qC Ab HB),(qC Ah HB),(qC Ag HB),(qC Af HB)⟩ (fun hHeld=>?_)
      clear hK K
      refine qx 25 ?_
      refine qp 9 26 (fl_ 10 1023) ?_
      refine done_ (done_of HT_.out (by kernel_rfl)) ?_
      try go_wp2
      go_roundg k1
      case measure=>have:=Bt.out;omega
      exact⟨(wrap64 (Aa + 1)),qy2,H',⟨by have:=Bt.out;omega⟩,⟨qb⟩⟩
     ·replace c8:=Bool.eq_false_iff.mpr c8
      subst c8
      replace H:=qF H
      obtain rfl:=Option.some.inj H
      refine qp 4 21 (fl_ 10 23) ?_
      refine qp 5 22 (fl_ 10 55) ?_
      refine qp 6 23 (fl_ 10 119) ?_
      refine qt 3 20 (fl_ 10 127) hHeld ?_
      refine qt 7 24 (fl_ 10 255) hHeld ?_
      refine qO 8 25 (fl_ 10 511) (fun K hK=>?_)
      refine goes_ Tryz.func25 (by kernel_rfl) rfl #[.agg #[.int .i64 ((y22 l0 Aa).f0),.string ((y22 l0 Aa).f1),.slice Au ((y22 l0 Aa).f2).length Av],.agg #[.int .i64 ((y22 l1 Aa).f0),.string ((y22 l1 Aa).f1),.slice Aw ((y22 l1 Aa).f2).length Ax]] (by rfl) rfl rfl qy1 ?_
      with_reducible refine(laws_eqLit.calls k1 ((y22 l0 Aa).f0) ((y22 l0 Aa).f1) _ _ ((y22 l0 Aa).f2) ((y22 l1 Aa).f0) ((y22 l1 Aa).f1) _ _ ((y22 l1 Aa).f2) false _ (qc (Kd.C_below Aq.out HB.out)) Ba.out (qc (Kd.C_below Ar.out HB.out)) Bd.out A7.out).mono ?_
      rintro e Cd ⟨rfl,hb⟩
      refine⟨_,rfl, ?_⟩
      replace HB:=y0.mk (y5 qb hb)
      (try clear hb)
      refine hK.out _ _ ⟨(qC Ad HB),(qC Ac HB),(qC Ab HB),(qC Ah HB),(qC Ag HB),(qC Af HB)⟩ (fun hHeld=>?_)
      clear hK K
      refine qx 25 ?_
      refine qp 9 26 (fl_ 10 1023) ?_
      refine done_ (done_of HT_.out (by kernel_rfl)) ?_
      try go_wp2
      go_ret
      exact⟨qf,qb⟩
    ·rw [if_neg c4]at H
     have Bl:=decide_eq_false c4
     clear c4
     obtain rfl:=Option.some.inj H
     go_wp2
     go_ret
     exact⟨qf,qb⟩
 ·rw [if_neg c3]at H
  have Bi:((l0.length:Int) == (l1.length:Int))=false:=beq_eq_false_iff_ne.mpr c3
  have Bj:((l0.length:Int) != (l1.length:Int))=true:=bne_iff_ne.mpr c3
  have Bk:(l0.length == l1.length)=false:=by first|simpa using c3|(simp at c3 ⊢;omega)
  obtain rfl:=Option.some.inj H
  go_enter Tryz.func26,Tryz.ntmps26
  go_wp2
  go_ret
  exact⟨qf,qb⟩
def laws_eqRule.f (k:Nat) (Ae:List (S67)) (An:Int) (Ao:ByteArray) (By:List Int) (Dd:List (S35)) (De:List (S67)) (Dz:Int) (Ea:ByteArray) (Ec:List Int) (Ee:List (S35)):Option (Bool):=(laws_eqExpS.f k Ae De).bind fun Em=>(if Em=true then((laws_eqLit.f k An Ao By Dz Ea Ec).bind fun Ep=>(if Ep=true then((laws_eqLitS.f k Dd Ee).bind fun Ez=>(if Ez=true then(some true)else(some false)))else(some false)))else(some false))
theorem laws_eqRule.calls (k:Nat) (Ar:Option Addr) (As:Nat) (Af:List (S67)) (Al:Int) (Am:ByteArray) (Av:Option Addr) (Aw:Nat) (Ah:List Int) (Az:Option Addr) (Ba:Nat) (Aj:List (S35)) (At:Option Addr) (Au:Nat) (Ag:List (S67)) (Ap:Int) (Aq:ByteArray) (Ax:Option Addr) (Ay:Nat) (Ai:List Int) (Bb:Option Addr) (Bc:Nat) (Ak:List (S35)) (r:Bool) (w:World) (Br:Kd.C k67 w Ar Af.length Af) (Bs:Af.length≤As) (Bt:Kd.C (Kd.int .i64) w Av Ah.length Ah) (Bu:Ah.length≤Aw) (Bv:Kd.C k35 w Az Aj.length Aj) (Bw:Aj.length≤Ba) (Bx:Kd.C k67 w At Ag.length Ag) (Bz:Ag.length≤Au) (Ca:Kd.C (Kd.int .i64) w Ax Ai.length Ai) (Cb:Ai.length≤Ay) (Cc:Kd.C k35 w Bb Ak.length Ak) (Cd:Ak.length≤Bc) (h:laws_eqRule.f k Af Al Am Ah Aj Ag Ap Aq Ai Ak=some r) :
  Calls Tryz.prog 10 #[.agg #[.slice Ar Af.length As,.int .i64 Al,.string Am,.slice Av Ah.length Aw,.slice Az Aj.length Ba],.agg #[.slice At Ag.length Au,.int .i64 Ap,.string Aq,.slice Ax Ai.length Ay,.slice Bb Ak.length Bc]] w fun e w'=>e=.returned (.bool r)∧Below w.heap.size w w':=by
 have Jy:=Tryz.underlying38
 have Jz:=Tryz.underlying35
 have Bd:=y0.mk Br
 have Be:=y0.mk Bs
 clear Br Bs
 have Bh:=y0.mk Bt
 have Bi:=y0.mk Bu
 clear Bt Bu
 have Ce:=y0.mk Bv
 have Cf:=y0.mk Bw
 clear Bv Bw
 have Bf:=y0.mk Bx
 have Bg:=y0.mk Bz
 clear Bx Bz
 have Bj:=y0.mk Ca
 have Bk:=y0.mk Cb
 clear Ca Cb
 have Cg:=y0.mk Cc
 have Ch:=y0.mk Cd
 clear Cc Cd
 have HB:=y0.mk (Below.refl w.heap.size w)
 have H:((laws_eqExpS.f k Af Ag).bind fun Ci=>(if Ci=true then((laws_eqLit.f k Al Am Ah Ap Aq Ai).bind fun Cj=>(if Cj=true then((laws_eqLitS.f k Aj Ak).bind fun Ck=>(if Ck=true then(some true)else(some false)))else(some false)))else(some false)))=some r:=h
 clear h
 obtain⟨Ci,A3,H⟩:=qB H
 by_cases c4:Ci=true
 ·subst c4
  replace H:=qT H
  obtain⟨Cj,A5,H⟩:=qB H
  by_cases c6:Cj=true
  ·subst c6
   replace H:=qT H
   obtain⟨Ck,A7,H⟩:=qB H
   by_cases c8:Ck=true
   ·subst c8
    replace H:=qT H
    obtain rfl:=Option.some.inj H
    go_enter Tryz.func10,Tryz.ntmps10
    go_wp2_with (first|((with_reducible refine y19 (N:=2) rfl ?_);refine qe 2 #[.slice Ar Af.length As,.int .i64 Al,.string Am,.slice Av Ah.length Aw,.slice Az Aj.length Ba] 38 ?_;intro Bl hg w9 hbox hb;have Aa:=y0.mk (hbox);have Bm:=y0.mk (qg (w:=w) hg);have Bn:=y0.mk (qg (w:=w) hg);replace HB:=y0.mk (y5 qb hb);clear hb hbox hg)|((with_reducible refine y19 (N:=3) rfl ?_);refine qe 3 #[.slice At Ag.length Au,.int .i64 Ap,.string Aq,.slice Ax Ai.length Ay,.slice Bb Ak.length Bc] 38 ?_;intro Bo hg Ka hbox hb;have Ab:=y0.mk (hbox);have Bp:=y0.mk (qg (w:=w) hg);have Bq:=y0.mk (qg (w:=w) hg);replace HB:=y0.mk (y5 qb hb);have Ac:=y0.mk (qn Aa.out hg);have Ad:=y0.mk (qm Aa.out hg);replace Aa:=y0.mk (qK Aa.out hb);clear hb hbox hg;have Jq:=Ac.out;have Jr:=Ad.out;obtain⟨Cl,Cm,Cn,Co,Cp,Cq,Cr,Cs,Ct,Cu⟩:=qz5 Aa.out;obtain⟨Cv,Cw,Cx,Cy,Cz,Da,Db,Dc,Dd,De⟩:=qz5 Ab.out)|((with_reducible refine y18 (f:=24) rfl ?_);refine y21 (some 9) rfl rfl Tryz.func24 (by kernel_rfl) rfl #[.slice Ar Af.length As,.slice At Ag.length Au] rfl qy1 ?_;(with_reducible refine(laws_eqExpS.calls k _ _ Af _ _ Ag true _ (qc (Kd.C_below Bd.out HB.out)) Be.out (qc (Kd.C_below Bf.out HB.out)) Bg.out A3.out).mono ?_);rintro e Kb ⟨rfl,hb⟩;refine⟨_,rfl, ?_⟩;replace Aa:=y0.mk (qK Aa.out hb);replace Ab:=y0.mk (qK Ab.out hb);replace HB:=y0.mk (y5 qb hb);(try clear hb);obtain⟨Df,Dg,Dh,Di,Dj,Dk,Dl,Dm,Do,Dp⟩:=qz5 Aa.out;obtain⟨Dq,Dr,Ds,Dt,Du,Dv,Dw,Dx,Dy,Dz⟩:=qz5 Ab.out)|((with_reducible refine y18 (f:=25) rfl ?_);refine y21 (some 15) rfl rfl Tryz.func25 (by kernel_rfl) rfl #[.agg #[.int .i64 Al,.string Am,.slice Av Ah.length Aw],.agg #[.int .i64 Ap,.string Aq,.slice Ax Ai.length Ay]] rfl qy1 ?_;(with_reducible refine(laws_eqLit.calls k Al Am _ _ Ah Ap Aq _ _ Ai true _ (qc (Kd.C_below Bh.out HB.out)) Bi.out (qc (Kd.C_below Bj.out HB.out)) Bk.out A5.out).mono ?_);rintro e Ke ⟨rfl,hb⟩;refine⟨_,rfl, ?_⟩;replace Aa:=y0.mk (qK Aa.out hb);replace Ab:=y0.mk (qK Ab.out hb);replace HB:=y0.mk (y5 qb hb);(try clear hb);obtain⟨Ea,Eb,Ec,Ed,Ee,Ef,Eg,Eh,Ei,Ej⟩:=qz5 Aa.out;obtain⟨Ek,El,Em,En,Eo,Ep,Er,Es,Et,Eu⟩:=qz5 Ab.out)|((with_reducible refine y18 (f:=26) rfl ?_);refine y21 (some 21) rfl rfl Tryz.func26 (by kernel_rfl) rfl #[.slice Az Aj.length Ba,.slice Bb Ak.length Bc] rfl qy1 ?_;(with_reducible refine(laws_eqLitS.calls k _ _ Aj _ _ Ak true _ (qc (Kd.C_below Ce.out HB.out)) Cf.out (qc (Kd.C_below Cg.out HB.out)) Ch.out A7.out).mono ?_);rintro e Kf ⟨rfl,hb⟩;refine⟨_,rfl, ?_⟩;replace Aa:=y0.mk (qK Aa.out hb);replace Ab:=y0.mk (qK Ab.out hb);replace HB:=y0.mk (y5 qb hb);(try clear hb)))
    go_ret
    exact⟨qf,qb⟩
   ·replace c8:=Bool.eq_false_iff.mpr c8
    subst c8
    replace H:=qF H
    obtain rfl:=Option.some.inj H
    go_enter Tryz.func10,Tryz.ntmps10
    go_wp2_with (first|((with_reducible refine y19 (N:=2) rfl ?_);refine qe 2 #[.slice Ar Af.length As,.int .i64 Al,.string Am,.slice Av Ah.length Aw,.slice Az Aj.length Ba] 38 ?_;intro Bl hg Kg hbox hb;have Aa:=y0.mk (hbox);have Bm:=y0.mk (qg (w:=w) hg);have Bn:=y0.mk (qg (w:=w) hg);replace HB:=y0.mk (y5 qb hb);clear hb hbox hg)|((with_reducible refine y19 (N:=3) rfl ?_);refine qe 3 #[.slice At Ag.length Au,.int .i64 Ap,.string Aq,.slice Ax Ai.length Ay,.slice Bb Ak.length Bc] 38 ?_;intro Bo hg Kh hbox hb;have Ab:=y0.mk (hbox);have Bp:=y0.mk (qg (w:=w) hg);have Bq:=y0.mk (qg (w:=w) hg);replace HB:=y0.mk (y5 qb hb);have Ac:=y0.mk (qn Aa.out hg);have Ad:=y0.mk (qm Aa.out hg);replace Aa:=y0.mk (qK Aa.out hb);clear hb hbox hg;have Js:=Ac.out;have Jt:=Ad.out;obtain⟨Ew,Ex,Ey,Ez,Fa,Fb,Fc,Fd,Fe,Ff⟩:=qz5 Aa.out;obtain⟨Fg,Fh,Fi,Fj,Fk,Fl,Fm,Fn,Fo,Fp⟩:=qz5 Ab.out)|((with_reducible refine y18 (f:=24) rfl ?_);refine y21 (some 9) rfl rfl Tryz.func24 (by kernel_rfl) rfl #[.slice Ar Af.length As,.slice At Ag.length Au] rfl qy1 ?_;(with_reducible refine(laws_eqExpS.calls k _ _ Af _ _ Ag true _ (qc (Kd.C_below Bd.out HB.out)) Be.out (qc (Kd.C_below Bf.out HB.out)) Bg.out A3.out).mono ?_);rintro e Ki ⟨rfl,hb⟩;refine⟨_,rfl, ?_⟩;replace Aa:=y0.mk (qK Aa.out hb);replace Ab:=y0.mk (qK Ab.out hb);replace HB:=y0.mk (y5 qb hb);(try clear hb);obtain⟨Fq,Fr,Fs,Ft,Fu,Fv,Fx,Fy,Fz,Ga⟩:=qz5 Aa.out;obtain⟨Gb,Gc,Gd,Ge,Gf,Gg,Gh,Gi,Gj,Gk⟩:=qz5 Ab.out)|((with_reducible refine y18 (f:=25) rfl ?_);refine y21 (some 15) rfl rfl Tryz.func25 (by kernel_rfl) rfl #[.agg #[.int .i64 Al,.string Am,.slice Av Ah.length Aw],.agg #[.int .i64 Ap,.string Aq,.slice Ax Ai.length Ay]] rfl qy1 ?_;(with_reducible refine(laws_eqLit.calls k Al Am _ _ Ah Ap Aq _ _ Ai true _ (qc (Kd.C_below Bh.out HB.out)) Bi.out (qc (Kd.C_below Bj.out HB.out)) Bk.out A5.out).mono ?_);rintro e Kj ⟨rfl,hb⟩;refine⟨_,rfl, ?_⟩;replace Aa:=y0.mk (qK Aa.out hb);replace Ab:=y0.mk (qK Ab.out hb);replace HB:=y0.mk (y5 qb hb);(try clear hb);obtain⟨Gl,Gm,Gn,Gp,Gq,Gr,Gs,Gt,Gu,Gv⟩:=qz5 Aa.out;obtain⟨Gw,Gx,Gy,Gz,Ha,Hb,Hc,Hd,He,Hf⟩:=qz5 Ab.out)|((with_reducible refine y18 (f:=26) rfl ?_);refine y21 (some 21) rfl rfl Tryz.func26 (by kernel_rfl) rfl #[.slice Az Aj.length Ba,.slice Bb Ak.length Bc] rfl qy1 ?_;(with_reducible refine(laws_eqLitS.calls k _ _ Aj _ _ Ak false _ (qc (Kd.C_below Ce.out HB.out)) Cf.out (qc (Kd.C_below Cg.out HB.out)) Ch.out A7.out).mono ?_);rintro e Kk ⟨rfl,hb⟩;refine⟨_,rfl, ?_⟩;replace Aa:=y0.mk (qK Aa.out hb);replace Ab:=y0.mk (qK Ab.out hb);replace HB:=y0.mk (y5 qb hb);(try clear hb)))
    go_ret
    exact⟨qf,qb⟩
  ·replace c6:=Bool.eq_false_iff.mpr c6
   subst c6
   replace H:=qF H
   obtain rfl:=Option.some.inj H
   go_enter Tryz.func10,Tryz.ntmps10
   go_wp2_with (first|((with_reducible refine y19 (N:=2) rfl ?_);refine qe 2 #[.slice Ar Af.length As,.int .i64 Al,.string Am,.slice Av Ah.length Aw,.slice Az Aj.length Ba] 38 ?_;intro Bl hg Kl hbox hb;have Aa:=y0.mk (hbox);have Bm:=y0.mk (qg (w:=w) hg);have Bn:=y0.mk (qg (w:=w) hg);replace HB:=y0.mk (y5 qb hb);clear hb hbox hg)|((with_reducible refine y19 (N:=3) rfl ?_);refine qe 3 #[.slice At Ag.length Au,.int .i64 Ap,.string Aq,.slice Ax Ai.length Ay,.slice Bb Ak.length Bc] 38 ?_;intro Bo hg Km hbox hb;have Ab:=y0.mk (hbox);have Bp:=y0.mk (qg (w:=w) hg);have Bq:=y0.mk (qg (w:=w) hg);replace HB:=y0.mk (y5 qb hb);have Ac:=y0.mk (qn Aa.out hg);have Ad:=y0.mk (qm Aa.out hg);replace Aa:=y0.mk (qK Aa.out hb);clear hb hbox hg;have Ju:=Ac.out;have Jv:=Ad.out;obtain⟨Hg,Hh,Hi,Hj,Hk,Hl,Hm,Hn,Ho,Hp⟩:=qz5 Aa.out;obtain⟨Hq,Hr,Hs,Ht,Hu,Hv,Hw,Hx,Hy,Hz⟩:=qz5 Ab.out)|((with_reducible refine y18 (f:=24) rfl ?_);refine y21 (some 9) rfl rfl Tryz.func24 (by kernel_rfl) rfl #[.slice Ar Af.length As,.slice At Ag.length Au] rfl qy1 ?_;(with_reducible refine(laws_eqExpS.calls k _ _ Af _ _ Ag true _ (qc (Kd.C_below Bd.out HB.out)) Be.out (qc (Kd.C_below Bf.out HB.out)) Bg.out A3.out).mono ?_);rintro e Kn ⟨rfl,hb⟩;refine⟨_,rfl, ?_⟩;replace Aa:=y0.mk (qK Aa.out hb);replace Ab:=y0.mk (qK Ab.out hb);replace HB:=y0.mk (y5 qb hb);(try clear hb);obtain⟨Ia,Ib,Ic,Id,Ie,If,Ig,Ih,Ii,Ij⟩:=qz5 Aa.out;obtain⟨Ik,Il,Im,Io,Ip,Iq,Ir,Is,Iu,Iv⟩:=qz5 Ab.out)|((with_reducible refine y18 (f:=25) rfl ?_);refine y21 (some 15) rfl rfl Tryz.func25 (by kernel_rfl) rfl #[.agg #[.int .i64 Al,.string Am,.slice Av Ah.length Aw],.agg #[.int .i64 Ap,.string Aq,.slice Ax Ai.length Ay]] rfl qy1 ?_;(with_reducible refine(laws_eqLit.calls k Al Am _ _ Ah Ap Aq _ _ Ai false _ (qc (Kd.C_below Bh.out HB.out)) Bi.out (qc (Kd.C_below Bj.out HB.out)) Bk.out A5.out).mono ?_);rintro e Ko ⟨rfl,hb⟩;refine⟨_,rfl, ?_⟩;replace Aa:=y0.mk (qK Aa.out hb);replace Ab:=y0.mk (qK Ab.out hb);replace HB:=y0.mk (y5 qb hb);(try clear hb)))
   go_ret
   exact⟨qf,qb⟩
 ·replace c4:=Bool.eq_false_iff.mpr c4
  subst c4
  replace H:=qF H
  obtain rfl:=Option.some.inj H
  go_enter Tryz.func10,Tryz.ntmps10
  go_wp2_with (first|((with_reducible refine y19 (N:=2) rfl ?_);refine qe 2 #[.slice Ar Af.length As,.int .i64 Al,.string Am,.slice Av Ah.length Aw,.slice Az Aj.length Ba] 38 ?_;intro Bl hg Kp hbox hb;have Aa:=y0.mk (hbox);have Bm:=y0.mk (qg (w:=w) hg);have Bn:=y0.mk (qg (w:=w) hg);replace HB:=y0.mk (y5 qb hb);clear hb hbox hg)|((with_reducible refine y19 (N:=3) rfl ?_);refine qe 3 #[.slice At Ag.length Au,.int .i64 Ap,.string Aq,.slice Ax Ai.length Ay,.slice Bb Ak.length Bc] 38 ?_;intro Bo hg Kq hbox hb;have Ab:=y0.mk (hbox);have Bp:=y0.mk (qg (w:=w) hg);have Bq:=y0.mk (qg (w:=w) hg);replace HB:=y0.mk (y5 qb hb);have Ac:=y0.mk (qn Aa.out hg);have Ad:=y0.mk (qm Aa.out hg);replace Aa:=y0.mk (qK Aa.out hb);clear hb hbox hg;have Jw:=Ac.out;have Jx:=Ad.out;obtain⟨Iw,Ix,Iy,Iz,Ja,Jb,Jc,Jd,Je,Jf⟩:=qz5 Aa.out;obtain⟨Jg,Jh,Ji,Jj,Jk,Jl,Jm,Jn,Jo,Jp⟩:=qz5 Ab.out)|((with_reducible refine y18 (f:=24) rfl ?_);refine y21 (some 9) rfl rfl Tryz.func24 (by kernel_rfl) rfl #[.slice Ar Af.length As,.slice At Ag.length Au] rfl qy1 ?_;(with_reducible refine(laws_eqExpS.calls k _ _ Af _ _ Ag false _ (qc (Kd.C_below Bd.out HB.out)) Be.out (qc (Kd.C_below Bf.out HB.out)) Bg.out A3.out).mono ?_);rintro e Kr ⟨rfl,hb⟩;refine⟨_,rfl, ?_⟩;replace Aa:=y0.mk (qK Aa.out hb);replace Ab:=y0.mk (qK Ab.out hb);replace HB:=y0.mk (y5 qb hb);(try clear hb)))
  go_ret
  exact⟨qf,qb⟩
def laws_eqStringS.l0:Nat→List ByteArray→List ByteArray→Int→Option (Bool)
 | 0,_,_,_=>none
 | k + 1,x0,x1,x5=>if x5 < (x0.length:Int)then(if 0≤x5 then(if x5 < (x1.length:Int)then(if(rdOf ByteArray.empty x0 x5).toList=(rdOf ByteArray.empty x1 x5).toList then(laws_eqStringS.l0 k x0 x1 (wrap64 (x5 + 1)))else(some false))else(none))else(none))else(some true)
def laws_eqStringS.f (k:Nat) (l0:List ByteArray) (l1:List ByteArray):Option (Bool):=if(l0.length:Int)=(l1.length:Int)then(laws_eqStringS.l0 k l0 l1 0)else(some false)
theorem laws_eqStringS.calls (k:Nat) (A0:Option Addr) (c0:Nat) (l0:List ByteArray) (A1:Option Addr) (c1:Nat) (l1:List ByteArray) (r:Bool) (w:World) (As:Kd.C Kd.string w A0 l0.length l0) (At:l0.length≤c0) (Au:Kd.C Kd.string w A1 l1.length l1) (Av:l1.length≤c1) (h:laws_eqStringS.f k l0 l1=some r) :
  Calls Tryz.prog 11 #[.slice A0 l0.length c0,.slice A1 l1.length c1] w fun e w'=>e=.returned (.bool r)∧y1 w w':=by
 have Az:=y0.mk As
 have Bd:=y0.mk At
 clear As At
 have Ba:=y0.mk Au
 have Be:=y0.mk Av
 clear Au Av
 have H:(if(l0.length:Int)=(l1.length:Int)then(laws_eqStringS.l0 k l0 l1 0)else(some false))=some r:=h
 clear h
 by_cases c3:(l0.length:Int)=(l1.length:Int)
 ·rw [if_pos c3]at H
  have Ag:((l0.length:Int) == (l1.length:Int))=true:=beq_iff_eq.mpr c3
  have Ah:((l0.length:Int) != (l1.length:Int))=false:=bne_eq_false_iff_eq.mpr c3
  have Ai:(l0.length == l1.length)=true:=by first|simpa using c3|(simp at c3 ⊢;omega)
  clear c3
  have H':=y0.mk H
  clear H
  go_enter Tryz.func11,Tryz.ntmps11
  go_wp2
  repeat(go_quiet (fail);try go_wp2)
  go_loopg [5] k (fun kq v5 w'=>∃(Aa:Int),v5=.int .i64 Aa∧y0 (laws_eqStringS.l0 kq l0 l1 Aa=some r)∧y0 (kq≤k)∧y1 w w')
  case atStart=>exact⟨(0),qy2,H',⟨Nat.le_refl _⟩,by repeat(first|exact y1.refl _|apply y1.step)⟩
  case round =>
   clear H'
   (try clear Ag Ah Ai)
   obtain⟨Aa,rfl,HA,Aw,⟨m1,rfl⟩⟩:=hrel
   cases gk with
   | zero=>exact absurd HA.out (by simp [laws_eqStringS.l0])
   | succ k1 =>
    have H:=HA.out
    clear HA
    simp only [laws_eqStringS.l0]at H
    by_cases c4:Aa < (l0.length:Int)
    ·rw [if_pos c4]at H
     have Al:=decide_eq_true c4
     clear c4
     obtain⟨c5,H⟩:=qo H
     have Bb:decide (0≤Aa)=true:=decide_eq_true c5
     clear c5
     obtain⟨c6,H⟩:=qo H
     have Bc:decide (Aa < (l1.length:Int))=true:=decide_eq_true c6
     clear c6
     have Ab:0≤(Aa:Int):=qd
     have Ac:Aa < (l0.length:Int):=qd
     obtain⟨Ax,Am,Aj⟩:=Kd.at_string Az.out Aa Ab Ac
     cases Am
     replace Ab:=eq_true Ab
     replace Ac:=eq_true Ac
     have Ad:0≤(Aa:Int):=qd
     have Af:Aa < (l1.length:Int):=qd
     obtain⟨Ay,Ap,Ak⟩:=Kd.at_string Ba.out Aa Ad Af
     cases Ap
     replace Ad:=eq_true Ad
     replace Af:=eq_true Af
     by_cases c7:(rdOf ByteArray.empty l0 Aa).toList=(rdOf ByteArray.empty l1 Aa).toList
     ·rw [if_pos c7]at H
      have Aq:((rdOf ByteArray.empty l0 Aa).toList == (rdOf ByteArray.empty l1 Aa).toList)=true:=beq_iff_eq.mpr c7
      have Ar:((rdOf ByteArray.empty l0 Aa).toList != (rdOf ByteArray.empty l1 Aa).toList)=false:=bne_eq_false_iff_eq.mpr c7
      clear c7
      have H':=y0.mk H
      clear H
      go_wp2
      repeat(go_quiet (fail);try go_wp2)
      go_roundg k1
      case measure=>have:=Aw.out;omega
      exact⟨(wrap64 (Aa + 1)),qy2,H',⟨by have:=Aw.out;omega⟩,by repeat(first|exact y1.refl _|apply y1.step)⟩
     ·rw [if_neg c7]at H
      have Aq:((rdOf ByteArray.empty l0 Aa).toList == (rdOf ByteArray.empty l1 Aa).toList)=false:=beq_eq_false_iff_ne.mpr c7
      have Ar:((rdOf ByteArray.empty l0 Aa).toList != (rdOf ByteArray.empty l1 Aa).toList)=true:=bne_iff_ne.mpr c7
      obtain rfl:=Option.some.inj H
      go_wp2
      repeat(go_quiet (fail);try go_wp2)
      go_ret
      exact qf2
    ·rw [if_neg c4]at H
     have Al:=decide_eq_false c4
     clear c4
     obtain rfl:=Option.some.inj H
     go_wp2
     repeat(go_quiet (fail);try go_wp2)
     go_ret
     exact qf2
 ·rw [if_neg c3]at H
  have Ag:((l0.length:Int) == (l1.length:Int))=false:=beq_eq_false_iff_ne.mpr c3
  have Ah:((l0.length:Int) != (l1.length:Int))=true:=bne_iff_ne.mpr c3
  have Ai:(l0.length == l1.length)=false:=by first|simpa using c3|(simp at c3 ⊢;omega)
  obtain rfl:=Option.some.inj H
  go_enter Tryz.func11,Tryz.ntmps11
  go_wp2
  repeat(go_quiet (fail);try go_wp2)
  go_ret
  exact qf2
end Go.Proofs.YtimhlficlhafbaaGreatDoor.Pv
end

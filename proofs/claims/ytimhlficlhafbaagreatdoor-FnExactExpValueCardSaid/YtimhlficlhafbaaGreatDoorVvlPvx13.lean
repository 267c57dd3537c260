-- Cut by prune.py.
import Derived.Test.YtimhlficlhafbaaGreatDoorVvlPvx12
set_option maxHeartbeats 8000000
set_option maxRecDepth 100000
section
namespace Go.Proofs.YtimhlficlhafbaaGreatDoor.Pv
open RowKit YtimhlficlhafbaaGreatDoorW.PrintWords YtimhlficlhafbaaGreatDoorW.PrintLast YtimhlficlhafbaaGreatDoorW.PrintMore
set_option linter.unusedVariables false
set_option linter.unusedSimpArgs false
def spec_ExpValue.f (k:Nat) (Ae:List (S67)) (An:Int) (Ao:ByteArray) (By:List Int) (Dd:List (S35)) (a1:Int) (l2:List ByteArray) (l3:List ByteArray):Option (ByteArray×Int):=(z5_.f k Ae An Ao By Dd).bind fun De=>(if De.toList=([]:List UInt8)then(some ((⟨#[]⟩:ByteArray),1))else((z8_.f a1 0 (wrap64 ((Ae.length:Int) - 1))).bind fun Dz=>(if Dz=true then((z11_.f k Ae An Ao By Dd a1 l2 l3).bind fun bt308=>(some (bt308.1,bt308.2)))else(some ((⟨#[]⟩:ByteArray),1)))))
theorem spec_ExpValue.calls (k:Nat) (Ai:Option Addr) (Aj:Nat) (Ab:List (S67)) (Af:Int) (Ag:ByteArray) (Ak:Option Addr) (Al:Nat) (Ac:List Int) (Am:Option Addr) (Ap:Nat) (Ad:List (S35)) (a1:Int) (A2:Option Addr) (c2:Nat) (l2:List ByteArray) (A3:Option Addr) (c3:Nat) (l3:List ByteArray) (r1:ByteArray) (r2:Int) (w:World) (Aw:Kd.C k67 w Ai Ab.length Ab) (Ax:Ab.length≤Aj) (Ay:Kd.C (Kd.int .i64) w Ak Ac.length Ac) (Az:Ac.length≤Al) (Ba:Kd.C k35 w Am Ad.length Ad) (Bb:Ad.length≤Ap) (Dl:Kd.C Kd.string w A2 l2.length l2) (Dm:l2.length≤c2) (Do:Kd.C Kd.string w A3 l3.length l3) (Dp:l3.length≤c3) (h:spec_ExpValue.f k Ab Af Ag Ac Ad a1 l2 l3=some (r1,r2)) :
  Calls Tryz.prog 6 #[.agg #[.slice Ai Ab.length Aj,.int .i64 Af,.string Ag,.slice Ak Ac.length Al,.slice Am Ad.length Ap],.int .i64 a1,.slice A2 l2.length c2,.slice A3 l3.length c3] w fun e w'=>e=.returned (.tuple #[.string r1,.int .i64 r2])∧Below w.heap.size w w':=by
 have Dr:=Tryz.underlying38
 have Aq:=y0.mk Aw
 have Ar:=y0.mk Ax
 clear Aw Ax
 have As:=y0.mk Ay
 have At:=y0.mk Az
 clear Ay Az
 have Au:=y0.mk Ba
 have Av:=y0.mk Bb
 clear Ba Bb
 have Ds:=y0.mk Dl
 have Dt:=y0.mk Dm
 clear Dl Dm
 have Du:=y0.mk Do
 have Dv:=y0.mk Dp
 clear Do Dp
 have HB:=y0.mk (Below.refl w.heap.size w)
 have H:((z5_.f k Ab Af Ag Ac Ad).bind fun Ah=>(if Ah.toList=([]:List UInt8)then(some ((⟨#[]⟩:ByteArray),1))else((z8_.f a1 0 (wrap64 ((Ab.length:Int) - 1))).bind fun Bg=>(if Bg=true then((z11_.f k Ab Af Ag Ac Ad a1 l2 l3).bind fun Bc=>(some (Bc.1,Bc.2)))else(some ((⟨#[]⟩:ByteArray),1))))))=some (r1,r2):=h
 clear h
 obtain⟨Ah,A5,H⟩:=qB H
 by_cases c6:Ah.toList=([]:List UInt8)
 ·rw [if_pos c6]at H
  have Cz:(Ah.toList == ([]:List UInt8))=true:=beq_iff_eq.mpr c6
  have Da:(Ah.toList != ([]:List UInt8))=false:=bne_eq_false_iff_eq.mpr c6
  clear c6
  simp only [Option.some.injEq,Prod.mk.injEq]at H
  obtain⟨rfl,rfl⟩:=H
  go_enter Tryz.func6,Tryz.ntmps6
  go_wp2_with (first|((with_reducible refine y19 (N:=4) rfl ?_);(try(refine y20 (by rfl) ?_;dsimp only));refine qe 4 #[.slice Ai Ab.length Aj,.int .i64 Af,.string Ag,.slice Ak Ac.length Al,.slice Am Ad.length Ap] 38 ?_;intro Bd hg w7 hbox hb;have Aa:=y0.mk (hbox);have Be:=y0.mk (qg (w:=w) hg);have Bf:=y0.mk (qg (w:=w) hg);replace HB:=y0.mk (y5 qb hb);clear hb hbox hg;obtain⟨Db,Dc,Dd,De,Df,Dg,Dh,Di,Dj,Dk⟩:=qz5 Aa.out)|((with_reducible refine y18 (f:=15) rfl ?_);refine y21 (some 11) rfl rfl Tryz.func15 (by kernel_rfl) rfl #[.agg #[.slice Ai Ab.length Aj,.int .i64 Af,.string Ag,.slice Ak Ac.length Al,.slice Am Ad.length Ap]] rfl qy1 ?_;(with_reducible refine(z5_.calls k _ _ Ab Af Ag _ _ Ac _ _ Ad Ah _ (qc (Kd.C_below Aq.out HB.out)) Ar.out (qc (Kd.C_below As.out HB.out)) At.out (qc (Kd.C_below Au.out HB.out)) Av.out A5.out).mono ?_);rintro e w9 ⟨rfl,hb⟩;refine⟨_,rfl, ?_⟩;replace Aa:=y0.mk (qK Aa.out hb);replace HB:=y0.mk (y5 qb hb);(try clear hb)))
  go_ret2
  exact⟨qf,qb⟩
 ·rw [if_neg c6]at H
  have Cz:(Ah.toList == ([]:List UInt8))=false:=beq_eq_false_iff_ne.mpr c6
  have Da:(Ah.toList != ([]:List UInt8))=true:=bne_iff_ne.mpr c6
  obtain⟨Bg,Dq,H⟩:=qB H
  by_cases Bj:Bg=true
  ·subst Bj
   replace H:=qT H
   obtain⟨⟨Bh,Bi⟩,Dw,H⟩:=qB H
   replace H:(some (Bh,Bi))=some (r1,r2):=H
   simp only [Option.some.injEq,Prod.mk.injEq]at H
   obtain⟨rfl,rfl⟩:=H
   go_enter Tryz.func6,Tryz.ntmps6
   go_wp2_with (first|((with_reducible refine y19 (N:=4) rfl ?_);(try(refine y20 (by rfl) ?_;dsimp only));refine qe 4 #[.slice Ai Ab.length Aj,.int .i64 Af,.string Ag,.slice Ak Ac.length Al,.slice Am Ad.length Ap] 38 ?_;intro Bd hg Dx hbox hb;have Aa:=y0.mk (hbox);have Be:=y0.mk (qg (w:=w) hg);have Bf:=y0.mk (qg (w:=w) hg);replace HB:=y0.mk (y5 qb hb);clear hb hbox hg;obtain⟨Bk,Bl,Bm,Bn,Bo,Bp,Bq,Br,Bs,Bt⟩:=qz5 Aa.out)|((with_reducible refine y18 (f:=15) rfl ?_);refine y21 (some 11) rfl rfl Tryz.func15 (by kernel_rfl) rfl #[.agg #[.slice Ai Ab.length Aj,.int .i64 Af,.string Ag,.slice Ak Ac.length Al,.slice Am Ad.length Ap]] rfl qy1 ?_;(with_reducible refine(z5_.calls k _ _ Ab Af Ag _ _ Ac _ _ Ad Ah _ ?side1 ?side2 ?side3 ?side4 ?side5 ?side6 A5.out).mono ?_);(case side1=>repeat(first|exact(Kd.C_below Aq.out HB.out)|(with_reducible refine Kd.C_alloc ?_ _)|(with_reducible refine Kd.C_drewN ?_ _)|(with_reducible refine Kd.C_drew ?_)));(case side2=>exact Ar.out);(case side3=>repeat(first|exact(Kd.C_below As.out HB.out)|(with_reducible refine Kd.C_alloc ?_ _)|(with_reducible refine Kd.C_drewN ?_ _)|(with_reducible refine Kd.C_drew ?_)));(case side4=>exact At.out);(case side5=>repeat(first|exact(Kd.C_below Au.out HB.out)|(with_reducible refine Kd.C_alloc ?_ _)|(with_reducible refine Kd.C_drewN ?_ _)|(with_reducible refine Kd.C_drew ?_)));(case side6=>exact Av.out);rintro e Dy ⟨rfl,hb⟩;refine⟨_,rfl, ?_⟩;replace Aa:=y0.mk (qK Aa.out hb);replace HB:=y0.mk (y5 qb hb);(try clear hb);obtain⟨Bu,Bv,Bw,Bx,Bz,Ca,Cb,Cc,Cd,Ce⟩:=qz5 Aa.out)|(go_at_call 16;(with_reducible refine(z8_.calls a1 0 (wrap64 ((Ab.length:Int) - 1)) true _ Dq.out).mono ?_);rintro e w' ⟨rfl,⟨nd,rfl⟩⟩)|((with_reducible refine y18 (f:=17) rfl ?_);refine y21 (some 26) rfl rfl Tryz.func17 (by kernel_rfl) rfl #[.agg #[.slice Ai Ab.length Aj,.int .i64 Af,.string Ag,.slice Ak Ac.length Al,.slice Am Ad.length Ap],.int .i64 a1,.slice A2 l2.length c2,.slice A3 l3.length c3] rfl qy1 ?_;(with_reducible refine(z11_.calls k _ _ Ab Af Ag _ _ Ac _ _ Ad a1 _ _ l2 _ _ l3 Bh Bi _ ?side1 ?side2 ?side3 ?side4 ?side5 ?side6 ?side7 ?side8 ?side9 ?side10 Dw.out).mono ?_);(case side1=>repeat(first|exact(Kd.C_below Aq.out qb)|(with_reducible refine Kd.C_alloc ?_ _)|(with_reducible refine Kd.C_drewN ?_ _)|(with_reducible refine Kd.C_drew ?_)));(case side2=>exact Ar.out);(case side3=>repeat(first|exact(Kd.C_below As.out qb)|(with_reducible refine Kd.C_alloc ?_ _)|(with_reducible refine Kd.C_drewN ?_ _)|(with_reducible refine Kd.C_drew ?_)));(case side4=>exact At.out);(case side5=>repeat(first|exact(Kd.C_below Au.out qb)|(with_reducible refine Kd.C_alloc ?_ _)|(with_reducible refine Kd.C_drewN ?_ _)|(with_reducible refine Kd.C_drew ?_)));(case side6=>exact Av.out);(case side7=>repeat(first|exact(Kd.C_below Ds.out qb)|(with_reducible refine Kd.C_alloc ?_ _)|(with_reducible refine Kd.C_drewN ?_ _)|(with_reducible refine Kd.C_drew ?_)));(case side8=>exact Dt.out);(case side9=>repeat(first|exact(Kd.C_below Du.out qb)|(with_reducible refine Kd.C_alloc ?_ _)|(with_reducible refine Kd.C_drewN ?_ _)|(with_reducible refine Kd.C_drew ?_)));(case side10=>exact Dv.out);rintro e Dz ⟨rfl,hb⟩;refine⟨_,rfl, ?_⟩;replace Aa:=y0.mk (qK Aa.out hb);replace HB:=y0.mk (y5 qb hb);(try clear hb)))
   go_ret2
   exact⟨qf,qb⟩
  ·replace Bj:=Bool.eq_false_iff.mpr Bj
   subst Bj
   replace H:=qF H
   simp only [Option.some.injEq,Prod.mk.injEq]at H
   obtain⟨rfl,rfl⟩:=H
   go_enter Tryz.func6,Tryz.ntmps6
   go_wp2_with (first|((with_reducible refine y19 (N:=4) rfl ?_);(try(refine y20 (by rfl) ?_;dsimp only));refine qe 4 #[.slice Ai Ab.length Aj,.int .i64 Af,.string Ag,.slice Ak Ac.length Al,.slice Am Ad.length Ap] 38 ?_;intro Bd hg Ea hbox hb;have Aa:=y0.mk (hbox);have Be:=y0.mk (qg (w:=w) hg);have Bf:=y0.mk (qg (w:=w) hg);replace HB:=y0.mk (y5 qb hb);clear hb hbox hg;obtain⟨Cf,Cg,Ch,Ci,Cj,Ck,Cl,Cm,Cn,Co⟩:=qz5 Aa.out)|((with_reducible refine y18 (f:=15) rfl ?_);refine y21 (some 11) rfl rfl Tryz.func15 (by kernel_rfl) rfl #[.agg #[.slice Ai Ab.length Aj,.int .i64 Af,.string Ag,.slice Ak Ac.length Al,.slice Am Ad.length Ap]] rfl qy1 ?_;(with_reducible refine(z5_.calls k _ _ Ab Af Ag _ _ Ac _ _ Ad Ah _ (qc (Kd.C_below Aq.out HB.out)) Ar.out (qc (Kd.C_below As.out HB.out)) At.out (qc (Kd.C_below Au.out HB.out)) Av.out A5.out).mono ?_);rintro e Eb ⟨rfl,hb⟩;refine⟨_,rfl, ?_⟩;replace Aa:=y0.mk (qK Aa.out hb);replace HB:=y0.mk (y5 qb hb);(try clear hb);obtain⟨Cp,Cq,Cr,Cs,Ct,Cu,Cv,Cw,Cx,Cy⟩:=qz5 Aa.out)|(go_at_call 16;(with_reducible refine(z8_.calls a1 0 (wrap64 ((Ab.length:Int) - 1)) false _ Dq.out).mono ?_);rintro e w' ⟨rfl,⟨nd,rfl⟩⟩))
   go_ret2
   exact⟨qf,qb⟩
def laws_toIntS.l0:Nat→List Int→List Int→Int→Option (List Int)
 | 0,_,_,_=>none
 | k + 1,x0,x3,x4=>if x4 < (x0.length:Int)then(if 0≤x4 then(if x4 < (x3.length:Int)then(laws_toIntS.l0 k x0 (x3.set (x4:Int).toNat (rd x0 x4)) (wrap64 (x4 + 1)))else(none))else(none))else(some x3)
def laws_toIntS.f (k:Nat) (l0:List Int):Option (List Int):=if 0≤(l0.length:Int)then(if((l0.length:Int):Int).toNat≤35184372088832 then(laws_toIntS.l0 k l0 (List.replicate ((l0.length:Int):Int).toNat 0) 0)else(none))else(none)
theorem laws_toIntS.calls (k:Nat) (A0:Option Addr) (c0:Nat) (l0:List Int) (r:List Int) (w:World) (Bb:Kd.C (Kd.int .i64) w A0 l0.length l0) (Bc:l0.length≤c0) (h:laws_toIntS.f k l0=some r) :
  Calls Tryz.prog 37 #[.slice A0 l0.length c0] w fun e w'=>∃ v0_:Value,e=.returned (v0_)∧Kd.R (Kd.int .i64) 3 w' w.heap.size (fun _=>True) v0_ r∧Below w.heap.size w w':=by
 have Bk:=y0.mk Bb
 have Bq:=y0.mk Bc
 clear Bb Bc
 have HB:=y0.mk (Below.refl w.heap.size w)
 have H:(if 0≤(l0.length:Int)then(if((l0.length:Int):Int).toNat≤35184372088832 then(laws_toIntS.l0 k l0 (List.replicate ((l0.length:Int):Int).toNat 0) 0)else(none))else(none))=some r:=h
 clear h
 obtain⟨c2,H⟩:=qo H
 have As:=eq_true c2
 have At:=decide_eq_true c2
 clear c2
 obtain⟨c3,H⟩:=qo H
 have Au:=eq_true c3
 have Av:=decide_eq_true c3
 clear c3
 obtain⟨Am,Ac⟩:∃ y_:List Int,y_=(List.replicate ((l0.length:Int):Int).toNat 0):=⟨_,rfl⟩
 replace H:(laws_toIntS.l0 k l0 Am 0)=some r:=by first|exact Ac ▸ H|exact Ac ▸ (Option.bind_some _ _).symm.trans H
 replace Ac:=y0.mk Ac
 have H':=y0.mk H
 clear H
 go_enter Tryz.func37,Tryz.ntmps37
 go_wp2_with (first|((with_reducible refine y19 (N:=7) rfl ?_);refine Kd.R_make (Kd.int .i64) _ 3 rfl (N:=7) rfl 23 _ _ rfl (l0.length:Int) rfl rfl Tryz.underlying23 (.int .i64 0) 8 info3 rfl (by decide) (by omega) 0 (ok:=fun _=>True) (okp:=fun _=>True) rfl (fun _ hk=>hk) trivial (of_decide_eq_true qy0) (Nat.le_trans (Nat.mul_le_mul_right _ (of_decide_eq_true qy0:(l0.length:Int).toNat≤35184372088832)) (by omega)) (Below.refl _ _) (Nat.le_refl _) ?_;intro Aw w4 Ap hb hg_ hnew_;clear hg_ hnew_;(first|rw [← Ac.out]at Ap|(simp only [Int.reduceToNat]at Ap;rw [← Ac.out]at Ap));have Aq:=y0.mk (Kd.R_lower Ap (y4 qb));replace HB:=y0.mk (y5 qb hb);clear hb Ap))
 go_loopg [4] k (fun kq v4 w'=>∃(Af:List Int) (Aa:Int),v4=.int .i64 Aa∧y0 (laws_toIntS.l0 kq l0 Af Aa=some r)∧y0 (kq≤k)∧y0 (Kd.R (Kd.int .i64) 3 w' w.heap.size (fun _=>True) Aw Af)∧y0 (Below w.heap.size w w'))
 case atStart=>exact⟨(Am),(0),qy2,H',⟨Nat.le_refl _⟩,⟨qR Aq.out⟩,⟨qb⟩⟩
 case round =>
  clear H'
  (try clear As At Au Av)
  obtain⟨Af,Aa,rfl,HA,Bd,Ag,HB⟩:=hrel
  cases gk with
  | zero=>exact absurd HA.out (by simp [laws_toIntS.l0])
  | succ k1 =>
   have H:=HA.out
   clear HA
   simp only [laws_toIntS.l0]at H
   by_cases c6:Aa < (l0.length:Int)
   ·rw [if_pos c6]at H
    have Ax:=decide_eq_true c6
    clear c6
    obtain⟨c7,H⟩:=qo H
    have Bl:decide (0≤Aa)=true:=decide_eq_true c7
    clear c7
    obtain⟨c8,H⟩:=qo H
    have Bm:decide (Aa < (Af.length:Int))=true:=decide_eq_true c8
    clear c8
    obtain⟨Ai,Ad⟩:∃ y_:List Int,y_=(Af.set (Aa:Int).toNat (rd l0 Aa)):=⟨_,rfl⟩
    replace H:(laws_toIntS.l0 k1 l0 Ai (wrap64 (Aa + 1)))=some r:=by first|exact Ad ▸ H|exact Ad ▸ (Option.bind_some _ _).symm.trans H
    replace Ad:=y0.mk Ad
    have H':=y0.mk H
    clear H
    have Aj:0≤(Aa:Int):=qd
    have Ak:Aa < (l0.length:Int):=qd
    obtain⟨Be,Ay,Ab⟩:=Kd.at_int Bk.out Aa Aj Ak
    cases Ay
    replace Ab:=qC Ab HB
    replace Aj:=eq_true Aj
    replace Ak:=eq_true Ak
    have p9:0≤(Aa:Int):=qd
    have q9:(Aa:Int) < ((Af.length:Int):Int):=qd
    obtain⟨Az,Bn,Bf,Bg,Bo,Br,Bh⟩:=Kd.R_form Ag.out (by omega)
    (first|cases Bf|(injection Bf with ea_ en_ ec_;(first|subst ea_|(injection ea_ with ea_;subst ea_));subst ec_;clear en_))
    have Bp:=y0.mk Bg
    have Bs:=y0.mk Bh
    clear Bg Bo Bh
    obtain⟨Bi,Bj⟩:=Kd.R_celln 0 Ag.out (Aa:Int) p9 q9
    replace p9:=eq_true p9
    replace q9:=eq_true q9
    have Al:=Kd.R_putg Ag.out (Aa:Int) (rd l0 Aa)
    go_wp2_with (first|((with_reducible refine gate_store (t:=3) (p:=20) rfl ?_);refine store_event (t:=3) (p:=20) (v:=?vo_w11) (w1:=(wr.setCell ⟨Az,(Aa:Int).toNat,none⟩ (.int .i64 (rd l0 Aa)))) ?hg ?ho ?hn ?hr ?_;(case ho=>rfl);(case hg=>rfl);(case hn=>rfl);(case hr=>first|(go_simp;done)|(go_simp;rfl));intro Ba hw;have hg:wr.grownBy Ba (some Az):=(by rw [hw];exact Al.2);have hp_:Kd.R (Kd.int .i64) 3 Ba w.heap.size (fun _=>True) (.slice (some ⟨Az,0,none⟩) Af.length Bn) Ai:=(by rw [hw,Ad.out];exact Al.1);clear Al;replace Ag:=y0.mk (hp_);replace HB:=y0.mk ((by rw [hw];exact below_set (HB.out) Bp.out:Below w.heap.size w Ba));clear hg hw hp_))
    go_roundg k1
    case measure=>have:=Bd.out;omega
    exact⟨(Ai),(wrap64 (Aa + 1)),qy2,H',⟨by have:=Bd.out;omega⟩,⟨qR Ag.out⟩,⟨qb⟩⟩
   ·rw [if_neg c6]at H
    have Ax:=decide_eq_false c6
    clear c6
    obtain rfl:=Option.some.inj H
    go_wp2
    go_ret
    exact⟨_,by first|rfl|(simp [y15,y16] <;> rfl)|(simp [*,y15,y16] <;> rfl),by(with_reducible repeat(first|apply Kd.R_alloc|apply Kd.R_drewN|apply Kd.R_drew));exact Ag.out,qb⟩
def laws_toExp.f (k:Nat) (Ae:Int) (An:ByteArray) (Ao:List Int):Option (Int×ByteArray×List Int):=(laws_toIntS.f k Ao).bind fun By=>(some (Ae,An,By))
theorem laws_toExp.calls (k:Nat) (Af:Int) (Ah:ByteArray) (Ar:Option Addr) (As:Nat) (Ag:List Int) (r1:Int) (r2:ByteArray) (r3:List Int) (w:World) (At:Kd.C (Kd.int .i64) w Ar Ag.length Ag) (Au:Ag.length≤As) (h:laws_toExp.f k Af Ah Ag=some (r1,r2,r3)) :
  Calls Tryz.prog 36 #[.agg #[.int .i64 Af,.string Ah,.slice Ar Ag.length As]] w fun e w'=>∃ v2_:Value,e=.returned (.agg #[.int .i64 r1,.string r2,v2_])∧Kd.R (Kd.int .i64) 3 w' w.heap.size (fun _=>True) v2_ r3∧Below w.heap.size w w':=by
 have Cj:=Tryz.underlying59
 have Ck:=Tryz.underlying67
 have Az:=y0.mk At
 have Ba:=y0.mk Au
 clear At Au
 have HB:=y0.mk (Below.refl w.heap.size w)
 have H:((laws_toIntS.f k Ag).bind fun Ak=>(some (Af,Ah,Ak)))=some (r1,r2,r3):=h
 clear h
 obtain⟨Ak,A2,H⟩:=qB H
 simp only [Option.some.injEq,Prod.mk.injEq]at H
 obtain⟨rfl,rfl,rfl⟩:=H
 go_enter Tryz.func36,Tryz.ntmps36
 go_wp2_with (first|((with_reducible refine y19 (N:=1) rfl ?_);refine qe 1 #[.int .i64 Af,.string Ah,.slice Ar Ag.length As] 59 ?_;intro Bb hg w3 hbox hb;have Aa:=y0.mk (hbox);have Cc:=y0.mk (qg (w:=w) hg);have Cd:=y0.mk (qg (w:=w) hg);replace HB:=y0.mk (y5 qb hb);clear hb hbox hg)|((with_reducible refine y19 (N:=2) rfl ?_);refine qe 2 #[.int .i64 0,.string (⟨#[]⟩:ByteArray),.slice none 0 0] 67 ?_;intro Ai hg w4 hbox hb;have Ac:=y0.mk (hbox);have Ce:=y0.mk (qg (w:=w) hg);have Cf:=y0.mk (qg (w:=w) hg);replace HB:=y0.mk (y5 qb hb);have Al:=y0.mk (qn Aa.out hg);have Am:=y0.mk (qm Aa.out hg);replace Aa:=y0.mk (qK Aa.out hb);clear hb hbox hg)|((with_reducible refine y19 (N:=3) rfl ?_);refine qe 3 #[.int .i64 0,.string (⟨#[]⟩:ByteArray),.slice none 0 0] 67 ?_;intro Av hg w5 hbox hb;have Aj:=y0.mk (hbox);have Cg:=y0.mk (qg (w:=w) hg);have Ch:=y0.mk (qg (w:=w) hg);replace HB:=y0.mk (y5 qb hb);have Ad:=y0.mk (qn Aa.out hg);have Ap:=y0.mk (qm Aa.out hg);replace Aa:=y0.mk (qK Aa.out hb);have Ab:=y0.mk (qn Ac.out hg);have Aq:=y0.mk (qm Ac.out hg);replace Ac:=y0.mk (qK Ac.out hb);clear hb hbox hg;have Cl:=Al.out;have Cm:=Am.out;have Cn:=Ad.out;have Co:=Ap.out;obtain⟨Bu,Bv,Bw,Bx,Bz,Ca⟩:=qz3 Aa.out;have Cp:=Aq.out;have Cq:=Ab.out;obtain⟨Bc,Bd,Be,Bf,Bg,Bh⟩:=qz3 Aj.out)|((with_reducible refine y18 (f:=37) rfl ?_);refine y21 (some 12) rfl rfl Tryz.func37 (by kernel_rfl) rfl #[.slice Ar Ag.length As] rfl qy1 ?_;(with_reducible refine(laws_toIntS.calls k _ _ Ag Ak _ (by exact Kd.C_below Az.out qb) Ba.out A2.out).mono ?_);rintro e Cs ⟨Cr,rfl,Ci,hb⟩;refine⟨_,rfl, ?_⟩;have Aw:=y0.mk (Kd.R_lower Ci (y4 qb));replace Aa:=y0.mk (y7 (g:=Bb) (o:=.cells #[.int .i64 Af,.string Ah,.slice Ar Ag.length As] 59 (0,0)) (by(with_reducible repeat(first|refine y10 ?_ _|refine y9 ?_|refine y6 ?_ _));refine y11 ?_ Ad.out _;refine y11 ?_ Ad.out _;(with_reducible repeat(first|refine y10 ?_ _|refine y9 ?_|refine y6 ?_ _));exact Aa.out) hb);replace Ac:=y0.mk (y7 (g:=Ai) (o:=.cells #[.int .i64 0,.string (⟨#[]⟩:ByteArray),.slice none 0 0] 67 (0,0)) (by(with_reducible repeat(first|refine y10 ?_ _|refine y9 ?_|refine y6 ?_ _));refine y11 ?_ Ab.out _;refine y11 ?_ Ab.out _;(with_reducible repeat(first|refine y10 ?_ _|refine y9 ?_|refine y6 ?_ _));exact Ac.out) hb);replace Aj:=y0.mk (y7 (g:=Av) (o:=.cells #[.int .i64 Af,.string Ah,.slice none 0 0] 67 (0,0)) (by(with_reducible repeat(first|refine y10 ?_ _|refine y9 ?_|refine y6 ?_ _));refine y13 (cs:=#[.int .i64 Af,.string (⟨#[]⟩:ByteArray),.slice none 0 0]) ?_ 1 _ rfl;refine y13 (cs:=#[.int .i64 0,.string (⟨#[]⟩:ByteArray),.slice none 0 0]) ?_ 0 _ rfl;(with_reducible repeat(first|refine y10 ?_ _|refine y9 ?_|refine y6 ?_ _));exact Aj.out) hb);replace HB:=y0.mk (y5 qb hb);(try clear hb);(try clear Ci);obtain⟨Ax,Ay,Cb⟩:=Kd.R_slice Aw.out;subst Cb;obtain⟨Bi,Bj,Bk,Bl,Bm,Bn⟩:=qz3 Aj.out;obtain⟨Bo,Bp,Bq,Br,Bs,Bt⟩:=qz3 Ac.out))
 refine bodyPost_ret (results_cell_row rfl _ _ Ai 67 #[.int .i64 Af,.string Ah,.slice Ax Ak.length Ay] (0,0) _ rfl (by(with_reducible repeat(first|refine y10 ?_ _|refine y9 ?_|refine y6 ?_ _));refine y13 (cs:=#[.int .i64 Af,.string Ah,.slice none 0 0]) ?_ 2 _ rfl;refine y13 (cs:=#[.int .i64 Af,.string (⟨#[]⟩:ByteArray),.slice none 0 0]) ?_ 1 _ rfl;refine y13 (cs:=#[.int .i64 0,.string (⟨#[]⟩:ByteArray),.slice none 0 0]) ?_ 0 _ rfl;refine y11 ?_ Ab.out _;(with_reducible repeat(first|refine y10 ?_ _|refine y9 ?_|refine y6 ?_ _));exact Ac.out) Tryz.underlying67 rfl (by kernel_rfl)) rfl ?_
 exact⟨_,by first|rfl|(simp [y15,y16] <;> rfl)|(simp [*,y15,y16] <;> rfl),by(with_reducible repeat(first|apply Kd.R_alloc|apply Kd.R_drewN|apply Kd.R_drew));exact Kd.R_mono (qfR Ai (Kd.R_far (p:=⟨Av,2,none⟩) (Kd.R_types (Kd.R_types Aw.out Aj.out (by decide)) Ac.out (by decide)) (fun _ hk=>hk.1.2) (.slice Ax Ak.length Ay)) (.int .i64 Af) (.string Ah) (.slice Ax Ak.length Ay)) (fun _ hk=>trivial),qb⟩
def laws_toExpS.l0:Nat→List (S59)→List (S67)→Int→Option ((List (S67)))
 | 0,_,_,_=>none
 | k + 1,x0,x3,x4=>if x4 < (x0.length:Int)then(if 0≤x4 then((laws_toExp.f k ((rd_T59 x0 x4).f0) ((rd_T59 x0 x4).f1) ((rd_T59 x0 x4).f2)).bind fun bt325=>(if x4 < (x3.length:Int)then(laws_toExpS.l0 k x0 (x3.set (x4:Int).toNat (⟨bt325.1,bt325.2.1,bt325.2.2⟩:S67)) (wrap64 (x4 + 1)))else(none)))else(none))else(some x3)
def laws_toExpS.f (k:Nat) (l0:List (S59)):Option ((List (S67))):=if 0≤(l0.length:Int)then(if((l0.length:Int):Int).toNat≤5864062014805 then(laws_toExpS.l0 k l0 (List.replicate ((l0.length:Int):Int).toNat z67) 0)else(none))else(none)
theorem laws_toExpS.calls (k:Nat) (A0:Option Addr) (c0:Nat) (l0:List (S59)) (r:List (S67)) (w:World) (Da:Kd.C k59 w A0 l0.length l0) (Db:l0.length≤c0) (h:laws_toExpS.f k l0=some r) :
  Calls Tryz.prog 18 #[.slice A0 l0.length c0] w fun e w'=>∃ v0_:Value,e=.returned (v0_)∧Kd.S k67 67 w' w.heap.size (fun _=>True) v0_ r∧Below w.heap.size w w':=by
 have Df:=Tryz.underlying59
 have Dg:=Tryz.underlying67
 have Dh:=y0.mk Da
 have Dp:=y0.mk Db
 clear Da Db
 have HB:=y0.mk (Below.refl w.heap.size w)
 have H:(if 0≤(l0.length:Int)then(if((l0.length:Int):Int).toNat≤5864062014805 then(laws_toExpS.l0 k l0 (List.replicate ((l0.length:Int):Int).toNat z67) 0)else(none))else(none))=some r:=h
 clear h
 obtain⟨c2,H⟩:=qo H
 have Ce:=eq_true c2
 have Cf:=decide_eq_true c2
 clear c2
 obtain⟨c3,H⟩:=qo H
 have Cg:=eq_true c3
 have Ch:=decide_eq_true c3
 clear c3
 obtain⟨Bq,Aj⟩:∃ y_:List (S67),y_=(List.replicate ((l0.length:Int):Int).toNat z67):=⟨_,rfl⟩
 replace H:(laws_toExpS.l0 k l0 Bq 0)=some r:=by first|exact Aj ▸ H|exact Aj ▸ (Option.bind_some _ _).symm.trans H
 replace Aj:=y0.mk Aj
 have H':=y0.mk H
 clear H
 go_enter Tryz.func18,Tryz.ntmps18
 go_wp2_with (first|((with_reducible refine y19 (N:=7) rfl ?_);refine Kd.S_make k67 _ 67 rfl (N:=7) rfl 34 _ _ rfl (l0.length:Int) rfl rfl Tryz.underlying34 (.agg #[(.int .i64 0),(.string ⟨#[]⟩),(.slice none 0 0)]) 48 info67 rfl (by decide) (by omega) z67 (ok:=fun _=>True) (okp:=fun _=>True) (k67_mkM _ _ _ z67 (Kd.R_nil _ _ _ _ _)) (fun _ hk=>hk) trivial (of_decide_eq_true qy0) (Nat.le_trans (Nat.mul_le_mul_right _ (of_decide_eq_true qy0:(l0.length:Int).toNat≤5864062014805)) (by omega)) (Below.refl _ _) (Nat.le_refl _) ?_;intro Ci w4 Br hb hg_ hnew_;clear hg_ hnew_;(first|rw [← Aj.out]at Br|(simp only [Int.reduceToNat]at Br;rw [← Aj.out]at Br));have Bs:=y0.mk (Kd.S_lower Br (y4 qb));replace HB:=y0.mk (y5 qb hb);clear hb Br))
 go_loopg [4] k (fun kq v4 w'=>∃(Ab:List (S67)) (Aa:Int),v4=.int .i64 Aa∧y0 (laws_toExpS.l0 kq l0 Ab Aa=some r)∧y0 (kq≤k)∧y0 (Kd.S k67 67 w' w.heap.size (fun _=>True) Ci Ab)∧y0 (Below w.heap.size w w'))
 case atStart=>exact⟨(Bq),(0),qy2,H',⟨Nat.le_refl _⟩,⟨qS Bs.out⟩,⟨qb⟩⟩
 case round =>
  clear H'
  (try clear Ce Cf Cg Ch)
  obtain⟨Ab,Aa,rfl,HA,Dc,Ac,HB⟩:=hrel
  cases gk with
  | zero=>exact absurd HA.out (by simp [laws_toExpS.l0])
  | succ k1 =>
   have H:=HA.out
   clear HA
   simp only [laws_toExpS.l0]at H
   by_cases c6:Aa < (l0.length:Int)
   ·rw [if_pos c6]at H
    have Cj:=decide_eq_true c6
    clear c6
    obtain⟨c7,H⟩:=qo H
    have Di:decide (0≤Aa)=true:=decide_eq_true c7
    clear c7
    obtain⟨⟨Al,Am,Av⟩,A8,H⟩:=qB H
    replace H:(if Aa < (Ab.length:Int)then(laws_toExpS.l0 k1 l0 (Ab.set (Aa:Int).toNat (⟨Al,Am,Av⟩:S67)) (wrap64 (Aa + 1)))else(none))=some r:=H
    obtain⟨c9,H⟩:=qo H
    have Dj:decide (Aa < (Ab.length:Int))=true:=decide_eq_true c9
    clear c9
    obtain⟨Bb,Ak⟩:∃ y_:List (S67),y_=(Ab.set (Aa:Int).toNat (⟨Al,Am,Av⟩:S67)):=⟨_,rfl⟩
    replace H:(laws_toExpS.l0 k1 l0 Bb (wrap64 (Aa + 1)))=some r:=by first|exact Ak ▸ H|exact Ak ▸ (Option.bind_some _ _).symm.trans H
    replace Ak:=y0.mk Ak
    have H':=y0.mk H
    clear H
    have Bc:0≤(Aa:Int):=qd
    have Bd:Aa < (l0.length:Int):=qd
    obtain⟨Dd,Be,Bf,Ck,Ag,Ah,Ai,Ap,Aq⟩:=at_T59 Dh.out Aa Bc Bd
    cases Ck
    replace Ag:=qC Ag HB
    replace Ah:=qC Ah HB
    replace Ai:=qC Ai HB
    have Aw:=y0.mk Aq
    have Ax:=y0.mk Ap
    clear Aq Ap
    replace Bc:=eq_true Bc
    replace Bd:=eq_true Bd
    go_wp2_with (first|((with_reducible refine y18 (f:=36) rfl ?_);refine y21 (some 20) rfl rfl Tryz.func36 (by kernel_rfl) rfl #[.agg #[.int .i64 ((rd_T59 l0 Aa).f0),.string ((rd_T59 l0 Aa).f1),.slice Be ((rd_T59 l0 Aa).f2).length Bf]] rfl qy1 ?_;(with_reducible refine(laws_toExp.calls k1 ((rd_T59 l0 Aa).f0) ((rd_T59 l0 Aa).f1) _ _ ((rd_T59 l0 Aa).f2) Al Am Av _ (qc (Kd.C_below Aw.out HB.out)) Ax.out A8.out).mono ?_);rintro e Ay ⟨Az,rfl,Cl,hb⟩;refine⟨_,rfl, ?_⟩;replace Ac:=y0.mk (Kd.S_elder' (qS Ac.out) (Kd.R_base Cl) hb);have Af:=y0.mk (Kd.R_lower Cl (y4 qb));replace HB:=y0.mk (y5 qb hb);(try clear hb);(try clear Cl);have Cm:0≤(Aa:Int):=qd;have Cn:(Aa:Int) < ((Ab.length:Int):Int):=qd;obtain⟨Ad,Bu,Bv,Bw,Co,Dk,Bx⟩:=Kd.S_form Ac.out (by omega);(first|cases Bv|(injection Bv with ea_ en_ ec_;(first|subst ea_|(injection ea_ with ea_;subst ea_));subst ec_;clear en_));have Bg:=y0.mk Bw;have Dl:=y0.mk Bx;clear Bw Co Bx;obtain⟨_,Dm,Bz,Ca,Ar,As,_,_⟩:=Kd.S_elem Ac.out z67 (Aa:Int) Cm Cn;obtain⟨Bh,rfl,Cp⟩:=k67_openM Ca;have Cq:Ay.cell? ⟨Ad,(Aa:Int).toNat * 3,none⟩=some (.int .i64 ((y23 Ab Aa).f0)):=Ar 0 _ rfl;have Cr:Ay.cell? ⟨Ad,(Aa:Int).toNat * 3 + 1,none⟩=some (.string ((y23 Ab Aa).f1)):=Ar 1 _ rfl;have Cs:Ay.cell? ⟨Ad,(Aa:Int).toNat * 3 + 2,none⟩=some (Bh):=Ar 2 _ rfl;have Ct:Ay.frozen? ⟨Ad,(Aa:Int).toNat * 3,none⟩=false:=As 0;have Cu:Ay.frozen? ⟨Ad,(Aa:Int).toNat * 3 + 1,none⟩=false:=As 1;have Cv:Ay.frozen? ⟨Ad,(Aa:Int).toNat * 3 + 2,none⟩=false:=As 2;clear Bz Ar As Ca;replace Cm:=eq_true Cm;replace Cn:=eq_true Cn;have n_:=y0.mk (Kd.S_mono (ok':=(fun k_=>some k_≠(Az:Value).ownBlock)) Ac.out (fun k_ hk=>hk.2));clear Ac;have Ac:=n_;clear n_;have Cw:=y0.mk (show Kd.S k67 67 Ay w.heap.size (fun k_=>((fun _=>True)) k_∧¬((fun k_=>some k_=(Az:Value).ownBlock)) k_) (.slice (some ⟨Ad,0,none⟩) Ab.length Bu) Ab from(qS (Kd.S_mono Ac.out (fun k_ hk=>⟨trivial,fun e_=>hk e_⟩))));obtain⟨De,Do,Cb,Cc,At,Au,Bi,Cd⟩:=Kd.S_elem Cw.out z67 (Aa:Int) (of_decide_eq_true qy0) (by have h_:(Aa:Int) < ((Ab.length:Int):Int):=qd;first|exact h_|(have e_:=(Kd.S_reads' Ac.out).1;omega)|simpa using h_);obtain⟨Cx,rfl,Cy⟩:=k67_openM Cc;have Bj:=Kd.S_seg Cd (of_decide_eq_true qy0) (by have h_:(Aa:Int) < ((Ab.length:Int):Int):=qd;first|exact h_|(have e_:=(Kd.S_reads' Ac.out).1;omega)|simpa using h_) (seg:=[.int .i64 Al,.string Am,Az]) (j:=0) (show 3≤3 from by decide) (x':=(⟨Al,Am,Av⟩:S67)) (k67_mkM _ _ _ (⟨Al,Am,Av⟩:S67) (Kd.R_mono (Kd.R_tight rfl (Kd.R_mono (ok':=fun k_=>((fun _=>True)) k_∧k_≠Ad) (Kd.R_apart' (Af.out) (Kd.S_typed Ac.out) (by decide)) (fun k_ hk=>⟨trivial,fun e_=>(hk.2) (by rw [e_];rfl)⟩))) (fun _ h_=>Or.inr (h_)))) (fun _ hk=>hk) (fun k_ hk_=>((Kd.R_mono (ok':=fun k_=>((fun _=>True)) k_∧k_≠Ad) (Kd.R_apart' (Af.out) (Kd.S_typed Ac.out) (by decide)) (fun k_ hk=>⟨trivial,fun e_=>(hk.2) (by rw [e_];rfl)⟩))).1 k_ hk_.symm);have Bk:=At 0 _ rfl;(try simp only [show(k67).sz=3 from rfl,Nat.mul_one,Nat.add_zero]at Bk);have Bl:=Au 0;(try simp only [show(k67).sz=3 from rfl,Nat.mul_one,Nat.add_zero]at Bl);have Bm:=At 1 _ rfl;(try simp only [show(k67).sz=3 from rfl,Nat.mul_one,Nat.add_zero]at Bm);have Bn:=Au 1;(try simp only [show(k67).sz=3 from rfl,Nat.mul_one,Nat.add_zero]at Bn);have Bo:=At 2 _ rfl;(try simp only [show(k67).sz=3 from rfl,Nat.mul_one,Nat.add_zero]at Bo);have Bp:=Au 2;(try simp only [show(k67).sz=3 from rfl,Nat.mul_one,Nat.add_zero]at Bp);clear Cb At Au Cc Bi Cd)|((with_reducible refine gate_store (t:=67) (p:=21) rfl ?_);refine store_event (t:=67) (p:=21) (v:=?vo_w13) (w1:=(((Ay.setCell ⟨Ad,(Aa:Int).toNat * 3,none⟩ (.int .i64 Al)).setCell ⟨Ad,(Aa:Int).toNat * 3 + 1,none⟩ (.string Am)).setCell ⟨Ad,(Aa:Int).toNat * 3 + 2,none⟩ (Az))) ?hg ?ho ?hn ?hr ?_;(case ho=>rfl);(case hg=>rfl);(case hn=>rfl);(case hr=>(first|(obtain⟨_,_,eo_⟩:=Kd.R_slice Af.out;subst eo_)|(obtain⟨_,_,eo_⟩:=Kd.S_slice Af.out;subst eo_)|(obtain⟨_,_,eo_⟩:=Kd.N_slice Af.out;subst eo_)|skip);first|(go_simp;done)|(go_simp;rfl));intro Cz hw;have hg:Ay.grownBy Cz (some Ad):=(by rw [hw];exact Bj.2);have hp_:Kd.S k67 67 Cz w.heap.size (fun _=>True) (.slice (some ⟨Ad,0,none⟩) Ab.length Bu) Bb:=(by rw [hw,Ak.out];exact Bj.1);clear Bj;replace Ac:=y0.mk (hp_);replace HB:=y0.mk ((by rw [hw];exact below_set (below_set (below_set (HB.out) Bg.out) Bg.out) Bg.out:Below w.heap.size w Cz));clear Af;clear hg hw hp_))
    go_roundg k1
    case measure=>have:=Dc.out;omega
    exact⟨(Bb),(wrap64 (Aa + 1)),qy2,H',⟨by have:=Dc.out;omega⟩,⟨qS Ac.out⟩,⟨qb⟩⟩
   ·rw [if_neg c6]at H
    have Cj:=decide_eq_false c6
    clear c6
    obtain rfl:=Option.some.inj H
    go_wp2
    go_ret
    exact⟨_,by first|rfl|(simp [y15,y16] <;> rfl)|(simp [*,y15,y16] <;> rfl),by(with_reducible repeat(first|apply Kd.S_alloc|apply Kd.S_drewN|apply Kd.S_drew));exact Ac.out,qb⟩
def laws_toLit.f (k:Nat) (Ae:Int) (An:ByteArray) (Ao:List Int):Option (Int×ByteArray×List Int):=(laws_toIntS.f k Ao).bind fun By=>(some (Ae,An,By))
theorem laws_toLit.calls (k:Nat) (Af:Int) (Ah:ByteArray) (Ar:Option Addr) (As:Nat) (Ag:List Int) (r1:Int) (r2:ByteArray) (r3:List Int) (w:World) (At:Kd.C (Kd.int .i64) w Ar Ag.length Ag) (Au:Ag.length≤As) (h:laws_toLit.f k Af Ah Ag=some (r1,r2,r3)) :
  Calls Tryz.prog 19 #[.agg #[.int .i64 Af,.string Ah,.slice Ar Ag.length As]] w fun e w'=>∃ v2_:Value,e=.returned (.agg #[.int .i64 r1,.string r2,v2_])∧Kd.R (Kd.int .i64) 3 w' w.heap.size (fun _=>True) v2_ r3∧Below w.heap.size w w':=by
 have Cj:=Tryz.underlying25
 have Ck:=Tryz.underlying35
 have Az:=y0.mk At
 have Ba:=y0.mk Au
 clear At Au
 have HB:=y0.mk (Below.refl w.heap.size w)
 have H:((laws_toIntS.f k Ag).bind fun Ak=>(some (Af,Ah,Ak)))=some (r1,r2,r3):=h
 clear h
 obtain⟨Ak,A2,H⟩:=qB H
 simp only [Option.some.injEq,Prod.mk.injEq]at H
 obtain⟨rfl,rfl,rfl⟩:=H
 go_enter Tryz.func19,Tryz.ntmps19
 go_wp2_with (first|((with_reducible refine y19 (N:=1) rfl ?_);refine qe 1 #[.int .i64 Af,.string Ah,.slice Ar Ag.length As] 25 ?_;intro Bb hg w3 hbox hb;have Aa:=y0.mk (hbox);have Cc:=y0.mk (qg (w:=w) hg);have Cd:=y0.mk (qg (w:=w) hg);replace HB:=y0.mk (y5 qb hb);clear hb hbox hg)|((with_reducible refine y19 (N:=2) rfl ?_);refine qe 2 #[.int .i64 0,.string (⟨#[]⟩:ByteArray),.slice none 0 0] 35 ?_;intro Ai hg w4 hbox hb;have Ac:=y0.mk (hbox);have Ce:=y0.mk (qg (w:=w) hg);have Cf:=y0.mk (qg (w:=w) hg);replace HB:=y0.mk (y5 qb hb);have Al:=y0.mk (qn Aa.out hg);have Am:=y0.mk (qm Aa.out hg);replace Aa:=y0.mk (qK Aa.out hb);clear hb hbox hg)|((with_reducible refine y19 (N:=3) rfl ?_);refine qe 3 #[.int .i64 0,.string (⟨#[]⟩:ByteArray),.slice none 0 0] 35 ?_;intro Av hg w5 hbox hb;have Aj:=y0.mk (hbox);have Cg:=y0.mk (qg (w:=w) hg);have Ch:=y0.mk (qg (w:=w) hg);replace HB:=y0.mk (y5 qb hb);have Ad:=y0.mk (qn Aa.out hg);have Ap:=y0.mk (qm Aa.out hg);replace Aa:=y0.mk (qK Aa.out hb);have Ab:=y0.mk (qn Ac.out hg);have Aq:=y0.mk (qm Ac.out hg);replace Ac:=y0.mk (qK Ac.out hb);clear hb hbox hg;have Cl:=Al.out;have Cm:=Am.out;have Cn:=Ad.out;have Co:=Ap.out;obtain⟨Bu,Bv,Bw,Bx,Bz,Ca⟩:=qz3 Aa.out;have Cp:=Aq.out;have Cq:=Ab.out;obtain⟨Bc,Bd,Be,Bf,Bg,Bh⟩:=qz3 Aj.out)|((with_reducible refine y18 (f:=37) rfl ?_);refine y21 (some 12) rfl rfl Tryz.func37 (by kernel_rfl) rfl #[.slice Ar Ag.length As] rfl qy1 ?_;(with_reducible refine(laws_toIntS.calls k _ _ Ag Ak _ (by exact Kd.C_below Az.out qb) Ba.out A2.out).mono ?_);rintro e Cs ⟨Cr,rfl,Ci,hb⟩;refine⟨_,rfl, ?_⟩;have Aw:=y0.mk (Kd.R_lower Ci (y4 qb));replace Aa:=y0.mk (y7 (g:=Bb) (o:=.cells #[.int .i64 Af,.string Ah,.slice Ar Ag.length As] 25 (0,0)) (by(with_reducible repeat(first|refine y10 ?_ _|refine y9 ?_|refine y6 ?_ _));refine y11 ?_ Ad.out _;refine y11 ?_ Ad.out _;(with_reducible repeat(first|refine y10 ?_ _|refine y9 ?_|refine y6 ?_ _));exact Aa.out) hb);replace Ac:=y0.mk (y7 (g:=Ai) (o:=.cells #[.int .i64 0,.string (⟨#[]⟩:ByteArray),.slice none 0 0] 35 (0,0)) (by(with_reducible repeat(first|refine y10 ?_ _|refine y9 ?_|refine y6 ?_ _));refine y11 ?_ Ab.out _;refine y11 ?_ Ab.out _;(with_reducible repeat(first|refine y10 ?_ _|refine y9 ?_|refine y6 ?_ _));exact Ac.out) hb);replace Aj:=y0.mk (y7 (g:=Av) (o:=.cells #[.int .i64 Af,.string Ah,.slice none 0 0] 35 (0,0)) (by(with_reducible repeat(first|refine y10 ?_ _|refine y9 ?_|refine y6 ?_ _));refine y13 (cs:=#[.int .i64 Af,.string (⟨#[]⟩:ByteArray),.slice none 0 0]) ?_ 1 _ rfl;refine y13 (cs:=#[.int .i64 0,.string (⟨#[]⟩:ByteArray),.slice none 0 0]) ?_ 0 _ rfl;(with_reducible repeat(first|refine y10 ?_ _|refine y9 ?_|refine y6 ?_ _));exact Aj.out) hb);replace HB:=y0.mk (y5 qb hb);(try clear hb);(try clear Ci);obtain⟨Ax,Ay,Cb⟩:=Kd.R_slice Aw.out;subst Cb;obtain⟨Bi,Bj,Bk,Bl,Bm,Bn⟩:=qz3 Aj.out;obtain⟨Bo,Bp,Bq,Br,Bs,Bt⟩:=qz3 Ac.out))
 refine bodyPost_ret (results_cell_row rfl _ _ Ai 35 #[.int .i64 Af,.string Ah,.slice Ax Ak.length Ay] (0,0) _ rfl (by(with_reducible repeat(first|refine y10 ?_ _|refine y9 ?_|refine y6 ?_ _));refine y13 (cs:=#[.int .i64 Af,.string Ah,.slice none 0 0]) ?_ 2 _ rfl;refine y13 (cs:=#[.int .i64 Af,.string (⟨#[]⟩:ByteArray),.slice none 0 0]) ?_ 1 _ rfl;refine y13 (cs:=#[.int .i64 0,.string (⟨#[]⟩:ByteArray),.slice none 0 0]) ?_ 0 _ rfl;refine y11 ?_ Ab.out _;(with_reducible repeat(first|refine y10 ?_ _|refine y9 ?_|refine y6 ?_ _));exact Ac.out) Tryz.underlying35 rfl (by kernel_rfl)) rfl ?_
 exact⟨_,by first|rfl|(simp [y15,y16] <;> rfl)|(simp [*,y15,y16] <;> rfl),by(with_reducible repeat(first|apply Kd.R_alloc|apply Kd.R_drewN|apply Kd.R_drew));exact Kd.R_mono (qfR Ai (Kd.R_far (p:=⟨Av,2,none⟩) (Kd.R_types (Kd.R_types Aw.out Aj.out (by decide)) Ac.out (by decide)) (fun _ hk=>hk.1.2) (.slice Ax Ak.length Ay)) (.int .i64 Af) (.string Ah) (.slice Ax Ak.length Ay)) (fun _ hk=>trivial),qb⟩
def laws_toLitS.l0:Nat→List (S25)→List (S35)→Int→Option ((List (S35)))
 | 0,_,_,_=>none
 | k + 1,x0,x3,x4=>if x4 < (x0.length:Int)then(if 0≤x4 then((laws_toLit.f k ((rd_T25 x0 x4).f0) ((rd_T25 x0 x4).f1) ((rd_T25 x0 x4).f2)).bind fun bt341=>(if x4 < (x3.length:Int)then(laws_toLitS.l0 k x0 (x3.set (x4:Int).toNat (⟨bt341.1,bt341.2.1,bt341.2.2⟩:S35)) (wrap64 (x4 + 1)))else(none)))else(none))else(some x3)
def laws_toLitS.f (k:Nat) (l0:List (S25)):Option ((List (S35))):=if 0≤(l0.length:Int)then(if((l0.length:Int):Int).toNat≤5864062014805 then(laws_toLitS.l0 k l0 (List.replicate ((l0.length:Int):Int).toNat z35) 0)else(none))else(none)
theorem laws_toLitS.calls (k:Nat) (A0:Option Addr) (c0:Nat) (l0:List (S25)) (r:List (S35)) (w:World) (Da:Kd.C k25 w A0 l0.length l0) (Db:l0.length≤c0) (h:laws_toLitS.f k l0=some r) :
  Calls Tryz.prog 20 #[.slice A0 l0.length c0] w fun e w'=>∃ v0_:Value,e=.returned (v0_)∧Kd.S k35 35 w' w.heap.size (fun _=>True) v0_ r∧Below w.heap.size w w':=by
 have Df:=Tryz.underlying25
 have Dg:=Tryz.underlying35
 have Dh:=y0.mk Da
 have Dp:=y0.mk Db
 clear Da Db
 have HB:=y0.mk (Below.refl w.heap.size w)
 have H:(if 0≤(l0.length:Int)then(if((l0.length:Int):Int).toNat≤5864062014805 then(laws_toLitS.l0 k l0 (List.replicate ((l0.length:Int):Int).toNat z35) 0)else(none))else(none))=some r:=h
 clear h
 obtain⟨c2,H⟩:=qo H
 have Ce:=eq_true c2
 have Cf:=decide_eq_true c2
 clear c2
 obtain⟨c3,H⟩:=qo H
 have Cg:=eq_true c3
 have Ch:=decide_eq_true c3
 clear c3
 obtain⟨Bq,Aj⟩:∃ y_:List (S35),y_=(List.replicate ((l0.length:Int):Int).toNat z35):=⟨_,rfl⟩
 replace H:(laws_toLitS.l0 k l0 Bq 0)=some r:=by first|exact Aj ▸ H|exact Aj ▸ (Option.bind_some _ _).symm.trans H
 replace Aj:=y0.mk Aj
 have H':=y0.mk H
 clear H
 go_enter Tryz.func20,Tryz.ntmps20
 go_wp2_with (first|((with_reducible refine y19 (N:=7) rfl ?_);refine Kd.S_make k35 _ 35 rfl (N:=7) rfl 36 _ _ rfl (l0.length:Int) rfl rfl Tryz.underlying36 (.agg #[(.int .i64 0),(.string ⟨#[]⟩),(.slice none 0 0)]) 48 info35 rfl (by decide) (by omega) z35 (ok:=fun _=>True) (okp:=fun _=>True) (k35_mkM _ _ _ z35 (Kd.R_nil _ _ _ _ _)) (fun _ hk=>hk) trivial (of_decide_eq_true qy0) (Nat.le_trans (Nat.mul_le_mul_right _ (of_decide_eq_true qy0:(l0.length:Int).toNat≤5864062014805)) (by omega)) (Below.refl _ _) (Nat.le_refl _) ?_;intro Ci w4 Br hb hg_ hnew_;clear hg_ hnew_;(first|rw [← Aj.out]at Br|(simp only [Int.reduceToNat]at Br;rw [← Aj.out]at Br));have Bs:=y0.mk (Kd.S_lower Br (y4 qb));replace HB:=y0.mk (y5 qb hb);clear hb Br))
 go_loopg [4] k (fun kq v4 w'=>∃(Ab:List (S35)) (Aa:Int),v4=.int .i64 Aa∧y0 (laws_toLitS.l0 kq l0 Ab Aa=some r)∧y0 (kq≤k)∧y0 (Kd.S k35 35 w' w.heap.size (fun _=>True) Ci Ab)∧y0 (Below w.heap.size w w'))
 case atStart=>exact⟨(Bq),(0),qy2,H',⟨Nat.le_refl _⟩,⟨qS Bs.out⟩,⟨qb⟩⟩
 case round =>
  clear H'
  (try clear Ce Cf Cg Ch)
  obtain⟨Ab,Aa,rfl,HA,Dc,Ac,HB⟩:=hrel
  cases gk with
  | zero=>exact absurd HA.out (by simp [laws_toLitS.l0])
  | succ k1 =>
   have H:=HA.out
   clear HA
   simp only [laws_toLitS.l0]at H
   by_cases c6:Aa < (l0.length:Int)
   ·rw [if_pos c6]at H
    have Cj:=decide_eq_true c6
    clear c6
    obtain⟨c7,H⟩:=qo H
    have Di:decide (0≤Aa)=true:=decide_eq_true c7
    clear c7
    obtain⟨⟨Al,Am,Av⟩,A8,H⟩:=qB H
    replace H:(if Aa < (Ab.length:Int)then(laws_toLitS.l0 k1 l0 (Ab.set (Aa:Int).toNat (⟨Al,Am,Av⟩:S35)) (wrap64 (Aa + 1)))else(none))=some r:=H
    obtain⟨c9,H⟩:=qo H
    have Dj:decide (Aa < (Ab.length:Int))=true:=decide_eq_true c9
    clear c9
    obtain⟨Bb,Ak⟩:∃ y_:List (S35),y_=(Ab.set (Aa:Int).toNat (⟨Al,Am,Av⟩:S35)):=⟨_,rfl⟩
    replace H:(laws_toLitS.l0 k1 l0 Bb (wrap64 (Aa + 1)))=some r:=by first|exact Ak ▸ H|exact Ak ▸ (Option.bind_some _ _).symm.trans H
    replace Ak:=y0.mk Ak
    have H':=y0.mk H
    clear H
    have Bc:0≤(Aa:Int):=qd
    have Bd:Aa < (l0.length:Int):=qd
    obtain⟨Dd,Be,Bf,Ck,Ag,Ah,Ai,Ap,Aq⟩:=at_T25 Dh.out Aa Bc Bd
    cases Ck
    replace Ag:=qC Ag HB
    replace Ah:=qC Ah HB
    replace Ai:=qC Ai HB
    have Aw:=y0.mk Aq
    have Ax:=y0.mk Ap
    clear Aq Ap
    replace Bc:=eq_true Bc
    replace Bd:=eq_true Bd
    go_wp2_with (first|((with_reducible refine y18 (f:=19) rfl ?_);refine y21 (some 20) rfl rfl Tryz.func19 (by kernel_rfl) rfl #[.agg #[.int .i64 ((rd_T25 l0 Aa).f0),.string ((rd_T25 l0 Aa).f1),.slice Be ((rd_T25 l0 Aa).f2).length Bf]] rfl qy1 ?_;(with_reducible refine(laws_toLit.calls k1 ((rd_T25 l0 Aa).f0) ((rd_T25 l0 Aa).f1) _ _ ((rd_T25 l0 Aa).f2) Al Am Av _ (qc (Kd.C_below Aw.out HB.out)) Ax.out A8.out).mono ?_);rintro e Ay ⟨Az,rfl,Cl,hb⟩;refine⟨_,rfl, ?_⟩;replace Ac:=y0.mk (Kd.S_elder' (qS Ac.out) (Kd.R_base Cl) hb);have Af:=y0.mk (Kd.R_lower Cl (y4 qb));replace HB:=y0.mk (y5 qb hb);(try clear hb);(try clear Cl);have Cm:0≤(Aa:Int):=qd;have Cn:(Aa:Int) < ((Ab.length:Int):Int):=qd;obtain⟨Ad,Bu,Bv,Bw,Co,Dk,Bx⟩:=Kd.S_form Ac.out (by omega);(first|cases Bv|(injection Bv with ea_ en_ ec_;(first|subst ea_|(injection ea_ with ea_;subst ea_));subst ec_;clear en_));have Bg:=y0.mk Bw;have Dl:=y0.mk Bx;clear Bw Co Bx;obtain⟨_,Dm,Bz,Ca,Ar,As,_,_⟩:=Kd.S_elem Ac.out z35 (Aa:Int) Cm Cn;obtain⟨Bh,rfl,Cp⟩:=k35_openM Ca;have Cq:Ay.cell? ⟨Ad,(Aa:Int).toNat * 3,none⟩=some (.int .i64 ((y22 Ab Aa).f0)):=Ar 0 _ rfl;have Cr:Ay.cell? ⟨Ad,(Aa:Int).toNat * 3 + 1,none⟩=some (.string ((y22 Ab Aa).f1)):=Ar 1 _ rfl;have Cs:Ay.cell? ⟨Ad,(Aa:Int).toNat * 3 + 2,none⟩=some (Bh):=Ar 2 _ rfl;have Ct:Ay.frozen? ⟨Ad,(Aa:Int).toNat * 3,none⟩=false:=As 0;have Cu:Ay.frozen? ⟨Ad,(Aa:Int).toNat * 3 + 1,none⟩=false:=As 1;have Cv:Ay.frozen? ⟨Ad,(Aa:Int).toNat * 3 + 2,none⟩=false:=As 2;clear Bz Ar As Ca;replace Cm:=eq_true Cm;replace Cn:=eq_true Cn;have n_:=y0.mk (Kd.S_mono (ok':=(fun k_=>some k_≠(Az:Value).ownBlock)) Ac.out (fun k_ hk=>hk.2));clear Ac;have Ac:=n_;clear n_;have Cw:=y0.mk (show Kd.S k35 35 Ay w.heap.size (fun k_=>((fun _=>True)) k_∧¬((fun k_=>some k_=(Az:Value).ownBlock)) k_) (.slice (some ⟨Ad,0,none⟩) Ab.length Bu) Ab from(qS (Kd.S_mono Ac.out (fun k_ hk=>⟨trivial,fun e_=>hk e_⟩))));obtain⟨De,Do,Cb,Cc,At,Au,Bi,Cd⟩:=Kd.S_elem Cw.out z35 (Aa:Int) (of_decide_eq_true qy0) (by have h_:(Aa:Int) < ((Ab.length:Int):Int):=qd;first|exact h_|(have e_:=(Kd.S_reads' Ac.out).1;omega)|simpa using h_);obtain⟨Cx,rfl,Cy⟩:=k35_openM Cc;have Bj:=Kd.S_seg Cd (of_decide_eq_true qy0) (by have h_:(Aa:Int) < ((Ab.length:Int):Int):=qd;first|exact h_|(have e_:=(Kd.S_reads' Ac.out).1;omega)|simpa using h_) (seg:=[.int .i64 Al,.string Am,Az]) (j:=0) (show 3≤3 from by decide) (x':=(⟨Al,Am,Av⟩:S35)) (k35_mkM _ _ _ (⟨Al,Am,Av⟩:S35) (Kd.R_mono (Kd.R_tight rfl (Kd.R_mono (ok':=fun k_=>((fun _=>True)) k_∧k_≠Ad) (Kd.R_apart' (Af.out) (Kd.S_typed Ac.out) (by decide)) (fun k_ hk=>⟨trivial,fun e_=>(hk.2) (by rw [e_];rfl)⟩))) (fun _ h_=>Or.inr (h_)))) (fun _ hk=>hk) (fun k_ hk_=>((Kd.R_mono (ok':=fun k_=>((fun _=>True)) k_∧k_≠Ad) (Kd.R_apart' (Af.out) (Kd.S_typed Ac.out) (by decide)) (fun k_ hk=>⟨trivial,fun e_=>(hk.2) (by rw [e_];rfl)⟩))).1 k_ hk_.symm);have Bk:=At 0 _ rfl;(try simp only [show(k35).sz=3 from rfl,Nat.mul_one,Nat.add_zero]at Bk);have Bl:=Au 0;(try simp only [show(k35).sz=3 from rfl,Nat.mul_one,Nat.add_zero]at Bl);have Bm:=At 1 _ rfl;(try simp only [show(k35).sz=3 from rfl,Nat.mul_one,Nat.add_zero]at Bm);have Bn:=Au 1;(try simp only [show(k35).sz=3 from rfl,Nat.mul_one,Nat.add_zero]at Bn);have Bo:=At 2 _ rfl;(try simp only [show(k35).sz=3 from rfl,Nat.mul_one,Nat.add_zero]at Bo);have Bp:=Au 2;(try simp only [show(k35).sz=3 from rfl,Nat.mul_one,Nat.add_zero]at Bp);clear Cb At Au Cc Bi Cd)|((with_reducible refine gate_store (t:=35) (p:=21) rfl ?_);refine store_event (t:=35) (p:=21) (v:=?vo_w13) (w1:=(((Ay.setCell ⟨Ad,(Aa:Int).toNat * 3,none⟩ (.int .i64 Al)).setCell ⟨Ad,(Aa:Int).toNat * 3 + 1,none⟩ (.string Am)).setCell ⟨Ad,(Aa:Int).toNat * 3 + 2,none⟩ (Az))) ?hg ?ho ?hn ?hr ?_;(case ho=>rfl);(case hg=>rfl);(case hn=>rfl);(case hr=>(first|(obtain⟨_,_,eo_⟩:=Kd.R_slice Af.out;subst eo_)|(obtain⟨_,_,eo_⟩:=Kd.S_slice Af.out;subst eo_)|(obtain⟨_,_,eo_⟩:=Kd.N_slice Af.out;subst eo_)|skip);first|(go_simp;done)|(go_simp;rfl));intro Cz hw;have hg:Ay.grownBy Cz (some Ad):=(by rw [hw];exact Bj.2);have hp_:Kd.S k35 35 Cz w.heap.size (fun _=>True) (.slice (some ⟨Ad,0,none⟩) Ab.length Bu) Bb:=(by rw [hw,Ak.out];exact Bj.1);clear Bj;replace Ac:=y0.mk (hp_);replace HB:=y0.mk ((by rw [hw];exact below_set (below_set (below_set (HB.out) Bg.out) Bg.out) Bg.out:Below w.heap.size w Cz));clear Af;clear hg hw hp_))
    go_roundg k1
    case measure=>have:=Dc.out;omega
    exact⟨(Bb),(wrap64 (Aa + 1)),qy2,H',⟨by have:=Dc.out;omega⟩,⟨qS Ac.out⟩,⟨qb⟩⟩
   ·rw [if_neg c6]at H
    have Cj:=decide_eq_false c6
    clear c6
    obtain rfl:=Option.some.inj H
    go_wp2
    go_ret
    exact⟨_,by first|rfl|(simp [y15,y16] <;> rfl)|(simp [*,y15,y16] <;> rfl),by(with_reducible repeat(first|apply Kd.S_alloc|apply Kd.S_drewN|apply Kd.S_drew));exact Ac.out,qb⟩
def laws_toRule.f (k:Nat) (Ae:List (S59)) (An:Int) (Ao:ByteArray) (By:List Int) (Dd:List (S25)):Option ((List (S67))×Int×ByteArray×List Int×(List (S35))):=(laws_toExpS.f k Ae).bind fun De=>((laws_toLit.f k An Ao By).bind fun bt353=>((laws_toLitS.f k Dd).bind fun Dz=>(some (De,bt353.1,bt353.2.1,bt353.2.2,Dz))))
theorem laws_toRule.calls (k:Nat) (Bc:Option Addr) (Bd:Nat) (Ar:List (S59)) (Ax:Int) (Ay:ByteArray) (Be:Option Addr) (Bf:Nat) (As:List Int) (Bg:Option Addr) (Bh:Nat) (Ap:List (S25)) (r1:List (S67)) (r2:Int) (r3:ByteArray) (r4:List Int) (r5:List (S35)) (w:World) (Bo:Kd.C k59 w Bc Ar.length Ar) (Bp:Ar.length≤Bd) (Bq:Kd.C (Kd.int .i64) w Be As.length As) (Br:As.length≤Bf) (Bs:Kd.C k25 w Bg Ap.length Ap) (Bt:Ap.length≤Bh) (h:laws_toRule.f k Ar Ax Ay As Ap=some (r1,r2,r3,r4,r5)) :
  Calls Tryz.prog 7 #[.agg #[.slice Bc Ar.length Bd,.int .i64 Ax,.string Ay,.slice Be As.length Bf,.slice Bg Ap.length Bh]] w fun e w'=>∃ v0_ v3_ v4_:Value,e=.returned (.agg #[v0_,.int .i64 r2,.string r3,v3_,v4_])∧Kd.S k67 67 w' w.heap.size (fun k_=>some k_≠(v3_:Value).ownBlock) v0_ r1∧Kd.R (Kd.int .i64) 3 w' w.heap.size (fun _=>True) v3_ r4∧Kd.S k35 35 w' w.heap.size (fun k_=>some k_≠(v3_:Value).ownBlock) v4_ r5∧Below w.heap.size w w':=by
 have Fj:=Tryz.underlying28
 have Fk:=Tryz.underlying38
 have Fl:=Tryz.underlying25
 have Fm:=Tryz.underlying35
 have Bw:=y0.mk Bo
 have Bx:=y0.mk Bp
 clear Bo Bp
 have Bz:=y0.mk Bq
 have Ca:=y0.mk Br
 clear Bq Br
 have Cb:=y0.mk Bs
 have Cc:=y0.mk Bt
 clear Bs Bt
 have HB:=y0.mk (Below.refl w.heap.size w)
 have H:((laws_toExpS.f k Ar).bind fun Ai=>((laws_toLit.f k Ax Ay As).bind fun Bm=>((laws_toLitS.f k Ap).bind fun Aq=>(some (Ai,Bm.1,Bm.2.1,Bm.2.2,Aq)))))=some (r1,r2,r3,r4,r5):=h
 clear h
 obtain⟨Ai,A2,H⟩:=qB H
 obtain⟨⟨Aj,Am,At⟩,A3,H⟩:=qB H
 replace H:((laws_toLitS.f k Ap).bind fun Aq=>(some (Ai,Aj,Am,At,Aq)))=some (r1,r2,r3,r4,r5):=H
 obtain⟨Aq,A4,H⟩:=qB H
 simp only [Option.some.injEq,Prod.mk.injEq]at H
 obtain⟨rfl,rfl,rfl,rfl,rfl⟩:=H
 go_enter Tryz.func7,Tryz.ntmps7
 go_wp2_with (first|((with_reducible refine y19 (N:=1) rfl ?_);refine qe 1 #[.slice Bc Ar.length Bd,.int .i64 Ax,.string Ay,.slice Be As.length Bf,.slice Bg Ap.length Bh] 28 ?_;intro Bu hg w5 hbox hb;have Ab:=y0.mk (hbox);have Fb:=y0.mk (qg (w:=w) hg);have Fc:=y0.mk (qg (w:=w) hg);replace HB:=y0.mk (y5 qb hb);clear hb hbox hg)|((with_reducible refine y19 (N:=2) rfl ?_);refine qe 2 #[.slice none 0 0,.int .i64 0,.string (⟨#[]⟩:ByteArray),.slice none 0 0,.slice none 0 0] 38 ?_;intro Aa hg w6 hbox hb;have Af:=y0.mk (hbox);have Fd:=y0.mk (qg (w:=w) hg);have Fe:=y0.mk (qg (w:=w) hg);replace HB:=y0.mk (y5 qb hb);have Bi:=y0.mk (qn Ab.out hg);have Bj:=y0.mk (qm Ab.out hg);replace Ab:=y0.mk (qK Ab.out hb);clear hb hbox hg)|((with_reducible refine y19 (N:=3) rfl ?_);refine qe 3 #[.slice none 0 0,.int .i64 0,.string (⟨#[]⟩:ByteArray),.slice none 0 0,.slice none 0 0] 38 ?_;intro Ag hg w7 hbox hb;have Ac:=y0.mk (hbox);have Ff:=y0.mk (qg (w:=w) hg);have Fg:=y0.mk (qg (w:=w) hg);replace HB:=y0.mk (y5 qb hb);have Ah:=y0.mk (qn Ab.out hg);have Bk:=y0.mk (qm Ab.out hg);replace Ab:=y0.mk (qK Ab.out hb);have Ad:=y0.mk (qn Af.out hg);have Bl:=y0.mk (qm Af.out hg);replace Af:=y0.mk (qK Af.out hb);clear hb hbox hg;have Fn:=Bi.out;have Fo:=Bj.out;have Fp:=Ah.out;have Fq:=Bk.out;obtain⟨Cd,Ce,Cf,Cg,Ch,Ci,Cj,Ck,Cl,Cm⟩:=qz5 Ab.out)|((with_reducible refine y18 (f:=18) rfl ?_);refine y21 (some 6) rfl rfl Tryz.func18 (by kernel_rfl) rfl #[.slice Bc Ar.length Bd] rfl qy1 ?_;(with_reducible refine(laws_toExpS.calls k _ _ Ar Ai _ (qc (Kd.C_below Bw.out HB.out)) Bx.out A2.out).mono ?_);rintro e Fu ⟨Fr,rfl,Bn,hb⟩;refine⟨_,rfl, ?_⟩;have Au:=y0.mk (Kd.S_lower Bn (y4 qb));replace Ab:=y0.mk (qK Ab.out hb);replace Af:=y0.mk (qK Af.out hb);replace Ac:=y0.mk (qK Ac.out hb);replace HB:=y0.mk (y5 qb hb);(try clear hb);(try clear Bn);obtain⟨Ak,Al,Ey⟩:=Kd.S_slice Au.out;subst Ey;have Fh:=Bl.out;have Fi:=Ad.out;obtain⟨Cn,Co,Cp,Cq,Cr,Cs,Ct,Cu,Cv,Cw⟩:=qz5 Ac.out;obtain⟨Cx,Cy,Cz,Da,Db,Dc,Dd,De,Df,Dg⟩:=qz5 Ab.out)|((with_reducible refine y18 (f:=19) rfl ?_);refine y21 (some 10) rfl rfl Tryz.func19 (by kernel_rfl) rfl #[.agg #[.int .i64 Ax,.string Ay,.slice Be As.length Bf]] rfl qy1 ?_;(with_reducible refine(laws_toLit.calls k Ax Ay _ _ As Aj Am At _ (by exact Kd.C_below Bz.out qb) Ca.out A3.out).mono ?_);rintro e Fv ⟨Fs,rfl,Bn,hb⟩;refine⟨_,rfl, ?_⟩;replace Au:=y0.mk (Kd.S_elder' (qS ((Kd.S_mono (Kd.S_far (p:=⟨Ag,0,none⟩) (Kd.S_types Au.out Ac.out (by decide)) (fun _ hk=>hk.2) (.slice Ak Ai.length Al)) (fun _ h_=>h_.1)))) (Kd.R_base Bn) hb);have Az:=y0.mk (Kd.R_lower Bn (y4 qb));replace Ab:=y0.mk (y7 (g:=Bu) (o:=.cells #[.slice Bc Ar.length Bd,.int .i64 Ax,.string Ay,.slice Be As.length Bf,.slice Bg Ap.length Bh] 28 (0,0)) (by(with_reducible repeat(first|refine y10 ?_ _|refine y9 ?_|refine y6 ?_ _));refine y11 ?_ Ah.out _;(with_reducible repeat(first|refine y10 ?_ _|refine y9 ?_|refine y6 ?_ _));exact Ab.out) hb);replace Af:=y0.mk (y7 (g:=Aa) (o:=.cells #[.slice none 0 0,.int .i64 0,.string (⟨#[]⟩:ByteArray),.slice none 0 0,.slice none 0 0] 38 (0,0)) (by(with_reducible repeat(first|refine y10 ?_ _|refine y9 ?_|refine y6 ?_ _));refine y11 ?_ Ad.out _;(with_reducible repeat(first|refine y10 ?_ _|refine y9 ?_|refine y6 ?_ _));exact Af.out) hb);replace Ac:=y0.mk (y7 (g:=Ag) (o:=.cells #[.slice Ak Ai.length Al,.int .i64 0,.string (⟨#[]⟩:ByteArray),.slice none 0 0,.slice none 0 0] 38 (0,0)) (by(with_reducible repeat(first|refine y10 ?_ _|refine y9 ?_|refine y6 ?_ _));refine y13 (cs:=#[.slice none 0 0,.int .i64 0,.string (⟨#[]⟩:ByteArray),.slice none 0 0,.slice none 0 0]) ?_ 0 _ rfl;(with_reducible repeat(first|refine y10 ?_ _|refine y9 ?_|refine y6 ?_ _));exact Ac.out) hb);replace HB:=y0.mk (y5 qb hb);(try clear hb);(try clear Bn);obtain⟨Dh,Di,Dj,Dk,Dl,Dm,Do,Dp,Dq,Dr⟩:=qz5 Ac.out;obtain⟨Av,Aw,Ez⟩:=Kd.R_slice Az.out;subst Ez;obtain⟨Ds,Dt,Du,Dv,Dw,Dx,Dy,Dz,Ea,Eb⟩:=qz5 Ab.out)|((with_reducible refine y18 (f:=20) rfl ?_);refine y21 (some 14) rfl rfl Tryz.func20 (by kernel_rfl) rfl #[.slice Bg Ap.length Bh] rfl qy1 ?_;(with_reducible refine(laws_toLitS.calls k _ _ Ap Aq _ (by exact Kd.C_below Cb.out qb) Cc.out A4.out).mono ?_);rintro e Fx ⟨Ft,rfl,Bn,hb⟩;refine⟨_,rfl, ?_⟩;replace Au:=y0.mk (Kd.S_below (qS ((Kd.S_mono (Kd.S_far (p:=⟨Ag,3,none⟩) (Kd.S_far (p:=⟨Ag,2,none⟩) (Kd.S_far (p:=⟨Ag,1,none⟩) (Kd.S_types Au.out Ac.out (by decide)) (fun _ hk=>hk.2) (.int .i64 Aj)) (fun _ hk=>hk.2) (.string Am)) (fun _ hk=>hk.2) (.slice Av At.length Aw)) (fun _ h_=>h_.1)))) hb);have Bv:=y0.mk (Kd.S_lower (Kd.S_new' Bn (Kd.R_lt (qR ((Kd.R_mono (Kd.R_far (p:=⟨Ag,3,none⟩) (Kd.R_far (p:=⟨Ag,2,none⟩) (Kd.R_far (p:=⟨Ag,1,none⟩) (Kd.R_types Az.out Ac.out (by decide)) (fun _ hk=>hk.2) (.int .i64 Aj)) (fun _ hk=>hk.2) (.string Am)) (fun _ hk=>hk.2) (.slice Av At.length Aw)) (fun _ h_=>h_.1)))))) (y4 qb));replace Az:=y0.mk (Kd.R_below (qR ((Kd.R_mono (Kd.R_far (p:=⟨Ag,3,none⟩) (Kd.R_far (p:=⟨Ag,2,none⟩) (Kd.R_far (p:=⟨Ag,1,none⟩) (Kd.R_types Az.out Ac.out (by decide)) (fun _ hk=>hk.2) (.int .i64 Aj)) (fun _ hk=>hk.2) (.string Am)) (fun _ hk=>hk.2) (.slice Av At.length Aw)) (fun _ h_=>h_.1)))) hb);replace Ab:=y0.mk (y7 (g:=Bu) (o:=.cells #[.slice Bc Ar.length Bd,.int .i64 Ax,.string Ay,.slice Be As.length Bf,.slice Bg Ap.length Bh] 28 (0,0)) (by(with_reducible repeat(first|refine y10 ?_ _|refine y9 ?_|refine y6 ?_ _));refine y11 ?_ Ah.out _;refine y11 ?_ Ah.out _;refine y11 ?_ Ah.out _;(with_reducible repeat(first|refine y10 ?_ _|refine y9 ?_|refine y6 ?_ _));exact Ab.out) hb);replace Af:=y0.mk (y7 (g:=Aa) (o:=.cells #[.slice none 0 0,.int .i64 0,.string (⟨#[]⟩:ByteArray),.slice none 0 0,.slice none 0 0] 38 (0,0)) (by(with_reducible repeat(first|refine y10 ?_ _|refine y9 ?_|refine y6 ?_ _));refine y11 ?_ Ad.out _;refine y11 ?_ Ad.out _;refine y11 ?_ Ad.out _;(with_reducible repeat(first|refine y10 ?_ _|refine y9 ?_|refine y6 ?_ _));exact Af.out) hb);replace Ac:=y0.mk (y7 (g:=Ag) (o:=.cells #[.slice Ak Ai.length Al,.int .i64 Aj,.string Am,.slice Av At.length Aw,.slice none 0 0] 38 (0,0)) (by(with_reducible repeat(first|refine y10 ?_ _|refine y9 ?_|refine y6 ?_ _));refine y13 (cs:=#[.slice Ak Ai.length Al,.int .i64 Aj,.string Am,.slice none 0 0,.slice none 0 0]) ?_ 3 _ rfl;refine y13 (cs:=#[.slice Ak Ai.length Al,.int .i64 Aj,.string (⟨#[]⟩:ByteArray),.slice none 0 0,.slice none 0 0]) ?_ 2 _ rfl;refine y13 (cs:=#[.slice Ak Ai.length Al,.int .i64 0,.string (⟨#[]⟩:ByteArray),.slice none 0 0,.slice none 0 0]) ?_ 1 _ rfl;(with_reducible repeat(first|refine y10 ?_ _|refine y9 ?_|refine y6 ?_ _));exact Ac.out) hb);replace HB:=y0.mk (y5 qb hb);(try clear hb);(try clear Bn);obtain⟨Ba,Bb,Fa⟩:=Kd.S_slice Bv.out;subst Fa;obtain⟨Ec,Ed,Ee,Ef,Eg,Eh,Ei,Ej,Ek,El⟩:=qz5 Ac.out;obtain⟨Em,En,Eo,Ep,Er,Es,Et,Eu,Ew,Ex⟩:=qz5 Af.out))
 refine bodyPost_ret (results_cell_row rfl _ _ Aa 38 #[.slice Ak Ai.length Al,.int .i64 Aj,.string Am,.slice Av At.length Aw,.slice Ba Aq.length Bb] (0,0) _ rfl (by(with_reducible repeat(first|refine y10 ?_ _|refine y9 ?_|refine y6 ?_ _));refine y13 (cs:=#[.slice Ak Ai.length Al,.int .i64 Aj,.string Am,.slice Av At.length Aw,.slice none 0 0]) ?_ 4 _ rfl;refine y13 (cs:=#[.slice Ak Ai.length Al,.int .i64 Aj,.string Am,.slice none 0 0,.slice none 0 0]) ?_ 3 _ rfl;refine y13 (cs:=#[.slice Ak Ai.length Al,.int .i64 Aj,.string (⟨#[]⟩:ByteArray),.slice none 0 0,.slice none 0 0]) ?_ 2 _ rfl;refine y13 (cs:=#[.slice Ak Ai.length Al,.int .i64 0,.string (⟨#[]⟩:ByteArray),.slice none 0 0,.slice none 0 0]) ?_ 1 _ rfl;refine y13 (cs:=#[.slice none 0 0,.int .i64 0,.string (⟨#[]⟩:ByteArray),.slice none 0 0,.slice none 0 0]) ?_ 0 _ rfl;refine y11 ?_ Ad.out _;(with_reducible repeat(first|refine y10 ?_ _|refine y9 ?_|refine y6 ?_ _));exact Af.out) Tryz.underlying38 rfl (by kernel_rfl)) rfl ?_
 exact⟨_,_,_,by first|rfl|(simp [y15,y16] <;> rfl)|(simp [*,y15,y16] <;> rfl),by(with_reducible repeat(first|apply Kd.S_alloc|apply Kd.S_drewN|apply Kd.S_drew));exact Kd.S_mono (Kd.S_far (p:=⟨Aa,4,none⟩) (Kd.S_far (p:=⟨Aa,3,none⟩) (qfS Aa (Kd.S_far (p:=⟨Ag,4,none⟩) (Kd.S_types (Kd.S_types Au.out Ac.out (by decide)) Af.out (by decide)) (fun _ hk=>hk.1.2) (.slice Ba Aq.length Bb)) (.slice Ak Ai.length Al) (.int .i64 Aj) (.string Am)) (fun _ hk=>hk.2) (.slice Av At.length Aw)) (fun _ hk=>hk.2) (.slice Ba Aq.length Bb)) (fun _ hk=>hk.1.1.2),by(with_reducible repeat(first|apply Kd.R_alloc|apply Kd.R_drewN|apply Kd.R_drew));exact Kd.R_mono (Kd.R_far (p:=⟨Aa,4,none⟩) (Kd.R_far (p:=⟨Aa,3,none⟩) (qfR Aa (Kd.R_far (p:=⟨Ag,4,none⟩) (Kd.R_types (Kd.R_types Az.out Ac.out (by decide)) Af.out (by decide)) (fun _ hk=>hk.1.2) (.slice Ba Aq.length Bb)) (.slice Ak Ai.length Al) (.int .i64 Aj) (.string Am)) (fun _ hk=>hk.2) (.slice Av At.length Aw)) (fun _ hk=>hk.2) (.slice Ba Aq.length Bb)) (fun _ hk=>trivial),by(with_reducible repeat(first|apply Kd.S_alloc|apply Kd.S_drewN|apply Kd.S_drew));exact Kd.S_mono (Kd.S_far (p:=⟨Aa,4,none⟩) (Kd.S_far (p:=⟨Aa,3,none⟩) (qfS Aa (Kd.S_far (p:=⟨Ag,4,none⟩) (Kd.S_types (Kd.S_types Bv.out Ac.out (by decide)) Af.out (by decide)) (fun _ hk=>hk.1.2) (.slice Ba Aq.length Bb)) (.slice Ak Ai.length Al) (.int .i64 Aj) (.string Am)) (fun _ hk=>hk.2) (.slice Av At.length Aw)) (fun _ hk=>hk.2) (.slice Ba Aq.length Bb)) (fun _ hk=>hk.1.1.2),qb⟩
def laws_toStringS.l0:Nat→List ByteArray→List ByteArray→Int→Option (List ByteArray)
 | 0,_,_,_=>none
 | k + 1,x0,x3,x4=>if x4 < (x0.length:Int)then(if 0≤x4 then(if x4 < (x3.length:Int)then(laws_toStringS.l0 k x0 (x3.set (x4:Int).toNat (rdOf ByteArray.empty x0 x4)) (wrap64 (x4 + 1)))else(none))else(none))else(some x3)
def laws_toStringS.f (k:Nat) (l0:List ByteArray):Option (List ByteArray):=if 0≤(l0.length:Int)then(if((l0.length:Int):Int).toNat≤17592186044416 then(laws_toStringS.l0 k l0 (List.replicate ((l0.length:Int):Int).toNat (⟨#[]⟩:ByteArray)) 0)else(none))else(none)
theorem laws_toStringS.calls (k:Nat) (A0:Option Addr) (c0:Nat) (l0:List ByteArray) (r:List ByteArray) (w:World) (Bb:Kd.C Kd.string w A0 l0.length l0) (Bc:l0.length≤c0) (h:laws_toStringS.f k l0=some r) :
  Calls Tryz.prog 8 #[.slice A0 l0.length c0] w fun e w'=>∃ v0_:Value,e=.returned (v0_)∧Kd.R Kd.string 9 w' w.heap.size (fun _=>True) v0_ r∧Below w.heap.size w w':=by
 have Bk:=y0.mk Bb
 have Bq:=y0.mk Bc
 clear Bb Bc
 have HB:=y0.mk (Below.refl w.heap.size w)
 have H:(if 0≤(l0.length:Int)then(if((l0.length:Int):Int).toNat≤17592186044416 then(laws_toStringS.l0 k l0 (List.replicate ((l0.length:Int):Int).toNat (⟨#[]⟩:ByteArray)) 0)else(none))else(none))=some r:=h
 clear h
 obtain⟨c2,H⟩:=qo H
 have As:=eq_true c2
 have At:=decide_eq_true c2
 clear c2
 obtain⟨c3,H⟩:=qo H
 have Au:=eq_true c3
 have Av:=decide_eq_true c3
 clear c3
 obtain⟨Am,Ac⟩:∃ y_:List ByteArray,y_=(List.replicate ((l0.length:Int):Int).toNat (⟨#[]⟩:ByteArray)):=⟨_,rfl⟩
 replace H:(laws_toStringS.l0 k l0 Am 0)=some r:=by first|exact Ac ▸ H|exact Ac ▸ (Option.bind_some _ _).symm.trans H
 replace Ac:=y0.mk Ac
 have H':=y0.mk H
 clear H
 go_enter Tryz.func8,Tryz.ntmps8
 go_wp2_with (first|((with_reducible refine y19 (N:=7) rfl ?_);refine Kd.R_make Kd.string _ 9 rfl (N:=7) rfl 29 _ _ rfl (l0.length:Int) rfl rfl Tryz.underlying29 (.string ⟨#[]⟩) 16 info9 rfl (by decide) (by omega) (⟨#[]⟩:ByteArray) (ok:=fun _=>True) (okp:=fun _=>True) rfl (fun _ hk=>hk) trivial (of_decide_eq_true qy0) (Nat.le_trans (Nat.mul_le_mul_right _ (of_decide_eq_true qy0:(l0.length:Int).toNat≤17592186044416)) (by omega)) (Below.refl _ _) (Nat.le_refl _) ?_;intro Aw w4 Ap hb hg_ hnew_;clear hg_ hnew_;(first|rw [← Ac.out]at Ap|(simp only [Int.reduceToNat]at Ap;rw [← Ac.out]at Ap));have Aq:=y0.mk (Kd.R_lower Ap (y4 qb));replace HB:=y0.mk (y5 qb hb);clear hb Ap))
 go_loopg [4] k (fun kq v4 w'=>∃(Af:List ByteArray) (Aa:Int),v4=.int .i64 Aa∧y0 (laws_toStringS.l0 kq l0 Af Aa=some r)∧y0 (kq≤k)∧y0 (Kd.R Kd.string 9 w' w.heap.size (fun _=>True) Aw Af)∧y0 (Below w.heap.size w w'))
 case atStart=>exact⟨(Am),(0),qy2,H',⟨Nat.le_refl _⟩,⟨qR Aq.out⟩,⟨qb⟩⟩
 case round =>
  clear H'
  (try clear As At Au Av)
  obtain⟨Af,Aa,rfl,HA,Bd,Ag,HB⟩:=hrel
  cases gk with
  | zero=>exact absurd HA.out (by simp [laws_toStringS.l0])
  | succ k1 =>
   have H:=HA.out
   clear HA
   simp only [laws_toStringS.l0]at H
   by_cases c6:Aa < (l0.length:Int)
   ·rw [if_pos c6]at H
    have Ax:=decide_eq_true c6
    clear c6
    obtain⟨c7,H⟩:=qo H
    have Bl:decide (0≤Aa)=true:=decide_eq_true c7
    clear c7
    obtain⟨c8,H⟩:=qo H
    have Bm:decide (Aa < (Af.length:Int))=true:=decide_eq_true c8
    clear c8
    obtain⟨Ai,Ad⟩:∃ y_:List ByteArray,y_=(Af.set (Aa:Int).toNat (rdOf ByteArray.empty l0 Aa)):=⟨_,rfl⟩
    replace H:(laws_toStringS.l0 k1 l0 Ai (wrap64 (Aa + 1)))=some r:=by first|exact Ad ▸ H|exact Ad ▸ (Option.bind_some _ _).symm.trans H
    replace Ad:=y0.mk Ad
    have H':=y0.mk H
    clear H
    have Aj:0≤(Aa:Int):=qd
    have Ak:Aa < (l0.length:Int):=qd
    obtain⟨Be,Ay,Ab⟩:=Kd.at_string Bk.out Aa Aj Ak
    cases Ay
    replace Ab:=qC Ab HB
    replace Aj:=eq_true Aj
    replace Ak:=eq_true Ak
    have p9:0≤(Aa:Int):=qd
    have q9:(Aa:Int) < ((Af.length:Int):Int):=qd
    obtain⟨Az,Bn,Bf,Bg,Bo,Br,Bh⟩:=Kd.R_form Ag.out (by omega)
    (first|cases Bf|(injection Bf with ea_ en_ ec_;(first|subst ea_|(injection ea_ with ea_;subst ea_));subst ec_;clear en_))
    have Bp:=y0.mk Bg
    have Bs:=y0.mk Bh
    clear Bg Bo Bh
    obtain⟨Bi,Bj⟩:=Kd.R_celln (⟨#[]⟩:ByteArray) Ag.out (Aa:Int) p9 q9
    replace p9:=eq_true p9
    replace q9:=eq_true q9
    have Al:=Kd.R_putg Ag.out (Aa:Int) (rdOf ByteArray.empty l0 Aa)
    go_wp2_with (first|((with_reducible refine gate_store (t:=9) (p:=20) rfl ?_);refine store_event (t:=9) (p:=20) (v:=?vo_w11) (w1:=(wr.setCell ⟨Az,(Aa:Int).toNat,none⟩ (.string (rdOf ByteArray.empty l0 Aa)))) ?hg ?ho ?hn ?hr ?_;(case ho=>rfl);(case hg=>rfl);(case hn=>rfl);(case hr=>first|(go_simp;done)|(go_simp;rfl));intro Ba hw;have hg:wr.grownBy Ba (some Az):=(by rw [hw];exact Al.2);have hp_:Kd.R Kd.string 9 Ba w.heap.size (fun _=>True) (.slice (some ⟨Az,0,none⟩) Af.length Bn) Ai:=(by rw [hw,Ad.out];exact Al.1);clear Al;replace Ag:=y0.mk (hp_);replace HB:=y0.mk ((by rw [hw];exact below_set (HB.out) Bp.out:Below w.heap.size w Ba));clear hg hw hp_))
    go_roundg k1
    case measure=>have:=Bd.out;omega
    exact⟨(Ai),(wrap64 (Aa + 1)),qy2,H',⟨by have:=Bd.out;omega⟩,⟨qR Ag.out⟩,⟨qb⟩⟩
   ·rw [if_neg c6]at H
    have Ax:=decide_eq_false c6
    clear c6
    obtain rfl:=Option.some.inj H
    go_wp2
    go_ret
    exact⟨_,by first|rfl|(simp [y15,y16] <;> rfl)|(simp [*,y15,y16] <;> rfl),by(with_reducible repeat(first|apply Kd.R_alloc|apply Kd.R_drewN|apply Kd.R_drew));exact Ag.out,qb⟩
def impl_in.f (a0:Int) (a1:Int) (a2:Int):Option (Bool):=if a0≥a1 then(some (decide (a0≤a2)))else(some false)
theorem impl_in.calls (a0:Int) (a1:Int) (a2:Int) (r:Bool) (w:World) (h:impl_in.f a0 a1 a2=some r) :
  Calls Tryz.prog 22 #[.int .i64 a0,.int .i64 a1,.int .i64 a2] w fun e w'=>e=.returned (.bool r)∧y1 w w':=by
 have H:(if a0≥a1 then(some (decide (a0≤a2)))else(some false))=some r:=h
 clear h
 by_cases c4:a0≥a1
 ·rw [if_pos c4]at H
  have c4b0:decide (a1≤a0)=true:=decide_eq_true c4
  clear c4
  obtain rfl:=Option.some.inj H
  go_enter Tryz.func22,Tryz.ntmps22
  go_wp2
  go_ret
  exact qf2
 ·rw [if_neg c4]at H
  have c4b0:decide (a1≤a0)=false:=decide_eq_false c4
  clear c4
  obtain rfl:=Option.some.inj H
  go_enter Tryz.func22,Tryz.ntmps22
  go_wp2
  go_ret
  exact qf2
def impl_isSum.f (a0:Int):Option (Bool):=(impl_in.f a0 5 7).bind fun Ae=>(some Ae)
theorem impl_isSum.calls (a0:Int) (r:Bool) (w:World) (h:impl_isSum.f a0=some r) :
  Calls Tryz.prog 65 #[.int .i64 a0] w fun e w'=>e=.returned (.bool r)∧y1 w w':=by
 have H:((impl_in.f a0 5 7).bind fun t366=>(some t366))=some r:=h
 clear h
 obtain⟨t366,A2,H⟩:=qB H
 obtain rfl:=Option.some.inj H
 go_enter Tryz.func65,Tryz.ntmps65
 go_wp2_with (first|((with_reducible refine y18 (f:=22) rfl ?_);refine y21 (some 4) rfl rfl Tryz.func22 (by kernel_rfl) rfl #[.int .i64 a0,.int .i64 5,.int .i64 7] rfl qy1 ?_;(with_reducible refine(impl_in.calls a0 5 7 t366 _ A2.out).mono ?_);rintro e w' ⟨rfl,⟨nd,rfl⟩⟩;refine⟨_,rfl, ?_⟩))
 go_ret
 exact qf2
def impl_Rule_lits.f (l0_0:List (S67)) (An:Int) (Ao:ByteArray) (By:List Int) (Ae:List (S35)):Option ((List (S35))):=(some (([(⟨An,Ao,By⟩:S35)]:List (S35)):List (S35))).bind fun y368=>(if y368.length + Ae.length < 2932031007402 then(some (y368 ++ Ae))else(none))
theorem impl_Rule_lits.calls (At:Option Addr) (Au:Nat) (Aj:List (S67)) (Ag:Int) (Ah:ByteArray) (P0_3_:Nat→Prop) (Ak:Option Addr) (Al:Nat) (Ab:List Int) (P0_4_:Nat→Prop) (Ar:Option Addr) (As:Nat) (Ac:List (S35)) (r:List (S35)) (w:World) (Aw:Kd.C k67 w At Aj.length Aj) (Ax:Aj.length≤Au) (Bb:Kd.V (Kd.int .i64) 3 w w.heap.size (fun k_=>P0_3_ k_) (.slice Ak Ab.length Al) Ab) (Bc:Kd.V k35 35 w w.heap.size (fun k_=>P0_4_ k_) (.slice Ar Ac.length As) Ac) (h:impl_Rule_lits.f Aj Ag Ah Ab Ac=some r) :
  Calls Tryz.prog 66 #[.agg #[.slice At Aj.length Au,.int .i64 Ag,.string Ah,.slice Ak Ab.length Al,.slice Ar Ac.length As]] w fun e w'=>∃ v0_:Value,e=.returned (v0_)∧Kd.N k35 35 w' w.heap.size (fun k_=>((P0_3_ k_∨P0_4_ k_)∨w.heap.size≤k_)) v0_ r∧Below w.heap.size w w':=by
 have Cg:=Tryz.underlying38
 have Ch:=Tryz.underlying35
 have Cc:=y0.mk Aw
 have Cd:=y0.mk Ax
 clear Aw Ax
 have Af:=y0.mk (show Kd.V (Kd.int .i64) 3 w w.heap.size (fun k_=>((P0_3_ k_∨P0_4_ k_)∨w.heap.size≤k_)) (.slice Ak Ab.length Al) Ab from Kd.V_mono Bb (fun k_ hk=>.inl (.inl hk)))
 have Ai:=y0.mk (show Kd.V k35 35 w w.heap.size (fun k_=>((P0_3_ k_∨P0_4_ k_)∨w.heap.size≤k_)) (.slice Ar Ac.length As) Ac from Kd.V_mono Bc (fun k_ hk=>.inl (.inr hk)))
 have HB:=y0.mk (Below.refl w.heap.size w)
 have H:((some (([(⟨Ag,Ah,Ab⟩:S35)]:List (S35)):List (S35))).bind fun Aq=>(if Aq.length + Ac.length < 2932031007402 then(some (Aq ++ Ac))else(none)))=some r:=h
 clear h
 obtain⟨Aq,Am⟩:∃ y_:List (S35),y_=(([(⟨Ag,Ah,Ab⟩:S35)]:List (S35))):=⟨_,rfl⟩
 replace H:(if Aq.length + Ac.length < 2932031007402 then(some (Aq ++ Ac))else(none))=some r:=by first|exact Am ▸ H|exact Am ▸ (Option.bind_some _ _).symm.trans H
 replace Am:=y0.mk Am
 obtain⟨c2,H⟩:=qo H
 replace c2:=y0.mk c2
 obtain⟨Bg,Ap⟩:∃ y_:List (S35),y_=(Aq ++ Ac):=⟨_,rfl⟩
 replace H:(some Bg)=some r:=by first|exact Ap ▸ H|exact Ap ▸ (Option.bind_some _ _).symm.trans H
 replace Ap:=y0.mk Ap
 obtain rfl:=Option.some.inj H
 go_enter Tryz.func66,Tryz.ntmps66
 go_wp2_with (first|((with_reducible refine y19 (N:=1) rfl ?_);refine qe 1 #[.slice At Aj.length Au,.int .i64 Ag,.string Ah,.slice Ak Ab.length Al,.slice Ar Ac.length As] 38 ?_;intro Aa hg w3 hbox hb;replace Af:=y0.mk (Kd.V_below (Kd.V_elderB (qV Af.out) Aa (Nat.le_of_eq hg.symm)) hb);replace Ai:=y0.mk (Kd.V_below (Kd.V_elderB (qV Ai.out) Aa (Nat.le_of_eq hg.symm)) hb);have Ad:=y0.mk (hbox);have Ce:=y0.mk (qg (w:=w) hg);have Cf:=y0.mk (qg (w:=w) hg);replace HB:=y0.mk (y5 qb hb);clear hb hbox hg;obtain⟨Bh,Bi,Bj,Bk,Bl,Bm,Bn,Bo,Bp,Bq⟩:=qz5 Ad.out)|((with_reducible refine y19 (N:=5) rfl ?_);refine Kd.N_lit k35 _ 35 ?hg (N':=5) ?hd (xs:=([(⟨Ag,Ah,Ab⟩:S35)]:List (S35))) (inner:=[.int .i64 Ag,.string Ah,.slice Ak Ab.length Al]) (ok:=(fun k_=>((P0_3_ k_∨P0_4_ k_)∨w.heap.size≤k_)∧k_≠Aa)) (okp:=(fun k_=>((P0_3_ k_∨P0_4_ k_)∨w.heap.size≤k_)∧k_≠Aa)) ?hr ?hp (fun _ hk=>hk) ((show ∀ k_,w3.heap.size≤k_→(fun k_=>((P0_3_ k_∨P0_4_ k_)∨w.heap.size≤k_)∧k_≠Aa) k_ from fun k_ hk=>⟨(.inr (Nat.le_trans (y4 qb) hk)),Kd.freshB (g:=Aa) (o:=.cells #[.slice At Aj.length Au,.int .i64 Ag,.string Ah,.slice Ak Ab.length Al,.slice Ar Ac.length As] 38 (0,0)) (qk Ad.out) k_ hk⟩) _ (Nat.le_refl _)) (Below.refl _ _) (Nat.le_refl _) (by simp) ?_;(case hd=>rfl);(case hg=>rfl);(case hr=>first|(go_simp;done)|(go_simp;rfl));(case hp=>exact(Reps.c3 (show Kd.FK k35 _ _ (⟨Ag,Ah,Ab⟩:S35) [.int .i64 Ag,.string Ah,.slice Ak Ab.length Al]from(k35_mkF _ _ (⟨Ag,Ah,Ab⟩:S35) (Kd.V_reads' (Kd.V_mono (ok':=(fun k_=>((P0_3_ k_∨P0_4_ k_)∨w.heap.size≤k_)∧k_≠Aa)) (Af.out) (fun k_ hk=>⟨hk.1,hk.2⟩))).2.1 (Kd.V_F (Kd.V_mono (ok':=(fun k_=>((P0_3_ k_∨P0_4_ k_)∨w.heap.size≤k_)∧k_≠Aa)) (Af.out) (fun k_ hk=>⟨hk.1,hk.2⟩))))) (Reps.none _ _)));intro Az w5 Ba hb hg_ hnew_;clear hg_ hnew_;(first|rw [← Am.out]at Ba|(simp only [Int.reduceToNat]at Ba;rw [← Am.out]at Ba));replace Af:=y0.mk (Kd.V_elder' (qV Af.out) (Kd.N_base Ba) hb);replace Ai:=y0.mk (Kd.V_elder' (qV Ai.out) (Kd.N_base Ba) hb);have Av:=y0.mk (Kd.N_lower Ba (y4 qb));replace Ad:=y0.mk (qK Ad.out hb);replace HB:=y0.mk (y5 qb hb);clear hb Ba;obtain⟨Br,Bs,Bt,Bu,Bv,Bw,Bx,Bz,Ca,Cb⟩:=qz5 Ad.out)|((with_reducible refine gate_builtin (b:=.append) (xs:=#[.tmp 5,.tmp 7]) rfl ?_);at_builtin;refine Kd.N_append_rows k35 (w0:=w) w.heap.size rfl (.tmp 5) (.tmp 7) 36 35 (.agg #[(.int .i64 0),(.string ⟨#[]⟩),(.slice none 0 0)]) 48 rfl Tryz.underlying36 info35 rfl (by decide) (by omega) Az Aq Ac _ _ _ (fun k_=>((P0_3_ k_∨P0_4_ k_)∨w.heap.size≤k_)∧k_≠Aa) (fun k_=>((fun k_=>((P0_3_ k_∨P0_4_ k_)∨w.heap.size≤k_)∧k_≠Aa)) k_∧some k_≠(Az:Value).ownBlock) rfl rfl ?aO ?aR (fun _ hk=>hk) ?aF ?aB ?aS ?aL ?_;(case aR=>exact(by skip;exact Kd.V_F (Kd.V_mono (ok':=(fun k_=>((fun k_=>((P0_3_ k_∨P0_4_ k_)∨w.heap.size≤k_)∧k_≠Aa)) k_∧some k_≠(Az:Value).ownBlock)) (Ai.out) (fun k_ hk=>⟨⟨hk.1.1,hk.1.2⟩,hk.2⟩))));(case aB=>exact qb);(case aF=>exact(fun k_ hk=>⟨(.inr (Nat.le_trans (y4 qb) hk)),Kd.freshB (g:=Aa) (o:=.cells #[.slice At Aj.length Au,.int .i64 Ag,.string Ah,.slice Ak Ab.length Al,.slice Ar Ac.length As] 38 (0,0)) (qk Ad.out) k_ hk⟩));(case aO=>exact(qN Av.out));(case aS=>exact(y4 qb));(case aL=>have:=c2.out;omega);intro Ci w8 ho hb hg hat;rw [← Ap.out]at ho;replace Af:=y0.mk (Kd.V_afterv (ok:=(fun k_=>((P0_3_ k_∨P0_4_ k_)∨w.heap.size≤k_)∧k_≠Aa)) (qV Af.out) hg hat);replace Ai:=y0.mk (Kd.V_afterv (ok:=(fun k_=>((P0_3_ k_∨P0_4_ k_)∨w.heap.size≤k_)∧k_≠Aa)) (qV Ai.out) hg hat);replace Ad:=y0.mk (y12 (qk Ad.out) hg (Kd.N_ne Av.out Ad.out (by decide)));replace HB:=y0.mk (hb);have Be:=y0.mk (ho);clear Av;clear ho hb hg hat))
 go_ret
 exact⟨_,by first|rfl|(simp [y15,y16] <;> rfl)|(simp [*,y15,y16] <;> rfl),by(with_reducible repeat(first|apply Kd.N_alloc|apply Kd.N_drewN|apply Kd.N_drew));exact Kd.N_mono Be.out (fun _ hk=>hk.1),qb⟩
def impl_isFormed_1.f (a0:Int):Option (Bool):=some (a0 != 1)
theorem impl_isFormed_1.calls (a0:Int) (r:Bool) (w:World) (h:impl_isFormed_1.f a0=some r) :
  Calls Tryz.prog 68 #[.int .i64 a0] w fun e w'=>e=.returned (.bool r)∧y1 w w':=by
 have H:(some (a0 != 1))=some r:=h
 clear h
 obtain rfl:=Option.some.inj H
 go_enter Tryz.func68,Tryz.ntmps68
 go_wp2
 go_ret
 exact qf2
def z4_.l0:Nat→List Int→Int→Int→Option (Int)
 | 0,_,_,_=>none
 | k + 1,x0,x7,x8=>if x8 < x7 then(if 0≤x8 then(if x8 < (x0.length:Int)then((impl_isFormed_1.f (rd x0 x8)).bind fun Ae=>(if Ae=true then(some x8)else(z4_.l0 k x0 x7 (wrap64 (x8 + 1)))))else(none))else(none))else(some (-1))
def z4_.f (k:Nat) (l0:List Int) :Option (Int):=z4_.l0 k l0 (l0.length:Int) 0
theorem z4_.calls (k:Nat) (A0:Option Addr) (c0:Nat) (l0:List Int)  (r:Int) (w:World) (Ai:Kd.C (Kd.int .i64) w A0 l0.length l0) (Aj:l0.length≤c0) (h:z4_.f k l0=some r) :
  Calls Tryz.prog 82 #[.slice A0 l0.length c0,.func (.func 68) #[] #[]] w fun e w'=>e=.returned (.int .i64 r)∧y1 w w':=by
 have Am:=y0.mk Ai
 have Ar:=y0.mk Aj
 clear Ai Aj
 have H:(z4_.l0 k l0 (l0.length:Int) 0)=some r:=h
 clear h
 have H':=y0.mk H
 clear H
 go_enter Tryz.func82,Tryz.ntmps82
 go_wp2
 go_loopg [8] k (fun kq v8 w'=>∃(Aa:Int),v8=.int .i64 Aa∧y0 (z4_.l0 kq l0 (l0.length:Int) Aa=some r)∧y0 (kq≤k)∧y1 w w')
 case atStart=>exact⟨(0),qy2,H',⟨Nat.le_refl _⟩,by repeat(first|exact y1.refl _|apply y1.step)⟩
 case round =>
  clear H'
  obtain⟨Aa,rfl,HA,Ak,⟨m1,rfl⟩⟩:=hrel
  cases gk with
  | zero=>exact absurd HA.out (by simp [z4_.l0])
  | succ k1 =>
   have H:=HA.out
   clear HA
   simp only [z4_.l0]at H
   by_cases c3:Aa < (l0.length:Int)
   ·rw [if_pos c3]at H
    have Af:=decide_eq_true c3
    clear c3
    obtain⟨c4,H⟩:=qo H
    have Ap:decide (0≤Aa)=true:=decide_eq_true c4
    clear c4
    obtain⟨c5,H⟩:=qo H
    have Aq:decide (Aa < (l0.length:Int))=true:=decide_eq_true c5
    clear c5
    obtain⟨Ag,A6,H⟩:=qB H
    have Ab:0≤(Aa:Int):=qd
    have Ac:Aa < (l0.length:Int):=qd
    obtain⟨Al,Ah,Ad⟩:=Kd.at_int Am.out Aa Ab Ac
    cases Ah
    replace Ab:=eq_true Ab
    replace Ac:=eq_true Ac
    by_cases c7:Ag=true
    ·subst c7
     replace H:=qT H
     obtain rfl:=Option.some.inj H
     go_wp2_with (first|(go_at_call 68;(with_reducible refine(impl_isFormed_1.calls (rd l0 Aa) true _ A6.out).mono ?_);rintro e w' ⟨rfl,⟨nd,rfl⟩⟩))
     go_ret
     exact qf2
    ·replace c7:=Bool.eq_false_iff.mpr c7
     subst c7
     replace H:=qF H
     have H':=y0.mk H
     clear H
     go_wp2_with (first|(go_at_call 68;(with_reducible refine(impl_isFormed_1.calls (rd l0 Aa) false _ A6.out).mono ?_);rintro e w' ⟨rfl,⟨nd,rfl⟩⟩))
     go_roundg k1
     case measure=>have:=Ak.out;omega
     exact⟨(wrap64 (Aa + 1)),qy2,H',⟨by have:=Ak.out;omega⟩,by repeat(first|exact y1.refl _|apply y1.step)⟩
   ·rw [if_neg c3]at H
    have Af:=decide_eq_false c3
    clear c3
    obtain rfl:=Option.some.inj H
    go_wp2
    go_ret
    exact qf2
def slices_ContainsFunc_int_int_impl_isFormed_1.f (k:Nat) (l0:List Int) :Option (Bool):=(z4_.f k l0).bind fun Ae=>(some (decide (Ae≥0)))
theorem slices_ContainsFunc_int_int_impl_isFormed_1.calls (k:Nat) (A0:Option Addr) (c0:Nat) (l0:List Int)  (r:Bool) (w:World) (hr0:Kd.C (Kd.int .i64) w A0 l0.length l0) (hc0:l0.length≤c0) (h:slices_ContainsFunc_int_int_impl_isFormed_1.f k l0=some r) :
  Calls Tryz.prog 67 #[.slice A0 l0.length c0,.func (.func 68) #[] #[]] w fun e w'=>e=.returned (.bool r)∧y1 w w':=by
 have HR0:=y0.mk hr0
 have HC0:=y0.mk hc0
 clear hr0 hc0
 have H:((z4_.f k l0).bind fun t376=>(some (decide (t376≥0))))=some r:=h
 clear h
 obtain⟨t376,A3,H⟩:=qB H
 obtain rfl:=Option.some.inj H
 go_enter Tryz.func67,Tryz.ntmps67
 go_wp2_with (first|((with_reducible refine y18 (f:=82) rfl ?_);refine y21 (some 7) rfl rfl Tryz.func82 (by kernel_rfl) rfl #[.slice A0 l0.length c0,.func (.func 68) #[] #[]] rfl qy1 ?_;(with_reducible refine(z4_.calls k _ _ l0  t376 _ (qc HR0.out) HC0.out A3.out).mono ?_);rintro e w' ⟨rfl,⟨nd,rfl⟩⟩;refine⟨_,rfl, ?_⟩))
 go_ret
 exact qf2
end Go.Proofs.YtimhlficlhafbaaGreatDoor.Pv
end

-- Cut by prune.py, a program of this session, out of the texts of this claim: Lean checks it.
import Derived.Test.YtkajecadkkgfmaaGreatDoorVsqPnx0
import Derived.Test.YtkajecadkkgfmaaGreatDoorVsqPnx14
import Derived.Test.YtkajecadkkgfmaaGreatDoorVsqPnx30
section
namespace Go.Proofs.YtkajecadkkgfmaaGreatDoor.Pn
open Go.RowKit Go.Proofs.YtkajecadkkgfmaaGreatDoorW.PrintWords Go.Proofs.YtkajecadkkgfmaaGreatDoorW.PrintLast Go.Proofs.YtkajecadkkgfmaaGreatDoorW.PrintMore
attribute [local go_sem] max2_int min2_int max_two min_two max_three min_three max_four min_four   -- for this text's walks alone
set_option linter.unusedVariables false
set_option linter.unusedSimpArgs false
mutual
def impl_compareCons.l0:Nat→List ByteArray→List ByteArray→Int→Int→Option (Int)
 | 0,_,_,_,_=>none
 | k + 1,x8,x36,x37,x38=>if x38 < x37 then(if 0≤x38 then(if x38 < (x36.length:Int)then(if x38 < (x8.length:Int)then((impl_compareTerms.f k (rdOf ByteArray.empty x36 x38) (rdOf ByteArray.empty x8 x38)).bind fun t338=>(if t338=0 then(impl_compareCons.l0 k x8 x36 x37 (wrap64 (x38 + 1)))else(some t338)))else(none))else(none))else(none))else(some 0)
def impl_compareCons.f:Nat→ByteArray→ByteArray→Option (Int)
 | 0,_,_=>none
 | k + 1,a0,a1=>(z0_.f k a0).bind fun bt322=>((z0_.f k a1).bind fun bt326=>((cmp_Compare_string.f bt322.1 bt326.1).bind fun t330=>((cmp_Compare_int.f (bt322.2.length:Int) (bt326.2.length:Int)).bind fun t331=>((cmp_Or_int.f k (([t330,t331]:List Int))).bind fun t335=>(if t335=0 then(impl_compareCons.l0 k bt326.2 bt322.2 (bt322.2.length:Int) 0)else(some t335))))))
def impl_compareTerms.j0:Nat→ByteArray→ByteArray→Int→Int→Bool→Option (Int)
 | 0,_,_,_,_,_=>none
 | k + 1,x0,x1,x5,x6,x11=>if x11=true then(some 2)else(if x5=x6 then(if x5=1 then((impl_numOf.f x0).bind fun t341=>((impl_numOf.f x1).bind fun t342=>((cmp_Compare_int.f t341 t342).bind fun t343=>(some t343))))else(if x5=2 then(if 1≤(wrap64 ((x0.size:Int) - 1))then(if(wrap64 ((x0.size:Int) - 1))≤(x0.size:Int)then(if 1≤(wrap64 ((x1.size:Int) - 1))then(if(wrap64 ((x1.size:Int) - 1))≤(x1.size:Int)then((cmp_Compare_string.f (x0.extract 1 ((wrap64 ((x0.size:Int) - 1)):Int).toNat) (x1.extract 1 ((wrap64 ((x1.size:Int) - 1)):Int).toNat)).bind fun t344=>(some t344))else(none))else(none))else(none))else(none))else((impl_compareCons.f k x0 x1).bind fun t345=>(some t345))))else((cmp_Compare_int.f x5 x6).bind fun t346=>(some t346)))
def impl_compareTerms.f:Nat→ByteArray→ByteArray→Option (Int)
 | 0,_,_=>none
 | k + 1,a0,a1=>(impl_kindOf.f k a0).bind fun t339=>((impl_kindOf.f k a1).bind fun t340=>(if t339=0 then(impl_compareTerms.j0 k a0 a1 t339 t340 true)else(impl_compareTerms.j0 k a0 a1 t339 t340 (t340 == 0))))
end
abbrev impl_compareCons.Stm (k:Nat):Prop:=∀(a0:ByteArray) (a1:ByteArray) (r:Int) (w:World) (hT:Tb w) (h:impl_compareCons.f k a0 a1=some r),
  Calls Tryz.prog 100 #[.string a0,.string a1] w fun e w'=>e=.returned (.int .i64 r)∧Below w.heap.size w w'
abbrev impl_compareTerms.Stm (k:Nat):Prop:=∀(a0:ByteArray) (a1:ByteArray) (r:Int) (w:World) (hT:Tb w) (h:impl_compareTerms.f k a0 a1=some r),
  Calls Tryz.prog 74 #[.string a0,.string a1] w fun e w'=>e=.returned (.int .i64 r)∧Below w.heap.size w w'
set_option maxHeartbeats 8000000 in
set_option maxRecDepth 100000 in
theorem impl_compareCons.step (k:Nat) (ih:∀ m,m < k→impl_compareCons.Stm m) (ih_impl_compareTerms:∀ m,m < k→impl_compareTerms.Stm m):impl_compareCons.Stm k:=by
 intro a0 a1 r w hT h
 cases k with
 | zero=>exact absurd h (by simp [impl_compareCons.f])
 | succ k =>
 simp only [impl_compareCons.f]at h
 have HT:=y0.mk hT
 clear hT
 have HB:=y0.mk (Below.refl w.heap.size w)
 have H:((z0_.f k a0).bind fun Am=>((z0_.f k a1).bind fun Au=>((cmp_Compare_string.f Am.1 Au.1).bind fun Aj=>((cmp_Compare_int.f (Am.2.length:Int) (Au.2.length:Int)).bind fun Ak=>((cmp_Or_int.f k (([Aj,Ak]:List Int))).bind fun Ae=>(if Ae=0 then(impl_compareCons.l0 k Au.2 Am.2 (Am.2.length:Int) 0)else(some Ae)))))))=some r:=h
 clear h
 obtain⟨⟨Ap,Ac⟩,A3,H⟩:=qB H
 dsimp only at H
 obtain⟨⟨Aq,Ad⟩,A4,H⟩:=qB H
 dsimp only at H
 obtain⟨Aj,A5,H⟩:=qB H
 obtain⟨Ak,A6,H⟩:=qB H
 obtain⟨Av,Ai⟩:∃ y_:List Int,y_=(([Aj,Ak]:List Int)):=⟨_,rfl⟩
 replace H:((cmp_Or_int.f k Av).bind fun Ae=>(if Ae=0 then(impl_compareCons.l0 k Ad Ac (Ac.length:Int) 0)else(some Ae)))=some r:=by first|(rw [Ai];with_reducible exact H)|(have H2_:=(Option.bind_some _ _).symm.trans H;rw [Ai];with_reducible exact H2_)|(have H2_:=(Option.bind_some _ _).symm.trans H;with_reducible exact H2_)|with_reducible exact H|(rw [Ai];exact H)|exact H
 have Ao:=y0.mk Ai
 clear Ai
 obtain⟨Ae,A7,H⟩:=qB H
 by_cases c8:Ae=0
 ·rw [if_pos c8]at H
  have Be:(Ae == 0)=true:=beq_iff_eq.mpr c8
  have Bf:(Ae != 0)=false:=bne_eq_false_iff_eq.mpr c8
  clear c8
  have H':=y0.mk H
  clear H
  go_enter Tryz.func100,Tryz.ntmps100
  go_wp2_with (first|((with_reducible refine y16 (f:=125) rfl ?_);refine y18 (some 15) rfl rfl Tryz.func125 (by kernel_rfl) rfl #[.string a0] rfl qy0 ?_;(with_reducible refine(z0_.calls k a0 Ap Ac _ (by exact Tb.below HT.out qb) A3.out).mono ?_);rintro e w9 ⟨Bq,rfl,As,hb⟩;refine⟨_,rfl, ?_⟩;have Ab:=y0.mk (Kd.R_lower As (y7 qb));replace HB:=y0.mk (y8 qb hb);(try clear hb);(try clear As))|((with_reducible refine y16 (f:=125) rfl ?_);refine y18 (some 20) rfl rfl Tryz.func125 (by kernel_rfl) rfl #[.string a1] rfl qy0 ?_;(with_reducible refine(z0_.calls k a1 Aq Ad _ (by exact Tb.below HT.out qb) A4.out).mono ?_);rintro e Cu ⟨Br,rfl,As,hb⟩;refine⟨_,rfl, ?_⟩;have Af:=y0.mk (Kd.R_lower (Kd.R_new' As (Kd.R_lt (qR Ab.out))) (y7 qb));replace Ab:=y0.mk (Kd.R_elder' (qR Ab.out) (Kd.R_base As) hb);replace HB:=y0.mk (y8 qb hb);(try clear hb);(try clear As))|((with_reducible refine y16 (f:=99) rfl ?_);refine y18 (some 25) rfl rfl Tryz.func99 (by kernel_rfl) rfl #[.string Ap,.string Aq] rfl qy0 ?_;(with_reducible refine(cmp_Compare_string.calls Ap Aq Aj _ A5.out).mono ?_);rintro e w' ⟨rfl,⟨nd,rfl⟩⟩;refine⟨_,rfl, ?_⟩;obtain⟨Bg,Bh,Bs⟩:=Kd.R_slice Ab.out;subst Bs;obtain⟨Bi,Bj,Bt⟩:=Kd.R_slice Af.out;subst Bt)|((with_reducible refine y16 (f:=97) rfl ?_);refine y18 (some 30) rfl rfl Tryz.func97 (by kernel_rfl) rfl #[.int .i64 (Ac.length:Int),.int .i64 (Ad.length:Int)] rfl qy0 ?_;(with_reducible refine(cmp_Compare_int.calls (Ac.length:Int) (Ad.length:Int) Ak _ A6.out).mono ?_);rintro e w' ⟨rfl,⟨nd,rfl⟩⟩;refine⟨_,rfl, ?_⟩)|((with_reducible refine y17 (N:=31) rfl ?_);refine qL (Kd.int .i64) 3 31 ([Aj,Ak]:List Int) ?_;intro Bu Cv Aw hb hg_ hnew_;clear hg_ hnew_;(first|rw [← Ao.out]at Aw|(simp only [Int.reduceToNat]at Aw;rw [← Ao.out]at Aw));replace Ab:=y0.mk (Kd.R_below (qR Ab.out) hb);replace Af:=y0.mk (Kd.R_below (qR Af.out) hb);have Ag:=y0.mk (Kd.R_lower Aw (y7 qb));replace HB:=y0.mk (y8 qb hb);clear hb Aw;obtain⟨Bv,Bw,Bx⟩:=Kd.R_slice Ag.out;subst Bx)|((with_reducible refine y16 (f:=126) rfl ?_);refine y18 (some 32) rfl rfl Tryz.func126 (by kernel_rfl) rfl #[.slice Bv Av.length Bw] rfl qy0 ?_;(with_reducible refine(cmp_Or_int.calls k _ _ Av Ae _ (qc ((Kd.R_reads' Ag.out).2.2)) (by exact(Kd.R_reads' Ag.out).2.1) A7.out).mono ?_);rintro e w' ⟨rfl,⟨nd,rfl⟩⟩;refine⟨_,rfl, ?_⟩))
  go_loopg [38] k (fun kq Cp w'=>∃(Aa:Int),Cp=.int .i64 Aa∧y0 (impl_compareCons.l0 kq Ad Ac (Ac.length:Int) Aa=some r)∧y0 (kq≤k)∧y0 (Kd.R Kd.string 9 w' w.heap.size (fun k_=>some k_≠((.slice Bg Ac.length Bh):Value).ownBlock) (.slice Bi Ad.length Bj) Ad)∧y0 (Kd.R Kd.string 9 w' w.heap.size (fun k_=>some k_≠((.slice Bi Ad.length Bj):Value).ownBlock) (.slice Bg Ac.length Bh) Ac)∧y0 (Below w.heap.size w w'))
  case atStart=>exact⟨(0),qy2,H',⟨Nat.le_refl _⟩,⟨qR (Kd.R_mono Af.out (fun _ hk=>hk.2))⟩,⟨qR (Kd.R_mono Ab.out (fun _ hk=>hk.2))⟩,⟨qb⟩⟩
  case round =>
   clear H'
   (try clear Be Bf)
   obtain⟨Aa,rfl,HA,Bn,At,Ah,HB⟩:=hrel
   cases gk with
   | zero=>exact absurd HA.out (by simp [impl_compareCons.l0])
   | succ k1 =>
    have H:=HA.out
    clear HA
    simp only [impl_compareCons.l0]at H
    by_cases Bd:Aa < (Ac.length:Int)
    ·rw [if_pos Bd]at H
     have Bk:=decide_eq_true Bd
     clear Bd
     obtain⟨Cg,H⟩:=qo H
     have Ch:decide (0≤Aa)=true:=decide_eq_true Cg
     clear Cg
     obtain⟨Ci,H⟩:=qo H
     have Cj:decide (Aa < (Ac.length:Int))=true:=decide_eq_true Ci
     clear Ci
     obtain⟨Ck,H⟩:=qo H
     have Cl:decide (Aa < (Ad.length:Int))=true:=decide_eq_true Ck
     clear Ck
     obtain⟨Al,Cm,H⟩:=qB H
     have Ay:0≤(Aa:Int):=of_decide_eq_true qy1
     have Az:Aa < (Ac.length:Int):=of_decide_eq_true qy1
     obtain⟨Cn,Bz,Bo⟩:=Kd.at_string (Kd.R_reads' Ah.out).2.2 Aa Ay Az
     cases Bz
     replace Ay:=eq_true Ay
     replace Az:=eq_true Az
     have Ba:0≤(Aa:Int):=of_decide_eq_true qy1
     have Bb:Aa < (Ad.length:Int):=of_decide_eq_true qy1
     obtain⟨Co,Ca,Bp⟩:=Kd.at_string (Kd.R_reads' At.out).2.2 Aa Ba Bb
     cases Ca
     replace Ba:=eq_true Ba
     replace Bb:=eq_true Bb
     by_cases Bc:Al=0
     ·rw [if_pos Bc]at H
      have Bl:(Al == 0)=true:=beq_iff_eq.mpr Bc
      have Bm:(Al != 0)=false:=bne_eq_false_iff_eq.mpr Bc
      clear Bc
      have H':=y0.mk H
      clear H
      go_wp2_with (first|((with_reducible refine y16 (f:=74) rfl ?_);refine y18 (some 48) rfl rfl Tryz.func74 (by kernel_rfl) rfl #[.string (rdOf ByteArray.empty Ac Aa),.string (rdOf ByteArray.empty Ad Aa)] rfl qy0 ?_;(with_reducible refine(ih_impl_compareTerms k1 (by have:=Bn.out;omega) (rdOf ByteArray.empty Ac Aa) (rdOf ByteArray.empty Ad Aa) Al _ (by exact Tb.below HT.out qb) Cm.out).mono ?_);rintro e Cw ⟨rfl,hb⟩;refine⟨_,rfl, ?_⟩;replace At:=y0.mk (Kd.R_below (qR At.out) hb);replace Ah:=y0.mk (Kd.R_below (qR Ah.out) hb);replace HB:=y0.mk (y8 qb hb);(try clear hb)))
      go_roundg k1
      case measure=>have:=Bn.out;omega
      exact⟨(wrap64 (Aa + 1)),qy2,H',⟨by have:=Bn.out;omega⟩,⟨qR At.out⟩,⟨qR Ah.out⟩,⟨qb⟩⟩
     ·rw [if_neg Bc]at H
      have Bl:(Al == 0)=false:=beq_eq_false_iff_ne.mpr Bc
      have Bm:(Al != 0)=true:=bne_iff_ne.mpr Bc
      obtain rfl:=Option.some.inj H
      go_wp2_with (first|((with_reducible refine y16 (f:=74) rfl ?_);refine y18 (some 48) rfl rfl Tryz.func74 (by kernel_rfl) rfl #[.string (rdOf ByteArray.empty Ac Aa),.string (rdOf ByteArray.empty Ad Aa)] rfl qy0 ?_;(with_reducible refine(ih_impl_compareTerms k1 (by have:=Bn.out;omega) (rdOf ByteArray.empty Ac Aa) (rdOf ByteArray.empty Ad Aa) Al _ (by exact Tb.below HT.out qb) Cm.out).mono ?_);rintro e Cx ⟨rfl,hb⟩;refine⟨_,rfl, ?_⟩;replace At:=y0.mk (Kd.R_below (qR At.out) hb);replace Ah:=y0.mk (Kd.R_below (qR Ah.out) hb);replace HB:=y0.mk (y8 qb hb);(try clear hb)))
      go_ret
      exact⟨qf,qb⟩
    ·rw [if_neg Bd]at H
     have Bk:=decide_eq_false Bd
     clear Bd
     obtain rfl:=Option.some.inj H
     go_wp2
     go_ret
     exact⟨qf,qb⟩
 ·rw [if_neg c8]at H
  have Be:(Ae == 0)=false:=beq_eq_false_iff_ne.mpr c8
  have Bf:(Ae != 0)=true:=bne_iff_ne.mpr c8
  obtain rfl:=Option.some.inj H
  go_enter Tryz.func100,Tryz.ntmps100
  go_wp2_with (first|((with_reducible refine y16 (f:=125) rfl ?_);refine y18 (some 15) rfl rfl Tryz.func125 (by kernel_rfl) rfl #[.string a0] rfl qy0 ?_;(with_reducible refine(z0_.calls k a0 Ap Ac _ (by exact Tb.below HT.out qb) A3.out).mono ?_);rintro e Cy ⟨Bq,rfl,As,hb⟩;refine⟨_,rfl, ?_⟩;have Ab:=y0.mk (Kd.R_lower As (y7 qb));replace HB:=y0.mk (y8 qb hb);(try clear hb);(try clear As))|((with_reducible refine y16 (f:=125) rfl ?_);refine y18 (some 20) rfl rfl Tryz.func125 (by kernel_rfl) rfl #[.string a1] rfl qy0 ?_;(with_reducible refine(z0_.calls k a1 Aq Ad _ (by exact Tb.below HT.out qb) A4.out).mono ?_);rintro e Cz ⟨Br,rfl,As,hb⟩;refine⟨_,rfl, ?_⟩;have Af:=y0.mk (Kd.R_lower (Kd.R_new' As (Kd.R_lt (qR Ab.out))) (y7 qb));replace Ab:=y0.mk (Kd.R_elder' (qR Ab.out) (Kd.R_base As) hb);replace HB:=y0.mk (y8 qb hb);(try clear hb);(try clear As))|((with_reducible refine y16 (f:=99) rfl ?_);refine y18 (some 25) rfl rfl Tryz.func99 (by kernel_rfl) rfl #[.string Ap,.string Aq] rfl qy0 ?_;(with_reducible refine(cmp_Compare_string.calls Ap Aq Aj _ A5.out).mono ?_);rintro e w' ⟨rfl,⟨nd,rfl⟩⟩;refine⟨_,rfl, ?_⟩;obtain⟨Cq,Cr,Cb⟩:=Kd.R_slice Ab.out;subst Cb;obtain⟨Cs,Ct,Cc⟩:=Kd.R_slice Af.out;subst Cc)|((with_reducible refine y16 (f:=97) rfl ?_);refine y18 (some 30) rfl rfl Tryz.func97 (by kernel_rfl) rfl #[.int .i64 (Ac.length:Int),.int .i64 (Ad.length:Int)] rfl qy0 ?_;(with_reducible refine(cmp_Compare_int.calls (Ac.length:Int) (Ad.length:Int) Ak _ A6.out).mono ?_);rintro e w' ⟨rfl,⟨nd,rfl⟩⟩;refine⟨_,rfl, ?_⟩)|((with_reducible refine y17 (N:=31) rfl ?_);refine qL (Kd.int .i64) 3 31 ([Aj,Ak]:List Int) ?_;intro Bu Da Ax hb hg_ hnew_;clear hg_ hnew_;(first|rw [← Ao.out]at Ax|(simp only [Int.reduceToNat]at Ax;rw [← Ao.out]at Ax));replace Ab:=y0.mk (Kd.R_below (qR Ab.out) hb);replace Af:=y0.mk (Kd.R_below (qR Af.out) hb);have Ag:=y0.mk (Kd.R_lower Ax (y7 qb));replace HB:=y0.mk (y8 qb hb);clear hb Ax;obtain⟨Cd,Ce,Cf⟩:=Kd.R_slice Ag.out;subst Cf)|((with_reducible refine y16 (f:=126) rfl ?_);refine y18 (some 32) rfl rfl Tryz.func126 (by kernel_rfl) rfl #[.slice Cd Av.length Ce] rfl qy0 ?_;(with_reducible refine(cmp_Or_int.calls k _ _ Av Ae _ (qc ((Kd.R_reads' Ag.out).2.2)) (by exact(Kd.R_reads' Ag.out).2.1) A7.out).mono ?_);rintro e w' ⟨rfl,⟨nd,rfl⟩⟩;refine⟨_,rfl, ?_⟩))
  go_ret
  exact⟨qf,qb⟩
set_option maxHeartbeats 8000000 in
set_option maxRecDepth 100000 in
theorem impl_compareTerms.step (k:Nat) (ih_impl_compareCons:∀ m,m < k→impl_compareCons.Stm m) (ih:∀ m,m < k→impl_compareTerms.Stm m):impl_compareTerms.Stm k:=by
 intro a0 a1 r w hT h
 cases k with
 | zero=>exact absurd h (by simp [impl_compareTerms.f])
 | succ k =>
 simp only [impl_compareTerms.f]at h
 have HT:=y0.mk hT
 clear hT
 have HB:=y0.mk (Below.refl w.heap.size w)
 have H:((impl_kindOf.f k a0).bind fun Aa=>((impl_kindOf.f k a1).bind fun Ab=>(if Aa=0 then(impl_compareTerms.j0 k a0 a1 Aa Ab true)else(impl_compareTerms.j0 k a0 a1 Aa Ab (Ab == 0)))))=some r:=h
 clear h
 obtain⟨Aa,A3,H⟩:=qB H
 obtain⟨Ab,A4,H⟩:=qB H
 have Av:=y0.mk H
 clear H
 go_enter Tryz.func74,Tryz.ntmps74
 go_upto_region 2 with(first|(go_at_call 72;(with_reducible refine(impl_kindOf.calls k a0 Aa _ (by exact Tb.below HT.out qb) A3.out).mono ?_);rintro e w6 ⟨rfl,hb⟩;replace HB:=y0.mk (y8 qb hb);(try clear hb))|(go_at_call 72;(with_reducible refine(impl_kindOf.calls k a1 Ab _ (by exact Tb.below HT.out qb) A4.out).mono ?_);rintro e w7 ⟨rfl,hb⟩;replace HB:=y0.mk (y8 qb hb);(try clear hb)))
 repeat(go_quiet (first|(go_at_call 72;(with_reducible refine(impl_kindOf.calls k a0 Aa _ (by exact Tb.below HT.out qb) A3.out).mono ?_);rintro e w6 ⟨rfl,hb⟩;replace HB:=y0.mk (y8 qb hb);(try clear hb))|(go_at_call 72;(with_reducible refine(impl_kindOf.calls k a1 Ab _ (by exact Tb.below HT.out qb) A4.out).mono ?_);rintro e w7 ⟨rfl,hb⟩;replace HB:=y0.mk (y8 qb hb);(try clear hb)));go_upto_region 2 with(first|(go_at_call 72;(with_reducible refine(impl_kindOf.calls k a0 Aa _ (by exact Tb.below HT.out qb) A3.out).mono ?_);rintro e w6 ⟨rfl,hb⟩;replace HB:=y0.mk (y8 qb hb);(try clear hb))|(go_at_call 72;(with_reducible refine(impl_kindOf.calls k a1 Ab _ (by exact Tb.below HT.out qb) A4.out).mono ?_);rintro e w7 ⟨rfl,hb⟩;replace HB:=y0.mk (y8 qb hb);(try clear hb))))
 (try simp only [Act.put,qS_,qZ_,qC_])
 go_cut [11] (fun Bu wc=>∃(kq:Nat) (Ac:Bool),Bu=.bool Ac∧y0 (impl_compareTerms.j0 kq a0 a1 Aa Ab Ac=some r)∧y0 (kq≤k)∧y0 (Below w.heap.size w wc))
 case first =>
  have H:=Av.out
  clear Av
  by_cases c8:Aa=0
  ·rw [if_pos c8]at H
   have Af:(Aa == 0)=true:=beq_iff_eq.mpr c8
   have Aw:(Aa != 0)=false:=bne_eq_false_iff_eq.mpr c8
   clear c8
   (first|rw [Af]|(simp only [i64_w,i32_w];rw [Af])|skip)
   have H':=y0.mk H
   clear H
   go_wp2
   repeat(go_quiet (fail);try go_wp2)
   go_meet
   exact⟨_,(true),qy2,H',⟨by first|omega|exact Nat.le_refl _⟩,⟨qb⟩⟩
  ·rw [if_neg c8]at H
   have Af:(Aa == 0)=false:=beq_eq_false_iff_ne.mpr c8
   have Aw:(Aa != 0)=true:=bne_iff_ne.mpr c8
   (first|rw [Af]|(simp only [i64_w,i32_w];rw [Af])|skip)
   have H':=y0.mk H
   clear H
   go_wp2
   repeat(go_quiet (fail);try go_wp2)
   go_meet
   exact⟨_,((Ab == 0)),qy2,H',⟨by first|omega|exact Nat.le_refl _⟩,⟨qb⟩⟩
 case rest =>
  clear Av
  obtain⟨kq,Ac,rfl,HA,Ax,HB⟩:=hcut
  cases kq with
  | zero=>exact absurd HA.out (by simp [impl_compareTerms.j0])
  | succ Ay =>
   have H:=HA.out
   clear HA
   simp only [impl_compareTerms.j0]at H
   by_cases c9:Ac=true
   ·subst c9
    replace H:=qT H
    obtain rfl:=Option.some.inj H
    go_wp2
    repeat(go_quiet (fail);try go_wp2)
    go_ret
    exact⟨qf,qb⟩
   ·replace c9:=Bool.eq_false_iff.mpr c9
    subst c9
    replace H:=qF H
    by_cases Ag:Aa=Ab
    ·rw [if_pos Ag]at H
     have Ao:(Aa == Ab)=true:=beq_iff_eq.mpr Ag
     have Ap:(Aa != Ab)=false:=bne_eq_false_iff_eq.mpr Ag
     clear Ag
     by_cases Ah:Aa=1
     ·rw [if_pos Ah]at H
      have Aq:(Aa == 1)=true:=beq_iff_eq.mpr Ah
      have As:(Aa != 1)=false:=bne_eq_false_iff_eq.mpr Ah
      clear Ah
      obtain⟨Ad,Az,H⟩:=qB H
      obtain⟨Ae,Ba,H⟩:=qB H
      obtain⟨Ai,Bb,H⟩:=qB H
      obtain rfl:=Option.some.inj H
      go_wp2_with (first|(go_at_call 98;(with_reducible refine(impl_numOf.calls a0 Ad _ (by exact Tb.below HT.out qb) Az.out).mono ?_);rintro e Bj ⟨rfl,hb⟩;replace HB:=y0.mk (y8 qb hb);(try clear hb))|(go_at_call 98;(with_reducible refine(impl_numOf.calls a1 Ae _ (by exact Tb.below HT.out qb) Ba.out).mono ?_);rintro e Bk ⟨rfl,hb⟩;replace HB:=y0.mk (y8 qb hb);(try clear hb))|(go_at_call 97;(with_reducible refine(cmp_Compare_int.calls Ad Ae Ai _ Bb.out).mono ?_);rintro e w' ⟨rfl,⟨nd,rfl⟩⟩;(try first|exact⟨rfl,_,World.drewN_drewN _ _ _⟩|exact⟨rfl,_,Eq.trans (World.drewN_drewN _ _ _) (congrArg (World.drewN _) (Nat.add_assoc _ _ _))⟩)))
      repeat(go_quiet (first|(go_at_call 98;(with_reducible refine(impl_numOf.calls a0 Ad _ (by exact Tb.below HT.out qb) Az.out).mono ?_);rintro e Bj ⟨rfl,hb⟩;replace HB:=y0.mk (y8 qb hb);(try clear hb))|(go_at_call 98;(with_reducible refine(impl_numOf.calls a1 Ae _ (by exact Tb.below HT.out qb) Ba.out).mono ?_);rintro e Bk ⟨rfl,hb⟩;replace HB:=y0.mk (y8 qb hb);(try clear hb))|(go_at_call 97;(with_reducible refine(cmp_Compare_int.calls Ad Ae Ai _ Bb.out).mono ?_);rintro e w' ⟨rfl,⟨nd,rfl⟩⟩;(try first|exact⟨rfl,_,World.drewN_drewN _ _ _⟩|exact⟨rfl,_,Eq.trans (World.drewN_drewN _ _ _) (congrArg (World.drewN _) (Nat.add_assoc _ _ _))⟩)));try go_wp2_with (first|(go_at_call 98;(with_reducible refine(impl_numOf.calls a0 Ad _ (by exact Tb.below HT.out qb) Az.out).mono ?_);rintro e Bj ⟨rfl,hb⟩;replace HB:=y0.mk (y8 qb hb);(try clear hb))|(go_at_call 98;(with_reducible refine(impl_numOf.calls a1 Ae _ (by exact Tb.below HT.out qb) Ba.out).mono ?_);rintro e Bk ⟨rfl,hb⟩;replace HB:=y0.mk (y8 qb hb);(try clear hb))|(go_at_call 97;(with_reducible refine(cmp_Compare_int.calls Ad Ae Ai _ Bb.out).mono ?_);rintro e w' ⟨rfl,⟨nd,rfl⟩⟩;(try first|exact⟨rfl,_,World.drewN_drewN _ _ _⟩|exact⟨rfl,_,Eq.trans (World.drewN_drewN _ _ _) (congrArg (World.drewN _) (Nat.add_assoc _ _ _))⟩))))
      go_ret
      exact⟨qf,qb⟩
     ·rw [if_neg Ah]at H
      have Aq:(Aa == 1)=false:=beq_eq_false_iff_ne.mpr Ah
      have As:(Aa != 1)=true:=bne_iff_ne.mpr Ah
      by_cases Aj:Aa=2
      ·rw [if_pos Aj]at H
       have At:(Aa == 2)=true:=beq_iff_eq.mpr Aj
       have Au:(Aa != 2)=false:=bne_eq_false_iff_eq.mpr Aj
       clear Aj
       obtain⟨Bc,H⟩:=qo H
       have Bl:=eq_true Bc
       have Bm:=decide_eq_true Bc
       clear Bc
       obtain⟨Bd,H⟩:=qo H
       have Bn:=eq_true Bd
       have Bo:=decide_eq_true Bd
       clear Bd
       obtain⟨Be,H⟩:=qo H
       have Bp:=eq_true Be
       have Bq:=decide_eq_true Be
       clear Be
       obtain⟨Bf,H⟩:=qo H
       have Br:=eq_true Bf
       have Bs:=decide_eq_true Bf
       clear Bf
       obtain⟨Ak,Bg,H⟩:=qB H
       obtain rfl:=Option.some.inj H
       go_wp2_with (first|(go_at_call 99;(with_reducible refine(cmp_Compare_string.calls (a0.extract 1 ((wrap64 ((a0.size:Int) - 1)):Int).toNat) (a1.extract 1 ((wrap64 ((a1.size:Int) - 1)):Int).toNat) Ak _ Bg.out).mono ?_);rintro e w' ⟨rfl,⟨nd,rfl⟩⟩;(try first|exact⟨rfl,_,World.drewN_drewN _ _ _⟩|exact⟨rfl,_,Eq.trans (World.drewN_drewN _ _ _) (congrArg (World.drewN _) (Nat.add_assoc _ _ _))⟩)))
       repeat(go_quiet (first|(go_at_call 99;(with_reducible refine(cmp_Compare_string.calls (a0.extract 1 ((wrap64 ((a0.size:Int) - 1)):Int).toNat) (a1.extract 1 ((wrap64 ((a1.size:Int) - 1)):Int).toNat) Ak _ Bg.out).mono ?_);rintro e w' ⟨rfl,⟨nd,rfl⟩⟩;(try first|exact⟨rfl,_,World.drewN_drewN _ _ _⟩|exact⟨rfl,_,Eq.trans (World.drewN_drewN _ _ _) (congrArg (World.drewN _) (Nat.add_assoc _ _ _))⟩)));try go_wp2_with (first|(go_at_call 99;(with_reducible refine(cmp_Compare_string.calls (a0.extract 1 ((wrap64 ((a0.size:Int) - 1)):Int).toNat) (a1.extract 1 ((wrap64 ((a1.size:Int) - 1)):Int).toNat) Ak _ Bg.out).mono ?_);rintro e w' ⟨rfl,⟨nd,rfl⟩⟩;(try first|exact⟨rfl,_,World.drewN_drewN _ _ _⟩|exact⟨rfl,_,Eq.trans (World.drewN_drewN _ _ _) (congrArg (World.drewN _) (Nat.add_assoc _ _ _))⟩))))
       go_ret
       exact⟨qf,qb⟩
      ·rw [if_neg Aj]at H
       have At:(Aa == 2)=false:=beq_eq_false_iff_ne.mpr Aj
       have Au:(Aa != 2)=true:=bne_iff_ne.mpr Aj
       obtain⟨Al,Bh,H⟩:=qB H
       obtain rfl:=Option.some.inj H
       go_wp2_with (first|(go_at_call 100;(with_reducible refine(ih_impl_compareCons Ay (by have:=Ax.out;omega) a0 a1 Al _ (by exact Tb.below HT.out qb) Bh.out).mono ?_);rintro e Bt ⟨rfl,hb⟩;replace HB:=y0.mk (y8 qb hb);(try clear hb)))
       repeat(go_quiet (first|(go_at_call 100;(with_reducible refine(ih_impl_compareCons Ay (by have:=Ax.out;omega) a0 a1 Al _ (by exact Tb.below HT.out qb) Bh.out).mono ?_);rintro e Bt ⟨rfl,hb⟩;replace HB:=y0.mk (y8 qb hb);(try clear hb)));try go_wp2_with (first|(go_at_call 100;(with_reducible refine(ih_impl_compareCons Ay (by have:=Ax.out;omega) a0 a1 Al _ (by exact Tb.below HT.out qb) Bh.out).mono ?_);rintro e Bt ⟨rfl,hb⟩;replace HB:=y0.mk (y8 qb hb);(try clear hb))))
       go_ret
       exact⟨qf,qb⟩
    ·rw [if_neg Ag]at H
     have Ao:(Aa == Ab)=false:=beq_eq_false_iff_ne.mpr Ag
     have Ap:(Aa != Ab)=true:=bne_iff_ne.mpr Ag
     obtain⟨Am,Bi,H⟩:=qB H
     obtain rfl:=Option.some.inj H
     go_wp2_with (first|(go_at_call 97;(with_reducible refine(cmp_Compare_int.calls Aa Ab Am _ Bi.out).mono ?_);rintro e w' ⟨rfl,⟨nd,rfl⟩⟩;(try first|exact⟨rfl,_,World.drewN_drewN _ _ _⟩|exact⟨rfl,_,Eq.trans (World.drewN_drewN _ _ _) (congrArg (World.drewN _) (Nat.add_assoc _ _ _))⟩)))
     repeat(go_quiet (first|(go_at_call 97;(with_reducible refine(cmp_Compare_int.calls Aa Ab Am _ Bi.out).mono ?_);rintro e w' ⟨rfl,⟨nd,rfl⟩⟩;(try first|exact⟨rfl,_,World.drewN_drewN _ _ _⟩|exact⟨rfl,_,Eq.trans (World.drewN_drewN _ _ _) (congrArg (World.drewN _) (Nat.add_assoc _ _ _))⟩)));try go_wp2_with (first|(go_at_call 97;(with_reducible refine(cmp_Compare_int.calls Aa Ab Am _ Bi.out).mono ?_);rintro e w' ⟨rfl,⟨nd,rfl⟩⟩;(try first|exact⟨rfl,_,World.drewN_drewN _ _ _⟩|exact⟨rfl,_,Eq.trans (World.drewN_drewN _ _ _) (congrArg (World.drewN _) (Nat.add_assoc _ _ _))⟩))))
     go_ret
     exact⟨qf,qb⟩
theorem impl_compareCons.all.Stm:∀ k,impl_compareCons.Stm k∧impl_compareTerms.Stm k:=by
 intro k
 induction k using Nat.strongRecOn with
 | _ k ih =>
 exact⟨impl_compareCons.step k (fun m h=>(ih m h).1) (fun m h=>(ih m h).2),impl_compareTerms.step k (fun m h=>(ih m h).1) (fun m h=>(ih m h).2)⟩
theorem impl_compareTerms.calls (k:Nat):∀(a0:ByteArray) (a1:ByteArray) (r:Int) (w:World) (hT:Tb w) (h:impl_compareTerms.f k a0 a1=some r),
  Calls Tryz.prog 74 #[.string a0,.string a1] w fun e w'=>e=.returned (.int .i64 r)∧Below w.heap.size w w':=(impl_compareCons.all.Stm k).2
def z1_.l0:Nat→List ByteArray→List ByteArray→List ByteArray→Int→Int→Option (Int)
 | 0,_,_,_,_,_=>none
 | k + 1,x0,x1,x11,x12,x13=>if x13 < x12 then(if 0≤x13 then(if x13 < (x11.length:Int)then(if x13≥(x1.length:Int)then(some 1)else(if x13 < (x1.length:Int)then((impl_compareTerms.f k (rdOf ByteArray.empty x11 x13) (rdOf ByteArray.empty x1 x13)).bind fun t349=>(if t349=0 then(z1_.l0 k x0 x1 x11 x12 (wrap64 (x13 + 1)))else(some t349)))else(none)))else(none))else(none))else(if(x0.length:Int) < (x1.length:Int)then(some (-1))else(some 0))
def z1_.f (k:Nat) (l0:List ByteArray) (l1:List ByteArray) :Option (Int):=z1_.l0 k l0 l1 l0 (l0.length:Int) 0
set_option maxHeartbeats 8000000 in
set_option maxRecDepth 100000 in
theorem z1_.calls (k:Nat) (A0:Option Addr) (c0:Nat) (l0:List ByteArray) (A1:Option Addr) (c1:Nat) (l1:List ByteArray)  (r:Int) (w:World) (Av:Kd.C Kd.string w A0 l0.length l0) (Aw:l0.length≤c0) (Ax:Kd.C Kd.string w A1 l1.length l1) (Ay:l1.length≤c1) (hT:Tb w) (h:z1_.f k l0 l1=some r) :
  Calls Tryz.prog 73 #[.slice A0 l0.length c0,.slice A1 l1.length c1,.func (.func 74) #[] #[]] w fun e w'=>e=.returned (.int .i64 r)∧Below w.heap.size w w':=by
 have HT:=y0.mk hT
 clear hT
 have Az:=y0.mk Av
 have Bh:=y0.mk Aw
 clear Av Aw
 have Bc:=y0.mk Ax
 have Bi:=y0.mk Ay
 clear Ax Ay
 have HB:=y0.mk (Below.refl w.heap.size w)
 have H:(z1_.l0 k l0 l1 l0 (l0.length:Int) 0)=some r:=h
 clear h
 have H':=y0.mk H
 clear H
 go_enter Tryz.func73,Tryz.ntmps73
 go_wp2
 go_loopg [13] k (fun kq Bd w'=>∃(Aa:Int),Bd=.int .i64 Aa∧y0 (z1_.l0 kq l0 l1 l0 (l0.length:Int) Aa=some r)∧y0 (kq≤k)∧y0 (Below w.heap.size w w'))
 case atStart=>exact⟨(0),qy2,H',⟨Nat.le_refl _⟩,⟨qb⟩⟩
 case round =>
  clear H'
  obtain⟨Aa,rfl,HA,Ba,HB⟩:=hrel
  cases gk with
  | zero=>exact absurd HA.out (by simp [z1_.l0])
  | succ k1 =>
   have H:=HA.out
   clear HA
   simp only [z1_.l0]at H
   by_cases c4:Aa < (l0.length:Int)
   ·rw [if_pos c4]at H
    have As:=decide_eq_true c4
    clear c4
    obtain⟨c5,H⟩:=qo H
    have Be:decide (0≤Aa)=true:=decide_eq_true c5
    clear c5
    obtain⟨c6,H⟩:=qo H
    have Bf:decide (Aa < (l0.length:Int))=true:=decide_eq_true c6
    clear c6
    by_cases c7:Aa≥(l1.length:Int)
    ·rw [if_pos c7]at H
     have At:decide ((l1.length:Int)≤Aa)=true:=decide_eq_true c7
     clear c7
     obtain rfl:=Option.some.inj H
     have Ad:0≤(Aa:Int):=of_decide_eq_true qy1
     have Ae:Aa < (l0.length:Int):=of_decide_eq_true qy1
     obtain⟨Al,Ah,Ab⟩:=Kd.at_string Az.out Aa Ad Ae
     cases Ah
     replace Ab:=(HB.out.cell (World.block_lt_of_cell? w _ Ab)).trans Ab
     replace Ad:=eq_true Ad
     replace Ae:=eq_true Ae
     go_wp2
     go_ret
     exact⟨qf,qb⟩
    ·rw [if_neg c7]at H
     have At:decide ((l1.length:Int)≤Aa)=false:=decide_eq_false c7
     clear c7
     obtain⟨c8,H⟩:=qo H
     have Bg:decide (Aa < (l1.length:Int))=true:=decide_eq_true c8
     clear c8
     obtain⟨Af,A9,H⟩:=qB H
     have Ad:0≤(Aa:Int):=of_decide_eq_true qy1
     have Ae:Aa < (l0.length:Int):=of_decide_eq_true qy1
     obtain⟨Al,Ah,Ab⟩:=Kd.at_string Az.out Aa Ad Ae
     cases Ah
     replace Ab:=(HB.out.cell (World.block_lt_of_cell? w _ Ab)).trans Ab
     replace Ad:=eq_true Ad
     replace Ae:=eq_true Ae
     have Ai:0≤(Aa:Int):=of_decide_eq_true qy1
     have Aj:Aa < (l1.length:Int):=of_decide_eq_true qy1
     obtain⟨Bb,Au,Ac⟩:=Kd.at_string Bc.out Aa Ai Aj
     cases Au
     replace Ac:=(HB.out.cell (World.block_lt_of_cell? w _ Ac)).trans Ac
     replace Ai:=eq_true Ai
     replace Aj:=eq_true Aj
     by_cases Ak:Af=0
     ·rw [if_pos Ak]at H
      have Am:(Af == 0)=true:=beq_iff_eq.mpr Ak
      have Ao:(Af != 0)=false:=bne_eq_false_iff_eq.mpr Ak
      clear Ak
      have H':=y0.mk H
      clear H
      go_wp2_with (first|(go_at_call 74;(with_reducible refine(impl_compareTerms.calls k1 (rdOf ByteArray.empty l0 Aa) (rdOf ByteArray.empty l1 Aa) Af _ (by exact Tb.below HT.out qb) A9.out).mono ?_);rintro e Bj ⟨rfl,hb⟩;replace HB:=y0.mk (y8 qb hb);(try clear hb)))
      go_roundg k1
      case measure=>have:=Ba.out;omega
      exact⟨(wrap64 (Aa + 1)),qy2,H',⟨by have:=Ba.out;omega⟩,⟨qb⟩⟩
     ·rw [if_neg Ak]at H
      have Am:(Af == 0)=false:=beq_eq_false_iff_ne.mpr Ak
      have Ao:(Af != 0)=true:=bne_iff_ne.mpr Ak
      obtain rfl:=Option.some.inj H
      go_wp2_with (first|(go_at_call 74;(with_reducible refine(impl_compareTerms.calls k1 (rdOf ByteArray.empty l0 Aa) (rdOf ByteArray.empty l1 Aa) Af _ (by exact Tb.below HT.out qb) A9.out).mono ?_);rintro e Bk ⟨rfl,hb⟩;replace HB:=y0.mk (y8 qb hb);(try clear hb)))
      go_ret
      exact⟨qf,qb⟩
   ·rw [if_neg c4]at H
    have As:=decide_eq_false c4
    clear c4
    by_cases Ag:(l0.length:Int) < (l1.length:Int)
    ·rw [if_pos Ag]at H
     have Ap:=decide_eq_true Ag
     have Aq:decide (l0.length < l1.length)=true:=decide_eq_true (Int.ofNat_lt.mp Ag)
     clear Ag
     obtain rfl:=Option.some.inj H
     go_wp2
     go_ret
     exact⟨qf,qb⟩
    ·rw [if_neg Ag]at H
     have Ap:=decide_eq_false Ag
     have Aq:decide (l0.length < l1.length)=false:=decide_eq_false (fun h=>Ag (Int.ofNat_lt.mpr h))
     clear Ag
     obtain rfl:=Option.some.inj H
     go_wp2
     go_ret
     exact⟨qf,qb⟩
def impl_compareTuples.f (k:Nat) (l0_0:List ByteArray) (l1_0:List ByteArray):Option (Int):=(z1_.f k l0_0 l1_0).bind fun t352=>(some t352)
set_option maxHeartbeats 8000000 in
set_option maxRecDepth 100000 in
theorem impl_compareTuples.calls (k:Nat) (Ag:Option Addr) (Ah:Nat) (Ab:List ByteArray) (Ai:Option Addr) (Aj:Nat) (Ac:List ByteArray) (r:Int) (w:World) (Ak:Kd.C Kd.string w Ag Ab.length Ab) (Al:Ab.length≤Ah) (Am:Kd.C Kd.string w Ai Ac.length Ac) (Ao:Ac.length≤Aj) (hT:Tb w) (h:impl_compareTuples.f k Ab Ac=some r) :
  Calls Tryz.prog 44 #[.agg #[.slice Ag Ab.length Ah],.agg #[.slice Ai Ac.length Aj]] w fun e w'=>e=.returned (.int .i64 r)∧Below w.heap.size w w':=by
 have Bf:=Tryz.underlying36
 have HT:=y0.mk hT
 clear hT
 have Aq:=y0.mk Ak
 have As:=y0.mk Al
 clear Ak Al
 have At:=y0.mk Am
 have Au:=y0.mk Ao
 clear Am Ao
 have HB:=y0.mk (Below.refl w.heap.size w)
 have H:((z1_.f k Ab Ac).bind fun Ap=>(some Ap))=some r:=h
 clear h
 obtain⟨Ap,A3,H⟩:=qB H
 obtain rfl:=Option.some.inj H
 go_enter Tryz.func44,Tryz.ntmps44
 go_wp2_with (first|((with_reducible refine y17 (N:=2) rfl ?_);refine qe 2 #[.slice Ag Ab.length Ah] 36 ?_;intro Az hg w4 hbox hb;have Aa:=y0.mk (hbox);have Ba:=y0.mk (qg (w:=w) hg);have Bb:=y0.mk (qg (w:=w) hg);replace HB:=y0.mk (y8 qb hb);clear hb hbox hg)|((with_reducible refine y17 (N:=3) rfl ?_);refine qe 3 #[.slice Ai Ac.length Aj] 36 ?_;intro Bc hg w5 hbox hb;have Af:=y0.mk (hbox);have Bd:=y0.mk (qg (w:=w) hg);have Be:=y0.mk (qg (w:=w) hg);replace HB:=y0.mk (y8 qb hb);have Ad:=y0.mk (qn Aa.out hg);have Ae:=y0.mk (qm Aa.out hg);replace Aa:=y0.mk (qK Aa.out hb);clear hb hbox hg;have Bg:=Ad.out;have Bh:=Ae.out;obtain⟨Av,Aw⟩:=qz1 Aa.out;obtain⟨Ax,Ay⟩:=qz1 Af.out)|((with_reducible refine y16 (f:=73) rfl ?_);refine y18 (some 9) rfl rfl Tryz.func73 (by kernel_rfl) rfl #[.slice Ag Ab.length Ah,.slice Ai Ac.length Aj,.func (.func 74) #[] #[]] rfl qy0 ?_;(with_reducible refine(z1_.calls k _ _ Ab _ _ Ac  Ap _ (qc (Kd.C_below Aq.out HB.out)) As.out (qc (Kd.C_below At.out HB.out)) Au.out (by exact Tb.below HT.out qb) A3.out).mono ?_);rintro e w9 ⟨rfl,hb⟩;refine⟨_,rfl, ?_⟩;replace Aa:=y0.mk (qK Aa.out hb);replace Af:=y0.mk (qK Af.out hb);replace HB:=y0.mk (y8 qb hb);(try clear hb)))
 go_ret
 exact⟨qf,qb⟩
end Go.Proofs.YtkajecadkkgfmaaGreatDoor.Pn
end
section
namespace Go.Proofs.YtkajecadkkgfmaaGreatDoor.Pn
open Go.RowKit Go.Proofs.YtkajecadkkgfmaaGreatDoorW.PrintWords Go.Proofs.YtkajecadkkgfmaaGreatDoorW.PrintLast Go.Proofs.YtkajecadkkgfmaaGreatDoorW.PrintMore
attribute [local go_sem] max2_int min2_int max_two min_two max_three min_three max_four min_four   -- for this text's walks alone
set_option linter.unusedVariables false
set_option linter.unusedSimpArgs false
mutual
def impl_isRel.j0:Nat→Bool→Int→List (S36)→Option (Bool)
 | 0,_,_,_=>none
 | k + 1,x14,x354000,x354001=>if x14=true then(some false)else(impl_isRel.l0 k x354001 (x354001.length:Int) 0 x354000 x354001)
def impl_isRel.l0:Nat→List (S36)→Int→Int→Int→List (S36)→Option (Bool)
 | 0,_,_,_,_,_=>none
 | k + 1,x16,x17,x18,x354000,x354001=>if x18 < x17 then(if 0≤x18 then(if x18 < (x16.length:Int)then((impl_isTuple.f k ((y20 x16 x18).f0)).bind fun t357=>(if t357=true then(if(((y20 x16 x18).f0).length:Int)=x354000 then(if x18 > 0 then(if 0≤(wrap64 (x18 - 1))then(if(wrap64 (x18 - 1)) < (x354001.length:Int)then((impl_compareTuples.f k ((y20 x354001 (wrap64 (x18 - 1))).f0) ((y20 x16 x18).f0)).bind fun t359=>(if t359≥0 then(some false)else(impl_isRel.l0 k x16 x17 (wrap64 (x18 + 1)) x354000 x354001)))else(none))else(none))else(impl_isRel.l0 k x16 x17 (wrap64 (x18 + 1)) x354000 x354001))else(some false))else(some false)))else(none))else(none))else(some true)
end
def impl_isRel.f (k:Nat) (a0_0:Int) (l0_1:List (S36)):Option (Bool):=(impl_in.f a0_0 0 6).bind fun t354=>(if t354=true then(impl_isRel.j0 k (decide ((l0_1.length:Int) > 400)) a0_0 l0_1)else(impl_isRel.j0 k true a0_0 l0_1))
def impl_isRel.T6:Bool×List (List Nat×List Nat):=(true,[([],[]),([0],[0]),([1],[1]),([2,1],[2]),([3],[3]),([4,3],[3,4]),([5,3],[3,5]),([3],[3]),([7,3],[3,7]),([6,8,3],[3,6,8]),([3,9],[3,9]),([10,3],[10]),([11],[11]),([12,11],[11,12]),([13,11,11],[11,13]),([14],[14]),([15,14],[14,15]),([14],[14]),([17,14],[14,17]),([16,18,14],[14,16,18]),([19,14],[14,19]),([14],[14]),([20,21,14,14],[14,20,21]),([22,14],[14,22]),([14,23,11],[11,14,23]),([11,24],[11,24])])
def impl_isRel.B6:List Nat:=[0,1,3,7,15,31,63,15,143,511,1023,2047,4095,8191,16383,32767,65535,32767,163839,524287,1048575,32767,4194303,8388607,16777215,33554431]
theorem impl_isRel.tab6:rtab .any (opsOf Tryz.f40 6)=impl_isRel.T6:=by kernel_rfl
theorem impl_isRel.bits6:waitsOk impl_isRel.T6.2 impl_isRel.B6=true:=by kernel_rfl
set_option maxHeartbeats 8000000 in
set_option maxRecDepth 100000 in
theorem impl_isRel.calls (k:Nat) (Al:Int) (Bk:Option Addr) (Ay:Nat) (Ad:List (S36)) (r:Bool) (w:World) (Bn:Kd.C k36 w Bk Ad.length Ad) (Bo:Ad.length≤Ay) (hT:Tb w) (h:impl_isRel.f k Al Ad=some r) :
  Calls Tryz.prog 40 #[.agg #[.int .i64 Al,.slice Bk Ad.length Ay]] w fun e w'=>e=.returned (.bool r)∧Below w.heap.size w w':=by
 have Ed:=Tryz.underlying32
 have Ee:=Tryz.underlying36
 have HT:=y0.mk hT
 clear hT
 have Bb:=y0.mk Bn
 have Di:=y0.mk Bo
 clear Bn Bo
 have HB:=y0.mk (Below.refl w.heap.size w)
 have H:((impl_in.f Al 0 6).bind fun Bp=>(if Bp=true then(impl_isRel.j0 k (decide ((Ad.length:Int) > 400)) Al Ad)else(impl_isRel.j0 k true Al Ad)))=some r:=h
 clear h
 have Cx:=y0.mk H
 clear H
 go_enter Tryz.func40,Tryz.ntmps40
 go_upto_region 1 with(first|((with_reducible refine y17 (N:=1) rfl ?_);(try(refine gate_guard (by rfl) ?_;dsimp only));refine qe 1 #[.int .i64 Al,.slice Bk Ad.length Ay] 32 ?_;intro As hg w3 hbox hb;have Aa:=y0.mk (hbox);have Dj:=y0.mk (qg (w:=w) hg);have Dk:=y0.mk (qg (w:=w) hg);replace HB:=y0.mk (y8 qb hb);clear hb hbox hg))
 (try simp only [Act.put,qS_,qZ_,qC_])
 go_cut [14] (fun Ef wc=>∃(kq:Nat) (Bg:Bool),Ef=.bool Bg∧y0 (impl_isRel.j0 kq Bg Al Ad=some r)∧y0 (kq≤k)∧y0 (wc.heap[As]?=some (.cells #[.int .i64 Al,(.slice Bk Ad.length Ay)] 32 (0,0)))∧y0 (Below w.heap.size w wc))
 case first =>
  have H:=Cx.out
  clear Cx
  obtain⟨Bp,A4,H⟩:=qB H
  by_cases c5:Bp=true
  ·subst c5
   replace H:=qT H
   have H':=y0.mk H
   clear H
   obtain⟨Cy,Cz,Da,Db⟩:=qz2 Aa.out
   go_wp2_with (first|((with_reducible refine y16 (f:=69) rfl ?_);refine y18 (some 7) rfl rfl Tryz.func69 (by kernel_rfl) rfl #[.int .i64 Al,.int .i64 0,.int .i64 6] rfl qy0 ?_;(with_reducible refine(impl_in.calls Al 0 6 true _ A4.out).mono ?_);rintro e w' ⟨rfl,⟨nd,rfl⟩⟩;refine⟨_,rfl, ?_⟩))
   go_meet
   exact⟨_,(decide ((Ad.length:Int) > 400)),qy2,H',⟨by first|omega|exact Nat.le_refl _⟩,⟨qk Aa.out⟩,⟨qb⟩⟩
  ·replace c5:=Bool.eq_false_iff.mpr c5
   subst c5
   replace H:=qF H
   have H':=y0.mk H
   clear H
   obtain⟨Dc,Dd,De,Df⟩:=qz2 Aa.out
   go_wp2_with (first|((with_reducible refine y16 (f:=69) rfl ?_);refine y18 (some 7) rfl rfl Tryz.func69 (by kernel_rfl) rfl #[.int .i64 Al,.int .i64 0,.int .i64 6] rfl qy0 ?_;(with_reducible refine(impl_in.calls Al 0 6 false _ A4.out).mono ?_);rintro e w' ⟨rfl,⟨nd,rfl⟩⟩;refine⟨_,rfl, ?_⟩))
   go_meet
   exact⟨_,(true),qy2,H',⟨by first|omega|exact Nat.le_refl _⟩,⟨qk Aa.out⟩,⟨qb⟩⟩
 case rest =>
  clear Cx
  obtain⟨kq,Bg,rfl,HA,Ci,Aa,HB⟩:=hcut
  cases kq with
  | zero=>exact absurd HA.out (by simp [impl_isRel.j0])
  | succ Dl =>
   have H:=HA.out
   clear HA
   simp only [impl_isRel.j0]at H
   by_cases c8:Bg=true
   ·subst c8
    replace H:=qT H
    obtain rfl:=Option.some.inj H
    go_wp2
    go_ret
    exact⟨qf,qb⟩
   ·replace c8:=Bool.eq_false_iff.mpr c8
    subst c8
    replace H:=qF H
    have H':=y0.mk H
    clear H
    obtain⟨Bq,Br,Bs,Bt⟩:=qz2 Aa.out
    go_wp2
    go_loopg [18] Dl (fun kq Eg w'=>∃(Ab:Int),Eg=.int .i64 Ab∧y0 (impl_isRel.l0 kq Ad (Ad.length:Int) Ab Al Ad=some r)∧y0 (kq≤Dl)∧y0 (w'.heap[As]?=some (.cells #[.int .i64 Al,(.slice Bk Ad.length Ay)] 32 (0,0)))∧y0 (Below w.heap.size w w'))
    case atStart=>exact⟨(0),qy2,H',⟨Nat.le_refl _⟩,⟨qk Aa.out⟩,⟨qb⟩⟩
    case round =>
     clear H'
     (try clear c8 Bq Br Bs Bt)
     obtain⟨Ab,rfl,HA,Cj,Aa,HB⟩:=hrel
     cases gk with
     | zero=>exact absurd HA.out (by simp [impl_isRel.l0])
     | succ k2 =>
      have H:=HA.out
      clear HA
      simp only [impl_isRel.l0]at H
      by_cases Bx:Ab < (Ad.length:Int)
      ·as_aux_lemma =>
       rw [if_pos Bx]at H
       have Cc:=decide_eq_true Bx
       clear Bx
       obtain⟨Dm,H⟩:=qo H
       have Dn:decide (0≤Ab)=true:=decide_eq_true Dm
       clear Dm
       obtain⟨Do,H⟩:=qo H
       have Dp:decide (Ab < (Ad.length:Int))=true:=decide_eq_true Do
       clear Do
       obtain⟨Dg,Bz,H⟩:=qB H
       by_cases Ck:Dg=true
       ·subst Ck
        replace H:=qT H
        by_cases Bu:(((y20 Ad Ab).f0).length:Int)=Al
        ·as_aux_lemma =>
         rw [if_pos Bu]at H
         have Cd:((((y20 Ad Ab).f0).length:Int) == Al)=true:=beq_iff_eq.mpr Bu
         have Ce:((((y20 Ad Ab).f0).length:Int) != Al)=false:=bne_eq_false_iff_eq.mpr Bu
         clear Bu
         by_cases Ca:Ab > 0
         ·as_aux_lemma =>
          rw [if_pos Ca]at H
          have Cf:decide (0 < Ab)=true:=decide_eq_true Ca
          clear Ca
          obtain⟨Ax,Az⟩:∃ j_:Int,(wrap64 (Ab - 1))=j_:=⟨_,rfl⟩
          replace H:(if 0≤(Ax)then(if(Ax) < (Ad.length:Int)then((impl_compareTuples.f k2 ((y20 Ad (Ax)).f0) ((y20 Ad Ab).f0)).bind fun Bc=>(if Bc≥0 then(some false)else(impl_isRel.l0 k2 Ad (Ad.length:Int) (wrap64 (Ab + 1)) Al Ad)))else(none))else(none))=some r:=by first|(rw [Az]at H;exact H)|(simp only [Az]at H ⊢;exact H)
          (try rw [Az]at Bz)
          have hji17w:(IntKind.i64.wrap (Ab - 1))=Ax:=(i64_w _).trans Az
          obtain⟨Dq,H⟩:=qo H
          have Dr:=decide_eq_true Dq
          clear Dq
          obtain⟨Ds,H⟩:=qo H
          have Dt:=decide_eq_true Ds
          clear Ds
          obtain⟨Bc,Du,H⟩:=qB H
          have Au:0≤(Ab:Int):=of_decide_eq_true qy1
          have Av:Ab < (Ad.length:Int):=of_decide_eq_true qy1
          obtain⟨At,Ae,Af,Bd,Ai,Aj,Ak⟩:=at_T36 Bb.out Ab Au Av
          cases Bd
          replace Ai:=(HB.out.cell (World.block_lt_of_cell? w _ Ai)).trans Ai
          have Ao:=y0.mk Ak
          have Ap:=y0.mk Aj
          clear Ak Aj
          replace Au:=eq_true Au
          replace Av:=eq_true Av
          try go_wp2_with (first|((with_reducible refine y17 (N:=4) rfl ?_);(try(refine gate_guard (by rfl) ?_;dsimp only));refine qe 4 #[.slice none 0 0] 36 ?_;intro Ag hg Cl hbox hb;have Ac:=y0.mk (hbox);have Bl:=y0.mk (qg (w:=w) hg);have Bm:=y0.mk (qg (w:=w) hg);replace HB:=y0.mk (y8 qb hb);have Ah:=y0.mk (qn Aa.out hg);have Am:=y0.mk (qm Aa.out hg);replace Aa:=y0.mk (qK Aa.out hb);clear hb hbox hg;have Dv:=Am.out;have Dw:=Ah.out;obtain⟨Cm,Cn⟩:=qz1 Ac.out))
          have n0_:y0 ((Cl.setCell ⟨Ag,0,none⟩ (.slice Ae ((y20 Ad Ab).f0).length Af)).heap[As]?=some (.cells #[.int .i64 Al,.slice (some At) Ad.length Ay] 32 (0,0))):=⟨by(with_reducible repeat(first|refine y12 ?_ _|refine y11 ?_|refine y9 ?_ _));refine blk_far ?_ Ah.out _;(with_reducible repeat(first|refine y12 ?_ _|refine y11 ?_|refine y9 ?_ _));exact Aa.out⟩
          have n1_:y0 ((Cl.setCell ⟨Ag,0,none⟩ (.slice Ae ((y20 Ad Ab).f0).length Af)).heap[Ag]?=some (.cells #[.slice Ae ((y20 Ad Ab).f0).length Af] 36 (0,0))):=⟨by(with_reducible repeat(first|refine y12 ?_ _|refine y11 ?_|refine y9 ?_ _));refine y13 (cs:=#[.slice none 0 0]) ?_ 0 _ rfl;(with_reducible repeat(first|refine y12 ?_ _|refine y11 ?_|refine y9 ?_ _));exact Ac.out⟩
          have n2_:y0 (Below w.heap.size w (Cl.setCell ⟨Ag,0,none⟩ (.slice Ae ((y20 Ad Ab).f0).length Af))):=⟨qb⟩
          (try clear Aa)
          (try clear Ac)
          (try clear HB)
          generalize (Cl.setCell ⟨Ag,0,none⟩ (.slice Ae ((y20 Ad Ab).f0).length Af))=Eh at n0_ n1_ n2_ ⊢
          have Aa:=n0_
          have Ac:=n1_
          have HB:=n2_
          clear n0_ n1_ n2_
          replace Aa:=y0.mk (y11 Aa.out)
          replace Ac:=y0.mk (y11 Ac.out)
          replace HB:=y0.mk (y5 HB.out)
          have Bv:0≤((Ax):Int):=of_decide_eq_true qy1
          have Bw:(Ax) < (Ad.length:Int):=of_decide_eq_true qy1
          obtain⟨Cg,Be,Bf,Dh,Aw,Bh,Bi⟩:=at_T36 Bb.out (Ax) Bv Bw
          have Aq:=Aw
          obtain rfl:At=Cg:=(by injection Dh)
          replace Aw:=(HB.out.cell (World.block_lt_of_cell? w _ Aw)).trans Aw
          have Ba:=y0.mk Bi
          have Bj:=y0.mk Bh
          clear Bi Bh
          replace Bv:=eq_true Bv
          replace Bw:=eq_true Bw
          refine start_ (n:=26) (S:=fun w'=>w'.cell? ⟨Ag,0,none⟩=some (.slice Ae ((y20 Ad Ab).f0).length Af)∧w'.cell? ⟨As,0,none⟩=some (.int .i64 Al)∧w'.cell? ⟨As,1,none⟩=some (.slice (some At) Ad.length Ay)∧w'.cell? (At.add ((Ax)).toNat)=some (.slice Be ((y20 Ad (Ax)).f0).length Bf)) (ds:=[]) (fl_ 26 0) (by kernel_rfl) rfl rfl ⟨(y10 Ac.out 0).trans rfl,(y10 Aa.out 0).trans rfl,(y10 Aa.out 1).trans rfl,((HB.out.cell (World.block_lt_of_cell? w _ Aq)).trans Aq)⟩ (fun hHeld=>?_);refine with_tabW impl_isRel.tab6 impl_isRel.bits6 (fun HT_ HW_=>?_)
          generalize Eh.drew=El at Aa Ac HB Ba Aw hHeld ⊢
          by_cases Cb:Bc≥0
          ·as_aux_lemma =>
           rw [if_pos Cb]at H
           have Ch:decide (0≤Bc)=true:=decide_eq_true Cb
           clear Cb
           obtain rfl:=Option.some.inj H
           refine qt 0 23 (fl_ 26 1) hHeld ?_
           refine qO 1 24 (fl_ 26 3) (fun K hK=>?_)
           refine goes_ Tryz.func41 (by kernel_rfl) rfl #[.agg #[.slice Ae ((y20 Ad Ab).f0).length Af]] (by rfl) rfl rfl qy0 ?_
           with_reducible refine(impl_isTuple.calls k2 _ _ ((y20 Ad Ab).f0) true _ (qc (Kd.C_below Ao.out HB.out)) Ap.out (by exact Tb.below HT.out qb) Bz.out).mono ?_
           rintro e Em ⟨rfl,hb⟩
           refine⟨_,rfl, ?_⟩
           replace Aa:=y0.mk (qK Aa.out hb)
           replace Ac:=y0.mk (qK Ac.out hb)
           replace HB:=y0.mk (y8 qb hb)
           (try clear hb)
           refine hK.out _ _ ⟨(y10 Ac.out 0).trans rfl,(y10 Aa.out 0).trans rfl,(y10 Aa.out 1).trans rfl,((HB.out.cell (World.block_lt_of_cell? w _ Aq)).trans Aq)⟩ (fun hHeld=>?_)
           clear hK K
           refine qx 24 ?_
           refine qp3 2 25 26 ?_
           refine qp 7 30 (fl_ 26 159) ?_
           refine qt 5 28 (fl_ 26 191) hHeld ?_
           refine qp 6 29 (fl_ 26 255) ?_
           refine qt 8 31 (fl_ 26 511) hHeld ?_
           refine qp6 9 32 26 ?_
           refine qp 15 38 (fl_ 26 65535) ?_
           refine qp 17 40 (fl_ 26 196607) ?_
           refine qp 18 41 (fl_ 26 458751) ?_
           refine qt 16 39 (fl_ 26 524287) hHeld ?_
           refine qp 19 42 (fl_ 26 1048575) ?_
           refine qt 20 43 (fl_ 26 2097151) hHeld ?_
           refine qt 21 44 (fl_ 26 4194303) hHeld ?_
           refine qO 22 45 (fl_ 26 8388607) (fun K hK=>?_)
           refine goes_ Tryz.func44 (by kernel_rfl) rfl #[.agg #[.slice Be ((y20 Ad (Ax)).f0).length Bf],.agg #[.slice Ae ((y20 Ad Ab).f0).length Af]] (by rfl) rfl rfl (by(try simp only [qM_,List.map_cons,List.map_nil]);first|done|(simp only [Az];rfl)|rfl|(simp only [qD_,qT_];rfl)) ?_
           with_reducible refine(impl_compareTuples.calls k2 _ _ ((y20 Ad (Ax)).f0) _ _ ((y20 Ad Ab).f0) Bc _ (qc (Kd.C_below Ba.out HB.out)) Bj.out (qc (Kd.C_below Ao.out HB.out)) Ap.out (by exact Tb.below HT.out qb) Du.out).mono ?_
           rintro e En ⟨rfl,hb⟩
           refine⟨_,rfl, ?_⟩
           replace Aa:=y0.mk (qK Aa.out hb)
           replace Ac:=y0.mk (qK Ac.out hb)
           replace HB:=y0.mk (y8 qb hb)
           (try clear hb)
           refine hK.out _ _ ⟨(y10 Ac.out 0).trans rfl,(y10 Aa.out 0).trans rfl,(y10 Aa.out 1).trans rfl,((HB.out.cell (World.block_lt_of_cell? w _ Aq)).trans Aq)⟩ (fun hHeld=>?_)
           clear hK K
           refine qx 45 ?_
           refine qp3 23 46 26 ?_
           refine done_ (done_of HT_.out (by kernel_rfl)) ?_
           try go_wp2
           go_ret
           exact⟨by first|rfl|(simp [y14,y15] <;> rfl)|(simp only [← Az];first|rfl|(simp [y14,y15] <;> rfl))|(simp [*,y14,y15] <;> rfl),qb⟩
          ·as_aux_lemma =>
           rw [if_neg Cb]at H
           have Ch:decide (0≤Bc)=false:=decide_eq_false Cb
           clear Cb
           have H':=y0.mk H
           clear H
           refine qt 0 23 (fl_ 26 1) hHeld ?_
           refine qO 1 24 (fl_ 26 3) (fun K hK=>?_)
           refine goes_ Tryz.func41 (by kernel_rfl) rfl #[.agg #[.slice Ae ((y20 Ad Ab).f0).length Af]] (by rfl) rfl rfl qy0 ?_
           with_reducible refine(impl_isTuple.calls k2 _ _ ((y20 Ad Ab).f0) true _ (qc (Kd.C_below Ao.out HB.out)) Ap.out (by exact Tb.below HT.out qb) Bz.out).mono ?_
           rintro e Eo ⟨rfl,hb⟩
           refine⟨_,rfl, ?_⟩
           replace Aa:=y0.mk (qK Aa.out hb)
           replace Ac:=y0.mk (qK Ac.out hb)
           replace HB:=y0.mk (y8 qb hb)
           (try clear hb)
           refine hK.out _ _ ⟨(y10 Ac.out 0).trans rfl,(y10 Aa.out 0).trans rfl,(y10 Aa.out 1).trans rfl,((HB.out.cell (World.block_lt_of_cell? w _ Aq)).trans Aq)⟩ (fun hHeld=>?_)
           clear hK K
           refine qx 24 ?_
           refine qp3 2 25 26 ?_
           refine qp 7 30 (fl_ 26 159) ?_
           refine qt 5 28 (fl_ 26 191) hHeld ?_
           refine qp 6 29 (fl_ 26 255) ?_
           refine qt 8 31 (fl_ 26 511) hHeld ?_
           refine qp6 9 32 26 ?_
           refine qp 15 38 (fl_ 26 65535) ?_
           refine qp 17 40 (fl_ 26 196607) ?_
           refine qp 18 41 (fl_ 26 458751) ?_
           refine qt 16 39 (fl_ 26 524287) hHeld ?_
           refine qp 19 42 (fl_ 26 1048575) ?_
           refine qt 20 43 (fl_ 26 2097151) hHeld ?_
           refine qt 21 44 (fl_ 26 4194303) hHeld ?_
           refine qO 22 45 (fl_ 26 8388607) (fun K hK=>?_)
           refine goes_ Tryz.func44 (by kernel_rfl) rfl #[.agg #[.slice Be ((y20 Ad (Ax)).f0).length Bf],.agg #[.slice Ae ((y20 Ad Ab).f0).length Af]] (by rfl) rfl rfl (by(try simp only [qM_,List.map_cons,List.map_nil]);first|done|(simp only [Az];rfl)|rfl|(simp only [qD_,qT_];rfl)) ?_
           with_reducible refine(impl_compareTuples.calls k2 _ _ ((y20 Ad (Ax)).f0) _ _ ((y20 Ad Ab).f0) Bc _ (qc (Kd.C_below Ba.out HB.out)) Bj.out (qc (Kd.C_below Ao.out HB.out)) Ap.out (by exact Tb.below HT.out qb) Du.out).mono ?_
           rintro e Ep ⟨rfl,hb⟩
           refine⟨_,rfl, ?_⟩
           replace Aa:=y0.mk (qK Aa.out hb)
           replace Ac:=y0.mk (qK Ac.out hb)
           replace HB:=y0.mk (y8 qb hb)
           (try clear hb)
           refine hK.out _ _ ⟨(y10 Ac.out 0).trans rfl,(y10 Aa.out 0).trans rfl,(y10 Aa.out 1).trans rfl,((HB.out.cell (World.block_lt_of_cell? w _ Aq)).trans Aq)⟩ (fun hHeld=>?_)
           clear hK K
           refine qx 45 ?_
           refine qp3 23 46 26 ?_
           refine done_ (done_of HT_.out (by kernel_rfl)) ?_
           try go_wp2
           go_roundg k2
           case measure=>have:=Ci.out;have:=Cj.out;omega
           exact⟨(wrap64 (Ab + 1)),qy2,H',⟨by have:=Ci.out;have:=Cj.out;omega⟩,⟨qk Aa.out⟩,⟨qb⟩⟩
         ·as_aux_lemma =>
          rw [if_neg Ca]at H
          have Cf:decide (0 < Ab)=false:=decide_eq_false Ca
          clear Ca
          have H':=y0.mk H
          clear H
          have Au:0≤(Ab:Int):=of_decide_eq_true qy1
          have Av:Ab < (Ad.length:Int):=of_decide_eq_true qy1
          obtain⟨At,Ae,Af,Bd,Ai,Aj,Ak⟩:=at_T36 Bb.out Ab Au Av
          cases Bd
          replace Ai:=(HB.out.cell (World.block_lt_of_cell? w _ Ai)).trans Ai
          have Ao:=y0.mk Ak
          have Ap:=y0.mk Aj
          clear Ak Aj
          replace Au:=eq_true Au
          replace Av:=eq_true Av
          try go_wp2_with (first|((with_reducible refine y17 (N:=4) rfl ?_);(try(refine gate_guard (by rfl) ?_;dsimp only));refine qe 4 #[.slice none 0 0] 36 ?_;intro Ag hg Co hbox hb;have Ac:=y0.mk (hbox);have Bl:=y0.mk (qg (w:=w) hg);have Bm:=y0.mk (qg (w:=w) hg);replace HB:=y0.mk (y8 qb hb);have Ah:=y0.mk (qn Aa.out hg);have Am:=y0.mk (qm Aa.out hg);replace Aa:=y0.mk (qK Aa.out hb);clear hb hbox hg;have Dx:=Am.out;have Dy:=Ah.out;obtain⟨Cp,Cq⟩:=qz1 Ac.out))
          have n0_:y0 ((Co.setCell ⟨Ag,0,none⟩ (.slice Ae ((y20 Ad Ab).f0).length Af)).heap[As]?=some (.cells #[.int .i64 Al,.slice (some At) Ad.length Ay] 32 (0,0))):=⟨by(with_reducible repeat(first|refine y12 ?_ _|refine y11 ?_|refine y9 ?_ _));refine blk_far ?_ Ah.out _;(with_reducible repeat(first|refine y12 ?_ _|refine y11 ?_|refine y9 ?_ _));exact Aa.out⟩
          have n1_:y0 ((Co.setCell ⟨Ag,0,none⟩ (.slice Ae ((y20 Ad Ab).f0).length Af)).heap[Ag]?=some (.cells #[.slice Ae ((y20 Ad Ab).f0).length Af] 36 (0,0))):=⟨by(with_reducible repeat(first|refine y12 ?_ _|refine y11 ?_|refine y9 ?_ _));refine y13 (cs:=#[.slice none 0 0]) ?_ 0 _ rfl;(with_reducible repeat(first|refine y12 ?_ _|refine y11 ?_|refine y9 ?_ _));exact Ac.out⟩
          have n2_:y0 (Below w.heap.size w (Co.setCell ⟨Ag,0,none⟩ (.slice Ae ((y20 Ad Ab).f0).length Af))):=⟨qb⟩
          (try clear Aa)
          (try clear Ac)
          (try clear HB)
          generalize (Co.setCell ⟨Ag,0,none⟩ (.slice Ae ((y20 Ad Ab).f0).length Af))=Ei at n0_ n1_ n2_ ⊢
          have Aa:=n0_
          have Ac:=n1_
          have HB:=n2_
          clear n0_ n1_ n2_
          replace Aa:=y0.mk (y11 Aa.out)
          replace Ac:=y0.mk (y11 Ac.out)
          replace HB:=y0.mk (y5 HB.out)
          refine start_ (n:=26) (S:=fun w'=>w'.cell? ⟨Ag,0,none⟩=some (.slice Ae ((y20 Ad Ab).f0).length Af)∧w'.cell? ⟨As,0,none⟩=some (.int .i64 Al)∧w'.cell? ⟨As,1,none⟩=some (.slice (some At) Ad.length Ay)) (ds:=[]) (fl_ 26 0) (by kernel_rfl) rfl rfl ⟨(y10 Ac.out 0).trans rfl,(y10 Aa.out 0).trans rfl,(y10 Aa.out 1).trans rfl⟩ (fun hHeld=>?_);refine with_tabW impl_isRel.tab6 impl_isRel.bits6 (fun HT_ HW_=>?_)
          generalize Ei.drew=Er at Aa Ac HB hHeld ⊢
          refine qt 0 23 (fl_ 26 1) hHeld ?_
          refine qO 1 24 (fl_ 26 3) (fun K hK=>?_)
          refine goes_ Tryz.func41 (by kernel_rfl) rfl #[.agg #[.slice Ae ((y20 Ad Ab).f0).length Af]] (by rfl) rfl rfl qy0 ?_
          with_reducible refine(impl_isTuple.calls k2 _ _ ((y20 Ad Ab).f0) true _ (qc (Kd.C_below Ao.out HB.out)) Ap.out (by exact Tb.below HT.out qb) Bz.out).mono ?_
          rintro e Es ⟨rfl,hb⟩
          refine⟨_,rfl, ?_⟩
          replace Aa:=y0.mk (qK Aa.out hb)
          replace Ac:=y0.mk (qK Ac.out hb)
          replace HB:=y0.mk (y8 qb hb)
          (try clear hb)
          refine hK.out _ _ ⟨(y10 Ac.out 0).trans rfl,(y10 Aa.out 0).trans rfl,(y10 Aa.out 1).trans rfl⟩ (fun hHeld=>?_)
          clear hK K
          refine qx 24 ?_
          refine qp3 2 25 26 ?_
          refine qp 7 30 (fl_ 26 159) ?_
          refine qt 5 28 (fl_ 26 191) hHeld ?_
          refine qp 6 29 (fl_ 26 255) ?_
          refine qt 8 31 (fl_ 26 511) hHeld ?_
          refine qp10 9 32 26 ?_
          refine qp6 19 42 26 ?_
          refine qp 25 48 (fl_ 26 67108863) ?_
          refine done_ (done_of HT_.out (by kernel_rfl)) ?_
          try go_wp2
          go_roundg k2
          case measure=>have:=Ci.out;have:=Cj.out;omega
          exact⟨(wrap64 (Ab + 1)),qy2,H',⟨by have:=Ci.out;have:=Cj.out;omega⟩,⟨qk Aa.out⟩,⟨qb⟩⟩
        ·as_aux_lemma =>
         rw [if_neg Bu]at H
         have Cd:((((y20 Ad Ab).f0).length:Int) == Al)=false:=beq_eq_false_iff_ne.mpr Bu
         have Ce:((((y20 Ad Ab).f0).length:Int) != Al)=true:=bne_iff_ne.mpr Bu
         obtain rfl:=Option.some.inj H
         have Au:0≤(Ab:Int):=of_decide_eq_true qy1
         have Av:Ab < (Ad.length:Int):=of_decide_eq_true qy1
         obtain⟨At,Ae,Af,Bd,Ai,Aj,Ak⟩:=at_T36 Bb.out Ab Au Av
         cases Bd
         replace Ai:=(HB.out.cell (World.block_lt_of_cell? w _ Ai)).trans Ai
         have Ao:=y0.mk Ak
         have Ap:=y0.mk Aj
         clear Ak Aj
         replace Au:=eq_true Au
         replace Av:=eq_true Av
         try go_wp2_with (first|((with_reducible refine y17 (N:=4) rfl ?_);(try(refine gate_guard (by rfl) ?_;dsimp only));refine qe 4 #[.slice none 0 0] 36 ?_;intro Ag hg Cr hbox hb;have Ac:=y0.mk (hbox);have Bl:=y0.mk (qg (w:=w) hg);have Bm:=y0.mk (qg (w:=w) hg);replace HB:=y0.mk (y8 qb hb);have Ah:=y0.mk (qn Aa.out hg);have Am:=y0.mk (qm Aa.out hg);replace Aa:=y0.mk (qK Aa.out hb);clear hb hbox hg;have Dz:=Am.out;have Ea:=Ah.out;obtain⟨Cs,Ct⟩:=qz1 Ac.out))
         have n0_:y0 ((Cr.setCell ⟨Ag,0,none⟩ (.slice Ae ((y20 Ad Ab).f0).length Af)).heap[As]?=some (.cells #[.int .i64 Al,.slice (some At) Ad.length Ay] 32 (0,0))):=⟨by(with_reducible repeat(first|refine y12 ?_ _|refine y11 ?_|refine y9 ?_ _));refine blk_far ?_ Ah.out _;(with_reducible repeat(first|refine y12 ?_ _|refine y11 ?_|refine y9 ?_ _));exact Aa.out⟩
         have n1_:y0 ((Cr.setCell ⟨Ag,0,none⟩ (.slice Ae ((y20 Ad Ab).f0).length Af)).heap[Ag]?=some (.cells #[.slice Ae ((y20 Ad Ab).f0).length Af] 36 (0,0))):=⟨by(with_reducible repeat(first|refine y12 ?_ _|refine y11 ?_|refine y9 ?_ _));refine y13 (cs:=#[.slice none 0 0]) ?_ 0 _ rfl;(with_reducible repeat(first|refine y12 ?_ _|refine y11 ?_|refine y9 ?_ _));exact Ac.out⟩
         have n2_:y0 (Below w.heap.size w (Cr.setCell ⟨Ag,0,none⟩ (.slice Ae ((y20 Ad Ab).f0).length Af))):=⟨qb⟩
         (try clear Aa)
         (try clear Ac)
         (try clear HB)
         generalize (Cr.setCell ⟨Ag,0,none⟩ (.slice Ae ((y20 Ad Ab).f0).length Af))=Ej at n0_ n1_ n2_ ⊢
         have Aa:=n0_
         have Ac:=n1_
         have HB:=n2_
         clear n0_ n1_ n2_
         replace Aa:=y0.mk (y11 Aa.out)
         replace Ac:=y0.mk (y11 Ac.out)
         replace HB:=y0.mk (y5 HB.out)
         refine start_ (n:=26) (S:=fun w'=>w'.cell? ⟨Ag,0,none⟩=some (.slice Ae ((y20 Ad Ab).f0).length Af)∧w'.cell? ⟨As,0,none⟩=some (.int .i64 Al)∧w'.cell? ⟨As,1,none⟩=some (.slice (some At) Ad.length Ay)) (ds:=[]) (fl_ 26 0) (by kernel_rfl) rfl rfl ⟨(y10 Ac.out 0).trans rfl,(y10 Aa.out 0).trans rfl,(y10 Aa.out 1).trans rfl⟩ (fun hHeld=>?_);refine with_tabW impl_isRel.tab6 impl_isRel.bits6 (fun HT_ HW_=>?_)
         generalize Ej.drew=Et at Aa Ac HB hHeld ⊢
         refine qt 0 23 (fl_ 26 1) hHeld ?_
         refine qO 1 24 (fl_ 26 3) (fun K hK=>?_)
         refine goes_ Tryz.func41 (by kernel_rfl) rfl #[.agg #[.slice Ae ((y20 Ad Ab).f0).length Af]] (by rfl) rfl rfl qy0 ?_
         with_reducible refine(impl_isTuple.calls k2 _ _ ((y20 Ad Ab).f0) true _ (qc (Kd.C_below Ao.out HB.out)) Ap.out (by exact Tb.below HT.out qb) Bz.out).mono ?_
         rintro e Eu ⟨rfl,hb⟩
         refine⟨_,rfl, ?_⟩
         replace Aa:=y0.mk (qK Aa.out hb)
         replace Ac:=y0.mk (qK Ac.out hb)
         replace HB:=y0.mk (y8 qb hb)
         (try clear hb)
         refine hK.out _ _ ⟨(y10 Ac.out 0).trans rfl,(y10 Aa.out 0).trans rfl,(y10 Aa.out 1).trans rfl⟩ (fun hHeld=>?_)
         clear hK K
         refine qx 24 ?_
         refine qp3 2 25 26 ?_
         refine qp 7 30 (fl_ 26 159) ?_
         refine qt 5 28 (fl_ 26 191) hHeld ?_
         refine qp 6 29 (fl_ 26 255) ?_
         refine qt 8 31 (fl_ 26 511) hHeld ?_
         refine qp10 9 32 26 ?_
         refine qp6 19 42 26 ?_
         refine qp 25 48 (fl_ 26 67108863) ?_
         refine done_ (done_of HT_.out (by kernel_rfl)) ?_
         try go_wp2
         go_ret
         exact⟨qf,qb⟩
       ·replace Ck:=Bool.eq_false_iff.mpr Ck
        subst Ck
        replace H:=qF H
        obtain rfl:=Option.some.inj H
        have Au:0≤(Ab:Int):=of_decide_eq_true qy1
        have Av:Ab < (Ad.length:Int):=of_decide_eq_true qy1
        obtain⟨At,Ae,Af,Bd,Ai,Aj,Ak⟩:=at_T36 Bb.out Ab Au Av
        cases Bd
        replace Ai:=(HB.out.cell (World.block_lt_of_cell? w _ Ai)).trans Ai
        have Ao:=y0.mk Ak
        have Ap:=y0.mk Aj
        clear Ak Aj
        replace Au:=eq_true Au
        replace Av:=eq_true Av
        try go_wp2_with (first|((with_reducible refine y17 (N:=4) rfl ?_);(try(refine gate_guard (by rfl) ?_;dsimp only));refine qe 4 #[.slice none 0 0] 36 ?_;intro Ag hg Cu hbox hb;have Ac:=y0.mk (hbox);have Bl:=y0.mk (qg (w:=w) hg);have Bm:=y0.mk (qg (w:=w) hg);replace HB:=y0.mk (y8 qb hb);have Ah:=y0.mk (qn Aa.out hg);have Am:=y0.mk (qm Aa.out hg);replace Aa:=y0.mk (qK Aa.out hb);clear hb hbox hg;have Eb:=Am.out;have Ec:=Ah.out;obtain⟨Cv,Cw⟩:=qz1 Ac.out))
        have n0_:y0 ((Cu.setCell ⟨Ag,0,none⟩ (.slice Ae ((y20 Ad Ab).f0).length Af)).heap[As]?=some (.cells #[.int .i64 Al,.slice (some At) Ad.length Ay] 32 (0,0))):=⟨by(with_reducible repeat(first|refine y12 ?_ _|refine y11 ?_|refine y9 ?_ _));refine blk_far ?_ Ah.out _;(with_reducible repeat(first|refine y12 ?_ _|refine y11 ?_|refine y9 ?_ _));exact Aa.out⟩
        have n1_:y0 ((Cu.setCell ⟨Ag,0,none⟩ (.slice Ae ((y20 Ad Ab).f0).length Af)).heap[Ag]?=some (.cells #[.slice Ae ((y20 Ad Ab).f0).length Af] 36 (0,0))):=⟨by(with_reducible repeat(first|refine y12 ?_ _|refine y11 ?_|refine y9 ?_ _));refine y13 (cs:=#[.slice none 0 0]) ?_ 0 _ rfl;(with_reducible repeat(first|refine y12 ?_ _|refine y11 ?_|refine y9 ?_ _));exact Ac.out⟩
        have n2_:y0 (Below w.heap.size w (Cu.setCell ⟨Ag,0,none⟩ (.slice Ae ((y20 Ad Ab).f0).length Af))):=⟨qb⟩
        (try clear Aa)
        (try clear Ac)
        (try clear HB)
        generalize (Cu.setCell ⟨Ag,0,none⟩ (.slice Ae ((y20 Ad Ab).f0).length Af))=Ek at n0_ n1_ n2_ ⊢
        have Aa:=n0_
        have Ac:=n1_
        have HB:=n2_
        clear n0_ n1_ n2_
        replace Aa:=y0.mk (y11 Aa.out)
        replace Ac:=y0.mk (y11 Ac.out)
        replace HB:=y0.mk (y5 HB.out)
        refine start_ (n:=26) (S:=fun w'=>w'.cell? ⟨Ag,0,none⟩=some (.slice Ae ((y20 Ad Ab).f0).length Af)) (ds:=[]) (fl_ 26 0) (by kernel_rfl) rfl rfl ((y10 Ac.out 0).trans rfl) (fun hHeld=>?_);refine with_tabW impl_isRel.tab6 impl_isRel.bits6 (fun HT_ HW_=>?_)
        generalize Ek.drew=Ew at Aa Ac HB hHeld ⊢
        refine qt 0 23 (fl_ 26 1) hHeld ?_
        refine qO 1 24 (fl_ 26 3) (fun K hK=>?_)
        refine goes_ Tryz.func41 (by kernel_rfl) rfl #[.agg #[.slice Ae ((y20 Ad Ab).f0).length Af]] (by rfl) rfl rfl qy0 ?_
        with_reducible refine(impl_isTuple.calls k2 _ _ ((y20 Ad Ab).f0) false _ (qc (Kd.C_below Ao.out HB.out)) Ap.out (by exact Tb.below HT.out qb) Bz.out).mono ?_
        rintro e Ex ⟨rfl,hb⟩
        refine⟨_,rfl, ?_⟩
        replace Aa:=y0.mk (qK Aa.out hb)
        replace Ac:=y0.mk (qK Ac.out hb)
        replace HB:=y0.mk (y8 qb hb)
        (try clear hb)
        refine hK.out _ _ ((y10 Ac.out 0).trans rfl) (fun hHeld=>?_)
        clear hK K
        refine qx 24 ?_
        refine qp10 2 25 26 ?_
        refine qp10 12 35 26 ?_
        refine qp4 22 45 26 ?_
        refine done_ (done_of HT_.out (by kernel_rfl)) ?_
        try go_wp2
        go_ret
        exact⟨qf,qb⟩
      ·as_aux_lemma =>
       rw [if_neg Bx]at H
       have Cc:=decide_eq_false Bx
       clear Bx
       obtain rfl:=Option.some.inj H
       go_wp2
       go_ret
       exact⟨qf,qb⟩
end Go.Proofs.YtkajecadkkgfmaaGreatDoor.Pn
end
section
namespace Go.Proofs.YtkajecadkkgfmaaGreatDoor.Pn
open Go.RowKit Go.Proofs.YtkajecadkkgfmaaGreatDoorW.PrintWords Go.Proofs.YtkajecadkkgfmaaGreatDoorW.PrintLast Go.Proofs.YtkajecadkkgfmaaGreatDoorW.PrintMore
attribute [local go_sem] max2_int min2_int max_two min_two max_three min_three max_four min_four   -- for this text's walks alone
set_option linter.unusedVariables false
set_option linter.unusedSimpArgs false
def impl_copyTuple.f (l0_0:List ByteArray):Option (List ByteArray):=(some (([]:List ByteArray):List ByteArray)).bind fun y362=>(if y362.length + l0_0.length < 8796093022208 then(some (y362 ++ l0_0))else(none))
set_option maxHeartbeats 8000000 in
set_option maxRecDepth 100000 in
theorem impl_copyTuple.calls (Ap:Option Addr) (Aq:Nat) (Ac:List ByteArray) (r:List ByteArray) (w:World) (Aj:Kd.C Kd.string w Ap Ac.length Ac) (Ak:Ac.length≤Aq) (h:impl_copyTuple.f Ac=some r) :
  Calls Tryz.prog 46 #[.agg #[.slice Ap Ac.length Aq]] w fun e w'=>∃ v0_:Value,e=.returned (.agg #[v0_])∧Kd.R Kd.string 9 w' w.heap.size (fun _=>True) v0_ r∧Below w.heap.size w w':=by
 have Bl:=Tryz.underlying36
 have At:=y0.mk Aj
 have Bf:=y0.mk Ak
 clear Aj Ak
 have HB:=y0.mk (Below.refl w.heap.size w)
 have H:((some (([]:List ByteArray):List ByteArray)).bind fun Af=>(if Af.length + Ac.length < 8796093022208 then(some (Af ++ Ac))else(none)))=some r:=h
 clear h
 obtain⟨Af,Ad⟩:∃ y_:List ByteArray,y_=(([]:List ByteArray)):=⟨_,rfl⟩
 replace H:(if Af.length + Ac.length < 8796093022208 then(some (Af ++ Ac))else(none))=some r:=by first|(rw [Ad];with_reducible exact H)|(have H2_:=(Option.bind_some _ _).symm.trans H;rw [Ad];with_reducible exact H2_)|(have H2_:=(Option.bind_some _ _).symm.trans H;with_reducible exact H2_)|with_reducible exact H|(rw [Ad];exact H)|exact H
 have Al:=y0.mk Ad
 clear Ad
 obtain⟨c2,H⟩:=qo H
 have Ba:=y0.mk c2
 clear c2
 obtain⟨As,Ae⟩:∃ y_:List ByteArray,y_=(Af ++ Ac):=⟨_,rfl⟩
 replace H:(some As)=some r:=by first|(rw [Ae];with_reducible exact H)|(have H2_:=(Option.bind_some _ _).symm.trans H;rw [Ae];with_reducible exact H2_)|(have H2_:=(Option.bind_some _ _).symm.trans H;with_reducible exact H2_)|with_reducible exact H|(rw [Ae];exact H)|exact H
 have Au:=y0.mk Ae
 clear Ae
 obtain rfl:=Option.some.inj H
 go_enter Tryz.func46,Tryz.ntmps46
 go_wp2_with (first|((with_reducible refine y17 (N:=1) rfl ?_);refine qe 1 #[.slice Ap Ac.length Aq] 36 ?_;intro Bg hg w3 hbox hb;have Aa:=y0.mk (hbox);have Bh:=y0.mk (qg (w:=w) hg);have Bi:=y0.mk (qg (w:=w) hg);replace HB:=y0.mk (y8 qb hb);clear hb hbox hg)|((with_reducible refine y17 (N:=2) rfl ?_);refine qe 2 #[.slice none 0 0] 36 ?_;intro Am hg w4 hbox hb;have Ab:=y0.mk (hbox);have Bj:=y0.mk (qg (w:=w) hg);have Bk:=y0.mk (qg (w:=w) hg);replace HB:=y0.mk (y8 qb hb);have Ah:=y0.mk (qn Aa.out hg);have Ai:=y0.mk (qm Aa.out hg);replace Aa:=y0.mk (qK Aa.out hb);clear hb hbox hg)|((with_reducible refine y17 (N:=3) rfl ?_);refine qL Kd.string 9 3 ([]:List ByteArray) ?_;intro Bb w5 Av hb hg_ hnew_;clear hg_ hnew_;(first|rw [← Al.out]at Av|(simp only [Int.reduceToNat]at Av;rw [← Al.out]at Av));have Ag:=y0.mk (Kd.R_lower Av (y7 qb));replace Aa:=y0.mk (qK Aa.out hb);replace Ab:=y0.mk (qK Ab.out hb);replace HB:=y0.mk (y8 qb hb);clear hb Av;have Bm:=Ah.out;have Bn:=Ai.out;obtain⟨Bc,Bd⟩:=qz1 Aa.out)|((with_reducible refine gate_builtin (b:=.append) (xs:=#[.tmp 3,.tmp 5]) rfl ?_);at_builtin;refine Kd.R_append_rows Kd.string (w0:=w) w.heap.size rfl (.tmp 3) (.tmp 5) 25 9 (.string ⟨#[]⟩) 16 rfl Tryz.underlying25 info9 rfl (by decide) (by omega) Bb Af Ac _ _ _ (fun _=>True) (fun _=>False) rfl rfl ?aO ?aR (fun _ _ h=>h) (fun _ h=>h.elim) ?aF ?aB ?aS ?aL ?_;(case aR=>repeat(first|exact(Kd.C_below At.out HB.out)|(with_reducible refine Kd.C_alloc ?_ _)|(with_reducible refine Kd.C_drewN ?_ _)|(with_reducible refine Kd.C_drew ?_)));(case aB=>exact qb);(case aF=>exact(fun _ _=>trivial));(case aO=>exact(qR Ag.out));(case aS=>exact(y7 qb));(case aL=>have:=Ba.out;omega);intro Bo w9 ho hb hg hat;rw [← Au.out]at ho;replace Aa:=y0.mk (blk_grown (qk Aa.out) hg (Kd.R_ne Ag.out Aa.out (by decide)));replace Ab:=y0.mk (blk_grown (qk Ab.out) hg (Kd.R_ne Ag.out Ab.out (by decide)));replace HB:=y0.mk (hb);have Ao:=y0.mk (ho);clear Ag;clear ho hb hg hat;obtain⟨Aw,Ax,Be⟩:=Kd.R_slice Ao.out;subst Be;obtain⟨Ay,Az⟩:=qz1 Ab.out))
 refine bodyPost_ret (results_cell_row rfl _ _ Am 36 #[.slice Aw As.length Ax] (0,0) _ rfl (by(with_reducible repeat(first|refine y12 ?_ _|refine y11 ?_|refine y9 ?_ _));refine y13 (cs:=#[.slice none 0 0]) ?_ 0 _ rfl;(with_reducible repeat(first|refine y12 ?_ _|refine y11 ?_|refine y9 ?_ _));exact Ab.out) Tryz.underlying36 rfl (by kernel_rfl)) rfl ?_
 exact⟨_,by first|rfl|(simp [y14,y15] <;> rfl)|(simp [*,y14,y15] <;> rfl),by(with_reducible repeat(first|apply Kd.R_alloc|apply Kd.R_drewN|apply Kd.R_drew));exact Kd.R_mono (Kd.R_far (p:=⟨Am,0,none⟩) (Kd.R_types Ao.out Ab.out (by decide)) (fun _ hk=>hk.2) (.slice Aw As.length Ax)) (fun _ hk=>trivial),qb⟩
end Go.Proofs.YtkajecadkkgfmaaGreatDoor.Pn
end

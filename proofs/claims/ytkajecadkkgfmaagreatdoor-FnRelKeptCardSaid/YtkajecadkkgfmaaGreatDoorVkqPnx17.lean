-- Cut by prune.py, a program of this session, out of the texts of this claim: Lean checks it.
import Derived.Test.YtkajecadkkgfmaaGreatDoorVkqPnx0
import Derived.Test.YtkajecadkkgfmaaGreatDoorVkqPnx14
import Derived.Test.YtkajecadkkgfmaaGreatDoorVkqPnx11
section
namespace Go.Proofs.YtkajecadkkgfmaaGreatDoor.Pn
open Go.RowKit Go.Proofs.YtkajecadkkgfmaaGreatDoorW.PrintWords Go.Proofs.YtkajecadkkgfmaaGreatDoorW.PrintLast Go.Proofs.YtkajecadkkgfmaaGreatDoorW.PrintMore
attribute [local go_sem] max2_int min2_int max_two min_two max_three min_three max_four min_four   -- for this text's walks alone
set_option linter.unusedVariables false
set_option linter.unusedSimpArgs false
mutual
def impl_compareCons.l0:Nat→List ByteArray→List ByteArray→Int→Int→Option (Int)
 | 0,_,_,_,_=>none
 | k + 1,x8,x36,x37,x38=>if x38 < x37 then(if 0≤x38 then(if x38 < (x36.length:Int)then(if x38 < (x8.length:Int)then((impl_compareTerms.f k (rdOf ByteArray.empty x36 x38) (rdOf ByteArray.empty x8 x38)).bind fun t338=>(if t338=0 then(impl_compareCons.l0 k x8 x36 x37 (wrap64 (x38 + 1)))else(some t338)))else(none))else(none))else(none))else(some 0)
def impl_compareCons.f:Nat→ByteArray→ByteArray→Option (Int)
 | 0,_,_=>none
 | k + 1,a0,a1=>(z0_.f k a0).bind fun bt322=>((z0_.f k a1).bind fun bt326=>((cmp_Compare_string.f bt322.1 bt326.1).bind fun t330=>((cmp_Compare_int.f (bt322.2.length:Int) (bt326.2.length:Int)).bind fun t331=>((cmp_Or_int.f k (([t330,t331]:List Int))).bind fun t335=>(if t335=0 then(impl_compareCons.l0 k bt326.2 bt322.2 (bt322.2.length:Int) 0)else(some t335))))))
def impl_compareTerms.j0:Nat→ByteArray→ByteArray→Int→Int→Bool→Option (Int)
 | 0,_,_,_,_,_=>none
 | k + 1,x0,x1,x5,x6,x11=>if x11=true then(some 2)else(if x5=x6 then(if x5=1 then((impl_numOf.f x0).bind fun t341=>((impl_numOf.f x1).bind fun t342=>((cmp_Compare_int.f t341 t342).bind fun t343=>(some t343))))else(if x5=2 then(if 1≤(wrap64 ((x0.size:Int) - 1))then(if(wrap64 ((x0.size:Int) - 1))≤(x0.size:Int)then(if 1≤(wrap64 ((x1.size:Int) - 1))then(if(wrap64 ((x1.size:Int) - 1))≤(x1.size:Int)then((cmp_Compare_string.f (x0.extract 1 ((wrap64 ((x0.size:Int) - 1)):Int).toNat) (x1.extract 1 ((wrap64 ((x1.size:Int) - 1)):Int).toNat)).bind fun t344=>(some t344))else(none))else(none))else(none))else(none))else((impl_compareCons.f k x0 x1).bind fun t345=>(some t345))))else((cmp_Compare_int.f x5 x6).bind fun t346=>(some t346)))
def impl_compareTerms.f:Nat→ByteArray→ByteArray→Option (Int)
 | 0,_,_=>none
 | k + 1,a0,a1=>(impl_kindOf.f k a0).bind fun t339=>((impl_kindOf.f k a1).bind fun t340=>(if t339=0 then(impl_compareTerms.j0 k a0 a1 t339 t340 true)else(impl_compareTerms.j0 k a0 a1 t339 t340 (t340 == 0))))
end
abbrev impl_compareCons.Stm (k:Nat):Prop:=∀(a0:ByteArray) (a1:ByteArray) (r:Int) (w:World) (hT:Tb w) (h:impl_compareCons.f k a0 a1=some r),
  Calls Tryz.prog 100 #[.string a0,.string a1] w fun e w'=>e=.returned (.int .i64 r)∧Below w.heap.size w w'
abbrev impl_compareTerms.Stm (k:Nat):Prop:=∀(a0:ByteArray) (a1:ByteArray) (r:Int) (w:World) (hT:Tb w) (h:impl_compareTerms.f k a0 a1=some r),
  Calls Tryz.prog 74 #[.string a0,.string a1] w fun e w'=>e=.returned (.int .i64 r)∧Below w.heap.size w w'
set_option maxHeartbeats 8000000 in
set_option maxRecDepth 100000 in
theorem impl_compareCons.step (k:Nat) (ih:∀ m,m < k→impl_compareCons.Stm m) (ih_impl_compareTerms:∀ m,m < k→impl_compareTerms.Stm m):impl_compareCons.Stm k:=by
 intro a0 a1 r w hT h
 cases k with
 | zero=>exact absurd h (by simp [impl_compareCons.f])
 | succ k =>
 simp only [impl_compareCons.f]at h
 have HT:=y0.mk hT
 clear hT
 have HB:=y0.mk (Below.refl w.heap.size w)
 have H:((z0_.f k a0).bind fun Ap=>((z0_.f k a1).bind fun Az=>((cmp_Compare_string.f Ap.1 Az.1).bind fun Ak=>((cmp_Compare_int.f (Ap.2.length:Int) (Az.2.length:Int)).bind fun Al=>((cmp_Or_int.f k (([Ak,Al]:List Int))).bind fun Af=>(if Af=0 then(impl_compareCons.l0 k Az.2 Ap.2 (Ap.2.length:Int) 0)else(some Af)))))))=some r:=h
 clear h
 obtain⟨⟨Au,Ad⟩,A3,H⟩:=qB H
 dsimp only at H
 obtain⟨⟨Av,Ae⟩,A4,H⟩:=qB H
 dsimp only at H
 obtain⟨Ak,A5,H⟩:=qB H
 obtain⟨Al,A6,H⟩:=qB H
 obtain⟨Ba,Aj⟩:∃ y_:List Int,y_=(([Ak,Al]:List Int)):=⟨_,rfl⟩
 replace H:((cmp_Or_int.f k Ba).bind fun Af=>(if Af=0 then(impl_compareCons.l0 k Ae Ad (Ad.length:Int) 0)else(some Af)))=some r:=by first|(rw [Aj];with_reducible exact H)|(have H2_:=(Option.bind_some _ _).symm.trans H;rw [Aj];with_reducible exact H2_)|(have H2_:=(Option.bind_some _ _).symm.trans H;with_reducible exact H2_)|with_reducible exact H|(rw [Aj];exact H)|exact H
 have Aq:=y0.mk Aj
 clear Aj
 obtain⟨Af,A7,H⟩:=qB H
 by_cases c8:Af=0
 ·rw [if_pos c8]at H
  have Bj:(Af == 0)=true:=beq_iff_eq.mpr c8
  have Bk:(Af != 0)=false:=bne_eq_false_iff_eq.mpr c8
  clear c8
  have H':=y0.mk H
  clear H
  go_enter Tryz.func100,Tryz.ntmps100
  go_wp2_with (first|((with_reducible refine y19 (f:=125) rfl ?_);refine y22 (some 15) rfl rfl Tryz.func125 (by kernel_rfl) rfl #[.string a0] rfl qy0 ?_;(with_reducible refine(z0_.calls k a0 Au Ad _ (by exact Tb.below HT.out qb) A3.out).mono ?_);rintro e w9 ⟨Bv,rfl,Aw,hb⟩;refine⟨_,rfl, ?_⟩;have Ac:=y0.mk (Kd.R_lower Aw (y7 qb));replace HB:=y0.mk (y8 qb hb);(try clear hb);(try clear Aw))|((with_reducible refine y19 (f:=125) rfl ?_);refine y22 (some 20) rfl rfl Tryz.func125 (by kernel_rfl) rfl #[.string a1] rfl qy0 ?_;(with_reducible refine(z0_.calls k a1 Av Ae _ (by exact Tb.below HT.out qb) A4.out).mono ?_);rintro e Cz ⟨Bw,rfl,Aw,hb⟩;refine⟨_,rfl, ?_⟩;have Ag:=y0.mk (Kd.R_lower (Kd.R_new' Aw (Kd.R_lt (qR Ac.out))) (y7 qb));replace Ac:=y0.mk (Kd.R_elder' (qR Ac.out) (Kd.R_base Aw) hb);replace HB:=y0.mk (y8 qb hb);(try clear hb);(try clear Aw))|((with_reducible refine y19 (f:=99) rfl ?_);refine y22 (some 25) rfl rfl Tryz.func99 (by kernel_rfl) rfl #[.string Au,.string Av] rfl qy0 ?_;(with_reducible refine(cmp_Compare_string.calls Au Av Ak _ A5.out).mono ?_);rintro e w' ⟨rfl,⟨nd,rfl⟩⟩;refine⟨_,rfl, ?_⟩;obtain⟨Bl,Bm,Bx⟩:=Kd.R_slice Ac.out;subst Bx;obtain⟨Bn,Bo,Bz⟩:=Kd.R_slice Ag.out;subst Bz)|((with_reducible refine y19 (f:=97) rfl ?_);refine y22 (some 30) rfl rfl Tryz.func97 (by kernel_rfl) rfl #[.int .i64 (Ad.length:Int),.int .i64 (Ae.length:Int)] rfl qy0 ?_;(with_reducible refine(cmp_Compare_int.calls (Ad.length:Int) (Ae.length:Int) Al _ A6.out).mono ?_);rintro e w' ⟨rfl,⟨nd,rfl⟩⟩;refine⟨_,rfl, ?_⟩)|((with_reducible refine y20 (N:=31) rfl ?_);refine qL (Kd.int .i64) 3 31 ([Ak,Al]:List Int) ?_;intro Ca Da Bb hb hg_ hnew_;clear hg_ hnew_;(first|rw [← Aq.out]at Bb|(simp only [Int.reduceToNat]at Bb;rw [← Aq.out]at Bb));replace Ac:=y0.mk (Kd.R_below (qR Ac.out) hb);replace Ag:=y0.mk (Kd.R_below (qR Ag.out) hb);have Ah:=y0.mk (Kd.R_lower Bb (y7 qb));replace HB:=y0.mk (y8 qb hb);clear hb Bb;obtain⟨Cb,Cc,Cd⟩:=Kd.R_slice Ah.out;subst Cd)|((with_reducible refine y19 (f:=126) rfl ?_);refine y22 (some 32) rfl rfl Tryz.func126 (by kernel_rfl) rfl #[.slice Cb Ba.length Cc] rfl qy0 ?_;(with_reducible refine(cmp_Or_int.calls k _ _ Ba Af _ (qc ((Kd.R_reads' Ah.out).2.2)) (by exact(Kd.R_reads' Ah.out).2.1) A7.out).mono ?_);rintro e w' ⟨rfl,⟨nd,rfl⟩⟩;refine⟨_,rfl, ?_⟩))
  go_loopg [38] k (fun kq Cu w'=>∃(Aa:Int),Cu=.int .i64 Aa∧y0 (impl_compareCons.l0 kq Ae Ad (Ad.length:Int) Aa=some r)∧y0 (kq≤k)∧y0 (Kd.R Kd.string 9 w' w.heap.size (fun k_=>some k_≠((.slice Bl Ad.length Bm):Value).ownBlock) (.slice Bn Ae.length Bo) Ae)∧y0 (Kd.R Kd.string 9 w' w.heap.size (fun k_=>some k_≠((.slice Bn Ae.length Bo):Value).ownBlock) (.slice Bl Ad.length Bm) Ad)∧y0 (Below w.heap.size w w'))
  case atStart=>exact⟨(0),qy2,H',⟨Nat.le_refl _⟩,⟨qR (Kd.R_mono Ag.out (fun _ hk=>hk.2))⟩,⟨qR (Kd.R_mono Ac.out (fun _ hk=>hk.2))⟩,⟨qb⟩⟩
  case round =>
   clear H'
   (try clear Bj Bk)
   obtain⟨Aa,rfl,HA,Bs,Ay,Ai,HB⟩:=hrel
   cases gk with
   | zero=>exact absurd HA.out (by simp [impl_compareCons.l0])
   | succ k1 =>
    have H:=HA.out
    clear HA
    simp only [impl_compareCons.l0]at H
    by_cases Bi:Aa < (Ad.length:Int)
    ·rw [if_pos Bi]at H
     have Bp:=decide_eq_true Bi
     clear Bi
     obtain⟨Cl,H⟩:=qo H
     have Cm:decide (0≤Aa)=true:=decide_eq_true Cl
     clear Cl
     obtain⟨Cn,H⟩:=qo H
     have Co:decide (Aa < (Ad.length:Int))=true:=decide_eq_true Cn
     clear Cn
     obtain⟨Cp,H⟩:=qo H
     have Cq:decide (Aa < (Ae.length:Int))=true:=decide_eq_true Cp
     clear Cp
     obtain⟨Am,Cr,H⟩:=qB H
     have Bd:0≤(Aa:Int):=of_decide_eq_true qy1
     have Be:Aa < (Ad.length:Int):=of_decide_eq_true qy1
     obtain⟨Cs,Ce,Bt⟩:=Kd.at_string (Kd.R_reads' Ai.out).2.2 Aa Bd Be
     cases Ce
     replace Bd:=eq_true Bd
     replace Be:=eq_true Be
     have Bf:0≤(Aa:Int):=of_decide_eq_true qy1
     have Bg:Aa < (Ae.length:Int):=of_decide_eq_true qy1
     obtain⟨Ct,Cf,Bu⟩:=Kd.at_string (Kd.R_reads' Ay.out).2.2 Aa Bf Bg
     cases Cf
     replace Bf:=eq_true Bf
     replace Bg:=eq_true Bg
     by_cases Bh:Am=0
     ·rw [if_pos Bh]at H
      have Bq:(Am == 0)=true:=beq_iff_eq.mpr Bh
      have Br:(Am != 0)=false:=bne_eq_false_iff_eq.mpr Bh
      clear Bh
      have H':=y0.mk H
      clear H
      go_wp2_with (first|((with_reducible refine y19 (f:=74) rfl ?_);refine y22 (some 48) rfl rfl Tryz.func74 (by kernel_rfl) rfl #[.string (rdOf ByteArray.empty Ad Aa),.string (rdOf ByteArray.empty Ae Aa)] rfl qy0 ?_;(with_reducible refine(ih_impl_compareTerms k1 (by have:=Bs.out;omega) (rdOf ByteArray.empty Ad Aa) (rdOf ByteArray.empty Ae Aa) Am _ (by exact Tb.below HT.out qb) Cr.out).mono ?_);rintro e Db ⟨rfl,hb⟩;refine⟨_,rfl, ?_⟩;replace Ay:=y0.mk (Kd.R_below (qR Ay.out) hb);replace Ai:=y0.mk (Kd.R_below (qR Ai.out) hb);replace HB:=y0.mk (y8 qb hb);(try clear hb)))
      go_roundg k1
      case measure=>have:=Bs.out;omega
      exact⟨(wrap64 (Aa + 1)),qy2,H',⟨by have:=Bs.out;omega⟩,⟨qR Ay.out⟩,⟨qR Ai.out⟩,⟨qb⟩⟩
     ·rw [if_neg Bh]at H
      have Bq:(Am == 0)=false:=beq_eq_false_iff_ne.mpr Bh
      have Br:(Am != 0)=true:=bne_iff_ne.mpr Bh
      obtain rfl:=Option.some.inj H
      go_wp2_with (first|((with_reducible refine y19 (f:=74) rfl ?_);refine y22 (some 48) rfl rfl Tryz.func74 (by kernel_rfl) rfl #[.string (rdOf ByteArray.empty Ad Aa),.string (rdOf ByteArray.empty Ae Aa)] rfl qy0 ?_;(with_reducible refine(ih_impl_compareTerms k1 (by have:=Bs.out;omega) (rdOf ByteArray.empty Ad Aa) (rdOf ByteArray.empty Ae Aa) Am _ (by exact Tb.below HT.out qb) Cr.out).mono ?_);rintro e Dc ⟨rfl,hb⟩;refine⟨_,rfl, ?_⟩;replace Ay:=y0.mk (Kd.R_below (qR Ay.out) hb);replace Ai:=y0.mk (Kd.R_below (qR Ai.out) hb);replace HB:=y0.mk (y8 qb hb);(try clear hb)))
      go_ret
      exact⟨qf,qb⟩
    ·rw [if_neg Bi]at H
     have Bp:=decide_eq_false Bi
     clear Bi
     obtain rfl:=Option.some.inj H
     go_wp2
     go_ret
     exact⟨qf,qb⟩
 ·rw [if_neg c8]at H
  have Bj:(Af == 0)=false:=beq_eq_false_iff_ne.mpr c8
  have Bk:(Af != 0)=true:=bne_iff_ne.mpr c8
  obtain rfl:=Option.some.inj H
  go_enter Tryz.func100,Tryz.ntmps100
  go_wp2_with (first|((with_reducible refine y19 (f:=125) rfl ?_);refine y22 (some 15) rfl rfl Tryz.func125 (by kernel_rfl) rfl #[.string a0] rfl qy0 ?_;(with_reducible refine(z0_.calls k a0 Au Ad _ (by exact Tb.below HT.out qb) A3.out).mono ?_);rintro e Dd ⟨Bv,rfl,Aw,hb⟩;refine⟨_,rfl, ?_⟩;have Ac:=y0.mk (Kd.R_lower Aw (y7 qb));replace HB:=y0.mk (y8 qb hb);(try clear hb);(try clear Aw))|((with_reducible refine y19 (f:=125) rfl ?_);refine y22 (some 20) rfl rfl Tryz.func125 (by kernel_rfl) rfl #[.string a1] rfl qy0 ?_;(with_reducible refine(z0_.calls k a1 Av Ae _ (by exact Tb.below HT.out qb) A4.out).mono ?_);rintro e De ⟨Bw,rfl,Aw,hb⟩;refine⟨_,rfl, ?_⟩;have Ag:=y0.mk (Kd.R_lower (Kd.R_new' Aw (Kd.R_lt (qR Ac.out))) (y7 qb));replace Ac:=y0.mk (Kd.R_elder' (qR Ac.out) (Kd.R_base Aw) hb);replace HB:=y0.mk (y8 qb hb);(try clear hb);(try clear Aw))|((with_reducible refine y19 (f:=99) rfl ?_);refine y22 (some 25) rfl rfl Tryz.func99 (by kernel_rfl) rfl #[.string Au,.string Av] rfl qy0 ?_;(with_reducible refine(cmp_Compare_string.calls Au Av Ak _ A5.out).mono ?_);rintro e w' ⟨rfl,⟨nd,rfl⟩⟩;refine⟨_,rfl, ?_⟩;obtain⟨Cv,Cw,Cg⟩:=Kd.R_slice Ac.out;subst Cg;obtain⟨Cx,Cy,Ch⟩:=Kd.R_slice Ag.out;subst Ch)|((with_reducible refine y19 (f:=97) rfl ?_);refine y22 (some 30) rfl rfl Tryz.func97 (by kernel_rfl) rfl #[.int .i64 (Ad.length:Int),.int .i64 (Ae.length:Int)] rfl qy0 ?_;(with_reducible refine(cmp_Compare_int.calls (Ad.length:Int) (Ae.length:Int) Al _ A6.out).mono ?_);rintro e w' ⟨rfl,⟨nd,rfl⟩⟩;refine⟨_,rfl, ?_⟩)|((with_reducible refine y20 (N:=31) rfl ?_);refine qL (Kd.int .i64) 3 31 ([Ak,Al]:List Int) ?_;intro Ca Df Bc hb hg_ hnew_;clear hg_ hnew_;(first|rw [← Aq.out]at Bc|(simp only [Int.reduceToNat]at Bc;rw [← Aq.out]at Bc));replace Ac:=y0.mk (Kd.R_below (qR Ac.out) hb);replace Ag:=y0.mk (Kd.R_below (qR Ag.out) hb);have Ah:=y0.mk (Kd.R_lower Bc (y7 qb));replace HB:=y0.mk (y8 qb hb);clear hb Bc;obtain⟨Ci,Cj,Ck⟩:=Kd.R_slice Ah.out;subst Ck)|((with_reducible refine y19 (f:=126) rfl ?_);refine y22 (some 32) rfl rfl Tryz.func126 (by kernel_rfl) rfl #[.slice Ci Ba.length Cj] rfl qy0 ?_;(with_reducible refine(cmp_Or_int.calls k _ _ Ba Af _ (qc ((Kd.R_reads' Ah.out).2.2)) (by exact(Kd.R_reads' Ah.out).2.1) A7.out).mono ?_);rintro e w' ⟨rfl,⟨nd,rfl⟩⟩;refine⟨_,rfl, ?_⟩))
  go_ret
  exact⟨qf,qb⟩
set_option maxHeartbeats 8000000 in
set_option maxRecDepth 100000 in
theorem impl_compareTerms.step (k:Nat) (ih_impl_compareCons:∀ m,m < k→impl_compareCons.Stm m) (ih:∀ m,m < k→impl_compareTerms.Stm m):impl_compareTerms.Stm k:=by
 intro a0 a1 r w hT h
 cases k with
 | zero=>exact absurd h (by simp [impl_compareTerms.f])
 | succ k =>
 simp only [impl_compareTerms.f]at h
 have HT:=y0.mk hT
 clear hT
 have HB:=y0.mk (Below.refl w.heap.size w)
 have H:((impl_kindOf.f k a0).bind fun Aa=>((impl_kindOf.f k a1).bind fun Ac=>(if Aa=0 then(impl_compareTerms.j0 k a0 a1 Aa Ac true)else(impl_compareTerms.j0 k a0 a1 Aa Ac (Ac == 0)))))=some r:=h
 clear h
 obtain⟨Aa,A3,H⟩:=qB H
 obtain⟨Ac,A4,H⟩:=qB H
 have Ba:=y0.mk H
 clear H
 go_enter Tryz.func74,Tryz.ntmps74
 go_upto_region 2 with(first|(go_at_call 72;(with_reducible refine(impl_kindOf.calls k a0 Aa _ (by exact Tb.below HT.out qb) A3.out).mono ?_);rintro e w6 ⟨rfl,hb⟩;replace HB:=y0.mk (y8 qb hb);(try clear hb))|(go_at_call 72;(with_reducible refine(impl_kindOf.calls k a1 Ac _ (by exact Tb.below HT.out qb) A4.out).mono ?_);rintro e w7 ⟨rfl,hb⟩;replace HB:=y0.mk (y8 qb hb);(try clear hb)))
 repeat(go_quiet (first|(go_at_call 72;(with_reducible refine(impl_kindOf.calls k a0 Aa _ (by exact Tb.below HT.out qb) A3.out).mono ?_);rintro e w6 ⟨rfl,hb⟩;replace HB:=y0.mk (y8 qb hb);(try clear hb))|(go_at_call 72;(with_reducible refine(impl_kindOf.calls k a1 Ac _ (by exact Tb.below HT.out qb) A4.out).mono ?_);rintro e w7 ⟨rfl,hb⟩;replace HB:=y0.mk (y8 qb hb);(try clear hb)));go_upto_region 2 with(first|(go_at_call 72;(with_reducible refine(impl_kindOf.calls k a0 Aa _ (by exact Tb.below HT.out qb) A3.out).mono ?_);rintro e w6 ⟨rfl,hb⟩;replace HB:=y0.mk (y8 qb hb);(try clear hb))|(go_at_call 72;(with_reducible refine(impl_kindOf.calls k a1 Ac _ (by exact Tb.below HT.out qb) A4.out).mono ?_);rintro e w7 ⟨rfl,hb⟩;replace HB:=y0.mk (y8 qb hb);(try clear hb))))
 (try simp only [Act.put,qS_,qZ_,qC_])
 go_cut [11] (fun Ca wc=>∃(kq:Nat) (Ad:Bool),Ca=.bool Ad∧y0 (impl_compareTerms.j0 kq a0 a1 Aa Ac Ad=some r)∧y0 (kq≤k)∧y0 (Below w.heap.size w wc))
 case first =>
  have H:=Ba.out
  clear Ba
  by_cases c8:Aa=0
  ·rw [if_pos c8]at H
   have Ag:(Aa == 0)=true:=beq_iff_eq.mpr c8
   have Bb:(Aa != 0)=false:=bne_eq_false_iff_eq.mpr c8
   clear c8
   (first|rw [Ag]|(simp only [i64_w,i32_w];rw [Ag])|skip)
   have H':=y0.mk H
   clear H
   go_wp2
   repeat(go_quiet (fail);try go_wp2)
   go_meet
   exact⟨_,(true),qy2,H',⟨by first|omega|exact Nat.le_refl _⟩,⟨qb⟩⟩
  ·rw [if_neg c8]at H
   have Ag:(Aa == 0)=false:=beq_eq_false_iff_ne.mpr c8
   have Bb:(Aa != 0)=true:=bne_iff_ne.mpr c8
   (first|rw [Ag]|(simp only [i64_w,i32_w];rw [Ag])|skip)
   have H':=y0.mk H
   clear H
   go_wp2
   repeat(go_quiet (fail);try go_wp2)
   go_meet
   exact⟨_,((Ac == 0)),qy2,H',⟨by first|omega|exact Nat.le_refl _⟩,⟨qb⟩⟩
 case rest =>
  clear Ba
  obtain⟨kq,Ad,rfl,HA,Bc,HB⟩:=hcut
  cases kq with
  | zero=>exact absurd HA.out (by simp [impl_compareTerms.j0])
  | succ Bd =>
   have H:=HA.out
   clear HA
   simp only [impl_compareTerms.j0]at H
   by_cases c9:Ad=true
   ·subst c9
    replace H:=qT H
    obtain rfl:=Option.some.inj H
    go_wp2
    repeat(go_quiet (fail);try go_wp2)
    go_ret
    exact⟨qf,qb⟩
   ·replace c9:=Bool.eq_false_iff.mpr c9
    subst c9
    replace H:=qF H
    by_cases Ah:Aa=Ac
    ·rw [if_pos Ah]at H
     have Aq:(Aa == Ac)=true:=beq_iff_eq.mpr Ah
     have Au:(Aa != Ac)=false:=bne_eq_false_iff_eq.mpr Ah
     clear Ah
     by_cases Ai:Aa=1
     ·rw [if_pos Ai]at H
      have Av:(Aa == 1)=true:=beq_iff_eq.mpr Ai
      have Aw:(Aa != 1)=false:=bne_eq_false_iff_eq.mpr Ai
      clear Ai
      obtain⟨Ae,Be,H⟩:=qB H
      obtain⟨Af,Bf,H⟩:=qB H
      obtain⟨Aj,Bg,H⟩:=qB H
      obtain rfl:=Option.some.inj H
      go_wp2_with (first|(go_at_call 98;(with_reducible refine(impl_numOf.calls a0 Ae _ (by exact Tb.below HT.out qb) Be.out).mono ?_);rintro e Bo ⟨rfl,hb⟩;replace HB:=y0.mk (y8 qb hb);(try clear hb))|(go_at_call 98;(with_reducible refine(impl_numOf.calls a1 Af _ (by exact Tb.below HT.out qb) Bf.out).mono ?_);rintro e Bp ⟨rfl,hb⟩;replace HB:=y0.mk (y8 qb hb);(try clear hb))|(go_at_call 97;(with_reducible refine(cmp_Compare_int.calls Ae Af Aj _ Bg.out).mono ?_);rintro e w' ⟨rfl,⟨nd,rfl⟩⟩;(try first|exact⟨rfl,_,World.drewN_drewN _ _ _⟩|exact⟨rfl,_,Eq.trans (World.drewN_drewN _ _ _) (congrArg (World.drewN _) (Nat.add_assoc _ _ _))⟩)))
      repeat(go_quiet (first|(go_at_call 98;(with_reducible refine(impl_numOf.calls a0 Ae _ (by exact Tb.below HT.out qb) Be.out).mono ?_);rintro e Bo ⟨rfl,hb⟩;replace HB:=y0.mk (y8 qb hb);(try clear hb))|(go_at_call 98;(with_reducible refine(impl_numOf.calls a1 Af _ (by exact Tb.below HT.out qb) Bf.out).mono ?_);rintro e Bp ⟨rfl,hb⟩;replace HB:=y0.mk (y8 qb hb);(try clear hb))|(go_at_call 97;(with_reducible refine(cmp_Compare_int.calls Ae Af Aj _ Bg.out).mono ?_);rintro e w' ⟨rfl,⟨nd,rfl⟩⟩;(try first|exact⟨rfl,_,World.drewN_drewN _ _ _⟩|exact⟨rfl,_,Eq.trans (World.drewN_drewN _ _ _) (congrArg (World.drewN _) (Nat.add_assoc _ _ _))⟩)));try go_wp2_with (first|(go_at_call 98;(with_reducible refine(impl_numOf.calls a0 Ae _ (by exact Tb.below HT.out qb) Be.out).mono ?_);rintro e Bo ⟨rfl,hb⟩;replace HB:=y0.mk (y8 qb hb);(try clear hb))|(go_at_call 98;(with_reducible refine(impl_numOf.calls a1 Af _ (by exact Tb.below HT.out qb) Bf.out).mono ?_);rintro e Bp ⟨rfl,hb⟩;replace HB:=y0.mk (y8 qb hb);(try clear hb))|(go_at_call 97;(with_reducible refine(cmp_Compare_int.calls Ae Af Aj _ Bg.out).mono ?_);rintro e w' ⟨rfl,⟨nd,rfl⟩⟩;(try first|exact⟨rfl,_,World.drewN_drewN _ _ _⟩|exact⟨rfl,_,Eq.trans (World.drewN_drewN _ _ _) (congrArg (World.drewN _) (Nat.add_assoc _ _ _))⟩))))
      go_ret
      exact⟨qf,qb⟩
     ·rw [if_neg Ai]at H
      have Av:(Aa == 1)=false:=beq_eq_false_iff_ne.mpr Ai
      have Aw:(Aa != 1)=true:=bne_iff_ne.mpr Ai
      by_cases Ak:Aa=2
      ·rw [if_pos Ak]at H
       have Ay:(Aa == 2)=true:=beq_iff_eq.mpr Ak
       have Az:(Aa != 2)=false:=bne_eq_false_iff_eq.mpr Ak
       clear Ak
       obtain⟨Bh,H⟩:=qo H
       have Bq:=eq_true Bh
       have Br:=decide_eq_true Bh
       clear Bh
       obtain⟨Bi,H⟩:=qo H
       have Bs:=eq_true Bi
       have Bt:=decide_eq_true Bi
       clear Bi
       obtain⟨Bj,H⟩:=qo H
       have Bu:=eq_true Bj
       have Bv:=decide_eq_true Bj
       clear Bj
       obtain⟨Bk,H⟩:=qo H
       have Bw:=eq_true Bk
       have Bx:=decide_eq_true Bk
       clear Bk
       obtain⟨Al,Bl,H⟩:=qB H
       obtain rfl:=Option.some.inj H
       go_wp2_with (first|(go_at_call 99;(with_reducible refine(cmp_Compare_string.calls (a0.extract 1 ((wrap64 ((a0.size:Int) - 1)):Int).toNat) (a1.extract 1 ((wrap64 ((a1.size:Int) - 1)):Int).toNat) Al _ Bl.out).mono ?_);rintro e w' ⟨rfl,⟨nd,rfl⟩⟩;(try first|exact⟨rfl,_,World.drewN_drewN _ _ _⟩|exact⟨rfl,_,Eq.trans (World.drewN_drewN _ _ _) (congrArg (World.drewN _) (Nat.add_assoc _ _ _))⟩)))
       repeat(go_quiet (first|(go_at_call 99;(with_reducible refine(cmp_Compare_string.calls (a0.extract 1 ((wrap64 ((a0.size:Int) - 1)):Int).toNat) (a1.extract 1 ((wrap64 ((a1.size:Int) - 1)):Int).toNat) Al _ Bl.out).mono ?_);rintro e w' ⟨rfl,⟨nd,rfl⟩⟩;(try first|exact⟨rfl,_,World.drewN_drewN _ _ _⟩|exact⟨rfl,_,Eq.trans (World.drewN_drewN _ _ _) (congrArg (World.drewN _) (Nat.add_assoc _ _ _))⟩)));try go_wp2_with (first|(go_at_call 99;(with_reducible refine(cmp_Compare_string.calls (a0.extract 1 ((wrap64 ((a0.size:Int) - 1)):Int).toNat) (a1.extract 1 ((wrap64 ((a1.size:Int) - 1)):Int).toNat) Al _ Bl.out).mono ?_);rintro e w' ⟨rfl,⟨nd,rfl⟩⟩;(try first|exact⟨rfl,_,World.drewN_drewN _ _ _⟩|exact⟨rfl,_,Eq.trans (World.drewN_drewN _ _ _) (congrArg (World.drewN _) (Nat.add_assoc _ _ _))⟩))))
       go_ret
       exact⟨qf,qb⟩
      ·rw [if_neg Ak]at H
       have Ay:(Aa == 2)=false:=beq_eq_false_iff_ne.mpr Ak
       have Az:(Aa != 2)=true:=bne_iff_ne.mpr Ak
       obtain⟨Am,Bm,H⟩:=qB H
       obtain rfl:=Option.some.inj H
       go_wp2_with (first|(go_at_call 100;(with_reducible refine(ih_impl_compareCons Bd (by have:=Bc.out;omega) a0 a1 Am _ (by exact Tb.below HT.out qb) Bm.out).mono ?_);rintro e Bz ⟨rfl,hb⟩;replace HB:=y0.mk (y8 qb hb);(try clear hb)))
       repeat(go_quiet (first|(go_at_call 100;(with_reducible refine(ih_impl_compareCons Bd (by have:=Bc.out;omega) a0 a1 Am _ (by exact Tb.below HT.out qb) Bm.out).mono ?_);rintro e Bz ⟨rfl,hb⟩;replace HB:=y0.mk (y8 qb hb);(try clear hb)));try go_wp2_with (first|(go_at_call 100;(with_reducible refine(ih_impl_compareCons Bd (by have:=Bc.out;omega) a0 a1 Am _ (by exact Tb.below HT.out qb) Bm.out).mono ?_);rintro e Bz ⟨rfl,hb⟩;replace HB:=y0.mk (y8 qb hb);(try clear hb))))
       go_ret
       exact⟨qf,qb⟩
    ·rw [if_neg Ah]at H
     have Aq:(Aa == Ac)=false:=beq_eq_false_iff_ne.mpr Ah
     have Au:(Aa != Ac)=true:=bne_iff_ne.mpr Ah
     obtain⟨Ap,Bn,H⟩:=qB H
     obtain rfl:=Option.some.inj H
     go_wp2_with (first|(go_at_call 97;(with_reducible refine(cmp_Compare_int.calls Aa Ac Ap _ Bn.out).mono ?_);rintro e w' ⟨rfl,⟨nd,rfl⟩⟩;(try first|exact⟨rfl,_,World.drewN_drewN _ _ _⟩|exact⟨rfl,_,Eq.trans (World.drewN_drewN _ _ _) (congrArg (World.drewN _) (Nat.add_assoc _ _ _))⟩)))
     repeat(go_quiet (first|(go_at_call 97;(with_reducible refine(cmp_Compare_int.calls Aa Ac Ap _ Bn.out).mono ?_);rintro e w' ⟨rfl,⟨nd,rfl⟩⟩;(try first|exact⟨rfl,_,World.drewN_drewN _ _ _⟩|exact⟨rfl,_,Eq.trans (World.drewN_drewN _ _ _) (congrArg (World.drewN _) (Nat.add_assoc _ _ _))⟩)));try go_wp2_with (first|(go_at_call 97;(with_reducible refine(cmp_Compare_int.calls Aa Ac Ap _ Bn.out).mono ?_);rintro e w' ⟨rfl,⟨nd,rfl⟩⟩;(try first|exact⟨rfl,_,World.drewN_drewN _ _ _⟩|exact⟨rfl,_,Eq.trans (World.drewN_drewN _ _ _) (congrArg (World.drewN _) (Nat.add_assoc _ _ _))⟩))))
     go_ret
     exact⟨qf,qb⟩
theorem impl_compareCons.all.Stm:∀ k,impl_compareCons.Stm k∧impl_compareTerms.Stm k:=by
 intro k
 induction k using Nat.strongRecOn with
 | _ k ih =>
 exact⟨impl_compareCons.step k (fun m h=>(ih m h).1) (fun m h=>(ih m h).2),impl_compareTerms.step k (fun m h=>(ih m h).1) (fun m h=>(ih m h).2)⟩
theorem impl_compareTerms.calls (k:Nat):∀(a0:ByteArray) (a1:ByteArray) (r:Int) (w:World) (hT:Tb w) (h:impl_compareTerms.f k a0 a1=some r),
  Calls Tryz.prog 74 #[.string a0,.string a1] w fun e w'=>e=.returned (.int .i64 r)∧Below w.heap.size w w':=(impl_compareCons.all.Stm k).2
def z1_.l0:Nat→List ByteArray→List ByteArray→List ByteArray→Int→Int→Option (Int)
 | 0,_,_,_,_,_=>none
 | k + 1,x0,x1,x11,x12,x13=>if x13 < x12 then(if 0≤x13 then(if x13 < (x11.length:Int)then(if x13≥(x1.length:Int)then(some 1)else(if x13 < (x1.length:Int)then((impl_compareTerms.f k (rdOf ByteArray.empty x11 x13) (rdOf ByteArray.empty x1 x13)).bind fun t349=>(if t349=0 then(z1_.l0 k x0 x1 x11 x12 (wrap64 (x13 + 1)))else(some t349)))else(none)))else(none))else(none))else(if(x0.length:Int) < (x1.length:Int)then(some (-1))else(some 0))
def z1_.f (k:Nat) (l0:List ByteArray) (l1:List ByteArray) :Option (Int):=z1_.l0 k l0 l1 l0 (l0.length:Int) 0
set_option maxHeartbeats 8000000 in
set_option maxRecDepth 100000 in
theorem z1_.calls (k:Nat) (A0:Option Addr) (c0:Nat) (l0:List ByteArray) (A1:Option Addr) (c1:Nat) (l1:List ByteArray)  (r:Int) (w:World) (Ba:Kd.C Kd.string w A0 l0.length l0) (Bb:l0.length≤c0) (Bc:Kd.C Kd.string w A1 l1.length l1) (Bd:l1.length≤c1) (hT:Tb w) (h:z1_.f k l0 l1=some r) :
  Calls Tryz.prog 73 #[.slice A0 l0.length c0,.slice A1 l1.length c1,.func (.func 74) #[] #[]] w fun e w'=>e=.returned (.int .i64 r)∧Below w.heap.size w w':=by
 have HT:=y0.mk hT
 clear hT
 have Be:=y0.mk Ba
 have Bm:=y0.mk Bb
 clear Ba Bb
 have Bh:=y0.mk Bc
 have Bn:=y0.mk Bd
 clear Bc Bd
 have HB:=y0.mk (Below.refl w.heap.size w)
 have H:(z1_.l0 k l0 l1 l0 (l0.length:Int) 0)=some r:=h
 clear h
 have H':=y0.mk H
 clear H
 go_enter Tryz.func73,Tryz.ntmps73
 go_wp2
 go_loopg [13] k (fun kq Bi w'=>∃(Aa:Int),Bi=.int .i64 Aa∧y0 (z1_.l0 kq l0 l1 l0 (l0.length:Int) Aa=some r)∧y0 (kq≤k)∧y0 (Below w.heap.size w w'))
 case atStart=>exact⟨(0),qy2,H',⟨Nat.le_refl _⟩,⟨qb⟩⟩
 case round =>
  clear H'
  obtain⟨Aa,rfl,HA,Bf,HB⟩:=hrel
  cases gk with
  | zero=>exact absurd HA.out (by simp [z1_.l0])
  | succ k1 =>
   have H:=HA.out
   clear HA
   simp only [z1_.l0]at H
   by_cases c4:Aa < (l0.length:Int)
   ·rw [if_pos c4]at H
    have Aw:=decide_eq_true c4
    clear c4
    obtain⟨c5,H⟩:=qo H
    have Bj:decide (0≤Aa)=true:=decide_eq_true c5
    clear c5
    obtain⟨c6,H⟩:=qo H
    have Bk:decide (Aa < (l0.length:Int))=true:=decide_eq_true c6
    clear c6
    by_cases c7:Aa≥(l1.length:Int)
    ·rw [if_pos c7]at H
     have Ay:decide ((l1.length:Int)≤Aa)=true:=decide_eq_true c7
     clear c7
     obtain rfl:=Option.some.inj H
     have Ae:0≤(Aa:Int):=of_decide_eq_true qy1
     have Af:Aa < (l0.length:Int):=of_decide_eq_true qy1
     obtain⟨Am,Ai,Ac⟩:=Kd.at_string Be.out Aa Ae Af
     cases Ai
     replace Ac:=(HB.out.cell (World.block_lt_of_cell? w _ Ac)).trans Ac
     replace Ae:=eq_true Ae
     replace Af:=eq_true Af
     go_wp2
     go_ret
     exact⟨qf,qb⟩
    ·rw [if_neg c7]at H
     have Ay:decide ((l1.length:Int)≤Aa)=false:=decide_eq_false c7
     clear c7
     obtain⟨c8,H⟩:=qo H
     have Bl:decide (Aa < (l1.length:Int))=true:=decide_eq_true c8
     clear c8
     obtain⟨Ag,A9,H⟩:=qB H
     have Ae:0≤(Aa:Int):=of_decide_eq_true qy1
     have Af:Aa < (l0.length:Int):=of_decide_eq_true qy1
     obtain⟨Am,Ai,Ac⟩:=Kd.at_string Be.out Aa Ae Af
     cases Ai
     replace Ac:=(HB.out.cell (World.block_lt_of_cell? w _ Ac)).trans Ac
     replace Ae:=eq_true Ae
     replace Af:=eq_true Af
     have Aj:0≤(Aa:Int):=of_decide_eq_true qy1
     have Ak:Aa < (l1.length:Int):=of_decide_eq_true qy1
     obtain⟨Bg,Az,Ad⟩:=Kd.at_string Bh.out Aa Aj Ak
     cases Az
     replace Ad:=(HB.out.cell (World.block_lt_of_cell? w _ Ad)).trans Ad
     replace Aj:=eq_true Aj
     replace Ak:=eq_true Ak
     by_cases Al:Ag=0
     ·rw [if_pos Al]at H
      have Ap:(Ag == 0)=true:=beq_iff_eq.mpr Al
      have Aq:(Ag != 0)=false:=bne_eq_false_iff_eq.mpr Al
      clear Al
      have H':=y0.mk H
      clear H
      go_wp2_with (first|(go_at_call 74;(with_reducible refine(impl_compareTerms.calls k1 (rdOf ByteArray.empty l0 Aa) (rdOf ByteArray.empty l1 Aa) Ag _ (by exact Tb.below HT.out qb) A9.out).mono ?_);rintro e Bo ⟨rfl,hb⟩;replace HB:=y0.mk (y8 qb hb);(try clear hb)))
      go_roundg k1
      case measure=>have:=Bf.out;omega
      exact⟨(wrap64 (Aa + 1)),qy2,H',⟨by have:=Bf.out;omega⟩,⟨qb⟩⟩
     ·rw [if_neg Al]at H
      have Ap:(Ag == 0)=false:=beq_eq_false_iff_ne.mpr Al
      have Aq:(Ag != 0)=true:=bne_iff_ne.mpr Al
      obtain rfl:=Option.some.inj H
      go_wp2_with (first|(go_at_call 74;(with_reducible refine(impl_compareTerms.calls k1 (rdOf ByteArray.empty l0 Aa) (rdOf ByteArray.empty l1 Aa) Ag _ (by exact Tb.below HT.out qb) A9.out).mono ?_);rintro e Bp ⟨rfl,hb⟩;replace HB:=y0.mk (y8 qb hb);(try clear hb)))
      go_ret
      exact⟨qf,qb⟩
   ·rw [if_neg c4]at H
    have Aw:=decide_eq_false c4
    clear c4
    by_cases Ah:(l0.length:Int) < (l1.length:Int)
    ·rw [if_pos Ah]at H
     have Au:=decide_eq_true Ah
     have Av:decide (l0.length < l1.length)=true:=decide_eq_true (Int.ofNat_lt.mp Ah)
     clear Ah
     obtain rfl:=Option.some.inj H
     go_wp2
     go_ret
     exact⟨qf,qb⟩
    ·rw [if_neg Ah]at H
     have Au:=decide_eq_false Ah
     have Av:decide (l0.length < l1.length)=false:=decide_eq_false (fun h=>Ah (Int.ofNat_lt.mpr h))
     clear Ah
     obtain rfl:=Option.some.inj H
     go_wp2
     go_ret
     exact⟨qf,qb⟩
def impl_compareTuples.f (k:Nat) (l0_0:List ByteArray) (l1_0:List ByteArray):Option (Int):=(z1_.f k l0_0 l1_0).bind fun t352=>(some t352)
set_option maxHeartbeats 8000000 in
set_option maxRecDepth 100000 in
theorem impl_compareTuples.calls (k:Nat) (Ah:Option Addr) (Ai:Nat) (Ac:List ByteArray) (Aj:Option Addr) (Ak:Nat) (Ad:List ByteArray) (r:Int) (w:World) (Al:Kd.C Kd.string w Ah Ac.length Ac) (Am:Ac.length≤Ai) (Ap:Kd.C Kd.string w Aj Ad.length Ad) (Aq:Ad.length≤Ak) (hT:Tb w) (h:impl_compareTuples.f k Ac Ad=some r) :
  Calls Tryz.prog 44 #[.agg #[.slice Ah Ac.length Ai],.agg #[.slice Aj Ad.length Ak]] w fun e w'=>e=.returned (.int .i64 r)∧Below w.heap.size w w':=by
 have Bk:=Tryz.underlying36
 have HT:=y0.mk hT
 clear hT
 have Av:=y0.mk Al
 have Aw:=y0.mk Am
 clear Al Am
 have Ay:=y0.mk Ap
 have Az:=y0.mk Aq
 clear Ap Aq
 have HB:=y0.mk (Below.refl w.heap.size w)
 have H:((z1_.f k Ac Ad).bind fun Au=>(some Au))=some r:=h
 clear h
 obtain⟨Au,A3,H⟩:=qB H
 obtain rfl:=Option.some.inj H
 go_enter Tryz.func44,Tryz.ntmps44
 go_wp2_with (first|((with_reducible refine y20 (N:=2) rfl ?_);refine qe 2 #[.slice Ah Ac.length Ai] 36 ?_;intro Be hg w4 hbox hb;have Aa:=y0.mk (hbox);have Bf:=y0.mk (qg (w:=w) hg);have Bg:=y0.mk (qg (w:=w) hg);replace HB:=y0.mk (y8 qb hb);clear hb hbox hg)|((with_reducible refine y20 (N:=3) rfl ?_);refine qe 3 #[.slice Aj Ad.length Ak] 36 ?_;intro Bh hg w5 hbox hb;have Ag:=y0.mk (hbox);have Bi:=y0.mk (qg (w:=w) hg);have Bj:=y0.mk (qg (w:=w) hg);replace HB:=y0.mk (y8 qb hb);have Ae:=y0.mk (qn Aa.out hg);have Af:=y0.mk (qm Aa.out hg);replace Aa:=y0.mk (qK Aa.out hb);clear hb hbox hg;have Bl:=Ae.out;have Bm:=Af.out;obtain⟨Ba,Bb⟩:=qz1 Aa.out;obtain⟨Bc,Bd⟩:=qz1 Ag.out)|((with_reducible refine y19 (f:=73) rfl ?_);refine y22 (some 9) rfl rfl Tryz.func73 (by kernel_rfl) rfl #[.slice Ah Ac.length Ai,.slice Aj Ad.length Ak,.func (.func 74) #[] #[]] rfl qy0 ?_;(with_reducible refine(z1_.calls k _ _ Ac _ _ Ad  Au _ (qc (Kd.C_below Av.out HB.out)) Aw.out (qc (Kd.C_below Ay.out HB.out)) Az.out (by exact Tb.below HT.out qb) A3.out).mono ?_);rintro e w9 ⟨rfl,hb⟩;refine⟨_,rfl, ?_⟩;replace Aa:=y0.mk (qK Aa.out hb);replace Ag:=y0.mk (qK Ag.out hb);replace HB:=y0.mk (y8 qb hb);(try clear hb)))
 go_ret
 exact⟨qf,qb⟩
end Go.Proofs.YtkajecadkkgfmaaGreatDoor.Pn
end
section
namespace Go.Proofs.YtkajecadkkgfmaaGreatDoor.Pn
open Go.RowKit Go.Proofs.YtkajecadkkgfmaaGreatDoorW.PrintWords Go.Proofs.YtkajecadkkgfmaaGreatDoorW.PrintLast Go.Proofs.YtkajecadkkgfmaaGreatDoorW.PrintMore
attribute [local go_sem] max2_int min2_int max_two min_two max_three min_three max_four min_four   -- for this text's walks alone
set_option linter.unusedVariables false
set_option linter.unusedSimpArgs false
mutual
def impl_isRel.j0:Nat→Bool→Int→List (S36)→Option (Bool)
 | 0,_,_,_=>none
 | k + 1,x14,x354000,x354001=>if x14=true then(some false)else(impl_isRel.l0 k x354001 (x354001.length:Int) 0 x354000 x354001)
def impl_isRel.l0:Nat→List (S36)→Int→Int→Int→List (S36)→Option (Bool)
 | 0,_,_,_,_,_=>none
 | k + 1,x16,x17,x18,x354000,x354001=>if x18 < x17 then(if 0≤x18 then(if x18 < (x16.length:Int)then((impl_isTuple.f k ((y24 x16 x18).f0)).bind fun t357=>(if t357=true then(if(((y24 x16 x18).f0).length:Int)=x354000 then(if x18 > 0 then(if 0≤(wrap64 (x18 - 1))then(if(wrap64 (x18 - 1)) < (x354001.length:Int)then((impl_compareTuples.f k ((y24 x354001 (wrap64 (x18 - 1))).f0) ((y24 x16 x18).f0)).bind fun t359=>(if t359≥0 then(some false)else(impl_isRel.l0 k x16 x17 (wrap64 (x18 + 1)) x354000 x354001)))else(none))else(none))else(impl_isRel.l0 k x16 x17 (wrap64 (x18 + 1)) x354000 x354001))else(some false))else(some false)))else(none))else(none))else(some true)
end
def impl_isRel.f (k:Nat) (a0_0:Int) (l0_1:List (S36)):Option (Bool):=(impl_in.f a0_0 0 6).bind fun t354=>(if t354=true then(impl_isRel.j0 k (decide ((l0_1.length:Int) > 400)) a0_0 l0_1)else(impl_isRel.j0 k true a0_0 l0_1))
def impl_isRel.T6:Bool×List (List Nat×List Nat):=(true,[([],[]),([0],[0]),([1],[1]),([2,1],[2]),([3],[3]),([4,3],[3,4]),([5,3],[3,5]),([3],[3]),([7,3],[3,7]),([6,8,3],[3,6,8]),([3,9],[3,9]),([10,3],[10]),([11],[11]),([12,11],[11,12]),([13,11,11],[11,13]),([14],[14]),([15,14],[14,15]),([14],[14]),([17,14],[14,17]),([16,18,14],[14,16,18]),([19,14],[14,19]),([14],[14]),([20,21,14,14],[14,20,21]),([22,14],[14,22]),([14,23,11],[11,14,23]),([11,24],[11,24])])
def impl_isRel.B6:List Nat:=[0,1,3,7,15,31,63,15,143,511,1023,2047,4095,8191,16383,32767,65535,32767,163839,524287,1048575,32767,4194303,8388607,16777215,33554431]
theorem impl_isRel.tab6:rtab .any (opsOf Tryz.f40 6)=impl_isRel.T6:=by kernel_rfl
theorem impl_isRel.bits6:waitsOk impl_isRel.T6.2 impl_isRel.B6=true:=by kernel_rfl
set_option maxHeartbeats 8000000 in
set_option maxRecDepth 100000 in
theorem impl_isRel.calls (k:Nat) (Am:Int) (Bp:Option Addr) (Bd:Nat) (Ae:List (S36)) (r:Bool) (w:World) (Bs:Kd.C k36 w Bp Ae.length Ae) (Bt:Ae.length≤Bd) (hT:Tb w) (h:impl_isRel.f k Am Ae=some r) :
  Calls Tryz.prog 40 #[.agg #[.int .i64 Am,.slice Bp Ae.length Bd]] w fun e w'=>e=.returned (.bool r)∧Below w.heap.size w w':=by
 have Ei:=Tryz.underlying32
 have Ej:=Tryz.underlying36
 have HT:=y0.mk hT
 clear hT
 have Bg:=y0.mk Bs
 have Dn:=y0.mk Bt
 clear Bs Bt
 have HB:=y0.mk (Below.refl w.heap.size w)
 have H:((impl_in.f Am 0 6).bind fun Bu=>(if Bu=true then(impl_isRel.j0 k (decide ((Ae.length:Int) > 400)) Am Ae)else(impl_isRel.j0 k true Am Ae)))=some r:=h
 clear h
 have Dc:=y0.mk H
 clear H
 go_enter Tryz.func40,Tryz.ntmps40
 go_upto_region 1 with(first|((with_reducible refine y20 (N:=1) rfl ?_);(try(refine y21 (by rfl) ?_;dsimp only));refine qe 1 #[.int .i64 Am,.slice Bp Ae.length Bd] 32 ?_;intro Aw hg w3 hbox hb;have Aa:=y0.mk (hbox);have Do:=y0.mk (qg (w:=w) hg);have Dp:=y0.mk (qg (w:=w) hg);replace HB:=y0.mk (y8 qb hb);clear hb hbox hg))
 (try simp only [Act.put,qS_,qZ_,qC_])
 go_cut [14] (fun Ek wc=>∃(kq:Nat) (Bl:Bool),Ek=.bool Bl∧y0 (impl_isRel.j0 kq Bl Am Ae=some r)∧y0 (kq≤k)∧y0 (wc.heap[Aw]?=some (.cells #[.int .i64 Am,(.slice Bp Ae.length Bd)] 32 (0,0)))∧y0 (Below w.heap.size w wc))
 case first =>
  have H:=Dc.out
  clear Dc
  obtain⟨Bu,A4,H⟩:=qB H
  by_cases c5:Bu=true
  ·subst c5
   replace H:=qT H
   have H':=y0.mk H
   clear H
   obtain⟨Dd,De,Df,Dg⟩:=qz2 Aa.out
   go_wp2_with (first|((with_reducible refine y19 (f:=69) rfl ?_);refine y22 (some 7) rfl rfl Tryz.func69 (by kernel_rfl) rfl #[.int .i64 Am,.int .i64 0,.int .i64 6] rfl qy0 ?_;(with_reducible refine(impl_in.calls Am 0 6 true _ A4.out).mono ?_);rintro e w' ⟨rfl,⟨nd,rfl⟩⟩;refine⟨_,rfl, ?_⟩))
   go_meet
   exact⟨_,(decide ((Ae.length:Int) > 400)),qy2,H',⟨by first|omega|exact Nat.le_refl _⟩,⟨qk Aa.out⟩,⟨qb⟩⟩
  ·replace c5:=Bool.eq_false_iff.mpr c5
   subst c5
   replace H:=qF H
   have H':=y0.mk H
   clear H
   obtain⟨Dh,Di,Dj,Dk⟩:=qz2 Aa.out
   go_wp2_with (first|((with_reducible refine y19 (f:=69) rfl ?_);refine y22 (some 7) rfl rfl Tryz.func69 (by kernel_rfl) rfl #[.int .i64 Am,.int .i64 0,.int .i64 6] rfl qy0 ?_;(with_reducible refine(impl_in.calls Am 0 6 false _ A4.out).mono ?_);rintro e w' ⟨rfl,⟨nd,rfl⟩⟩;refine⟨_,rfl, ?_⟩))
   go_meet
   exact⟨_,(true),qy2,H',⟨by first|omega|exact Nat.le_refl _⟩,⟨qk Aa.out⟩,⟨qb⟩⟩
 case rest =>
  clear Dc
  obtain⟨kq,Bl,rfl,HA,Cn,Aa,HB⟩:=hcut
  cases kq with
  | zero=>exact absurd HA.out (by simp [impl_isRel.j0])
  | succ Dq =>
   have H:=HA.out
   clear HA
   simp only [impl_isRel.j0]at H
   by_cases c8:Bl=true
   ·subst c8
    replace H:=qT H
    obtain rfl:=Option.some.inj H
    go_wp2
    go_ret
    exact⟨qf,qb⟩
   ·replace c8:=Bool.eq_false_iff.mpr c8
    subst c8
    replace H:=qF H
    have H':=y0.mk H
    clear H
    obtain⟨Bv,Bw,Bx,Bz⟩:=qz2 Aa.out
    go_wp2
    go_loopg [18] Dq (fun kq El w'=>∃(Ac:Int),El=.int .i64 Ac∧y0 (impl_isRel.l0 kq Ae (Ae.length:Int) Ac Am Ae=some r)∧y0 (kq≤Dq)∧y0 (w'.heap[Aw]?=some (.cells #[.int .i64 Am,(.slice Bp Ae.length Bd)] 32 (0,0)))∧y0 (Below w.heap.size w w'))
    case atStart=>exact⟨(0),qy2,H',⟨Nat.le_refl _⟩,⟨qk Aa.out⟩,⟨qb⟩⟩
    case round =>
     clear H'
     (try clear c8 Bv Bw Bx Bz)
     obtain⟨Ac,rfl,HA,Co,Aa,HB⟩:=hrel
     cases gk with
     | zero=>exact absurd HA.out (by simp [impl_isRel.l0])
     | succ k2 =>
      have H:=HA.out
      clear HA
      simp only [impl_isRel.l0]at H
      by_cases Cd:Ac < (Ae.length:Int)
      ·as_aux_lemma =>
       rw [if_pos Cd]at H
       have Ch:=decide_eq_true Cd
       clear Cd
       obtain⟨Dr,H⟩:=qo H
       have Ds:decide (0≤Ac)=true:=decide_eq_true Dr
       clear Dr
       obtain⟨Dt,H⟩:=qo H
       have Du:decide (Ac < (Ae.length:Int))=true:=decide_eq_true Dt
       clear Dt
       obtain⟨Dl,Ce,H⟩:=qB H
       by_cases Cp:Dl=true
       ·subst Cp
        replace H:=qT H
        by_cases Ca:(((y24 Ae Ac).f0).length:Int)=Am
        ·as_aux_lemma =>
         rw [if_pos Ca]at H
         have Ci:((((y24 Ae Ac).f0).length:Int) == Am)=true:=beq_iff_eq.mpr Ca
         have Cj:((((y24 Ae Ac).f0).length:Int) != Am)=false:=bne_eq_false_iff_eq.mpr Ca
         clear Ca
         by_cases Cf:Ac > 0
         ·as_aux_lemma =>
          rw [if_pos Cf]at H
          have Ck:decide (0 < Ac)=true:=decide_eq_true Cf
          clear Cf
          obtain⟨Bc,Be⟩:∃ j_:Int,(wrap64 (Ac - 1))=j_:=⟨_,rfl⟩
          replace H:(if 0≤(Bc)then(if(Bc) < (Ae.length:Int)then((impl_compareTuples.f k2 ((y24 Ae (Bc)).f0) ((y24 Ae Ac).f0)).bind fun Bh=>(if Bh≥0 then(some false)else(impl_isRel.l0 k2 Ae (Ae.length:Int) (wrap64 (Ac + 1)) Am Ae)))else(none))else(none))=some r:=by first|(rw [Be]at H;exact H)|(simp only [Be]at H ⊢;exact H)
          (try rw [Be]at Ce)
          have hji17w:(IntKind.i64.wrap (Ac - 1))=Bc:=(i64_w _).trans Be
          obtain⟨Dv,H⟩:=qo H
          have Dw:=decide_eq_true Dv
          clear Dv
          obtain⟨Dx,H⟩:=qo H
          have Dy:=decide_eq_true Dx
          clear Dx
          obtain⟨Bh,Dz,H⟩:=qB H
          have Az:0≤(Ac:Int):=of_decide_eq_true qy1
          have Ba:Ac < (Ae.length:Int):=of_decide_eq_true qy1
          obtain⟨Ay,Af,Ag,Bi,Aj,Ak,Al⟩:=at_T36 Bg.out Ac Az Ba
          cases Bi
          replace Aj:=(HB.out.cell (World.block_lt_of_cell? w _ Aj)).trans Aj
          have Aq:=y0.mk Al
          have Au:=y0.mk Ak
          clear Al Ak
          replace Az:=eq_true Az
          replace Ba:=eq_true Ba
          try go_wp2_with (first|((with_reducible refine y20 (N:=4) rfl ?_);(try(refine y21 (by rfl) ?_;dsimp only));refine qe 4 #[.slice none 0 0] 36 ?_;intro Ah hg Cq hbox hb;have Ad:=y0.mk (hbox);have Bq:=y0.mk (qg (w:=w) hg);have Br:=y0.mk (qg (w:=w) hg);replace HB:=y0.mk (y8 qb hb);have Ai:=y0.mk (qn Aa.out hg);have Ap:=y0.mk (qm Aa.out hg);replace Aa:=y0.mk (qK Aa.out hb);clear hb hbox hg;have Ea:=Ap.out;have Eb:=Ai.out;obtain⟨Cr,Cs⟩:=qz1 Ad.out))
          have n0_:y0 ((Cq.setCell ⟨Ah,0,none⟩ (.slice Af ((y24 Ae Ac).f0).length Ag)).heap[Aw]?=some (.cells #[.int .i64 Am,.slice (some Ay) Ae.length Bd] 32 (0,0))):=⟨by(with_reducible repeat(first|refine y13 ?_ _|refine y12 ?_|refine y9 ?_ _));refine y14 ?_ Ai.out _;(with_reducible repeat(first|refine y13 ?_ _|refine y12 ?_|refine y9 ?_ _));exact Aa.out⟩
          have n1_:y0 ((Cq.setCell ⟨Ah,0,none⟩ (.slice Af ((y24 Ae Ac).f0).length Ag)).heap[Ah]?=some (.cells #[.slice Af ((y24 Ae Ac).f0).length Ag] 36 (0,0))):=⟨by(with_reducible repeat(first|refine y13 ?_ _|refine y12 ?_|refine y9 ?_ _));refine y16 (cs:=#[.slice none 0 0]) ?_ 0 _ rfl;(with_reducible repeat(first|refine y13 ?_ _|refine y12 ?_|refine y9 ?_ _));exact Ad.out⟩
          have n2_:y0 (Below w.heap.size w (Cq.setCell ⟨Ah,0,none⟩ (.slice Af ((y24 Ae Ac).f0).length Ag))):=⟨qb⟩
          (try clear Aa)
          (try clear Ad)
          (try clear HB)
          generalize (Cq.setCell ⟨Ah,0,none⟩ (.slice Af ((y24 Ae Ac).f0).length Ag))=Em at n0_ n1_ n2_ ⊢
          have Aa:=n0_
          have Ad:=n1_
          have HB:=n2_
          clear n0_ n1_ n2_
          replace Aa:=y0.mk (y12 Aa.out)
          replace Ad:=y0.mk (y12 Ad.out)
          replace HB:=y0.mk (y5 HB.out)
          have Cb:0≤((Bc):Int):=of_decide_eq_true qy1
          have Cc:(Bc) < (Ae.length:Int):=of_decide_eq_true qy1
          obtain⟨Cl,Bj,Bk,Dm,Bb,Bm,Bn⟩:=at_T36 Bg.out (Bc) Cb Cc
          have Av:=Bb
          obtain rfl:Ay=Cl:=(by injection Dm)
          replace Bb:=(HB.out.cell (World.block_lt_of_cell? w _ Bb)).trans Bb
          have Bf:=y0.mk Bn
          have Bo:=y0.mk Bm
          clear Bn Bm
          replace Cb:=eq_true Cb
          replace Cc:=eq_true Cc
          refine start_ (n:=26) (S:=fun w'=>w'.cell? ⟨Ah,0,none⟩=some (.slice Af ((y24 Ae Ac).f0).length Ag)∧w'.cell? ⟨Aw,0,none⟩=some (.int .i64 Am)∧w'.cell? ⟨Aw,1,none⟩=some (.slice (some Ay) Ae.length Bd)∧w'.cell? (Ay.add ((Bc)).toNat)=some (.slice Bj ((y24 Ae (Bc)).f0).length Bk)) (ds:=[]) (fl_ 26 0) (by kernel_rfl) rfl rfl ⟨(y11 Ad.out 0).trans rfl,(y11 Aa.out 0).trans rfl,(y11 Aa.out 1).trans rfl,((HB.out.cell (World.block_lt_of_cell? w _ Av)).trans Av)⟩ (fun hHeld=>?_);refine with_tabW impl_isRel.tab6 impl_isRel.bits6 (fun HT_ HW_=>?_)
          generalize Em.drew=Er at Aa Ad HB Bf Bb hHeld ⊢
          by_cases Cg:Bh≥0
          ·as_aux_lemma =>
           rw [if_pos Cg]at H
           have Cm:decide (0≤Bh)=true:=decide_eq_true Cg
           clear Cg
           obtain rfl:=Option.some.inj H
           refine qt 0 23 (fl_ 26 1) hHeld ?_
           refine qO 1 24 (fl_ 26 3) (fun K hK=>?_)
           refine goes_ Tryz.func41 (by kernel_rfl) rfl #[.agg #[.slice Af ((y24 Ae Ac).f0).length Ag]] (by rfl) rfl rfl qy0 ?_
           with_reducible refine(impl_isTuple.calls k2 _ _ ((y24 Ae Ac).f0) true _ (qc (Kd.C_below Aq.out HB.out)) Au.out (by exact Tb.below HT.out qb) Ce.out).mono ?_
           rintro e Es ⟨rfl,hb⟩
           refine⟨_,rfl, ?_⟩
           replace Aa:=y0.mk (qK Aa.out hb)
           replace Ad:=y0.mk (qK Ad.out hb)
           replace HB:=y0.mk (y8 qb hb)
           (try clear hb)
           refine hK.out _ _ ⟨(y11 Ad.out 0).trans rfl,(y11 Aa.out 0).trans rfl,(y11 Aa.out 1).trans rfl,((HB.out.cell (World.block_lt_of_cell? w _ Av)).trans Av)⟩ (fun hHeld=>?_)
           clear hK K
           refine qx 24 ?_
           refine qp3 2 25 26 ?_
           refine qp 7 30 (fl_ 26 159) ?_
           refine qt 5 28 (fl_ 26 191) hHeld ?_
           refine qp 6 29 (fl_ 26 255) ?_
           refine qt 8 31 (fl_ 26 511) hHeld ?_
           refine qp6 9 32 26 ?_
           refine qp 15 38 (fl_ 26 65535) ?_
           refine qp 17 40 (fl_ 26 196607) ?_
           refine qp 18 41 (fl_ 26 458751) ?_
           refine qt 16 39 (fl_ 26 524287) hHeld ?_
           refine qp 19 42 (fl_ 26 1048575) ?_
           refine qt 20 43 (fl_ 26 2097151) hHeld ?_
           refine qt 21 44 (fl_ 26 4194303) hHeld ?_
           refine qO 22 45 (fl_ 26 8388607) (fun K hK=>?_)
           refine goes_ Tryz.func44 (by kernel_rfl) rfl #[.agg #[.slice Bj ((y24 Ae (Bc)).f0).length Bk],.agg #[.slice Af ((y24 Ae Ac).f0).length Ag]] (by rfl) rfl rfl (by(try simp only [qM_,List.map_cons,List.map_nil]);first|done|(simp only [Be];rfl)|rfl|(simp only [qD_,qT_];rfl)) ?_
           with_reducible refine(impl_compareTuples.calls k2 _ _ ((y24 Ae (Bc)).f0) _ _ ((y24 Ae Ac).f0) Bh _ (qc (Kd.C_below Bf.out HB.out)) Bo.out (qc (Kd.C_below Aq.out HB.out)) Au.out (by exact Tb.below HT.out qb) Dz.out).mono ?_
           rintro e Et ⟨rfl,hb⟩
           refine⟨_,rfl, ?_⟩
           replace Aa:=y0.mk (qK Aa.out hb)
           replace Ad:=y0.mk (qK Ad.out hb)
           replace HB:=y0.mk (y8 qb hb)
           (try clear hb)
           refine hK.out _ _ ⟨(y11 Ad.out 0).trans rfl,(y11 Aa.out 0).trans rfl,(y11 Aa.out 1).trans rfl,((HB.out.cell (World.block_lt_of_cell? w _ Av)).trans Av)⟩ (fun hHeld=>?_)
           clear hK K
           refine qx 45 ?_
           refine qp3 23 46 26 ?_
           refine done_ (done_of HT_.out (by kernel_rfl)) ?_
           try go_wp2
           go_ret
           exact⟨by first|rfl|(simp [y17,y18] <;> rfl)|(simp only [← Be];first|rfl|(simp [y17,y18] <;> rfl))|(simp [*,y17,y18] <;> rfl),qb⟩
          ·as_aux_lemma =>
           rw [if_neg Cg]at H
           have Cm:decide (0≤Bh)=false:=decide_eq_false Cg
           clear Cg
           have H':=y0.mk H
           clear H
           refine qt 0 23 (fl_ 26 1) hHeld ?_
           refine qO 1 24 (fl_ 26 3) (fun K hK=>?_)
           refine goes_ Tryz.func41 (by kernel_rfl) rfl #[.agg #[.slice Af ((y24 Ae Ac).f0).length Ag]] (by rfl) rfl rfl qy0 ?_
           with_reducible refine(impl_isTuple.calls k2 _ _ ((y24 Ae Ac).f0) true _ (qc (Kd.C_below Aq.out HB.out)) Au.out (by exact Tb.below HT.out qb) Ce.out).mono ?_
           rintro e Eu ⟨rfl,hb⟩
           refine⟨_,rfl, ?_⟩
           replace Aa:=y0.mk (qK Aa.out hb)
           replace Ad:=y0.mk (qK Ad.out hb)
           replace HB:=y0.mk (y8 qb hb)
           (try clear hb)
           refine hK.out _ _ ⟨(y11 Ad.out 0).trans rfl,(y11 Aa.out 0).trans rfl,(y11 Aa.out 1).trans rfl,((HB.out.cell (World.block_lt_of_cell? w _ Av)).trans Av)⟩ (fun hHeld=>?_)
           clear hK K
           refine qx 24 ?_
           refine qp3 2 25 26 ?_
           refine qp 7 30 (fl_ 26 159) ?_
           refine qt 5 28 (fl_ 26 191) hHeld ?_
           refine qp 6 29 (fl_ 26 255) ?_
           refine qt 8 31 (fl_ 26 511) hHeld ?_
           refine qp6 9 32 26 ?_
           refine qp 15 38 (fl_ 26 65535) ?_
           refine qp 17 40 (fl_ 26 196607) ?_
           refine qp 18 41 (fl_ 26 458751) ?_
           refine qt 16 39 (fl_ 26 524287) hHeld ?_
           refine qp 19 42 (fl_ 26 1048575) ?_
           refine qt 20 43 (fl_ 26 2097151) hHeld ?_
           refine qt 21 44 (fl_ 26 4194303) hHeld ?_
           refine qO 22 45 (fl_ 26 8388607) (fun K hK=>?_)
           refine goes_ Tryz.func44 (by kernel_rfl) rfl #[.agg #[.slice Bj ((y24 Ae (Bc)).f0).length Bk],.agg #[.slice Af ((y24 Ae Ac).f0).length Ag]] (by rfl) rfl rfl (by(try simp only [qM_,List.map_cons,List.map_nil]);first|done|(simp only [Be];rfl)|rfl|(simp only [qD_,qT_];rfl)) ?_
           with_reducible refine(impl_compareTuples.calls k2 _ _ ((y24 Ae (Bc)).f0) _ _ ((y24 Ae Ac).f0) Bh _ (qc (Kd.C_below Bf.out HB.out)) Bo.out (qc (Kd.C_below Aq.out HB.out)) Au.out (by exact Tb.below HT.out qb) Dz.out).mono ?_
           rintro e Ew ⟨rfl,hb⟩
           refine⟨_,rfl, ?_⟩
           replace Aa:=y0.mk (qK Aa.out hb)
           replace Ad:=y0.mk (qK Ad.out hb)
           replace HB:=y0.mk (y8 qb hb)
           (try clear hb)
           refine hK.out _ _ ⟨(y11 Ad.out 0).trans rfl,(y11 Aa.out 0).trans rfl,(y11 Aa.out 1).trans rfl,((HB.out.cell (World.block_lt_of_cell? w _ Av)).trans Av)⟩ (fun hHeld=>?_)
           clear hK K
           refine qx 45 ?_
           refine qp3 23 46 26 ?_
           refine done_ (done_of HT_.out (by kernel_rfl)) ?_
           try go_wp2
           go_roundg k2
           case measure=>have:=Cn.out;have:=Co.out;omega
           exact⟨(wrap64 (Ac + 1)),qy2,H',⟨by have:=Cn.out;have:=Co.out;omega⟩,⟨qk Aa.out⟩,⟨qb⟩⟩
         ·as_aux_lemma =>
          rw [if_neg Cf]at H
          have Ck:decide (0 < Ac)=false:=decide_eq_false Cf
          clear Cf
          have H':=y0.mk H
          clear H
          have Az:0≤(Ac:Int):=of_decide_eq_true qy1
          have Ba:Ac < (Ae.length:Int):=of_decide_eq_true qy1
          obtain⟨Ay,Af,Ag,Bi,Aj,Ak,Al⟩:=at_T36 Bg.out Ac Az Ba
          cases Bi
          replace Aj:=(HB.out.cell (World.block_lt_of_cell? w _ Aj)).trans Aj
          have Aq:=y0.mk Al
          have Au:=y0.mk Ak
          clear Al Ak
          replace Az:=eq_true Az
          replace Ba:=eq_true Ba
          try go_wp2_with (first|((with_reducible refine y20 (N:=4) rfl ?_);(try(refine y21 (by rfl) ?_;dsimp only));refine qe 4 #[.slice none 0 0] 36 ?_;intro Ah hg Ct hbox hb;have Ad:=y0.mk (hbox);have Bq:=y0.mk (qg (w:=w) hg);have Br:=y0.mk (qg (w:=w) hg);replace HB:=y0.mk (y8 qb hb);have Ai:=y0.mk (qn Aa.out hg);have Ap:=y0.mk (qm Aa.out hg);replace Aa:=y0.mk (qK Aa.out hb);clear hb hbox hg;have Ec:=Ap.out;have Ed:=Ai.out;obtain⟨Cu,Cv⟩:=qz1 Ad.out))
          have n0_:y0 ((Ct.setCell ⟨Ah,0,none⟩ (.slice Af ((y24 Ae Ac).f0).length Ag)).heap[Aw]?=some (.cells #[.int .i64 Am,.slice (some Ay) Ae.length Bd] 32 (0,0))):=⟨by(with_reducible repeat(first|refine y13 ?_ _|refine y12 ?_|refine y9 ?_ _));refine y14 ?_ Ai.out _;(with_reducible repeat(first|refine y13 ?_ _|refine y12 ?_|refine y9 ?_ _));exact Aa.out⟩
          have n1_:y0 ((Ct.setCell ⟨Ah,0,none⟩ (.slice Af ((y24 Ae Ac).f0).length Ag)).heap[Ah]?=some (.cells #[.slice Af ((y24 Ae Ac).f0).length Ag] 36 (0,0))):=⟨by(with_reducible repeat(first|refine y13 ?_ _|refine y12 ?_|refine y9 ?_ _));refine y16 (cs:=#[.slice none 0 0]) ?_ 0 _ rfl;(with_reducible repeat(first|refine y13 ?_ _|refine y12 ?_|refine y9 ?_ _));exact Ad.out⟩
          have n2_:y0 (Below w.heap.size w (Ct.setCell ⟨Ah,0,none⟩ (.slice Af ((y24 Ae Ac).f0).length Ag))):=⟨qb⟩
          (try clear Aa)
          (try clear Ad)
          (try clear HB)
          generalize (Ct.setCell ⟨Ah,0,none⟩ (.slice Af ((y24 Ae Ac).f0).length Ag))=En at n0_ n1_ n2_ ⊢
          have Aa:=n0_
          have Ad:=n1_
          have HB:=n2_
          clear n0_ n1_ n2_
          replace Aa:=y0.mk (y12 Aa.out)
          replace Ad:=y0.mk (y12 Ad.out)
          replace HB:=y0.mk (y5 HB.out)
          refine start_ (n:=26) (S:=fun w'=>w'.cell? ⟨Ah,0,none⟩=some (.slice Af ((y24 Ae Ac).f0).length Ag)∧w'.cell? ⟨Aw,0,none⟩=some (.int .i64 Am)∧w'.cell? ⟨Aw,1,none⟩=some (.slice (some Ay) Ae.length Bd)) (ds:=[]) (fl_ 26 0) (by kernel_rfl) rfl rfl ⟨(y11 Ad.out 0).trans rfl,(y11 Aa.out 0).trans rfl,(y11 Aa.out 1).trans rfl⟩ (fun hHeld=>?_);refine with_tabW impl_isRel.tab6 impl_isRel.bits6 (fun HT_ HW_=>?_)
          generalize En.drew=Ex at Aa Ad HB hHeld ⊢
          refine qt 0 23 (fl_ 26 1) hHeld ?_
          refine qO 1 24 (fl_ 26 3) (fun K hK=>?_)
          refine goes_ Tryz.func41 (by kernel_rfl) rfl #[.agg #[.slice Af ((y24 Ae Ac).f0).length Ag]] (by rfl) rfl rfl qy0 ?_
          with_reducible refine(impl_isTuple.calls k2 _ _ ((y24 Ae Ac).f0) true _ (qc (Kd.C_below Aq.out HB.out)) Au.out (by exact Tb.below HT.out qb) Ce.out).mono ?_
          rintro e Ey ⟨rfl,hb⟩
          refine⟨_,rfl, ?_⟩
          replace Aa:=y0.mk (qK Aa.out hb)
          replace Ad:=y0.mk (qK Ad.out hb)
          replace HB:=y0.mk (y8 qb hb)
          (try clear hb)
          refine hK.out _ _ ⟨(y11 Ad.out 0).trans rfl,(y11 Aa.out 0).trans rfl,(y11 Aa.out 1).trans rfl⟩ (fun hHeld=>?_)
          clear hK K
          refine qx 24 ?_
          refine qp3 2 25 26 ?_
          refine qp 7 30 (fl_ 26 159) ?_
          refine qt 5 28 (fl_ 26 191) hHeld ?_
          refine qp 6 29 (fl_ 26 255) ?_
          refine qt 8 31 (fl_ 26 511) hHeld ?_
          refine qp10 9 32 26 ?_
          refine qp6 19 42 26 ?_
          refine qp 25 48 (fl_ 26 67108863) ?_
          refine done_ (done_of HT_.out (by kernel_rfl)) ?_
          try go_wp2
          go_roundg k2
          case measure=>have:=Cn.out;have:=Co.out;omega
          exact⟨(wrap64 (Ac + 1)),qy2,H',⟨by have:=Cn.out;have:=Co.out;omega⟩,⟨qk Aa.out⟩,⟨qb⟩⟩
        ·as_aux_lemma =>
         rw [if_neg Ca]at H
         have Ci:((((y24 Ae Ac).f0).length:Int) == Am)=false:=beq_eq_false_iff_ne.mpr Ca
         have Cj:((((y24 Ae Ac).f0).length:Int) != Am)=true:=bne_iff_ne.mpr Ca
         obtain rfl:=Option.some.inj H
         have Az:0≤(Ac:Int):=of_decide_eq_true qy1
         have Ba:Ac < (Ae.length:Int):=of_decide_eq_true qy1
         obtain⟨Ay,Af,Ag,Bi,Aj,Ak,Al⟩:=at_T36 Bg.out Ac Az Ba
         cases Bi
         replace Aj:=(HB.out.cell (World.block_lt_of_cell? w _ Aj)).trans Aj
         have Aq:=y0.mk Al
         have Au:=y0.mk Ak
         clear Al Ak
         replace Az:=eq_true Az
         replace Ba:=eq_true Ba
         try go_wp2_with (first|((with_reducible refine y20 (N:=4) rfl ?_);(try(refine y21 (by rfl) ?_;dsimp only));refine qe 4 #[.slice none 0 0] 36 ?_;intro Ah hg Cw hbox hb;have Ad:=y0.mk (hbox);have Bq:=y0.mk (qg (w:=w) hg);have Br:=y0.mk (qg (w:=w) hg);replace HB:=y0.mk (y8 qb hb);have Ai:=y0.mk (qn Aa.out hg);have Ap:=y0.mk (qm Aa.out hg);replace Aa:=y0.mk (qK Aa.out hb);clear hb hbox hg;have Ee:=Ap.out;have Ef:=Ai.out;obtain⟨Cx,Cy⟩:=qz1 Ad.out))
         have n0_:y0 ((Cw.setCell ⟨Ah,0,none⟩ (.slice Af ((y24 Ae Ac).f0).length Ag)).heap[Aw]?=some (.cells #[.int .i64 Am,.slice (some Ay) Ae.length Bd] 32 (0,0))):=⟨by(with_reducible repeat(first|refine y13 ?_ _|refine y12 ?_|refine y9 ?_ _));refine y14 ?_ Ai.out _;(with_reducible repeat(first|refine y13 ?_ _|refine y12 ?_|refine y9 ?_ _));exact Aa.out⟩
         have n1_:y0 ((Cw.setCell ⟨Ah,0,none⟩ (.slice Af ((y24 Ae Ac).f0).length Ag)).heap[Ah]?=some (.cells #[.slice Af ((y24 Ae Ac).f0).length Ag] 36 (0,0))):=⟨by(with_reducible repeat(first|refine y13 ?_ _|refine y12 ?_|refine y9 ?_ _));refine y16 (cs:=#[.slice none 0 0]) ?_ 0 _ rfl;(with_reducible repeat(first|refine y13 ?_ _|refine y12 ?_|refine y9 ?_ _));exact Ad.out⟩
         have n2_:y0 (Below w.heap.size w (Cw.setCell ⟨Ah,0,none⟩ (.slice Af ((y24 Ae Ac).f0).length Ag))):=⟨qb⟩
         (try clear Aa)
         (try clear Ad)
         (try clear HB)
         generalize (Cw.setCell ⟨Ah,0,none⟩ (.slice Af ((y24 Ae Ac).f0).length Ag))=Eo at n0_ n1_ n2_ ⊢
         have Aa:=n0_
         have Ad:=n1_
         have HB:=n2_
         clear n0_ n1_ n2_
         replace Aa:=y0.mk (y12 Aa.out)
         replace Ad:=y0.mk (y12 Ad.out)
         replace HB:=y0.mk (y5 HB.out)
         refine start_ (n:=26) (S:=fun w'=>w'.cell? ⟨Ah,0,none⟩=some (.slice Af ((y24 Ae Ac).f0).length Ag)∧w'.cell? ⟨Aw,0,none⟩=some (.int .i64 Am)∧w'.cell? ⟨Aw,1,none⟩=some (.slice (some Ay) Ae.length Bd)) (ds:=[]) (fl_ 26 0) (by kernel_rfl) rfl rfl ⟨(y11 Ad.out 0).trans rfl,(y11 Aa.out 0).trans rfl,(y11 Aa.out 1).trans rfl⟩ (fun hHeld=>?_);refine with_tabW impl_isRel.tab6 impl_isRel.bits6 (fun HT_ HW_=>?_)
         generalize Eo.drew=Ez at Aa Ad HB hHeld ⊢
         refine qt 0 23 (fl_ 26 1) hHeld ?_
         refine qO 1 24 (fl_ 26 3) (fun K hK=>?_)
         refine goes_ Tryz.func41 (by kernel_rfl) rfl #[.agg #[.slice Af ((y24 Ae Ac).f0).length Ag]] (by rfl) rfl rfl qy0 ?_
         with_reducible refine(impl_isTuple.calls k2 _ _ ((y24 Ae Ac).f0) true _ (qc (Kd.C_below Aq.out HB.out)) Au.out (by exact Tb.below HT.out qb) Ce.out).mono ?_
         rintro e Fa ⟨rfl,hb⟩
         refine⟨_,rfl, ?_⟩
         replace Aa:=y0.mk (qK Aa.out hb)
         replace Ad:=y0.mk (qK Ad.out hb)
         replace HB:=y0.mk (y8 qb hb)
         (try clear hb)
         refine hK.out _ _ ⟨(y11 Ad.out 0).trans rfl,(y11 Aa.out 0).trans rfl,(y11 Aa.out 1).trans rfl⟩ (fun hHeld=>?_)
         clear hK K
         refine qx 24 ?_
         refine qp3 2 25 26 ?_
         refine qp 7 30 (fl_ 26 159) ?_
         refine qt 5 28 (fl_ 26 191) hHeld ?_
         refine qp 6 29 (fl_ 26 255) ?_
         refine qt 8 31 (fl_ 26 511) hHeld ?_
         refine qp10 9 32 26 ?_
         refine qp6 19 42 26 ?_
         refine qp 25 48 (fl_ 26 67108863) ?_
         refine done_ (done_of HT_.out (by kernel_rfl)) ?_
         try go_wp2
         go_ret
         exact⟨qf,qb⟩
       ·replace Cp:=Bool.eq_false_iff.mpr Cp
        subst Cp
        replace H:=qF H
        obtain rfl:=Option.some.inj H
        have Az:0≤(Ac:Int):=of_decide_eq_true qy1
        have Ba:Ac < (Ae.length:Int):=of_decide_eq_true qy1
        obtain⟨Ay,Af,Ag,Bi,Aj,Ak,Al⟩:=at_T36 Bg.out Ac Az Ba
        cases Bi
        replace Aj:=(HB.out.cell (World.block_lt_of_cell? w _ Aj)).trans Aj
        have Aq:=y0.mk Al
        have Au:=y0.mk Ak
        clear Al Ak
        replace Az:=eq_true Az
        replace Ba:=eq_true Ba
        try go_wp2_with (first|((with_reducible refine y20 (N:=4) rfl ?_);(try(refine y21 (by rfl) ?_;dsimp only));refine qe 4 #[.slice none 0 0] 36 ?_;intro Ah hg Cz hbox hb;have Ad:=y0.mk (hbox);have Bq:=y0.mk (qg (w:=w) hg);have Br:=y0.mk (qg (w:=w) hg);replace HB:=y0.mk (y8 qb hb);have Ai:=y0.mk (qn Aa.out hg);have Ap:=y0.mk (qm Aa.out hg);replace Aa:=y0.mk (qK Aa.out hb);clear hb hbox hg;have Eg:=Ap.out;have Eh:=Ai.out;obtain⟨Da,Db⟩:=qz1 Ad.out))
        have n0_:y0 ((Cz.setCell ⟨Ah,0,none⟩ (.slice Af ((y24 Ae Ac).f0).length Ag)).heap[Aw]?=some (.cells #[.int .i64 Am,.slice (some Ay) Ae.length Bd] 32 (0,0))):=⟨by(with_reducible repeat(first|refine y13 ?_ _|refine y12 ?_|refine y9 ?_ _));refine y14 ?_ Ai.out _;(with_reducible repeat(first|refine y13 ?_ _|refine y12 ?_|refine y9 ?_ _));exact Aa.out⟩
        have n1_:y0 ((Cz.setCell ⟨Ah,0,none⟩ (.slice Af ((y24 Ae Ac).f0).length Ag)).heap[Ah]?=some (.cells #[.slice Af ((y24 Ae Ac).f0).length Ag] 36 (0,0))):=⟨by(with_reducible repeat(first|refine y13 ?_ _|refine y12 ?_|refine y9 ?_ _));refine y16 (cs:=#[.slice none 0 0]) ?_ 0 _ rfl;(with_reducible repeat(first|refine y13 ?_ _|refine y12 ?_|refine y9 ?_ _));exact Ad.out⟩
        have n2_:y0 (Below w.heap.size w (Cz.setCell ⟨Ah,0,none⟩ (.slice Af ((y24 Ae Ac).f0).length Ag))):=⟨qb⟩
        (try clear Aa)
        (try clear Ad)
        (try clear HB)
        generalize (Cz.setCell ⟨Ah,0,none⟩ (.slice Af ((y24 Ae Ac).f0).length Ag))=Ep at n0_ n1_ n2_ ⊢
        have Aa:=n0_
        have Ad:=n1_
        have HB:=n2_
        clear n0_ n1_ n2_
        replace Aa:=y0.mk (y12 Aa.out)
        replace Ad:=y0.mk (y12 Ad.out)
        replace HB:=y0.mk (y5 HB.out)
        refine start_ (n:=26) (S:=fun w'=>w'.cell? ⟨Ah,0,none⟩=some (.slice Af ((y24 Ae Ac).f0).length Ag)) (ds:=[]) (fl_ 26 0) (by kernel_rfl) rfl rfl ((y11 Ad.out 0).trans rfl) (fun hHeld=>?_);refine with_tabW impl_isRel.tab6 impl_isRel.bits6 (fun HT_ HW_=>?_)
        generalize Ep.drew=Fb at Aa Ad HB hHeld ⊢
        refine qt 0 23 (fl_ 26 1) hHeld ?_
        refine qO 1 24 (fl_ 26 3) (fun K hK=>?_)
        refine goes_ Tryz.func41 (by kernel_rfl) rfl #[.agg #[.slice Af ((y24 Ae Ac).f0).length Ag]] (by rfl) rfl rfl qy0 ?_
        with_reducible refine(impl_isTuple.calls k2 _ _ ((y24 Ae Ac).f0) false _ (qc (Kd.C_below Aq.out HB.out)) Au.out (by exact Tb.below HT.out qb) Ce.out).mono ?_
        rintro e Fc ⟨rfl,hb⟩
        refine⟨_,rfl, ?_⟩
        replace Aa:=y0.mk (qK Aa.out hb)
        replace Ad:=y0.mk (qK Ad.out hb)
        replace HB:=y0.mk (y8 qb hb)
        (try clear hb)
        refine hK.out _ _ ((y11 Ad.out 0).trans rfl) (fun hHeld=>?_)
        clear hK K
        refine qx 24 ?_
        refine qp10 2 25 26 ?_
        refine qp10 12 35 26 ?_
        refine qp4 22 45 26 ?_
        refine done_ (done_of HT_.out (by kernel_rfl)) ?_
        try go_wp2
        go_ret
        exact⟨qf,qb⟩
      ·as_aux_lemma =>
       rw [if_neg Cd]at H
       have Ch:=decide_eq_false Cd
       clear Cd
       obtain rfl:=Option.some.inj H
       go_wp2
       go_ret
       exact⟨qf,qb⟩
end Go.Proofs.YtkajecadkkgfmaaGreatDoor.Pn
end

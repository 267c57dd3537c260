-- Cut by prune.py, a program of this session, out of the texts of this claim: Lean checks it.
import Derived.Test.YtkajecadkkgfmaaGreatDoorVptPex0
import Derived.Test.YtkajecadkkgfmaaGreatDoorVptPex14
import Derived.Test.YtkajecadkkgfmaaGreatDoorVptPex11
section
namespace Go.Proofs.YtkajecadkkgfmaaGreatDoor.Pe
open Go.RowKit Go.Proofs.YtkajecadkkgfmaaGreatDoorW.PrintWords Go.Proofs.YtkajecadkkgfmaaGreatDoorW.PrintLast Go.Proofs.YtkajecadkkgfmaaGreatDoorW.PrintMore
attribute [local go_sem] max2_int min2_int max_two min_two max_three min_three max_four min_four   -- for this text's walks alone
set_option linter.unusedVariables false
set_option linter.unusedSimpArgs false
mutual
def impl_compareCons.l0 : Nat → List ByteArray → List ByteArray → Int → Int → Option (Int)
 | 0,_,_,_,_ => none
 | k + 1,x8,x36,x37,x38 => if x38 < x37 then (if 0 ≤ x38 then (if x38 < (x36.length : Int) then (if x38 < (x8.length : Int) then ((impl_compareTerms.f k (rdOf ByteArray.empty x36 x38) (rdOf ByteArray.empty x8 x38)).bind fun t393 => (if t393 = 0 then (impl_compareCons.l0 k x8 x36 x37 (wrap64 (x38 + 1))) else (some t393))) else (none)) else (none)) else (none)) else (some 0)
def impl_compareCons.f : Nat → ByteArray → ByteArray → Option (Int)
 | 0,_,_ => none
 | k + 1,a0,a1 => (z0_.f k a0).bind fun bt377 => ((z0_.f k a1).bind fun bt381 => ((cmp_Compare_string.f bt377.1 bt381.1).bind fun t385 => ((cmp_Compare_int.f (bt377.2.length : Int) (bt381.2.length : Int)).bind fun t386 => ((cmp_Or_int.f k (([t385,t386] : List Int))).bind fun t390 => (if t390 = 0 then (impl_compareCons.l0 k bt381.2 bt377.2 (bt377.2.length : Int) 0) else (some t390))))))
def impl_compareTerms.j0 : Nat → ByteArray → ByteArray → Int → Int → Bool → Option (Int)
 | 0,_,_,_,_,_ => none
 | k + 1,x0,x1,x5,x6,x11 => if x11 = true then (some 2) else (if x5 = x6 then (if x5 = 1 then ((impl_numOf.f x0).bind fun t396 => ((impl_numOf.f x1).bind fun t397 => ((cmp_Compare_int.f t396 t397).bind fun t398 => (some t398)))) else (if x5 = 2 then (if 1 ≤ (wrap64 ((x0.size : Int) - 1)) then (if (wrap64 ((x0.size : Int) - 1)) ≤ (x0.size : Int) then (if 1 ≤ (wrap64 ((x1.size : Int) - 1)) then (if (wrap64 ((x1.size : Int) - 1)) ≤ (x1.size : Int) then ((cmp_Compare_string.f (x0.extract 1 ((wrap64 ((x0.size : Int) - 1)) : Int).toNat) (x1.extract 1 ((wrap64 ((x1.size : Int) - 1)) : Int).toNat)).bind fun t399 => (some t399)) else (none)) else (none)) else (none)) else (none)) else ((impl_compareCons.f k x0 x1).bind fun t400 => (some t400)))) else ((cmp_Compare_int.f x5 x6).bind fun t401 => (some t401)))
def impl_compareTerms.f : Nat → ByteArray → ByteArray → Option (Int)
 | 0,_,_ => none
 | k + 1,a0,a1 => (impl_kindOf.f k a0).bind fun t394 => ((impl_kindOf.f k a1).bind fun t395 => (if t394 = 0 then (impl_compareTerms.j0 k a0 a1 t394 t395 true) else (impl_compareTerms.j0 k a0 a1 t394 t395 (t395 == 0))))
end
abbrev impl_compareCons.Stm (k : Nat) : Prop := ∀ (a0 : ByteArray) (a1 : ByteArray) (r : Int) (w : World) (hT : Tb w) (h : impl_compareCons.f k a0 a1 = some r),
  Calls Tryz.prog 100 #[.string a0,.string a1] w fun e w' => e = .returned (.int .i64 r) ∧ Below w.heap.size w w'
abbrev impl_compareTerms.Stm (k : Nat) : Prop := ∀ (a0 : ByteArray) (a1 : ByteArray) (r : Int) (w : World) (hT : Tb w) (h : impl_compareTerms.f k a0 a1 = some r),
  Calls Tryz.prog 74 #[.string a0,.string a1] w fun e w' => e = .returned (.int .i64 r) ∧ Below w.heap.size w w'
set_option maxHeartbeats 8000000 in
set_option maxRecDepth 100000 in
theorem impl_compareCons.step (k : Nat) (ih : ∀ m,m < k → impl_compareCons.Stm m) (ih_impl_compareTerms : ∀ m,m < k → impl_compareTerms.Stm m) : impl_compareCons.Stm k := by
 intro a0 a1 r w hT h
 cases k with
 | zero => exact absurd h (by simp [impl_compareCons.f])
 | succ k =>
 simp only [impl_compareCons.f] at h
 have HT := y0.mk hT
 clear hT
 have HB := y0.mk (Below.refl w.heap.size w)
 have H : ((z0_.f k a0).bind fun bt377 => ((z0_.f k a1).bind fun bt381 => ((cmp_Compare_string.f bt377.1 bt381.1).bind fun t385 => ((cmp_Compare_int.f (bt377.2.length : Int) (bt381.2.length : Int)).bind fun t386 => ((cmp_Or_int.f k (([t385,t386] : List Int))).bind fun t390 => (if t390 = 0 then (impl_compareCons.l0 k bt381.2 bt377.2 (bt377.2.length : Int) 0) else (some t390))))))) = some r := h
 clear h
 obtain ⟨⟨t377,t378⟩,A3,H⟩ := qB H
 replace H : ((z0_.f k a1).bind fun bt381 => ((cmp_Compare_string.f t377 bt381.1).bind fun t385 => ((cmp_Compare_int.f (t378.length : Int) (bt381.2.length : Int)).bind fun t386 => ((cmp_Or_int.f k (([t385,t386] : List Int))).bind fun t390 => (if t390 = 0 then (impl_compareCons.l0 k bt381.2 t378 (t378.length : Int) 0) else (some t390)))))) = some r := H
 obtain ⟨⟨t381,t382⟩,A4,H⟩ := qB H
 replace H : ((cmp_Compare_string.f t377 t381).bind fun t385 => ((cmp_Compare_int.f (t378.length : Int) (t382.length : Int)).bind fun t386 => ((cmp_Or_int.f k (([t385,t386] : List Int))).bind fun t390 => (if t390 = 0 then (impl_compareCons.l0 k t382 t378 (t378.length : Int) 0) else (some t390))))) = some r := H
 obtain ⟨t385,A5,H⟩ := qB H
 obtain ⟨t386,A6,H⟩ := qB H
 obtain ⟨y387,hy387⟩ : ∃ y_ : List Int,y_ = (([t385,t386] : List Int)) := ⟨_,rfl⟩
 replace H : ((cmp_Or_int.f k y387).bind fun t390 => (if t390 = 0 then (impl_compareCons.l0 k t382 t378 (t378.length : Int) 0) else (some t390))) = some r := by first | (rw [hy387]; with_reducible exact H) | (have H2_ := (Option.bind_some _ _).symm.trans H; rw [hy387]; with_reducible exact H2_) | (have H2_ := (Option.bind_some _ _).symm.trans H; with_reducible exact H2_) | with_reducible exact H | (rw [hy387]; exact H) | exact H
 have Ny387 := y0.mk hy387
 clear hy387
 obtain ⟨t390,A7,H⟩ := qB H
 by_cases c8 : t390 = 0
 ·rw [if_pos c8] at H
  have c8b0 : (t390 == 0) = true := beq_iff_eq.mpr c8
  have c8b1 : (t390 != 0) = false := bne_eq_false_iff_eq.mpr c8
  clear c8
  have H' := y0.mk H
  clear H
  go_enter Tryz.func100,Tryz.ntmps100
  go_wp2_with (first | ((with_reducible refine y15 (f := 125) rfl ?_); refine y17 (some 15) rfl rfl Tryz.func125 (by kernel_rfl) rfl #[.string a0] rfl qy0 ?_; (with_reducible refine (z0_.calls k a0 t377 t378 _ (by exact Tb.below HT.out qb) A3.out).mono ?_); rintro e w9 ⟨v379,rfl,ho0,hb⟩; refine ⟨_,rfl, ?_⟩; have HO380 := y0.mk (Kd.R_lower ho0 (y5 qb)); replace HB := y0.mk (y6 qb hb); (try clear hb); (try clear hb2); (try clear hk); (try clear hi); (try clear ho0)) | ((with_reducible refine y15 (f := 125) rfl ?_); refine y17 (some 20) rfl rfl Tryz.func125 (by kernel_rfl) rfl #[.string a1] rfl qy0 ?_; (with_reducible refine (z0_.calls k a1 t381 t382 _ (by exact Tb.below HT.out qb) A4.out).mono ?_); rintro e w10 ⟨v383,rfl,ho0,hb⟩; refine ⟨_,rfl, ?_⟩; have HO384 := y0.mk (Kd.R_lower (Kd.R_new' ho0 (Kd.R_lt (qR HO380.out))) (y5 qb)); replace HO380 := y0.mk (Kd.R_elder' (qR HO380.out) (Kd.R_base ho0) hb); replace HB := y0.mk (y6 qb hb); (try clear hb); (try clear hb2); (try clear hk); (try clear hi); (try clear ho0)) | ((with_reducible refine y15 (f := 99) rfl ?_); refine y17 (some 25) rfl rfl Tryz.func99 (by kernel_rfl) rfl #[.string t377,.string t381] rfl qy0 ?_; (with_reducible refine (cmp_Compare_string.calls t377 t381 t385 _ A5.out).mono ?_); rintro e w' ⟨rfl,⟨nd,rfl⟩⟩; refine ⟨_,rfl, ?_⟩; obtain ⟨Ao11,co11,eo11⟩ := Kd.R_slice HO380.out; subst eo11; obtain ⟨Ao12,co12,eo12⟩ := Kd.R_slice HO384.out; subst eo12) | ((with_reducible refine y15 (f := 97) rfl ?_); refine y17 (some 30) rfl rfl Tryz.func97 (by kernel_rfl) rfl #[.int .i64 (t378.length : Int),.int .i64 (t382.length : Int)] rfl qy0 ?_; (with_reducible refine (cmp_Compare_int.calls (t378.length : Int) (t382.length : Int) t386 _ A6.out).mono ?_); rintro e w' ⟨rfl,⟨nd,rfl⟩⟩; refine ⟨_,rfl, ?_⟩) | ((with_reducible refine y16 (N := 31) rfl ?_); refine Kd.R_lit (Kd.int .i64) _ 3 ?hg (N := 31) ?hd (xs := ([t385,t386] : List Int)) (inner := [.int .i64 t385,.int .i64 t386]) (ok := fun _ => True) (okp := fun _ => True) ?hr ?hp (fun _ hk => hk) trivial (Below.refl _ _) (Nat.le_refl _) (by simp) ?_; (case hd => rfl); (case hg => rfl); (case hr => first | (go_simp; done) | (go_simp; rfl)); (case hp => exact (Reps.one (show Kd.M (Kd.int .i64) _ _ _ t385 [.int .i64 t385] from rfl) (Reps.one (show Kd.M (Kd.int .i64) _ _ _ t386 [.int .i64 t386] from rfl) (Reps.none _ _)))); intro v388 w13 ho14 hb hg_ hnew_; clear hg_ hnew_; (first | rw [← Ny387.out] at ho14 | (simp only [Int.reduceToNat] at ho14; rw [← Ny387.out] at ho14)); replace HO380 := y0.mk (Kd.R_below (qR HO380.out) hb); replace HO384 := y0.mk (Kd.R_below (qR HO384.out) hb); have HO389 := y0.mk (Kd.R_lower ho14 (y5 qb)); replace HB := y0.mk (y6 qb hb); clear hb ho14; obtain ⟨Ao15,co15,eo15⟩ := Kd.R_slice HO389.out; subst eo15) | ((with_reducible refine y15 (f := 126) rfl ?_); refine y17 (some 32) rfl rfl Tryz.func126 (by kernel_rfl) rfl #[.slice Ao15 y387.length co15] rfl qy0 ?_; (with_reducible refine (cmp_Or_int.calls k _ _ y387 t390 _ (qc ((Kd.R_reads' HO389.out).2.2)) (by exact (Kd.R_reads' HO389.out).2.1) A7.out).mono ?_); rintro e w' ⟨rfl,⟨nd,rfl⟩⟩; refine ⟨_,rfl, ?_⟩))
  go_loopg [38] k (fun kq v38 w' => ∃ (x38_1 : Int),v38 = .int .i64 x38_1 ∧ y0 (impl_compareCons.l0 kq t382 t378 (t378.length : Int) x38_1 = some r) ∧ y0 (kq ≤ k) ∧ y0 (Kd.R Kd.string 9 w' w.heap.size (fun k_ => some k_ ≠ ((.slice Ao11 t378.length co11) : Value).ownBlock) (.slice Ao12 t382.length co12) t382) ∧ y0 (Kd.R Kd.string 9 w' w.heap.size (fun k_ => some k_ ≠ ((.slice Ao12 t382.length co12) : Value).ownBlock) (.slice Ao11 t378.length co11) t378) ∧ y0 (Below w.heap.size w w'))
  case atStart => exact ⟨(0),qy2,H',⟨Nat.le_refl _⟩,⟨qR (Kd.R_mono HO384.out (fun _ hk => hk.2))⟩,⟨qR (Kd.R_mono HO380.out (fun _ hk => hk.2))⟩,⟨qb⟩⟩
  case round =>
   clear H'
   (try clear c8b0 c8b1)
   obtain ⟨x38_1,rfl,HA,HK1,HO_8,HO_36,HB⟩ := hrel
   cases gk with
   | zero => exact absurd HA.out (by simp [impl_compareCons.l0])
   | succ k1 =>
    have H := HA.out
    clear HA
    simp only [impl_compareCons.l0] at H
    by_cases c16 : x38_1 < (t378.length : Int)
    ·rw [if_pos c16] at H
     have c16b0 := decide_eq_true c16
     clear c16
     obtain ⟨c17,H⟩ := qo H
     have c17b0 : decide (0 ≤ x38_1) = true := decide_eq_true c17
     clear c17
     obtain ⟨c18,H⟩ := qo H
     have c18b0 : decide (x38_1 < (t378.length : Int)) = true := decide_eq_true c18
     clear c18
     obtain ⟨c19,H⟩ := qo H
     have c19b0 : decide (x38_1 < (t382.length : Int)) = true := decide_eq_true c19
     clear c19
     obtain ⟨t393,A20,H⟩ := qB H
     by_cases c21 : t393 = 0
     ·rw [if_pos c21] at H
      have c21b0 : (t393 == 0) = true := beq_iff_eq.mpr c21
      have c21b1 : (t393 != 0) = false := bne_eq_false_iff_eq.mpr c21
      clear c21
      have H' := y0.mk H
      clear H
      have p391 : 0 ≤ (x38_1 : Int) := of_decide_eq_true qy1
      have q391 : x38_1 < (t378.length : Int) := of_decide_eq_true qy1
      obtain ⟨ad391,e391,hx391_0⟩ := Kd.at_string (Kd.R_reads' HO_36.out).2.2 x38_1 p391 q391
      cases e391
      replace p391 := eq_true p391
      replace q391 := eq_true q391
      have p392 : 0 ≤ (x38_1 : Int) := of_decide_eq_true qy1
      have q392 : x38_1 < (t382.length : Int) := of_decide_eq_true qy1
      obtain ⟨ad392,e392,hx392_0⟩ := Kd.at_string (Kd.R_reads' HO_8.out).2.2 x38_1 p392 q392
      cases e392
      replace p392 := eq_true p392
      replace q392 := eq_true q392
      go_wp2_with (first | ((with_reducible refine y15 (f := 74) rfl ?_); refine y17 (some 48) rfl rfl Tryz.func74 (by kernel_rfl) rfl #[.string (rdOf ByteArray.empty t378 x38_1),.string (rdOf ByteArray.empty t382 x38_1)] rfl qy0 ?_; (with_reducible refine (ih_impl_compareTerms k1 (by have := HK1.out; omega) (rdOf ByteArray.empty t378 x38_1) (rdOf ByteArray.empty t382 x38_1) t393 _ (by exact Tb.below HT.out qb) A20.out).mono ?_); rintro e w22 ⟨rfl,hb⟩; refine ⟨_,rfl, ?_⟩; replace HO_8 := y0.mk (Kd.R_below (qR HO_8.out) hb); replace HO_36 := y0.mk (Kd.R_below (qR HO_36.out) hb); replace HB := y0.mk (y6 qb hb); (try clear hb); (try clear hb2); (try clear hk); (try clear hi)))
      go_roundg k1
      case measure => have := HK1.out; omega
      exact ⟨(wrap64 (x38_1 + 1)),qy2,H',⟨by have := HK1.out; omega⟩,⟨qR HO_8.out⟩,⟨qR HO_36.out⟩,⟨qb⟩⟩
     ·rw [if_neg c21] at H
      have c21b0 : (t393 == 0) = false := beq_eq_false_iff_ne.mpr c21
      have c21b1 : (t393 != 0) = true := bne_iff_ne.mpr c21
      obtain rfl := Option.some.inj H
      have p391 : 0 ≤ (x38_1 : Int) := of_decide_eq_true qy1
      have q391 : x38_1 < (t378.length : Int) := of_decide_eq_true qy1
      obtain ⟨ad391,e391,hx391_0⟩ := Kd.at_string (Kd.R_reads' HO_36.out).2.2 x38_1 p391 q391
      cases e391
      replace p391 := eq_true p391
      replace q391 := eq_true q391
      have p392 : 0 ≤ (x38_1 : Int) := of_decide_eq_true qy1
      have q392 : x38_1 < (t382.length : Int) := of_decide_eq_true qy1
      obtain ⟨ad392,e392,hx392_0⟩ := Kd.at_string (Kd.R_reads' HO_8.out).2.2 x38_1 p392 q392
      cases e392
      replace p392 := eq_true p392
      replace q392 := eq_true q392
      go_wp2_with (first | ((with_reducible refine y15 (f := 74) rfl ?_); refine y17 (some 48) rfl rfl Tryz.func74 (by kernel_rfl) rfl #[.string (rdOf ByteArray.empty t378 x38_1),.string (rdOf ByteArray.empty t382 x38_1)] rfl qy0 ?_; (with_reducible refine (ih_impl_compareTerms k1 (by have := HK1.out; omega) (rdOf ByteArray.empty t378 x38_1) (rdOf ByteArray.empty t382 x38_1) t393 _ (by exact Tb.below HT.out qb) A20.out).mono ?_); rintro e w23 ⟨rfl,hb⟩; refine ⟨_,rfl, ?_⟩; replace HO_8 := y0.mk (Kd.R_below (qR HO_8.out) hb); replace HO_36 := y0.mk (Kd.R_below (qR HO_36.out) hb); replace HB := y0.mk (y6 qb hb); (try clear hb); (try clear hb2); (try clear hk); (try clear hi)))
      go_ret
      exact ⟨by first | rfl | (simp [y13,y14] <;> rfl) | (simp [*,y13,y14] <;> rfl),qb⟩
    ·rw [if_neg c16] at H
     have c16b0 := decide_eq_false c16
     clear c16
     obtain rfl := Option.some.inj H
     go_wp2
     go_ret
     exact ⟨by first | rfl | (simp [y13,y14] <;> rfl) | (simp [*,y13,y14] <;> rfl),qb⟩
 ·rw [if_neg c8] at H
  have c8b0 : (t390 == 0) = false := beq_eq_false_iff_ne.mpr c8
  have c8b1 : (t390 != 0) = true := bne_iff_ne.mpr c8
  obtain rfl := Option.some.inj H
  go_enter Tryz.func100,Tryz.ntmps100
  go_wp2_with (first | ((with_reducible refine y15 (f := 125) rfl ?_); refine y17 (some 15) rfl rfl Tryz.func125 (by kernel_rfl) rfl #[.string a0] rfl qy0 ?_; (with_reducible refine (z0_.calls k a0 t377 t378 _ (by exact Tb.below HT.out qb) A3.out).mono ?_); rintro e w24 ⟨v379,rfl,ho0,hb⟩; refine ⟨_,rfl, ?_⟩; have HO380 := y0.mk (Kd.R_lower ho0 (y5 qb)); replace HB := y0.mk (y6 qb hb); (try clear hb); (try clear hb2); (try clear hk); (try clear hi); (try clear ho0)) | ((with_reducible refine y15 (f := 125) rfl ?_); refine y17 (some 20) rfl rfl Tryz.func125 (by kernel_rfl) rfl #[.string a1] rfl qy0 ?_; (with_reducible refine (z0_.calls k a1 t381 t382 _ (by exact Tb.below HT.out qb) A4.out).mono ?_); rintro e w25 ⟨v383,rfl,ho0,hb⟩; refine ⟨_,rfl, ?_⟩; have HO384 := y0.mk (Kd.R_lower (Kd.R_new' ho0 (Kd.R_lt (qR HO380.out))) (y5 qb)); replace HO380 := y0.mk (Kd.R_elder' (qR HO380.out) (Kd.R_base ho0) hb); replace HB := y0.mk (y6 qb hb); (try clear hb); (try clear hb2); (try clear hk); (try clear hi); (try clear ho0)) | ((with_reducible refine y15 (f := 99) rfl ?_); refine y17 (some 25) rfl rfl Tryz.func99 (by kernel_rfl) rfl #[.string t377,.string t381] rfl qy0 ?_; (with_reducible refine (cmp_Compare_string.calls t377 t381 t385 _ A5.out).mono ?_); rintro e w' ⟨rfl,⟨nd,rfl⟩⟩; refine ⟨_,rfl, ?_⟩; obtain ⟨Ao26,co26,eo26⟩ := Kd.R_slice HO380.out; subst eo26; obtain ⟨Ao27,co27,eo27⟩ := Kd.R_slice HO384.out; subst eo27) | ((with_reducible refine y15 (f := 97) rfl ?_); refine y17 (some 30) rfl rfl Tryz.func97 (by kernel_rfl) rfl #[.int .i64 (t378.length : Int),.int .i64 (t382.length : Int)] rfl qy0 ?_; (with_reducible refine (cmp_Compare_int.calls (t378.length : Int) (t382.length : Int) t386 _ A6.out).mono ?_); rintro e w' ⟨rfl,⟨nd,rfl⟩⟩; refine ⟨_,rfl, ?_⟩) | ((with_reducible refine y16 (N := 31) rfl ?_); refine Kd.R_lit (Kd.int .i64) _ 3 ?hg (N := 31) ?hd (xs := ([t385,t386] : List Int)) (inner := [.int .i64 t385,.int .i64 t386]) (ok := fun _ => True) (okp := fun _ => True) ?hr ?hp (fun _ hk => hk) trivial (Below.refl _ _) (Nat.le_refl _) (by simp) ?_; (case hd => rfl); (case hg => rfl); (case hr => first | (go_simp; done) | (go_simp; rfl)); (case hp => exact (Reps.one (show Kd.M (Kd.int .i64) _ _ _ t385 [.int .i64 t385] from rfl) (Reps.one (show Kd.M (Kd.int .i64) _ _ _ t386 [.int .i64 t386] from rfl) (Reps.none _ _)))); intro v388 w28 ho29 hb hg_ hnew_; clear hg_ hnew_; (first | rw [← Ny387.out] at ho29 | (simp only [Int.reduceToNat] at ho29; rw [← Ny387.out] at ho29)); replace HO380 := y0.mk (Kd.R_below (qR HO380.out) hb); replace HO384 := y0.mk (Kd.R_below (qR HO384.out) hb); have HO389 := y0.mk (Kd.R_lower ho29 (y5 qb)); replace HB := y0.mk (y6 qb hb); clear hb ho29; obtain ⟨Ao30,co30,eo30⟩ := Kd.R_slice HO389.out; subst eo30) | ((with_reducible refine y15 (f := 126) rfl ?_); refine y17 (some 32) rfl rfl Tryz.func126 (by kernel_rfl) rfl #[.slice Ao30 y387.length co30] rfl qy0 ?_; (with_reducible refine (cmp_Or_int.calls k _ _ y387 t390 _ (qc ((Kd.R_reads' HO389.out).2.2)) (by exact (Kd.R_reads' HO389.out).2.1) A7.out).mono ?_); rintro e w' ⟨rfl,⟨nd,rfl⟩⟩; refine ⟨_,rfl, ?_⟩))
  go_ret
  exact ⟨by first | rfl | (simp [y13,y14] <;> rfl) | (simp [*,y13,y14] <;> rfl),qb⟩
set_option maxHeartbeats 8000000 in
set_option maxRecDepth 100000 in
theorem impl_compareTerms.step (k : Nat) (ih_impl_compareCons : ∀ m,m < k → impl_compareCons.Stm m) (ih : ∀ m,m < k → impl_compareTerms.Stm m) : impl_compareTerms.Stm k := by
 intro a0 a1 r w hT h
 cases k with
 | zero => exact absurd h (by simp [impl_compareTerms.f])
 | succ k =>
 simp only [impl_compareTerms.f] at h
 have HT := y0.mk hT
 clear hT
 have HB := y0.mk (Below.refl w.heap.size w)
 have H : ((impl_kindOf.f k a0).bind fun t394 => ((impl_kindOf.f k a1).bind fun t395 => (if t394 = 0 then (impl_compareTerms.j0 k a0 a1 t394 t395 true) else (impl_compareTerms.j0 k a0 a1 t394 t395 (t395 == 0))))) = some r := h
 clear h
 obtain ⟨t394,A3,H⟩ := qB H
 obtain ⟨t395,A4,H⟩ := qB H
 have HC5 := y0.mk H
 clear H
 go_enter Tryz.func74,Tryz.ntmps74
 go_upto_region 2 with (first | (go_at_call 72; (with_reducible refine (impl_kindOf.calls k a0 t394 _ (by exact Tb.below HT.out qb) A3.out).mono ?_); rintro e w6 ⟨rfl,hb⟩; replace HB := y0.mk (y6 qb hb); (try clear hb); (try clear hb2); (try clear hk); (try clear hi)) | (go_at_call 72; (with_reducible refine (impl_kindOf.calls k a1 t395 _ (by exact Tb.below HT.out qb) A4.out).mono ?_); rintro e w7 ⟨rfl,hb⟩; replace HB := y0.mk (y6 qb hb); (try clear hb); (try clear hb2); (try clear hk); (try clear hi)))
 repeat (go_quiet (first | (go_at_call 72; (with_reducible refine (impl_kindOf.calls k a0 t394 _ (by exact Tb.below HT.out qb) A3.out).mono ?_); rintro e w6 ⟨rfl,hb⟩; replace HB := y0.mk (y6 qb hb); (try clear hb); (try clear hb2); (try clear hk); (try clear hi)) | (go_at_call 72; (with_reducible refine (impl_kindOf.calls k a1 t395 _ (by exact Tb.below HT.out qb) A4.out).mono ?_); rintro e w7 ⟨rfl,hb⟩; replace HB := y0.mk (y6 qb hb); (try clear hb); (try clear hb2); (try clear hk); (try clear hi))); go_upto_region 2 with (first | (go_at_call 72; (with_reducible refine (impl_kindOf.calls k a0 t394 _ (by exact Tb.below HT.out qb) A3.out).mono ?_); rintro e w6 ⟨rfl,hb⟩; replace HB := y0.mk (y6 qb hb); (try clear hb); (try clear hb2); (try clear hk); (try clear hi)) | (go_at_call 72; (with_reducible refine (impl_kindOf.calls k a1 t395 _ (by exact Tb.below HT.out qb) A4.out).mono ?_); rintro e w7 ⟨rfl,hb⟩; replace HB := y0.mk (y6 qb hb); (try clear hb); (try clear hb2); (try clear hk); (try clear hi))))
 (try simp only [Act.put,qS_,qZ_,qC_])
 go_cut [11] (fun v11 wc => ∃ (kq : Nat) (x11_4 : Bool),v11 = .bool x11_4 ∧ y0 (impl_compareTerms.j0 kq a0 a1 t394 t395 x11_4 = some r) ∧ y0 (kq ≤ k) ∧ y0 (Below w.heap.size w wc))
 case first =>
  have H := HC5.out
  clear HC5
  by_cases c8 : t394 = 0
  ·rw [if_pos c8] at H
   have c8b0 : (t394 == 0) = true := beq_iff_eq.mpr c8
   have c8b1 : (t394 != 0) = false := bne_eq_false_iff_eq.mpr c8
   clear c8
   (first | rw [c8b0] | (simp only [y19,y18]; rw [c8b0]) | skip)
   have H' := y0.mk H
   clear H
   go_wp2
   repeat (go_quiet (fail); try go_wp2)
   go_meet
   exact ⟨_,(true),qy2,H',⟨by first | omega | exact Nat.le_refl _⟩,⟨qb⟩⟩
  ·rw [if_neg c8] at H
   have c8b0 : (t394 == 0) = false := beq_eq_false_iff_ne.mpr c8
   have c8b1 : (t394 != 0) = true := bne_iff_ne.mpr c8
   (first | rw [c8b0] | (simp only [y19,y18]; rw [c8b0]) | skip)
   have H' := y0.mk H
   clear H
   go_wp2
   repeat (go_quiet (fail); try go_wp2)
   go_meet
   exact ⟨_,((t395 == 0)),qy2,H',⟨by first | omega | exact Nat.le_refl _⟩,⟨qb⟩⟩
 case rest =>
  clear HC5
  obtain ⟨kq,x11_4,rfl,HA,HJ4,HB⟩ := hcut
  cases kq with
  | zero => exact absurd HA.out (by simp [impl_compareTerms.j0])
  | succ kj4 =>
   have H := HA.out
   clear HA
   simp only [impl_compareTerms.j0] at H
   by_cases c9 : x11_4 = true
   ·subst c9
    replace H := qT H
    obtain rfl := Option.some.inj H
    go_wp2
    repeat (go_quiet (fail); try go_wp2)
    go_ret
    exact ⟨by first | rfl | (simp [y13,y14] <;> rfl) | (simp [*,y13,y14] <;> rfl),qb⟩
   ·replace c9 := Bool.eq_false_iff.mpr c9
    subst c9
    replace H := qF H
    by_cases c10 : t394 = t395
    ·rw [if_pos c10] at H
     have c10b0 : (t394 == t395) = true := beq_iff_eq.mpr c10
     have c10b1 : (t394 != t395) = false := bne_eq_false_iff_eq.mpr c10
     clear c10
     by_cases c11 : t394 = 1
     ·rw [if_pos c11] at H
      have c11b0 : (t394 == 1) = true := beq_iff_eq.mpr c11
      have c11b1 : (t394 != 1) = false := bne_eq_false_iff_eq.mpr c11
      clear c11
      obtain ⟨t396,A12,H⟩ := qB H
      obtain ⟨t397,A13,H⟩ := qB H
      obtain ⟨t398,A14,H⟩ := qB H
      obtain rfl := Option.some.inj H
      go_wp2_with (first | (go_at_call 98; (with_reducible refine (impl_numOf.calls a0 t396 _ (by exact Tb.below HT.out qb) A12.out).mono ?_); rintro e w15 ⟨rfl,hb⟩; replace HB := y0.mk (y6 qb hb); (try clear hb); (try clear hb2); (try clear hk); (try clear hi)) | (go_at_call 98; (with_reducible refine (impl_numOf.calls a1 t397 _ (by exact Tb.below HT.out qb) A13.out).mono ?_); rintro e w16 ⟨rfl,hb⟩; replace HB := y0.mk (y6 qb hb); (try clear hb); (try clear hb2); (try clear hk); (try clear hi)) | (go_at_call 97; (with_reducible refine (cmp_Compare_int.calls t396 t397 t398 _ A14.out).mono ?_); rintro e w' ⟨rfl,⟨nd,rfl⟩⟩; (try first | exact ⟨rfl,_,World.drewN_drewN _ _ _⟩ | exact ⟨rfl,_,Eq.trans (World.drewN_drewN _ _ _) (congrArg (World.drewN _) (Nat.add_assoc _ _ _))⟩)))
      repeat (go_quiet (first | (go_at_call 98; (with_reducible refine (impl_numOf.calls a0 t396 _ (by exact Tb.below HT.out qb) A12.out).mono ?_); rintro e w15 ⟨rfl,hb⟩; replace HB := y0.mk (y6 qb hb); (try clear hb); (try clear hb2); (try clear hk); (try clear hi)) | (go_at_call 98; (with_reducible refine (impl_numOf.calls a1 t397 _ (by exact Tb.below HT.out qb) A13.out).mono ?_); rintro e w16 ⟨rfl,hb⟩; replace HB := y0.mk (y6 qb hb); (try clear hb); (try clear hb2); (try clear hk); (try clear hi)) | (go_at_call 97; (with_reducible refine (cmp_Compare_int.calls t396 t397 t398 _ A14.out).mono ?_); rintro e w' ⟨rfl,⟨nd,rfl⟩⟩; (try first | exact ⟨rfl,_,World.drewN_drewN _ _ _⟩ | exact ⟨rfl,_,Eq.trans (World.drewN_drewN _ _ _) (congrArg (World.drewN _) (Nat.add_assoc _ _ _))⟩))); try go_wp2_with (first | (go_at_call 98; (with_reducible refine (impl_numOf.calls a0 t396 _ (by exact Tb.below HT.out qb) A12.out).mono ?_); rintro e w15 ⟨rfl,hb⟩; replace HB := y0.mk (y6 qb hb); (try clear hb); (try clear hb2); (try clear hk); (try clear hi)) | (go_at_call 98; (with_reducible refine (impl_numOf.calls a1 t397 _ (by exact Tb.below HT.out qb) A13.out).mono ?_); rintro e w16 ⟨rfl,hb⟩; replace HB := y0.mk (y6 qb hb); (try clear hb); (try clear hb2); (try clear hk); (try clear hi)) | (go_at_call 97; (with_reducible refine (cmp_Compare_int.calls t396 t397 t398 _ A14.out).mono ?_); rintro e w' ⟨rfl,⟨nd,rfl⟩⟩; (try first | exact ⟨rfl,_,World.drewN_drewN _ _ _⟩ | exact ⟨rfl,_,Eq.trans (World.drewN_drewN _ _ _) (congrArg (World.drewN _) (Nat.add_assoc _ _ _))⟩))))
      go_ret
      exact ⟨by first | rfl | (simp [y13,y14] <;> rfl) | (simp [*,y13,y14] <;> rfl),qb⟩
     ·rw [if_neg c11] at H
      have c11b0 : (t394 == 1) = false := beq_eq_false_iff_ne.mpr c11
      have c11b1 : (t394 != 1) = true := bne_iff_ne.mpr c11
      by_cases c17 : t394 = 2
      ·rw [if_pos c17] at H
       have c17b0 : (t394 == 2) = true := beq_iff_eq.mpr c17
       have c17b1 : (t394 != 2) = false := bne_eq_false_iff_eq.mpr c17
       clear c17
       obtain ⟨c18,H⟩ := qo H
       have c18b0 := eq_true c18
       have c18b1 := decide_eq_true c18
       clear c18
       obtain ⟨c19,H⟩ := qo H
       have c19b0 := eq_true c19
       have c19b1 := decide_eq_true c19
       clear c19
       obtain ⟨c20,H⟩ := qo H
       have c20b0 := eq_true c20
       have c20b1 := decide_eq_true c20
       clear c20
       obtain ⟨c21,H⟩ := qo H
       have c21b0 := eq_true c21
       have c21b1 := decide_eq_true c21
       clear c21
       obtain ⟨t399,A22,H⟩ := qB H
       obtain rfl := Option.some.inj H
       go_wp2_with (first | (go_at_call 99; (with_reducible refine (cmp_Compare_string.calls (a0.extract 1 ((wrap64 ((a0.size : Int) - 1)) : Int).toNat) (a1.extract 1 ((wrap64 ((a1.size : Int) - 1)) : Int).toNat) t399 _ A22.out).mono ?_); rintro e w' ⟨rfl,⟨nd,rfl⟩⟩; (try first | exact ⟨rfl,_,World.drewN_drewN _ _ _⟩ | exact ⟨rfl,_,Eq.trans (World.drewN_drewN _ _ _) (congrArg (World.drewN _) (Nat.add_assoc _ _ _))⟩)))
       repeat (go_quiet (first | (go_at_call 99; (with_reducible refine (cmp_Compare_string.calls (a0.extract 1 ((wrap64 ((a0.size : Int) - 1)) : Int).toNat) (a1.extract 1 ((wrap64 ((a1.size : Int) - 1)) : Int).toNat) t399 _ A22.out).mono ?_); rintro e w' ⟨rfl,⟨nd,rfl⟩⟩; (try first | exact ⟨rfl,_,World.drewN_drewN _ _ _⟩ | exact ⟨rfl,_,Eq.trans (World.drewN_drewN _ _ _) (congrArg (World.drewN _) (Nat.add_assoc _ _ _))⟩))); try go_wp2_with (first | (go_at_call 99; (with_reducible refine (cmp_Compare_string.calls (a0.extract 1 ((wrap64 ((a0.size : Int) - 1)) : Int).toNat) (a1.extract 1 ((wrap64 ((a1.size : Int) - 1)) : Int).toNat) t399 _ A22.out).mono ?_); rintro e w' ⟨rfl,⟨nd,rfl⟩⟩; (try first | exact ⟨rfl,_,World.drewN_drewN _ _ _⟩ | exact ⟨rfl,_,Eq.trans (World.drewN_drewN _ _ _) (congrArg (World.drewN _) (Nat.add_assoc _ _ _))⟩))))
       go_ret
       exact ⟨by first | rfl | (simp [y13,y14] <;> rfl) | (simp [*,y13,y14] <;> rfl),qb⟩
      ·rw [if_neg c17] at H
       have c17b0 : (t394 == 2) = false := beq_eq_false_iff_ne.mpr c17
       have c17b1 : (t394 != 2) = true := bne_iff_ne.mpr c17
       obtain ⟨t400,A23,H⟩ := qB H
       obtain rfl := Option.some.inj H
       go_wp2_with (first | (go_at_call 100; (with_reducible refine (ih_impl_compareCons kj4 (by have := HJ4.out; omega) a0 a1 t400 _ (by exact Tb.below HT.out qb) A23.out).mono ?_); rintro e w24 ⟨rfl,hb⟩; replace HB := y0.mk (y6 qb hb); (try clear hb); (try clear hb2); (try clear hk); (try clear hi)))
       repeat (go_quiet (first | (go_at_call 100; (with_reducible refine (ih_impl_compareCons kj4 (by have := HJ4.out; omega) a0 a1 t400 _ (by exact Tb.below HT.out qb) A23.out).mono ?_); rintro e w24 ⟨rfl,hb⟩; replace HB := y0.mk (y6 qb hb); (try clear hb); (try clear hb2); (try clear hk); (try clear hi))); try go_wp2_with (first | (go_at_call 100; (with_reducible refine (ih_impl_compareCons kj4 (by have := HJ4.out; omega) a0 a1 t400 _ (by exact Tb.below HT.out qb) A23.out).mono ?_); rintro e w24 ⟨rfl,hb⟩; replace HB := y0.mk (y6 qb hb); (try clear hb); (try clear hb2); (try clear hk); (try clear hi))))
       go_ret
       exact ⟨by first | rfl | (simp [y13,y14] <;> rfl) | (simp [*,y13,y14] <;> rfl),qb⟩
    ·rw [if_neg c10] at H
     have c10b0 : (t394 == t395) = false := beq_eq_false_iff_ne.mpr c10
     have c10b1 : (t394 != t395) = true := bne_iff_ne.mpr c10
     obtain ⟨t401,A25,H⟩ := qB H
     obtain rfl := Option.some.inj H
     go_wp2_with (first | (go_at_call 97; (with_reducible refine (cmp_Compare_int.calls t394 t395 t401 _ A25.out).mono ?_); rintro e w' ⟨rfl,⟨nd,rfl⟩⟩; (try first | exact ⟨rfl,_,World.drewN_drewN _ _ _⟩ | exact ⟨rfl,_,Eq.trans (World.drewN_drewN _ _ _) (congrArg (World.drewN _) (Nat.add_assoc _ _ _))⟩)))
     repeat (go_quiet (first | (go_at_call 97; (with_reducible refine (cmp_Compare_int.calls t394 t395 t401 _ A25.out).mono ?_); rintro e w' ⟨rfl,⟨nd,rfl⟩⟩; (try first | exact ⟨rfl,_,World.drewN_drewN _ _ _⟩ | exact ⟨rfl,_,Eq.trans (World.drewN_drewN _ _ _) (congrArg (World.drewN _) (Nat.add_assoc _ _ _))⟩))); try go_wp2_with (first | (go_at_call 97; (with_reducible refine (cmp_Compare_int.calls t394 t395 t401 _ A25.out).mono ?_); rintro e w' ⟨rfl,⟨nd,rfl⟩⟩; (try first | exact ⟨rfl,_,World.drewN_drewN _ _ _⟩ | exact ⟨rfl,_,Eq.trans (World.drewN_drewN _ _ _) (congrArg (World.drewN _) (Nat.add_assoc _ _ _))⟩))))
     go_ret
     exact ⟨by first | rfl | (simp [y13,y14] <;> rfl) | (simp [*,y13,y14] <;> rfl),qb⟩
theorem impl_compareCons.all.Stm : ∀ k,impl_compareCons.Stm k ∧ impl_compareTerms.Stm k := by
 intro k
 induction k using Nat.strongRecOn with
 | _ k ih =>
 exact ⟨impl_compareCons.step k (fun m h => (ih m h).1) (fun m h => (ih m h).2),impl_compareTerms.step k (fun m h => (ih m h).1) (fun m h => (ih m h).2)⟩
theorem impl_compareTerms.calls (k : Nat) : ∀ (a0 : ByteArray) (a1 : ByteArray) (r : Int) (w : World) (hT : Tb w) (h : impl_compareTerms.f k a0 a1 = some r),
  Calls Tryz.prog 74 #[.string a0,.string a1] w fun e w' => e = .returned (.int .i64 r) ∧ Below w.heap.size w w' := (impl_compareCons.all.Stm k).2
def z1_.l0 : Nat → List ByteArray → List ByteArray → List ByteArray → Int → Int → Option (Int)
 | 0,_,_,_,_,_ => none
 | k + 1,x0,x1,x11,x12,x13 => if x13 < x12 then (if 0 ≤ x13 then (if x13 < (x11.length : Int) then (if x13 ≥ (x1.length : Int) then (some 1) else (if x13 < (x1.length : Int) then ((impl_compareTerms.f k (rdOf ByteArray.empty x11 x13) (rdOf ByteArray.empty x1 x13)).bind fun t404 => (if t404 = 0 then (z1_.l0 k x0 x1 x11 x12 (wrap64 (x13 + 1))) else (some t404))) else (none))) else (none)) else (none)) else (if (x0.length : Int) < (x1.length : Int) then (some (-1)) else (some 0))
def z1_.f (k : Nat) (l0 : List ByteArray) (l1 : List ByteArray)  : Option (Int) := z1_.l0 k l0 l1 l0 (l0.length : Int) 0
set_option maxHeartbeats 8000000 in
set_option maxRecDepth 100000 in
theorem z1_.calls (k : Nat) (A0 : Option Addr) (c0 : Nat) (l0 : List ByteArray) (A1 : Option Addr) (c1 : Nat) (l1 : List ByteArray)  (r : Int) (w : World) (hr0 : Kd.C Kd.string w A0 l0.length l0) (hc0 : l0.length ≤ c0) (hr1 : Kd.C Kd.string w A1 l1.length l1) (hc1 : l1.length ≤ c1) (hT : Tb w) (h : z1_.f k l0 l1 = some r) :
  Calls Tryz.prog 73 #[.slice A0 l0.length c0,.slice A1 l1.length c1,.func (.func 74) #[] #[]] w fun e w' => e = .returned (.int .i64 r) ∧ Below w.heap.size w w' := by
 have HT := y0.mk hT
 clear hT
 have HR0 := y0.mk hr0
 have HC0 := y0.mk hc0
 clear hr0 hc0
 have HR1 := y0.mk hr1
 have HC1 := y0.mk hc1
 clear hr1 hc1
 have HB := y0.mk (Below.refl w.heap.size w)
 have H : (z1_.l0 k l0 l1 l0 (l0.length : Int) 0) = some r := h
 clear h
 have H' := y0.mk H
 clear H
 go_enter Tryz.func73,Tryz.ntmps73
 go_wp2
 go_loopg [13] k (fun kq v13 w' => ∃ (x13_1 : Int),v13 = .int .i64 x13_1 ∧ y0 (z1_.l0 kq l0 l1 l0 (l0.length : Int) x13_1 = some r) ∧ y0 (kq ≤ k) ∧ y0 (Below w.heap.size w w'))
 case atStart => exact ⟨(0),qy2,H',⟨Nat.le_refl _⟩,⟨qb⟩⟩
 case round =>
  clear H'
  obtain ⟨x13_1,rfl,HA,HK1,HB⟩ := hrel
  cases gk with
  | zero => exact absurd HA.out (by simp [z1_.l0])
  | succ k1 =>
   have H := HA.out
   clear HA
   simp only [z1_.l0] at H
   by_cases c4 : x13_1 < (l0.length : Int)
   ·rw [if_pos c4] at H
    have c4b0 := decide_eq_true c4
    clear c4
    obtain ⟨c5,H⟩ := qo H
    have c5b0 : decide (0 ≤ x13_1) = true := decide_eq_true c5
    clear c5
    obtain ⟨c6,H⟩ := qo H
    have c6b0 : decide (x13_1 < (l0.length : Int)) = true := decide_eq_true c6
    clear c6
    by_cases c7 : x13_1 ≥ (l1.length : Int)
    ·rw [if_pos c7] at H
     have c7b0 : decide ((l1.length : Int) ≤ x13_1) = true := decide_eq_true c7
     clear c7
     obtain rfl := Option.some.inj H
     have p402 : 0 ≤ (x13_1 : Int) := of_decide_eq_true qy1
     have q402 : x13_1 < (l0.length : Int) := of_decide_eq_true qy1
     obtain ⟨ad402,e402,hx402_0⟩ := Kd.at_string HR0.out x13_1 p402 q402
     cases e402
     replace hx402_0 := (HB.out.cell (World.block_lt_of_cell? w _ hx402_0)).trans hx402_0
     replace p402 := eq_true p402
     replace q402 := eq_true q402
     go_wp2
     go_ret
     exact ⟨by first | rfl | (simp [y13,y14] <;> rfl) | (simp [*,y13,y14] <;> rfl),qb⟩
    ·rw [if_neg c7] at H
     have c7b0 : decide ((l1.length : Int) ≤ x13_1) = false := decide_eq_false c7
     clear c7
     obtain ⟨c8,H⟩ := qo H
     have c8b0 : decide (x13_1 < (l1.length : Int)) = true := decide_eq_true c8
     clear c8
     obtain ⟨t404,A9,H⟩ := qB H
     by_cases c10 : t404 = 0
     ·rw [if_pos c10] at H
      have c10b0 : (t404 == 0) = true := beq_iff_eq.mpr c10
      have c10b1 : (t404 != 0) = false := bne_eq_false_iff_eq.mpr c10
      clear c10
      have H' := y0.mk H
      clear H
      have p402 : 0 ≤ (x13_1 : Int) := of_decide_eq_true qy1
      have q402 : x13_1 < (l0.length : Int) := of_decide_eq_true qy1
      obtain ⟨ad402,e402,hx402_0⟩ := Kd.at_string HR0.out x13_1 p402 q402
      cases e402
      replace hx402_0 := (HB.out.cell (World.block_lt_of_cell? w _ hx402_0)).trans hx402_0
      replace p402 := eq_true p402
      replace q402 := eq_true q402
      have p403 : 0 ≤ (x13_1 : Int) := of_decide_eq_true qy1
      have q403 : x13_1 < (l1.length : Int) := of_decide_eq_true qy1
      obtain ⟨ad403,e403,hx403_0⟩ := Kd.at_string HR1.out x13_1 p403 q403
      cases e403
      replace hx403_0 := (HB.out.cell (World.block_lt_of_cell? w _ hx403_0)).trans hx403_0
      replace p403 := eq_true p403
      replace q403 := eq_true q403
      go_wp2_with (first | (go_at_call 74; (with_reducible refine (impl_compareTerms.calls k1 (rdOf ByteArray.empty l0 x13_1) (rdOf ByteArray.empty l1 x13_1) t404 _ (by exact Tb.below HT.out qb) A9.out).mono ?_); rintro e w11 ⟨rfl,hb⟩; replace HB := y0.mk (y6 qb hb); (try clear hb); (try clear hb2); (try clear hk); (try clear hi)))
      go_roundg k1
      case measure => have := HK1.out; omega
      exact ⟨(wrap64 (x13_1 + 1)),qy2,H',⟨by have := HK1.out; omega⟩,⟨qb⟩⟩
     ·rw [if_neg c10] at H
      have c10b0 : (t404 == 0) = false := beq_eq_false_iff_ne.mpr c10
      have c10b1 : (t404 != 0) = true := bne_iff_ne.mpr c10
      obtain rfl := Option.some.inj H
      have p402 : 0 ≤ (x13_1 : Int) := of_decide_eq_true qy1
      have q402 : x13_1 < (l0.length : Int) := of_decide_eq_true qy1
      obtain ⟨ad402,e402,hx402_0⟩ := Kd.at_string HR0.out x13_1 p402 q402
      cases e402
      replace hx402_0 := (HB.out.cell (World.block_lt_of_cell? w _ hx402_0)).trans hx402_0
      replace p402 := eq_true p402
      replace q402 := eq_true q402
      have p403 : 0 ≤ (x13_1 : Int) := of_decide_eq_true qy1
      have q403 : x13_1 < (l1.length : Int) := of_decide_eq_true qy1
      obtain ⟨ad403,e403,hx403_0⟩ := Kd.at_string HR1.out x13_1 p403 q403
      cases e403
      replace hx403_0 := (HB.out.cell (World.block_lt_of_cell? w _ hx403_0)).trans hx403_0
      replace p403 := eq_true p403
      replace q403 := eq_true q403
      go_wp2_with (first | (go_at_call 74; (with_reducible refine (impl_compareTerms.calls k1 (rdOf ByteArray.empty l0 x13_1) (rdOf ByteArray.empty l1 x13_1) t404 _ (by exact Tb.below HT.out qb) A9.out).mono ?_); rintro e w12 ⟨rfl,hb⟩; replace HB := y0.mk (y6 qb hb); (try clear hb); (try clear hb2); (try clear hk); (try clear hi)))
      go_ret
      exact ⟨by first | rfl | (simp [y13,y14] <;> rfl) | (simp [*,y13,y14] <;> rfl),qb⟩
   ·rw [if_neg c4] at H
    have c4b0 := decide_eq_false c4
    clear c4
    by_cases c13 : (l0.length : Int) < (l1.length : Int)
    ·rw [if_pos c13] at H
     have c13b0 := decide_eq_true c13
     have c13b1 : decide (l0.length < l1.length) = true := decide_eq_true (Int.ofNat_lt.mp c13)
     clear c13
     obtain rfl := Option.some.inj H
     go_wp2
     go_ret
     exact ⟨by first | rfl | (simp [y13,y14] <;> rfl) | (simp [*,y13,y14] <;> rfl),qb⟩
    ·rw [if_neg c13] at H
     have c13b0 := decide_eq_false c13
     have c13b1 : decide (l0.length < l1.length) = false := decide_eq_false (fun h => c13 (Int.ofNat_lt.mpr h))
     clear c13
     obtain rfl := Option.some.inj H
     go_wp2
     go_ret
     exact ⟨by first | rfl | (simp [y13,y14] <;> rfl) | (simp [*,y13,y14] <;> rfl),qb⟩
def impl_compareTuples.f (k : Nat) (l0_0 : List ByteArray) (l1_0 : List ByteArray) : Option (Int) := (z1_.f k l0_0 l1_0).bind fun t407 => (some t407)
set_option maxHeartbeats 8000000 in
set_option maxRecDepth 100000 in
theorem impl_compareTuples.calls (k : Nat) (A0_0 : Option Addr) (c0_0 : Nat) (l0_0 : List ByteArray) (A1_0 : Option Addr) (c1_0 : Nat) (l1_0 : List ByteArray) (r : Int) (w : World) (hr0_0 : Kd.C Kd.string w A0_0 l0_0.length l0_0) (hc0_0 : l0_0.length ≤ c0_0) (hr1_0 : Kd.C Kd.string w A1_0 l1_0.length l1_0) (hc1_0 : l1_0.length ≤ c1_0) (hT : Tb w) (h : impl_compareTuples.f k l0_0 l1_0 = some r) :
  Calls Tryz.prog 44 #[.agg #[.slice A0_0 l0_0.length c0_0],.agg #[.slice A1_0 l1_0.length c1_0]] w fun e w' => e = .returned (.int .i64 r) ∧ Below w.heap.size w w' := by
 have hu36 := Tryz.underlying36
 have HT := y0.mk hT
 clear hT
 have HR0_0 := y0.mk hr0_0
 have HC0_0 := y0.mk hc0_0
 clear hr0_0 hc0_0
 have HR1_0 := y0.mk hr1_0
 have HC1_0 := y0.mk hc1_0
 clear hr1_0 hc1_0
 have HB := y0.mk (Below.refl w.heap.size w)
 have H : ((z1_.f k l0_0 l1_0).bind fun t407 => (some t407)) = some r := h
 clear h
 obtain ⟨t407,A3,H⟩ := qB H
 obtain rfl := Option.some.inj H
 go_enter Tryz.func44,Tryz.ntmps44
 go_wp2_with (first | ((with_reducible refine y16 (N := 2) rfl ?_); refine qe 2 #[.slice A0_0 l0_0.length c0_0] 36 ?_; intro gb405 hg w4 hbox hb; have BK405 := y0.mk (hbox); have GW405 := y0.mk (qg (w := w) hg); have GE405 := y0.mk (qg (w := w) hg); replace HB := y0.mk (y6 qb hb); clear hb hbox hg) | ((with_reducible refine y16 (N := 3) rfl ?_); refine qe 3 #[.slice A1_0 l1_0.length c1_0] 36 ?_; intro gb406 hg w5 hbox hb; have BK406 := y0.mk (hbox); have GW406 := y0.mk (qg (w := w) hg); have GE406 := y0.mk (qg (w := w) hg); replace HB := y0.mk (y6 qb hb); have NB405_406 := y0.mk (qn BK405.out hg); have NB406_405 := y0.mk (qm BK405.out hg); replace BK405 := y0.mk (qK BK405.out hb); clear hb hbox hg; have hnb6 := NB405_406.out; have hnc6 := NB406_405.out; obtain ⟨hcz7_0,hfz7_0⟩ := qz1 BK405.out; obtain ⟨hcz8_0,hfz8_0⟩ := qz1 BK406.out) | ((with_reducible refine y15 (f := 73) rfl ?_); refine y17 (some 9) rfl rfl Tryz.func73 (by kernel_rfl) rfl #[.slice A0_0 l0_0.length c0_0,.slice A1_0 l1_0.length c1_0,.func (.func 74) #[] #[]] rfl qy0 ?_; (with_reducible refine (z1_.calls k _ _ l0_0 _ _ l1_0  t407 _ (qc (Kd.C_below HR0_0.out HB.out)) HC0_0.out (qc (Kd.C_below HR1_0.out HB.out)) HC1_0.out (by exact Tb.below HT.out qb) A3.out).mono ?_); rintro e w9 ⟨rfl,hb⟩; refine ⟨_,rfl, ?_⟩; replace BK405 := y0.mk (qK BK405.out hb); replace BK406 := y0.mk (qK BK406.out hb); replace HB := y0.mk (y6 qb hb); (try clear hb); (try clear hb2); (try clear hk); (try clear hi)))
 go_ret
 exact ⟨by first | rfl | (simp [y13,y14] <;> rfl) | (simp [*,y13,y14] <;> rfl),qb⟩
end Go.Proofs.YtkajecadkkgfmaaGreatDoor.Pe
end
section
namespace Go.Proofs.YtkajecadkkgfmaaGreatDoor.Pe
open Go.RowKit Go.Proofs.YtkajecadkkgfmaaGreatDoorW.PrintWords Go.Proofs.YtkajecadkkgfmaaGreatDoorW.PrintLast Go.Proofs.YtkajecadkkgfmaaGreatDoorW.PrintMore
attribute [local go_sem] max2_int min2_int max_two min_two max_three min_three max_four min_four   -- for this text's walks alone
set_option linter.unusedVariables false
set_option linter.unusedSimpArgs false
mutual
def impl_isRel.j0 : Nat → Bool → Int → List (S36) → Option (Bool)
 | 0,_,_,_ => none
 | k + 1,x14,x409000,x409001 => if x14 = true then (some false) else (impl_isRel.l0 k x409001 (x409001.length : Int) 0 x409000 x409001)
def impl_isRel.l0 : Nat → List (S36) → Int → Int → Int → List (S36) → Option (Bool)
 | 0,_,_,_,_,_ => none
 | k + 1,x16,x17,x18,x409000,x409001 => if x18 < x17 then (if 0 ≤ x18 then (if x18 < (x16.length : Int) then ((impl_isTuple.f k ((y21 x16 x18).f0)).bind fun t412 => (if t412 = true then (if (((y21 x16 x18).f0).length : Int) = x409000 then (if x18 > 0 then (if 0 ≤ (wrap64 (x18 - 1)) then (if (wrap64 (x18 - 1)) < (x409001.length : Int) then ((impl_compareTuples.f k ((y21 x409001 (wrap64 (x18 - 1))).f0) ((y21 x16 x18).f0)).bind fun t414 => (if t414 ≥ 0 then (some false) else (impl_isRel.l0 k x16 x17 (wrap64 (x18 + 1)) x409000 x409001))) else (none)) else (none)) else (impl_isRel.l0 k x16 x17 (wrap64 (x18 + 1)) x409000 x409001)) else (some false)) else (some false))) else (none)) else (none)) else (some true)
end
def impl_isRel.f (k : Nat) (a0_0 : Int) (l0_1 : List (S36)) : Option (Bool) := (impl_in.f a0_0 0 6).bind fun t409 => (if t409 = true then (impl_isRel.j0 k (decide ((l0_1.length : Int) > 400)) a0_0 l0_1) else (impl_isRel.j0 k true a0_0 l0_1))
def impl_isRel.T6 : Bool × List (List Nat × List Nat) := (true,[([],[]),([0],[0]),([1],[1]),([2,1],[2]),([3],[3]),([4,3],[3,4]),([5,3],[3,5]),([3],[3]),([7,3],[3,7]),([6,8,3],[3,6,8]),([3,9],[3,9]),([10,3],[10]),([11],[11]),([12,11],[11,12]),([13,11,11],[11,13]),([14],[14]),([15,14],[14,15]),([14],[14]),([17,14],[14,17]),([16,18,14],[14,16,18]),([19,14],[14,19]),([14],[14]),([20,21,14,14],[14,20,21]),([22,14],[14,22]),([14,23,11],[11,14,23]),([11,24],[11,24])])
def impl_isRel.B6 : List Nat := [0,1,3,7,15,31,63,15,143,511,1023,2047,4095,8191,16383,32767,65535,32767,163839,524287,1048575,32767,4194303,8388607,16777215,33554431]
theorem impl_isRel.tab6 : rtab .any (opsOf Tryz.f40 6) = impl_isRel.T6 := by kernel_rfl
theorem impl_isRel.bits6 : waitsOk impl_isRel.T6.2 impl_isRel.B6 = true := by kernel_rfl
set_option maxHeartbeats 8000000 in
set_option maxRecDepth 100000 in
theorem impl_isRel.calls (k : Nat) (a0_0 : Int) (A0_1 : Option Addr) (c0_1 : Nat) (l0_1 : List (S36)) (r : Bool) (w : World) (hr0_1 : Kd.C k36 w A0_1 l0_1.length l0_1) (hc0_1 : l0_1.length ≤ c0_1) (hT : Tb w) (h : impl_isRel.f k a0_0 l0_1 = some r) :
  Calls Tryz.prog 40 #[.agg #[.int .i64 a0_0,.slice A0_1 l0_1.length c0_1]] w fun e w' => e = .returned (.bool r) ∧ Below w.heap.size w w' := by
 have hu32 := Tryz.underlying32
 have hu36 := Tryz.underlying36
 have HT := y0.mk hT
 clear hT
 have HR0_1 := y0.mk hr0_1
 have HC0_1 := y0.mk hc0_1
 clear hr0_1 hc0_1
 have HB := y0.mk (Below.refl w.heap.size w)
 have H : ((impl_in.f a0_0 0 6).bind fun t409 => (if t409 = true then (impl_isRel.j0 k (decide ((l0_1.length : Int) > 400)) a0_0 l0_1) else (impl_isRel.j0 k true a0_0 l0_1))) = some r := h
 clear h
 have HC2 := y0.mk H
 clear H
 go_enter Tryz.func40,Tryz.ntmps40
 go_upto_region 1 with (first | ((with_reducible refine y16 (N := 1) rfl ?_); (try (refine gate_guard (by rfl) ?_; dsimp only)); refine qe 1 #[.int .i64 a0_0,.slice A0_1 l0_1.length c0_1] 32 ?_; intro gb408 hg w3 hbox hb; have BK408 := y0.mk (hbox); have GW408 := y0.mk (qg (w := w) hg); have GE408 := y0.mk (qg (w := w) hg); replace HB := y0.mk (y6 qb hb); clear hb hbox hg))
 (try simp only [Act.put,qS_,qZ_,qC_])
 go_cut [14] (fun v14 wc => ∃ (kq : Nat) (x14_1 : Bool),v14 = .bool x14_1 ∧ y0 (impl_isRel.j0 kq x14_1 a0_0 l0_1 = some r) ∧ y0 (kq ≤ k) ∧ y0 (wc.heap[gb408]? = some (.cells #[.int .i64 a0_0,(.slice A0_1 l0_1.length c0_1)] 32 (0,0))) ∧ y0 (Below w.heap.size w wc))
 case first =>
  have H := HC2.out
  clear HC2
  obtain ⟨t409,A4,H⟩ := qB H
  by_cases c5 : t409 = true
  ·subst c5
   replace H := qT H
   have H' := y0.mk H
   clear H
   obtain ⟨hcz6_0,hcz6_1,hfz6_0,hfz6_1⟩ := qz2 BK408.out
   go_wp2_with (first | ((with_reducible refine y15 (f := 69) rfl ?_); refine y17 (some 7) rfl rfl Tryz.func69 (by kernel_rfl) rfl #[.int .i64 a0_0,.int .i64 0,.int .i64 6] rfl qy0 ?_; (with_reducible refine (impl_in.calls a0_0 0 6 true _ A4.out).mono ?_); rintro e w' ⟨rfl,⟨nd,rfl⟩⟩; refine ⟨_,rfl, ?_⟩))
   go_meet
   exact ⟨_,(decide ((l0_1.length : Int) > 400)),qy2,H',⟨by first | omega | exact Nat.le_refl _⟩,⟨qk BK408.out⟩,⟨qb⟩⟩
  ·replace c5 := Bool.eq_false_iff.mpr c5
   subst c5
   replace H := qF H
   have H' := y0.mk H
   clear H
   obtain ⟨hcz7_0,hcz7_1,hfz7_0,hfz7_1⟩ := qz2 BK408.out
   go_wp2_with (first | ((with_reducible refine y15 (f := 69) rfl ?_); refine y17 (some 7) rfl rfl Tryz.func69 (by kernel_rfl) rfl #[.int .i64 a0_0,.int .i64 0,.int .i64 6] rfl qy0 ?_; (with_reducible refine (impl_in.calls a0_0 0 6 false _ A4.out).mono ?_); rintro e w' ⟨rfl,⟨nd,rfl⟩⟩; refine ⟨_,rfl, ?_⟩))
   go_meet
   exact ⟨_,(true),qy2,H',⟨by first | omega | exact Nat.le_refl _⟩,⟨qk BK408.out⟩,⟨qb⟩⟩
 case rest =>
  clear HC2
  obtain ⟨kq,x14_1,rfl,HA,HJ1,BK408,HB⟩ := hcut
  cases kq with
  | zero => exact absurd HA.out (by simp [impl_isRel.j0])
  | succ kj1 =>
   have H := HA.out
   clear HA
   simp only [impl_isRel.j0] at H
   by_cases c8 : x14_1 = true
   ·subst c8
    replace H := qT H
    obtain rfl := Option.some.inj H
    go_wp2
    go_ret
    exact ⟨by first | rfl | (simp [y13,y14] <;> rfl) | (simp [*,y13,y14] <;> rfl),qb⟩
   ·replace c8 := Bool.eq_false_iff.mpr c8
    subst c8
    replace H := qF H
    have H' := y0.mk H
    clear H
    obtain ⟨hcz9_0,hcz9_1,hfz9_0,hfz9_1⟩ := qz2 BK408.out
    go_wp2
    go_loopg [18] kj1 (fun kq v18 w' => ∃ (x18_2 : Int),v18 = .int .i64 x18_2 ∧ y0 (impl_isRel.l0 kq l0_1 (l0_1.length : Int) x18_2 a0_0 l0_1 = some r) ∧ y0 (kq ≤ kj1) ∧ y0 (w'.heap[gb408]? = some (.cells #[.int .i64 a0_0,(.slice A0_1 l0_1.length c0_1)] 32 (0,0))) ∧ y0 (Below w.heap.size w w'))
    case atStart => exact ⟨(0),qy2,H',⟨Nat.le_refl _⟩,⟨qk BK408.out⟩,⟨qb⟩⟩
    case round =>
     clear H'
     (try clear c8 hcz9_0 hcz9_1 hfz9_0 hfz9_1)
     obtain ⟨x18_2,rfl,HA,HK2,BK408,HB⟩ := hrel
     cases gk with
     | zero => exact absurd HA.out (by simp [impl_isRel.l0])
     | succ k2 =>
      have H := HA.out
      clear HA
      simp only [impl_isRel.l0] at H
      by_cases c10 : x18_2 < (l0_1.length : Int)
      ·as_aux_lemma =>
       rw [if_pos c10] at H
       have c10b0 := decide_eq_true c10
       clear c10
       obtain ⟨c11,H⟩ := qo H
       have c11b0 : decide (0 ≤ x18_2) = true := decide_eq_true c11
       clear c11
       obtain ⟨c12,H⟩ := qo H
       have c12b0 : decide (x18_2 < (l0_1.length : Int)) = true := decide_eq_true c12
       clear c12
       obtain ⟨t412,A13,H⟩ := qB H
       by_cases c14 : t412 = true
       ·subst c14
        replace H := qT H
        by_cases c15 : (((y21 l0_1 x18_2).f0).length : Int) = a0_0
        ·as_aux_lemma =>
         rw [if_pos c15] at H
         have c15b0 : ((((y21 l0_1 x18_2).f0).length : Int) == a0_0) = true := beq_iff_eq.mpr c15
         have c15b1 : ((((y21 l0_1 x18_2).f0).length : Int) != a0_0) = false := bne_eq_false_iff_eq.mpr c15
         clear c15
         by_cases c16 : x18_2 > 0
         ·as_aux_lemma =>
          rw [if_pos c16] at H
          have c16b0 : decide (0 < x18_2) = true := decide_eq_true c16
          clear c16
          obtain ⟨ji17,hji17⟩ : ∃ j_ : Int,(wrap64 (x18_2 - 1)) = j_ := ⟨_,rfl⟩
          replace H : (if 0 ≤ (ji17) then (if (ji17) < (l0_1.length : Int) then ((impl_compareTuples.f k2 ((y21 l0_1 (ji17)).f0) ((y21 l0_1 x18_2).f0)).bind fun t414 => (if t414 ≥ 0 then (some false) else (impl_isRel.l0 k2 l0_1 (l0_1.length : Int) (wrap64 (x18_2 + 1)) a0_0 l0_1))) else (none)) else (none)) = some r := by first | (rw [hji17] at H; exact H) | (simp only [hji17] at H ⊢; exact H)
          (try rw [hji17] at A13)
          have hji17w : (IntKind.i64.wrap (x18_2 - 1)) = ji17 := (y19 _).trans hji17
          obtain ⟨c18,H⟩ := qo H
          have c18b0 := decide_eq_true c18
          clear c18
          obtain ⟨c19,H⟩ := qo H
          have c19b0 := decide_eq_true c19
          clear c19
          obtain ⟨t414,A20,H⟩ := qB H
          by_cases c21 : t414 ≥ 0
          ·as_aux_lemma =>
           rw [if_pos c21] at H
           have c21b0 : decide (0 ≤ t414) = true := decide_eq_true c21
           clear c21
           obtain rfl := Option.some.inj H
           have p410 : 0 ≤ (x18_2 : Int) := of_decide_eq_true qy1
           have q410 : x18_2 < (l0_1.length : Int) := of_decide_eq_true qy1
           obtain ⟨ad410,A410_0,c410_0,e410,hx410_0,hl410_0,hi410_0⟩ := at_T36 HR0_1.out x18_2 p410 q410
           cases e410
           replace hx410_0 := (HB.out.cell (World.block_lt_of_cell? w _ hx410_0)).trans hx410_0
           have HR410_0 := y0.mk hi410_0
           have HC410_0 := y0.mk hl410_0
           clear hi410_0 hl410_0
           replace p410 := eq_true p410
           replace q410 := eq_true q410
           try go_wp2_with (first | ((with_reducible refine y16 (N := 4) rfl ?_); (try (refine gate_guard (by rfl) ?_; dsimp only)); refine qe 4 #[.slice none 0 0] 36 ?_; intro gb411 hg w22 hbox hb; have BK411 := y0.mk (hbox); have GW411 := y0.mk (qg (w := w) hg); have GE411 := y0.mk (qg (w := w) hg); replace HB := y0.mk (y6 qb hb); have NB408_411 := y0.mk (qn BK408.out hg); have NB411_408 := y0.mk (qm BK408.out hg); replace BK408 := y0.mk (qK BK408.out hb); clear hb hbox hg; have hnb23 := NB411_408.out; have hnc23 := NB408_411.out; obtain ⟨hcz24_0,hfz24_0⟩ := qz1 BK411.out))
           have n0_ : y0 ((w22.setCell ⟨gb411,0,none⟩ (.slice A410_0 ((y21 l0_1 x18_2).f0).length c410_0)).heap[gb408]? = some (.cells #[.int .i64 a0_0,.slice (some ad410) l0_1.length c0_1] 32 (0,0))) := ⟨by (with_reducible repeat (first | refine y11 ?_ _ | refine y10 ?_ | refine y7 ?_ _)); refine y12 ?_ NB408_411.out _; (with_reducible repeat (first | refine y11 ?_ _ | refine y10 ?_ | refine y7 ?_ _)); exact BK408.out⟩
           have n1_ : y0 ((w22.setCell ⟨gb411,0,none⟩ (.slice A410_0 ((y21 l0_1 x18_2).f0).length c410_0)).heap[gb411]? = some (.cells #[.slice A410_0 ((y21 l0_1 x18_2).f0).length c410_0] 36 (0,0))) := ⟨by (with_reducible repeat (first | refine y11 ?_ _ | refine y10 ?_ | refine y7 ?_ _)); refine blk_put (cs := #[.slice none 0 0]) ?_ 0 _ rfl; (with_reducible repeat (first | refine y11 ?_ _ | refine y10 ?_ | refine y7 ?_ _)); exact BK411.out⟩
           have n2_ : y0 (Below w.heap.size w (w22.setCell ⟨gb411,0,none⟩ (.slice A410_0 ((y21 l0_1 x18_2).f0).length c410_0))) := ⟨qb⟩
           (try clear BK408)
           (try clear BK411)
           (try clear HB)
           generalize (w22.setCell ⟨gb411,0,none⟩ (.slice A410_0 ((y21 l0_1 x18_2).f0).length c410_0)) = w25 at n0_ n1_ n2_ ⊢
           have BK408 := n0_
           have BK411 := n1_
           have HB := n2_
           clear n0_ n1_ n2_
           replace BK408 := y0.mk (y10 BK408.out)
           replace BK411 := y0.mk (y10 BK411.out)
           replace HB := y0.mk (y4 HB.out)
           have p413 : 0 ≤ ((ji17) : Int) := of_decide_eq_true qy1
           have q413 : (ji17) < (l0_1.length : Int) := of_decide_eq_true qy1
           obtain ⟨ad413,A413_0,c413_0,e413,hx413_0,hl413_0,hi413_0⟩ := at_T36 HR0_1.out (ji17) p413 q413
           have hw413_0 := hx413_0
           obtain rfl : ad410 = ad413 := (by injection e413)
           replace hx413_0 := (HB.out.cell (World.block_lt_of_cell? w _ hx413_0)).trans hx413_0
           have HR413_0 := y0.mk hi413_0
           have HC413_0 := y0.mk hl413_0
           clear hi413_0 hl413_0
           replace p413 := eq_true p413
           replace q413 := eq_true q413
           refine start_ (n := 26) (S := fun w' => w'.cell? ⟨gb411,0,none⟩ = some (.slice A410_0 ((y21 l0_1 x18_2).f0).length c410_0) ∧ w'.cell? ⟨gb408,0,none⟩ = some (.int .i64 a0_0) ∧ w'.cell? ⟨gb408,1,none⟩ = some (.slice (some ad410) l0_1.length c0_1) ∧ w'.cell? (ad410.add ((ji17)).toNat) = some (.slice A413_0 ((y21 l0_1 (ji17)).f0).length c413_0)) (ds := []) (fl_ 26 0) (by kernel_rfl) rfl rfl ⟨(y9 BK411.out 0).trans rfl,(y9 BK408.out 0).trans rfl,(y9 BK408.out 1).trans rfl,((HB.out.cell (World.block_lt_of_cell? w _ hw413_0)).trans hw413_0)⟩ (fun hHeld => ?_); refine with_tabW impl_isRel.tab6 impl_isRel.bits6 (fun HT_ HW_ => ?_)
           generalize w25.drew = w26 at BK408 BK411 HB HR413_0 hx413_0 hHeld ⊢
           refine qt 0 23 (fl_ 26 1) hHeld ?_
           refine one_ (i := 1) (N := some 24) (fl_ 26 3) rfl rfl (one_of HT_.out (by kernel_rfl)) (by decide) (fun K hK => ?_)
           refine goes_ Tryz.func41 (by kernel_rfl) rfl #[.agg #[.slice A410_0 ((y21 l0_1 x18_2).f0).length c410_0]] (by rfl) rfl rfl qy0 ?_
           with_reducible refine (impl_isTuple.calls k2 _ _ ((y21 l0_1 x18_2).f0) true _ (qc (Kd.C_below HR410_0.out HB.out)) HC410_0.out (by exact Tb.below HT.out qb) A13.out).mono ?_
           rintro e w27 ⟨rfl,hb⟩
           refine ⟨_,rfl, ?_⟩
           replace BK408 := y0.mk (qK BK408.out hb)
           replace BK411 := y0.mk (qK BK411.out hb)
           replace HB := y0.mk (y6 qb hb)
           (try clear hb)
           (try clear hb2)
           (try clear hk)
           (try clear hi)
           refine hK.out _ _ ⟨(y9 BK411.out 0).trans rfl,(y9 BK408.out 0).trans rfl,(y9 BK408.out 1).trans rfl,((HB.out.cell (World.block_lt_of_cell? w _ hw413_0)).trans hw413_0)⟩ (fun hHeld => ?_)
           clear hK K
           refine norm_ (a' := ?_) ?_ ?_
           rotate_left
           ·show Act.put _ (some 24) _ = _
            simp only [Act.put,qS_,qZ_,qC_,y19,y18]
            rfl
           refine qp 2 25 (fl_ 26 7) ?_
           refine qp 3 26 (fl_ 26 15) ?_
           refine qp 4 27 (fl_ 26 31) ?_
           refine qp 7 30 (fl_ 26 159) ?_
           refine qt 5 28 (fl_ 26 191) hHeld ?_
           refine qp 6 29 (fl_ 26 255) ?_
           refine qt 8 31 (fl_ 26 511) hHeld ?_
           refine qp 9 32 (fl_ 26 1023) ?_
           refine qp 10 33 (fl_ 26 2047) ?_
           refine qp 11 34 (fl_ 26 4095) ?_
           refine qp 12 35 (fl_ 26 8191) ?_
           refine qp 13 36 (fl_ 26 16383) ?_
           refine qp 14 37 (fl_ 26 32767) ?_
           refine qp 15 38 (fl_ 26 65535) ?_
           refine qp 17 40 (fl_ 26 196607) ?_
           refine qp 18 41 (fl_ 26 458751) ?_
           refine qt 16 39 (fl_ 26 524287) hHeld ?_
           refine qp 19 42 (fl_ 26 1048575) ?_
           refine qt 20 43 (fl_ 26 2097151) hHeld ?_
           refine qt 21 44 (fl_ 26 4194303) hHeld ?_
           refine one_ (i := 22) (N := some 45) (fl_ 26 8388607) rfl rfl (one_of HT_.out (by kernel_rfl)) (by decide) (fun K hK => ?_)
           refine goes_ Tryz.func44 (by kernel_rfl) rfl #[.agg #[.slice A413_0 ((y21 l0_1 (ji17)).f0).length c413_0],.agg #[.slice A410_0 ((y21 l0_1 x18_2).f0).length c410_0]] (by rfl) rfl rfl (by (try simp only [qM_,List.map_cons,List.map_nil]); first | done | (simp only [hji17]; rfl) | rfl | (simp only [qD_,qT_]; rfl)) ?_
           with_reducible refine (impl_compareTuples.calls k2 _ _ ((y21 l0_1 (ji17)).f0) _ _ ((y21 l0_1 x18_2).f0) t414 _ (qc (Kd.C_below HR413_0.out HB.out)) HC413_0.out (qc (Kd.C_below HR410_0.out HB.out)) HC410_0.out (by exact Tb.below HT.out qb) A20.out).mono ?_
           rintro e w28 ⟨rfl,hb⟩
           refine ⟨_,rfl, ?_⟩
           replace BK408 := y0.mk (qK BK408.out hb)
           replace BK411 := y0.mk (qK BK411.out hb)
           replace HB := y0.mk (y6 qb hb)
           (try clear hb)
           (try clear hb2)
           (try clear hk)
           (try clear hi)
           refine hK.out _ _ ⟨(y9 BK411.out 0).trans rfl,(y9 BK408.out 0).trans rfl,(y9 BK408.out 1).trans rfl,((HB.out.cell (World.block_lt_of_cell? w _ hw413_0)).trans hw413_0)⟩ (fun hHeld => ?_)
           clear hK K
           refine norm_ (a' := ?_) ?_ ?_
           rotate_left
           ·show Act.put _ (some 45) _ = _
            simp only [Act.put,qS_,qZ_,qC_,y19,y18]
            rfl
           refine qp 23 46 (fl_ 26 16777215) ?_
           refine qp 24 47 (fl_ 26 33554431) ?_
           refine qp 25 48 (fl_ 26 67108863) ?_
           refine done_ (done_of HT_.out (by kernel_rfl)) ?_
           try go_wp2
           go_ret
           exact ⟨by first | rfl | (simp [y13,y14] <;> rfl) | (simp only [← hji17]; first | rfl | (simp [y13,y14] <;> rfl)) | (simp [*,y13,y14] <;> rfl),qb⟩
          ·as_aux_lemma =>
           rw [if_neg c21] at H
           have c21b0 : decide (0 ≤ t414) = false := decide_eq_false c21
           clear c21
           have H' := y0.mk H
           clear H
           have p410 : 0 ≤ (x18_2 : Int) := of_decide_eq_true qy1
           have q410 : x18_2 < (l0_1.length : Int) := of_decide_eq_true qy1
           obtain ⟨ad410,A410_0,c410_0,e410,hx410_0,hl410_0,hi410_0⟩ := at_T36 HR0_1.out x18_2 p410 q410
           cases e410
           replace hx410_0 := (HB.out.cell (World.block_lt_of_cell? w _ hx410_0)).trans hx410_0
           have HR410_0 := y0.mk hi410_0
           have HC410_0 := y0.mk hl410_0
           clear hi410_0 hl410_0
           replace p410 := eq_true p410
           replace q410 := eq_true q410
           try go_wp2_with (first | ((with_reducible refine y16 (N := 4) rfl ?_); (try (refine gate_guard (by rfl) ?_; dsimp only)); refine qe 4 #[.slice none 0 0] 36 ?_; intro gb411 hg w29 hbox hb; have BK411 := y0.mk (hbox); have GW411 := y0.mk (qg (w := w) hg); have GE411 := y0.mk (qg (w := w) hg); replace HB := y0.mk (y6 qb hb); have NB408_411 := y0.mk (qn BK408.out hg); have NB411_408 := y0.mk (qm BK408.out hg); replace BK408 := y0.mk (qK BK408.out hb); clear hb hbox hg; have hnb30 := NB411_408.out; have hnc30 := NB408_411.out; obtain ⟨hcz31_0,hfz31_0⟩ := qz1 BK411.out))
           have n0_ : y0 ((w29.setCell ⟨gb411,0,none⟩ (.slice A410_0 ((y21 l0_1 x18_2).f0).length c410_0)).heap[gb408]? = some (.cells #[.int .i64 a0_0,.slice (some ad410) l0_1.length c0_1] 32 (0,0))) := ⟨by (with_reducible repeat (first | refine y11 ?_ _ | refine y10 ?_ | refine y7 ?_ _)); refine y12 ?_ NB408_411.out _; (with_reducible repeat (first | refine y11 ?_ _ | refine y10 ?_ | refine y7 ?_ _)); exact BK408.out⟩
           have n1_ : y0 ((w29.setCell ⟨gb411,0,none⟩ (.slice A410_0 ((y21 l0_1 x18_2).f0).length c410_0)).heap[gb411]? = some (.cells #[.slice A410_0 ((y21 l0_1 x18_2).f0).length c410_0] 36 (0,0))) := ⟨by (with_reducible repeat (first | refine y11 ?_ _ | refine y10 ?_ | refine y7 ?_ _)); refine blk_put (cs := #[.slice none 0 0]) ?_ 0 _ rfl; (with_reducible repeat (first | refine y11 ?_ _ | refine y10 ?_ | refine y7 ?_ _)); exact BK411.out⟩
           have n2_ : y0 (Below w.heap.size w (w29.setCell ⟨gb411,0,none⟩ (.slice A410_0 ((y21 l0_1 x18_2).f0).length c410_0))) := ⟨qb⟩
           (try clear BK408)
           (try clear BK411)
           (try clear HB)
           generalize (w29.setCell ⟨gb411,0,none⟩ (.slice A410_0 ((y21 l0_1 x18_2).f0).length c410_0)) = w32 at n0_ n1_ n2_ ⊢
           have BK408 := n0_
           have BK411 := n1_
           have HB := n2_
           clear n0_ n1_ n2_
           replace BK408 := y0.mk (y10 BK408.out)
           replace BK411 := y0.mk (y10 BK411.out)
           replace HB := y0.mk (y4 HB.out)
           have p413 : 0 ≤ ((ji17) : Int) := of_decide_eq_true qy1
           have q413 : (ji17) < (l0_1.length : Int) := of_decide_eq_true qy1
           obtain ⟨ad413,A413_0,c413_0,e413,hx413_0,hl413_0,hi413_0⟩ := at_T36 HR0_1.out (ji17) p413 q413
           have hw413_0 := hx413_0
           obtain rfl : ad410 = ad413 := (by injection e413)
           replace hx413_0 := (HB.out.cell (World.block_lt_of_cell? w _ hx413_0)).trans hx413_0
           have HR413_0 := y0.mk hi413_0
           have HC413_0 := y0.mk hl413_0
           clear hi413_0 hl413_0
           replace p413 := eq_true p413
           replace q413 := eq_true q413
           refine start_ (n := 26) (S := fun w' => w'.cell? ⟨gb411,0,none⟩ = some (.slice A410_0 ((y21 l0_1 x18_2).f0).length c410_0) ∧ w'.cell? ⟨gb408,0,none⟩ = some (.int .i64 a0_0) ∧ w'.cell? ⟨gb408,1,none⟩ = some (.slice (some ad410) l0_1.length c0_1) ∧ w'.cell? (ad410.add ((ji17)).toNat) = some (.slice A413_0 ((y21 l0_1 (ji17)).f0).length c413_0)) (ds := []) (fl_ 26 0) (by kernel_rfl) rfl rfl ⟨(y9 BK411.out 0).trans rfl,(y9 BK408.out 0).trans rfl,(y9 BK408.out 1).trans rfl,((HB.out.cell (World.block_lt_of_cell? w _ hw413_0)).trans hw413_0)⟩ (fun hHeld => ?_); refine with_tabW impl_isRel.tab6 impl_isRel.bits6 (fun HT_ HW_ => ?_)
           generalize w32.drew = w33 at BK408 BK411 HB HR413_0 hx413_0 hHeld ⊢
           refine qt 0 23 (fl_ 26 1) hHeld ?_
           refine one_ (i := 1) (N := some 24) (fl_ 26 3) rfl rfl (one_of HT_.out (by kernel_rfl)) (by decide) (fun K hK => ?_)
           refine goes_ Tryz.func41 (by kernel_rfl) rfl #[.agg #[.slice A410_0 ((y21 l0_1 x18_2).f0).length c410_0]] (by rfl) rfl rfl qy0 ?_
           with_reducible refine (impl_isTuple.calls k2 _ _ ((y21 l0_1 x18_2).f0) true _ (qc (Kd.C_below HR410_0.out HB.out)) HC410_0.out (by exact Tb.below HT.out qb) A13.out).mono ?_
           rintro e w34 ⟨rfl,hb⟩
           refine ⟨_,rfl, ?_⟩
           replace BK408 := y0.mk (qK BK408.out hb)
           replace BK411 := y0.mk (qK BK411.out hb)
           replace HB := y0.mk (y6 qb hb)
           (try clear hb)
           (try clear hb2)
           (try clear hk)
           (try clear hi)
           refine hK.out _ _ ⟨(y9 BK411.out 0).trans rfl,(y9 BK408.out 0).trans rfl,(y9 BK408.out 1).trans rfl,((HB.out.cell (World.block_lt_of_cell? w _ hw413_0)).trans hw413_0)⟩ (fun hHeld => ?_)
           clear hK K
           refine norm_ (a' := ?_) ?_ ?_
           rotate_left
           ·show Act.put _ (some 24) _ = _
            simp only [Act.put,qS_,qZ_,qC_,y19,y18]
            rfl
           refine qp 2 25 (fl_ 26 7) ?_
           refine qp 3 26 (fl_ 26 15) ?_
           refine qp 4 27 (fl_ 26 31) ?_
           refine qp 7 30 (fl_ 26 159) ?_
           refine qt 5 28 (fl_ 26 191) hHeld ?_
           refine qp 6 29 (fl_ 26 255) ?_
           refine qt 8 31 (fl_ 26 511) hHeld ?_
           refine qp 9 32 (fl_ 26 1023) ?_
           refine qp 10 33 (fl_ 26 2047) ?_
           refine qp 11 34 (fl_ 26 4095) ?_
           refine qp 12 35 (fl_ 26 8191) ?_
           refine qp 13 36 (fl_ 26 16383) ?_
           refine qp 14 37 (fl_ 26 32767) ?_
           refine qp 15 38 (fl_ 26 65535) ?_
           refine qp 17 40 (fl_ 26 196607) ?_
           refine qp 18 41 (fl_ 26 458751) ?_
           refine qt 16 39 (fl_ 26 524287) hHeld ?_
           refine qp 19 42 (fl_ 26 1048575) ?_
           refine qt 20 43 (fl_ 26 2097151) hHeld ?_
           refine qt 21 44 (fl_ 26 4194303) hHeld ?_
           refine one_ (i := 22) (N := some 45) (fl_ 26 8388607) rfl rfl (one_of HT_.out (by kernel_rfl)) (by decide) (fun K hK => ?_)
           refine goes_ Tryz.func44 (by kernel_rfl) rfl #[.agg #[.slice A413_0 ((y21 l0_1 (ji17)).f0).length c413_0],.agg #[.slice A410_0 ((y21 l0_1 x18_2).f0).length c410_0]] (by rfl) rfl rfl (by (try simp only [qM_,List.map_cons,List.map_nil]); first | done | (simp only [hji17]; rfl) | rfl | (simp only [qD_,qT_]; rfl)) ?_
           with_reducible refine (impl_compareTuples.calls k2 _ _ ((y21 l0_1 (ji17)).f0) _ _ ((y21 l0_1 x18_2).f0) t414 _ (qc (Kd.C_below HR413_0.out HB.out)) HC413_0.out (qc (Kd.C_below HR410_0.out HB.out)) HC410_0.out (by exact Tb.below HT.out qb) A20.out).mono ?_
           rintro e w35 ⟨rfl,hb⟩
           refine ⟨_,rfl, ?_⟩
           replace BK408 := y0.mk (qK BK408.out hb)
           replace BK411 := y0.mk (qK BK411.out hb)
           replace HB := y0.mk (y6 qb hb)
           (try clear hb)
           (try clear hb2)
           (try clear hk)
           (try clear hi)
           refine hK.out _ _ ⟨(y9 BK411.out 0).trans rfl,(y9 BK408.out 0).trans rfl,(y9 BK408.out 1).trans rfl,((HB.out.cell (World.block_lt_of_cell? w _ hw413_0)).trans hw413_0)⟩ (fun hHeld => ?_)
           clear hK K
           refine norm_ (a' := ?_) ?_ ?_
           rotate_left
           ·show Act.put _ (some 45) _ = _
            simp only [Act.put,qS_,qZ_,qC_,y19,y18]
            rfl
           refine qp 23 46 (fl_ 26 16777215) ?_
           refine qp 24 47 (fl_ 26 33554431) ?_
           refine qp 25 48 (fl_ 26 67108863) ?_
           refine done_ (done_of HT_.out (by kernel_rfl)) ?_
           try go_wp2
           go_roundg k2
           case measure => have := HJ1.out; have := HK2.out; omega
           exact ⟨(wrap64 (x18_2 + 1)),qy2,H',⟨by have := HJ1.out; have := HK2.out; omega⟩,⟨qk BK408.out⟩,⟨qb⟩⟩
         ·as_aux_lemma =>
          rw [if_neg c16] at H
          have c16b0 : decide (0 < x18_2) = false := decide_eq_false c16
          clear c16
          have H' := y0.mk H
          clear H
          have p410 : 0 ≤ (x18_2 : Int) := of_decide_eq_true qy1
          have q410 : x18_2 < (l0_1.length : Int) := of_decide_eq_true qy1
          obtain ⟨ad410,A410_0,c410_0,e410,hx410_0,hl410_0,hi410_0⟩ := at_T36 HR0_1.out x18_2 p410 q410
          cases e410
          replace hx410_0 := (HB.out.cell (World.block_lt_of_cell? w _ hx410_0)).trans hx410_0
          have HR410_0 := y0.mk hi410_0
          have HC410_0 := y0.mk hl410_0
          clear hi410_0 hl410_0
          replace p410 := eq_true p410
          replace q410 := eq_true q410
          try go_wp2_with (first | ((with_reducible refine y16 (N := 4) rfl ?_); (try (refine gate_guard (by rfl) ?_; dsimp only)); refine qe 4 #[.slice none 0 0] 36 ?_; intro gb411 hg w36 hbox hb; have BK411 := y0.mk (hbox); have GW411 := y0.mk (qg (w := w) hg); have GE411 := y0.mk (qg (w := w) hg); replace HB := y0.mk (y6 qb hb); have NB408_411 := y0.mk (qn BK408.out hg); have NB411_408 := y0.mk (qm BK408.out hg); replace BK408 := y0.mk (qK BK408.out hb); clear hb hbox hg; have hnb37 := NB411_408.out; have hnc37 := NB408_411.out; obtain ⟨hcz38_0,hfz38_0⟩ := qz1 BK411.out))
          have n0_ : y0 ((w36.setCell ⟨gb411,0,none⟩ (.slice A410_0 ((y21 l0_1 x18_2).f0).length c410_0)).heap[gb408]? = some (.cells #[.int .i64 a0_0,.slice (some ad410) l0_1.length c0_1] 32 (0,0))) := ⟨by (with_reducible repeat (first | refine y11 ?_ _ | refine y10 ?_ | refine y7 ?_ _)); refine y12 ?_ NB408_411.out _; (with_reducible repeat (first | refine y11 ?_ _ | refine y10 ?_ | refine y7 ?_ _)); exact BK408.out⟩
          have n1_ : y0 ((w36.setCell ⟨gb411,0,none⟩ (.slice A410_0 ((y21 l0_1 x18_2).f0).length c410_0)).heap[gb411]? = some (.cells #[.slice A410_0 ((y21 l0_1 x18_2).f0).length c410_0] 36 (0,0))) := ⟨by (with_reducible repeat (first | refine y11 ?_ _ | refine y10 ?_ | refine y7 ?_ _)); refine blk_put (cs := #[.slice none 0 0]) ?_ 0 _ rfl; (with_reducible repeat (first | refine y11 ?_ _ | refine y10 ?_ | refine y7 ?_ _)); exact BK411.out⟩
          have n2_ : y0 (Below w.heap.size w (w36.setCell ⟨gb411,0,none⟩ (.slice A410_0 ((y21 l0_1 x18_2).f0).length c410_0))) := ⟨qb⟩
          (try clear BK408)
          (try clear BK411)
          (try clear HB)
          generalize (w36.setCell ⟨gb411,0,none⟩ (.slice A410_0 ((y21 l0_1 x18_2).f0).length c410_0)) = w39 at n0_ n1_ n2_ ⊢
          have BK408 := n0_
          have BK411 := n1_
          have HB := n2_
          clear n0_ n1_ n2_
          replace BK408 := y0.mk (y10 BK408.out)
          replace BK411 := y0.mk (y10 BK411.out)
          replace HB := y0.mk (y4 HB.out)
          refine start_ (n := 26) (S := fun w' => w'.cell? ⟨gb411,0,none⟩ = some (.slice A410_0 ((y21 l0_1 x18_2).f0).length c410_0) ∧ w'.cell? ⟨gb408,0,none⟩ = some (.int .i64 a0_0) ∧ w'.cell? ⟨gb408,1,none⟩ = some (.slice (some ad410) l0_1.length c0_1)) (ds := []) (fl_ 26 0) (by kernel_rfl) rfl rfl ⟨(y9 BK411.out 0).trans rfl,(y9 BK408.out 0).trans rfl,(y9 BK408.out 1).trans rfl⟩ (fun hHeld => ?_); refine with_tabW impl_isRel.tab6 impl_isRel.bits6 (fun HT_ HW_ => ?_)
          generalize w39.drew = w40 at BK408 BK411 HB hHeld ⊢
          refine qt 0 23 (fl_ 26 1) hHeld ?_
          refine one_ (i := 1) (N := some 24) (fl_ 26 3) rfl rfl (one_of HT_.out (by kernel_rfl)) (by decide) (fun K hK => ?_)
          refine goes_ Tryz.func41 (by kernel_rfl) rfl #[.agg #[.slice A410_0 ((y21 l0_1 x18_2).f0).length c410_0]] (by rfl) rfl rfl qy0 ?_
          with_reducible refine (impl_isTuple.calls k2 _ _ ((y21 l0_1 x18_2).f0) true _ (qc (Kd.C_below HR410_0.out HB.out)) HC410_0.out (by exact Tb.below HT.out qb) A13.out).mono ?_
          rintro e w41 ⟨rfl,hb⟩
          refine ⟨_,rfl, ?_⟩
          replace BK408 := y0.mk (qK BK408.out hb)
          replace BK411 := y0.mk (qK BK411.out hb)
          replace HB := y0.mk (y6 qb hb)
          (try clear hb)
          (try clear hb2)
          (try clear hk)
          (try clear hi)
          refine hK.out _ _ ⟨(y9 BK411.out 0).trans rfl,(y9 BK408.out 0).trans rfl,(y9 BK408.out 1).trans rfl⟩ (fun hHeld => ?_)
          clear hK K
          refine norm_ (a' := ?_) ?_ ?_
          rotate_left
          ·show Act.put _ (some 24) _ = _
           simp only [Act.put,qS_,qZ_,qC_,y19,y18]
           rfl
          refine qp 2 25 (fl_ 26 7) ?_
          refine qp 3 26 (fl_ 26 15) ?_
          refine qp 4 27 (fl_ 26 31) ?_
          refine qp 7 30 (fl_ 26 159) ?_
          refine qt 5 28 (fl_ 26 191) hHeld ?_
          refine qp 6 29 (fl_ 26 255) ?_
          refine qt 8 31 (fl_ 26 511) hHeld ?_
          refine qp 9 32 (fl_ 26 1023) ?_
          refine qp 10 33 (fl_ 26 2047) ?_
          refine qp 11 34 (fl_ 26 4095) ?_
          refine qp 12 35 (fl_ 26 8191) ?_
          refine qp 13 36 (fl_ 26 16383) ?_
          refine qp 14 37 (fl_ 26 32767) ?_
          refine y20 (i := 15) (N := some 38) (v := undef) (a' := ?_) (fl_ 26 65535) rfl rfl (y2 HT_.out (by kernel_rfl)) (fun _ _ _ h => h) (Or.inr ⟨by rfl,rfl⟩) ?_ ?_
          rotate_left
          ·simp only [Act.put,qS_,qZ_,qC_,y19,y18]
           rfl
          refine y20 (i := 16) (N := some 39) (v := undef) (a' := ?_) (fl_ 26 131071) rfl rfl (y2 HT_.out (by kernel_rfl)) (fun _ _ _ h => h) (Or.inr ⟨by rfl,rfl⟩) ?_ ?_
          rotate_left
          ·simp only [Act.put,qS_,qZ_,qC_,y19,y18]
           rfl
          refine y20 (i := 17) (N := some 40) (v := undef) (a' := ?_) (fl_ 26 262143) rfl rfl (y2 HT_.out (by kernel_rfl)) (fun _ _ _ h => h) (Or.inr ⟨by rfl,rfl⟩) ?_ ?_
          rotate_left
          ·simp only [Act.put,qS_,qZ_,qC_,y19,y18]
           rfl
          refine y20 (i := 18) (N := some 41) (v := undef) (a' := ?_) (fl_ 26 524287) rfl rfl (y2 HT_.out (by kernel_rfl)) (fun _ _ _ h => h) (Or.inr ⟨by rfl,rfl⟩) ?_ ?_
          rotate_left
          ·simp only [Act.put,qS_,qZ_,qC_,y19,y18]
           rfl
          refine y20 (i := 19) (N := some 42) (v := undef) (a' := ?_) (fl_ 26 1048575) rfl rfl (y2 HT_.out (by kernel_rfl)) (fun _ _ _ h => h) (Or.inr ⟨by rfl,rfl⟩) ?_ ?_
          rotate_left
          ·simp only [Act.put,qS_,qZ_,qC_,y19,y18]
           rfl
          refine y20 (i := 20) (N := some 43) (v := undef) (a' := ?_) (fl_ 26 2097151) rfl rfl (y2 HT_.out (by kernel_rfl)) (fun _ _ _ h => h) (Or.inr ⟨by rfl,rfl⟩) ?_ ?_
          rotate_left
          ·simp only [Act.put,qS_,qZ_,qC_,y19,y18]
           rfl
          refine y20 (i := 21) (N := some 44) (v := undef) (a' := ?_) (fl_ 26 4194303) rfl rfl (y2 HT_.out (by kernel_rfl)) (fun _ _ _ h => h) (Or.inr ⟨by rfl,rfl⟩) ?_ ?_
          rotate_left
          ·simp only [Act.put,qS_,qZ_,qC_,y19,y18]
           rfl
          refine y20 (i := 22) (N := some 45) (v := undef) (a' := ?_) (fl_ 26 8388607) rfl rfl (y2 HT_.out (by kernel_rfl)) (fun _ _ _ h => h) (Or.inr ⟨by rfl,rfl⟩) ?_ ?_
          rotate_left
          ·simp only [Act.put,qS_,qZ_,qC_,y19,y18]
           rfl
          refine y20 (i := 23) (N := some 46) (v := undef) (a' := ?_) (fl_ 26 16777215) rfl rfl (y2 HT_.out (by kernel_rfl)) (fun _ _ _ h => h) (Or.inr ⟨by rfl,rfl⟩) ?_ ?_
          rotate_left
          ·simp only [Act.put,qS_,qZ_,qC_,y19,y18]
           rfl
          refine qp 24 47 (fl_ 26 33554431) ?_
          refine qp 25 48 (fl_ 26 67108863) ?_
          refine done_ (done_of HT_.out (by kernel_rfl)) ?_
          try go_wp2
          go_roundg k2
          case measure => have := HJ1.out; have := HK2.out; omega
          exact ⟨(wrap64 (x18_2 + 1)),qy2,H',⟨by have := HJ1.out; have := HK2.out; omega⟩,⟨qk BK408.out⟩,⟨qb⟩⟩
        ·as_aux_lemma =>
         rw [if_neg c15] at H
         have c15b0 : ((((y21 l0_1 x18_2).f0).length : Int) == a0_0) = false := beq_eq_false_iff_ne.mpr c15
         have c15b1 : ((((y21 l0_1 x18_2).f0).length : Int) != a0_0) = true := bne_iff_ne.mpr c15
         obtain rfl := Option.some.inj H
         have p410 : 0 ≤ (x18_2 : Int) := of_decide_eq_true qy1
         have q410 : x18_2 < (l0_1.length : Int) := of_decide_eq_true qy1
         obtain ⟨ad410,A410_0,c410_0,e410,hx410_0,hl410_0,hi410_0⟩ := at_T36 HR0_1.out x18_2 p410 q410
         cases e410
         replace hx410_0 := (HB.out.cell (World.block_lt_of_cell? w _ hx410_0)).trans hx410_0
         have HR410_0 := y0.mk hi410_0
         have HC410_0 := y0.mk hl410_0
         clear hi410_0 hl410_0
         replace p410 := eq_true p410
         replace q410 := eq_true q410
         try go_wp2_with (first | ((with_reducible refine y16 (N := 4) rfl ?_); (try (refine gate_guard (by rfl) ?_; dsimp only)); refine qe 4 #[.slice none 0 0] 36 ?_; intro gb411 hg w42 hbox hb; have BK411 := y0.mk (hbox); have GW411 := y0.mk (qg (w := w) hg); have GE411 := y0.mk (qg (w := w) hg); replace HB := y0.mk (y6 qb hb); have NB408_411 := y0.mk (qn BK408.out hg); have NB411_408 := y0.mk (qm BK408.out hg); replace BK408 := y0.mk (qK BK408.out hb); clear hb hbox hg; have hnb43 := NB411_408.out; have hnc43 := NB408_411.out; obtain ⟨hcz44_0,hfz44_0⟩ := qz1 BK411.out))
         have n0_ : y0 ((w42.setCell ⟨gb411,0,none⟩ (.slice A410_0 ((y21 l0_1 x18_2).f0).length c410_0)).heap[gb408]? = some (.cells #[.int .i64 a0_0,.slice (some ad410) l0_1.length c0_1] 32 (0,0))) := ⟨by (with_reducible repeat (first | refine y11 ?_ _ | refine y10 ?_ | refine y7 ?_ _)); refine y12 ?_ NB408_411.out _; (with_reducible repeat (first | refine y11 ?_ _ | refine y10 ?_ | refine y7 ?_ _)); exact BK408.out⟩
         have n1_ : y0 ((w42.setCell ⟨gb411,0,none⟩ (.slice A410_0 ((y21 l0_1 x18_2).f0).length c410_0)).heap[gb411]? = some (.cells #[.slice A410_0 ((y21 l0_1 x18_2).f0).length c410_0] 36 (0,0))) := ⟨by (with_reducible repeat (first | refine y11 ?_ _ | refine y10 ?_ | refine y7 ?_ _)); refine blk_put (cs := #[.slice none 0 0]) ?_ 0 _ rfl; (with_reducible repeat (first | refine y11 ?_ _ | refine y10 ?_ | refine y7 ?_ _)); exact BK411.out⟩
         have n2_ : y0 (Below w.heap.size w (w42.setCell ⟨gb411,0,none⟩ (.slice A410_0 ((y21 l0_1 x18_2).f0).length c410_0))) := ⟨qb⟩
         (try clear BK408)
         (try clear BK411)
         (try clear HB)
         generalize (w42.setCell ⟨gb411,0,none⟩ (.slice A410_0 ((y21 l0_1 x18_2).f0).length c410_0)) = w45 at n0_ n1_ n2_ ⊢
         have BK408 := n0_
         have BK411 := n1_
         have HB := n2_
         clear n0_ n1_ n2_
         replace BK408 := y0.mk (y10 BK408.out)
         replace BK411 := y0.mk (y10 BK411.out)
         replace HB := y0.mk (y4 HB.out)
         refine start_ (n := 26) (S := fun w' => w'.cell? ⟨gb411,0,none⟩ = some (.slice A410_0 ((y21 l0_1 x18_2).f0).length c410_0) ∧ w'.cell? ⟨gb408,0,none⟩ = some (.int .i64 a0_0) ∧ w'.cell? ⟨gb408,1,none⟩ = some (.slice (some ad410) l0_1.length c0_1)) (ds := []) (fl_ 26 0) (by kernel_rfl) rfl rfl ⟨(y9 BK411.out 0).trans rfl,(y9 BK408.out 0).trans rfl,(y9 BK408.out 1).trans rfl⟩ (fun hHeld => ?_); refine with_tabW impl_isRel.tab6 impl_isRel.bits6 (fun HT_ HW_ => ?_)
         generalize w45.drew = w46 at BK408 BK411 HB hHeld ⊢
         refine qt 0 23 (fl_ 26 1) hHeld ?_
         refine one_ (i := 1) (N := some 24) (fl_ 26 3) rfl rfl (one_of HT_.out (by kernel_rfl)) (by decide) (fun K hK => ?_)
         refine goes_ Tryz.func41 (by kernel_rfl) rfl #[.agg #[.slice A410_0 ((y21 l0_1 x18_2).f0).length c410_0]] (by rfl) rfl rfl qy0 ?_
         with_reducible refine (impl_isTuple.calls k2 _ _ ((y21 l0_1 x18_2).f0) true _ (qc (Kd.C_below HR410_0.out HB.out)) HC410_0.out (by exact Tb.below HT.out qb) A13.out).mono ?_
         rintro e w47 ⟨rfl,hb⟩
         refine ⟨_,rfl, ?_⟩
         replace BK408 := y0.mk (qK BK408.out hb)
         replace BK411 := y0.mk (qK BK411.out hb)
         replace HB := y0.mk (y6 qb hb)
         (try clear hb)
         (try clear hb2)
         (try clear hk)
         (try clear hi)
         refine hK.out _ _ ⟨(y9 BK411.out 0).trans rfl,(y9 BK408.out 0).trans rfl,(y9 BK408.out 1).trans rfl⟩ (fun hHeld => ?_)
         clear hK K
         refine norm_ (a' := ?_) ?_ ?_
         rotate_left
         ·show Act.put _ (some 24) _ = _
          simp only [Act.put,qS_,qZ_,qC_,y19,y18]
          rfl
         refine qp 2 25 (fl_ 26 7) ?_
         refine qp 3 26 (fl_ 26 15) ?_
         refine qp 4 27 (fl_ 26 31) ?_
         refine qp 7 30 (fl_ 26 159) ?_
         refine qt 5 28 (fl_ 26 191) hHeld ?_
         refine qp 6 29 (fl_ 26 255) ?_
         refine qt 8 31 (fl_ 26 511) hHeld ?_
         refine qp 9 32 (fl_ 26 1023) ?_
         refine qp 10 33 (fl_ 26 2047) ?_
         refine qp 11 34 (fl_ 26 4095) ?_
         refine y20 (i := 12) (N := some 35) (v := undef) (a' := ?_) (fl_ 26 8191) rfl rfl (y2 HT_.out (by kernel_rfl)) (fun _ _ _ h => h) (Or.inr ⟨by rfl,rfl⟩) ?_ ?_
         rotate_left
         ·simp only [Act.put,qS_,qZ_,qC_,y19,y18]
          rfl
         refine y20 (i := 13) (N := some 36) (v := undef) (a' := ?_) (fl_ 26 16383) rfl rfl (y2 HT_.out (by kernel_rfl)) (fun _ _ _ h => h) (Or.inr ⟨by rfl,rfl⟩) ?_ ?_
         rotate_left
         ·simp only [Act.put,qS_,qZ_,qC_,y19,y18]
          rfl
         refine y20 (i := 14) (N := some 37) (v := undef) (a' := ?_) (fl_ 26 32767) rfl rfl (y2 HT_.out (by kernel_rfl)) (fun _ _ _ h => h) (Or.inr ⟨by rfl,rfl⟩) ?_ ?_
         rotate_left
         ·simp only [Act.put,qS_,qZ_,qC_,y19,y18]
          rfl
         refine y20 (i := 15) (N := some 38) (v := undef) (a' := ?_) (fl_ 26 65535) rfl rfl (y2 HT_.out (by kernel_rfl)) (fun _ _ _ h => h) (Or.inr ⟨by rfl,rfl⟩) ?_ ?_
         rotate_left
         ·simp only [Act.put,qS_,qZ_,qC_,y19,y18]
          rfl
         refine y20 (i := 16) (N := some 39) (v := undef) (a' := ?_) (fl_ 26 131071) rfl rfl (y2 HT_.out (by kernel_rfl)) (fun _ _ _ h => h) (Or.inr ⟨by rfl,rfl⟩) ?_ ?_
         rotate_left
         ·simp only [Act.put,qS_,qZ_,qC_,y19,y18]
          rfl
         refine y20 (i := 17) (N := some 40) (v := undef) (a' := ?_) (fl_ 26 262143) rfl rfl (y2 HT_.out (by kernel_rfl)) (fun _ _ _ h => h) (Or.inr ⟨by rfl,rfl⟩) ?_ ?_
         rotate_left
         ·simp only [Act.put,qS_,qZ_,qC_,y19,y18]
          rfl
         refine y20 (i := 18) (N := some 41) (v := undef) (a' := ?_) (fl_ 26 524287) rfl rfl (y2 HT_.out (by kernel_rfl)) (fun _ _ _ h => h) (Or.inr ⟨by rfl,rfl⟩) ?_ ?_
         rotate_left
         ·simp only [Act.put,qS_,qZ_,qC_,y19,y18]
          rfl
         refine y20 (i := 19) (N := some 42) (v := undef) (a' := ?_) (fl_ 26 1048575) rfl rfl (y2 HT_.out (by kernel_rfl)) (fun _ _ _ h => h) (Or.inr ⟨by rfl,rfl⟩) ?_ ?_
         rotate_left
         ·simp only [Act.put,qS_,qZ_,qC_,y19,y18]
          rfl
         refine y20 (i := 20) (N := some 43) (v := undef) (a' := ?_) (fl_ 26 2097151) rfl rfl (y2 HT_.out (by kernel_rfl)) (fun _ _ _ h => h) (Or.inr ⟨by rfl,rfl⟩) ?_ ?_
         rotate_left
         ·simp only [Act.put,qS_,qZ_,qC_,y19,y18]
          rfl
         refine y20 (i := 21) (N := some 44) (v := undef) (a' := ?_) (fl_ 26 4194303) rfl rfl (y2 HT_.out (by kernel_rfl)) (fun _ _ _ h => h) (Or.inr ⟨by rfl,rfl⟩) ?_ ?_
         rotate_left
         ·simp only [Act.put,qS_,qZ_,qC_,y19,y18]
          rfl
         refine y20 (i := 22) (N := some 45) (v := undef) (a' := ?_) (fl_ 26 8388607) rfl rfl (y2 HT_.out (by kernel_rfl)) (fun _ _ _ h => h) (Or.inr ⟨by rfl,rfl⟩) ?_ ?_
         rotate_left
         ·simp only [Act.put,qS_,qZ_,qC_,y19,y18]
          rfl
         refine y20 (i := 23) (N := some 46) (v := undef) (a' := ?_) (fl_ 26 16777215) rfl rfl (y2 HT_.out (by kernel_rfl)) (fun _ _ _ h => h) (Or.inr ⟨by rfl,rfl⟩) ?_ ?_
         rotate_left
         ·simp only [Act.put,qS_,qZ_,qC_,y19,y18]
          rfl
         refine y20 (i := 24) (N := some 47) (v := undef) (a' := ?_) (fl_ 26 33554431) rfl rfl (y2 HT_.out (by kernel_rfl)) (fun _ _ _ h => h) (Or.inr ⟨by rfl,rfl⟩) ?_ ?_
         rotate_left
         ·simp only [Act.put,qS_,qZ_,qC_,y19,y18]
          rfl
         refine qp 25 48 (fl_ 26 67108863) ?_
         refine done_ (done_of HT_.out (by kernel_rfl)) ?_
         try go_wp2
         go_ret
         exact ⟨by first | rfl | (simp [y13,y14] <;> rfl) | (simp [*,y13,y14] <;> rfl),qb⟩
       ·replace c14 := Bool.eq_false_iff.mpr c14
        subst c14
        replace H := qF H
        obtain rfl := Option.some.inj H
        have p410 : 0 ≤ (x18_2 : Int) := of_decide_eq_true qy1
        have q410 : x18_2 < (l0_1.length : Int) := of_decide_eq_true qy1
        obtain ⟨ad410,A410_0,c410_0,e410,hx410_0,hl410_0,hi410_0⟩ := at_T36 HR0_1.out x18_2 p410 q410
        cases e410
        replace hx410_0 := (HB.out.cell (World.block_lt_of_cell? w _ hx410_0)).trans hx410_0
        have HR410_0 := y0.mk hi410_0
        have HC410_0 := y0.mk hl410_0
        clear hi410_0 hl410_0
        replace p410 := eq_true p410
        replace q410 := eq_true q410
        try go_wp2_with (first | ((with_reducible refine y16 (N := 4) rfl ?_); (try (refine gate_guard (by rfl) ?_; dsimp only)); refine qe 4 #[.slice none 0 0] 36 ?_; intro gb411 hg w48 hbox hb; have BK411 := y0.mk (hbox); have GW411 := y0.mk (qg (w := w) hg); have GE411 := y0.mk (qg (w := w) hg); replace HB := y0.mk (y6 qb hb); have NB408_411 := y0.mk (qn BK408.out hg); have NB411_408 := y0.mk (qm BK408.out hg); replace BK408 := y0.mk (qK BK408.out hb); clear hb hbox hg; have hnb49 := NB411_408.out; have hnc49 := NB408_411.out; obtain ⟨hcz50_0,hfz50_0⟩ := qz1 BK411.out))
        have n0_ : y0 ((w48.setCell ⟨gb411,0,none⟩ (.slice A410_0 ((y21 l0_1 x18_2).f0).length c410_0)).heap[gb408]? = some (.cells #[.int .i64 a0_0,.slice (some ad410) l0_1.length c0_1] 32 (0,0))) := ⟨by (with_reducible repeat (first | refine y11 ?_ _ | refine y10 ?_ | refine y7 ?_ _)); refine y12 ?_ NB408_411.out _; (with_reducible repeat (first | refine y11 ?_ _ | refine y10 ?_ | refine y7 ?_ _)); exact BK408.out⟩
        have n1_ : y0 ((w48.setCell ⟨gb411,0,none⟩ (.slice A410_0 ((y21 l0_1 x18_2).f0).length c410_0)).heap[gb411]? = some (.cells #[.slice A410_0 ((y21 l0_1 x18_2).f0).length c410_0] 36 (0,0))) := ⟨by (with_reducible repeat (first | refine y11 ?_ _ | refine y10 ?_ | refine y7 ?_ _)); refine blk_put (cs := #[.slice none 0 0]) ?_ 0 _ rfl; (with_reducible repeat (first | refine y11 ?_ _ | refine y10 ?_ | refine y7 ?_ _)); exact BK411.out⟩
        have n2_ : y0 (Below w.heap.size w (w48.setCell ⟨gb411,0,none⟩ (.slice A410_0 ((y21 l0_1 x18_2).f0).length c410_0))) := ⟨qb⟩
        (try clear BK408)
        (try clear BK411)
        (try clear HB)
        generalize (w48.setCell ⟨gb411,0,none⟩ (.slice A410_0 ((y21 l0_1 x18_2).f0).length c410_0)) = w51 at n0_ n1_ n2_ ⊢
        have BK408 := n0_
        have BK411 := n1_
        have HB := n2_
        clear n0_ n1_ n2_
        replace BK408 := y0.mk (y10 BK408.out)
        replace BK411 := y0.mk (y10 BK411.out)
        replace HB := y0.mk (y4 HB.out)
        refine start_ (n := 26) (S := fun w' => w'.cell? ⟨gb411,0,none⟩ = some (.slice A410_0 ((y21 l0_1 x18_2).f0).length c410_0)) (ds := []) (fl_ 26 0) (by kernel_rfl) rfl rfl ((y9 BK411.out 0).trans rfl) (fun hHeld => ?_); refine with_tabW impl_isRel.tab6 impl_isRel.bits6 (fun HT_ HW_ => ?_)
        generalize w51.drew = w52 at BK408 BK411 HB hHeld ⊢
        refine take_ (i := 0) (N := some 23) (v := ?_) (a' := ?_) (fl_ 26 1) rfl rfl (take_ofW HT_.out HW_.out (by kernel_rfl)) (fun _ _ _ h => h) (Or.inl ⟨by rfl, ?_⟩) hHeld ?_ ?_
        rotate_left
        ·intro w' s0
         go_simp
         with_reducible rfl
        rotate_left
        ·simp only [Act.put,qS_,qZ_,qC_,y19,y18]
         rfl
        refine one_ (i := 1) (N := some 24) (fl_ 26 3) rfl rfl (one_of HT_.out (by kernel_rfl)) (by decide) (fun K hK => ?_)
        refine goes_ Tryz.func41 (by kernel_rfl) rfl #[.agg #[.slice A410_0 ((y21 l0_1 x18_2).f0).length c410_0]] (by rfl) rfl rfl qy0 ?_
        with_reducible refine (impl_isTuple.calls k2 _ _ ((y21 l0_1 x18_2).f0) false _ (qc (Kd.C_below HR410_0.out HB.out)) HC410_0.out (by exact Tb.below HT.out qb) A13.out).mono ?_
        rintro e w53 ⟨rfl,hb⟩
        refine ⟨_,rfl, ?_⟩
        replace BK408 := y0.mk (qK BK408.out hb)
        replace BK411 := y0.mk (qK BK411.out hb)
        replace HB := y0.mk (y6 qb hb)
        (try clear hb)
        (try clear hb2)
        (try clear hk)
        (try clear hi)
        refine hK.out _ _ ((y9 BK411.out 0).trans rfl) (fun hHeld => ?_)
        clear hK K
        refine norm_ (a' := ?_) ?_ ?_
        rotate_left
        ·show Act.put _ (some 24) _ = _
         simp only [Act.put,qS_,qZ_,qC_,y19,y18]
         rfl
        refine qp 2 25 (fl_ 26 7) ?_
        refine qp 3 26 (fl_ 26 15) ?_
        refine y20 (i := 4) (N := some 27) (v := undef) (a' := ?_) (fl_ 26 31) rfl rfl (y2 HT_.out (by kernel_rfl)) (fun _ _ _ h => h) (Or.inr ⟨by rfl,rfl⟩) ?_ ?_
        rotate_left
        ·simp only [Act.put,qS_,qZ_,qC_,y19,y18]
         rfl
        refine y20 (i := 5) (N := some 28) (v := undef) (a' := ?_) (fl_ 26 63) rfl rfl (y2 HT_.out (by kernel_rfl)) (fun _ _ _ h => h) (Or.inr ⟨by rfl,rfl⟩) ?_ ?_
        rotate_left
        ·simp only [Act.put,qS_,qZ_,qC_,y19,y18]
         rfl
        refine y20 (i := 6) (N := some 29) (v := undef) (a' := ?_) (fl_ 26 127) rfl rfl (y2 HT_.out (by kernel_rfl)) (fun _ _ _ h => h) (Or.inr ⟨by rfl,rfl⟩) ?_ ?_
        rotate_left
        ·simp only [Act.put,qS_,qZ_,qC_,y19,y18]
         rfl
        refine y20 (i := 7) (N := some 30) (v := undef) (a' := ?_) (fl_ 26 255) rfl rfl (y2 HT_.out (by kernel_rfl)) (fun _ _ _ h => h) (Or.inr ⟨by rfl,rfl⟩) ?_ ?_
        rotate_left
        ·simp only [Act.put,qS_,qZ_,qC_,y19,y18]
         rfl
        refine y20 (i := 8) (N := some 31) (v := undef) (a' := ?_) (fl_ 26 511) rfl rfl (y2 HT_.out (by kernel_rfl)) (fun _ _ _ h => h) (Or.inr ⟨by rfl,rfl⟩) ?_ ?_
        rotate_left
        ·simp only [Act.put,qS_,qZ_,qC_,y19,y18]
         rfl
        refine y20 (i := 9) (N := some 32) (v := undef) (a' := ?_) (fl_ 26 1023) rfl rfl (y2 HT_.out (by kernel_rfl)) (fun _ _ _ h => h) (Or.inr ⟨by rfl,rfl⟩) ?_ ?_
        rotate_left
        ·simp only [Act.put,qS_,qZ_,qC_,y19,y18]
         rfl
        refine qp 10 33 (fl_ 26 2047) ?_
        refine qp 11 34 (fl_ 26 4095) ?_
        refine y20 (i := 12) (N := some 35) (v := undef) (a' := ?_) (fl_ 26 8191) rfl rfl (y2 HT_.out (by kernel_rfl)) (fun _ _ _ h => h) (Or.inr ⟨by rfl,rfl⟩) ?_ ?_
        rotate_left
        ·simp only [Act.put,qS_,qZ_,qC_,y19,y18]
         rfl
        refine y20 (i := 13) (N := some 36) (v := undef) (a' := ?_) (fl_ 26 16383) rfl rfl (y2 HT_.out (by kernel_rfl)) (fun _ _ _ h => h) (Or.inr ⟨by rfl,rfl⟩) ?_ ?_
        rotate_left
        ·simp only [Act.put,qS_,qZ_,qC_,y19,y18]
         rfl
        refine y20 (i := 14) (N := some 37) (v := undef) (a' := ?_) (fl_ 26 32767) rfl rfl (y2 HT_.out (by kernel_rfl)) (fun _ _ _ h => h) (Or.inr ⟨by rfl,rfl⟩) ?_ ?_
        rotate_left
        ·simp only [Act.put,qS_,qZ_,qC_,y19,y18]
         rfl
        refine y20 (i := 15) (N := some 38) (v := undef) (a' := ?_) (fl_ 26 65535) rfl rfl (y2 HT_.out (by kernel_rfl)) (fun _ _ _ h => h) (Or.inr ⟨by rfl,rfl⟩) ?_ ?_
        rotate_left
        ·simp only [Act.put,qS_,qZ_,qC_,y19,y18]
         rfl
        refine y20 (i := 16) (N := some 39) (v := undef) (a' := ?_) (fl_ 26 131071) rfl rfl (y2 HT_.out (by kernel_rfl)) (fun _ _ _ h => h) (Or.inr ⟨by rfl,rfl⟩) ?_ ?_
        rotate_left
        ·simp only [Act.put,qS_,qZ_,qC_,y19,y18]
         rfl
        refine y20 (i := 17) (N := some 40) (v := undef) (a' := ?_) (fl_ 26 262143) rfl rfl (y2 HT_.out (by kernel_rfl)) (fun _ _ _ h => h) (Or.inr ⟨by rfl,rfl⟩) ?_ ?_
        rotate_left
        ·simp only [Act.put,qS_,qZ_,qC_,y19,y18]
         rfl
        refine y20 (i := 18) (N := some 41) (v := undef) (a' := ?_) (fl_ 26 524287) rfl rfl (y2 HT_.out (by kernel_rfl)) (fun _ _ _ h => h) (Or.inr ⟨by rfl,rfl⟩) ?_ ?_
        rotate_left
        ·simp only [Act.put,qS_,qZ_,qC_,y19,y18]
         rfl
        refine y20 (i := 19) (N := some 42) (v := undef) (a' := ?_) (fl_ 26 1048575) rfl rfl (y2 HT_.out (by kernel_rfl)) (fun _ _ _ h => h) (Or.inr ⟨by rfl,rfl⟩) ?_ ?_
        rotate_left
        ·simp only [Act.put,qS_,qZ_,qC_,y19,y18]
         rfl
        refine y20 (i := 20) (N := some 43) (v := undef) (a' := ?_) (fl_ 26 2097151) rfl rfl (y2 HT_.out (by kernel_rfl)) (fun _ _ _ h => h) (Or.inr ⟨by rfl,rfl⟩) ?_ ?_
        rotate_left
        ·simp only [Act.put,qS_,qZ_,qC_,y19,y18]
         rfl
        refine y20 (i := 21) (N := some 44) (v := undef) (a' := ?_) (fl_ 26 4194303) rfl rfl (y2 HT_.out (by kernel_rfl)) (fun _ _ _ h => h) (Or.inr ⟨by rfl,rfl⟩) ?_ ?_
        rotate_left
        ·simp only [Act.put,qS_,qZ_,qC_,y19,y18]
         rfl
        refine y20 (i := 22) (N := some 45) (v := undef) (a' := ?_) (fl_ 26 8388607) rfl rfl (y2 HT_.out (by kernel_rfl)) (fun _ _ _ h => h) (Or.inr ⟨by rfl,rfl⟩) ?_ ?_
        rotate_left
        ·simp only [Act.put,qS_,qZ_,qC_,y19,y18]
         rfl
        refine y20 (i := 23) (N := some 46) (v := undef) (a' := ?_) (fl_ 26 16777215) rfl rfl (y2 HT_.out (by kernel_rfl)) (fun _ _ _ h => h) (Or.inr ⟨by rfl,rfl⟩) ?_ ?_
        rotate_left
        ·simp only [Act.put,qS_,qZ_,qC_,y19,y18]
         rfl
        refine y20 (i := 24) (N := some 47) (v := undef) (a' := ?_) (fl_ 26 33554431) rfl rfl (y2 HT_.out (by kernel_rfl)) (fun _ _ _ h => h) (Or.inr ⟨by rfl,rfl⟩) ?_ ?_
        rotate_left
        ·simp only [Act.put,qS_,qZ_,qC_,y19,y18]
         rfl
        refine qp 25 48 (fl_ 26 67108863) ?_
        refine done_ (done_of HT_.out (by kernel_rfl)) ?_
        try go_wp2
        go_ret
        exact ⟨by first | rfl | (simp [y13,y14] <;> rfl) | (simp [*,y13,y14] <;> rfl),qb⟩
      ·as_aux_lemma =>
       rw [if_neg c10] at H
       have c10b0 := decide_eq_false c10
       clear c10
       obtain rfl := Option.some.inj H
       go_wp2
       go_ret
       exact ⟨by first | rfl | (simp [y13,y14] <;> rfl) | (simp [*,y13,y14] <;> rfl),qb⟩
end Go.Proofs.YtkajecadkkgfmaaGreatDoor.Pe
end

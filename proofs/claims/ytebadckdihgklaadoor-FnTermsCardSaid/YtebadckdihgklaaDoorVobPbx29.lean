-- Cut by prune.py, a program of this session, out of the texts of this claim: Lean checks it.
import Derived.Test.YtebadckdihgklaaDoorVobPbx0
section
namespace Go.Proofs.YtebadckdihgklaaDoor.Pb
open Go.RowKit Go.Proofs.YtebadckdihgklaaDoorW.PrintWords Go.Proofs.YtebadckdihgklaaDoorW.PrintLast Go.Proofs.YtebadckdihgklaaDoorW.PrintMore
attribute [local go_sem] max2_int min2_int max_two min_two max_three min_three max_four min_four   -- for this text's walks alone
set_option linter.unusedVariables false
set_option linter.unusedSimpArgs false
mutual
def spec_l01Cur_term.j0 : Nat → Int → Int → Bool → List Int → Int → Int → Option (ByteArray × Int × Int)
  | 0, _, _, _, _, _, _ => none
  | k + 1, x1, x5, x13, x1000, x1001, x1002 => if x13 = true then (spec_l01Cur_term.j1 k x1 (wrap64 (x5 - 4)) x1000 x1001 x1002) else (spec_l01Cur_term.j1 k x1 x5 x1000 x1001 x1002)
def spec_l01Cur_term.j1 : Nat → Int → Int → List Int → Int → Int → Option (ByteArray × Int × Int)
  | 0, _, _, _, _, _ => none
  | k + 1, x1, x5, x1000, x1001, x1002 => if x5 = 0 then (spec_l01Cur_term.j2 k x1 x5 (x5 == 0) x1000 x1001 x1002) else (if x5 = 1 then (spec_l01Cur_term.j2 k x1 x5 (x5 == 1) x1000 x1001 x1002) else (spec_l01Cur_term.j2 k x1 x5 (x5 == 2) x1000 x1001 x1002))
def spec_l01Cur_term.j2 : Nat → Int → Int → Bool → List Int → Int → Int → Option (ByteArray × Int × Int)
  | 0, _, _, _, _, _, _ => none
  | k + 1, x1, x16, x17, x1000, x1001, x1002 => if x17 = true then ((some (([0, 1, 2, 3, (-1), 10, 1000000, (-1000000)] : List Int) : List Int)).bind fun y609 => ((spec_l01Cur_pick.f x1000 x1001 x1002 8).bind fun bt612 => (if 0 ≤ bt612.1 then (if bt612.1 < (y609.length : Int) then ((spec_NumText.f k (rd y609 bt612.1)).bind fun t616 => (some (t616, bt612.2.1, bt612.2.2))) else (none)) else (none)))) else (if x16 = 3 then ((some (([(⟨#[34, 34]⟩ : ByteArray), (⟨#[34, 97, 34]⟩ : ByteArray), (⟨#[34, 98, 32, 99, 34]⟩ : ByteArray), (⟨#[34, 40, 44, 41, 34]⟩ : ByteArray), (⟨#[34, 120, 34]⟩ : ByteArray)] : List ByteArray) : List ByteArray)).bind fun y617 => ((spec_l01Cur_pick.f x1000 x1001 x1002 5).bind fun bt620 => (if 0 ≤ bt620.1 then (if bt620.1 < (y617.length : Int) then (some (rdOf ByteArray.empty y617 bt620.1, bt620.2.1, bt620.2.2)) else (none)) else (none)))) else (if x16 = 4 then ((some (([(⟨#[78, 105, 108]⟩ : ByteArray), (⟨#[76, 101, 97, 102]⟩ : ByteArray), (⟨#[65]⟩ : ByteArray), (⟨#[90, 101, 114, 111]⟩ : ByteArray)] : List ByteArray) : List ByteArray)).bind fun y624 => ((spec_l01Cur_pick.f x1000 x1001 x1002 4).bind fun bt627 => (if 0 ≤ bt627.1 then (if bt627.1 < (y624.length : Int) then (some (rdOf ByteArray.empty y624 bt627.1, bt627.2.1, bt627.2.2)) else (none)) else (none)))) else (if x16 = 5 then (spec_l01Cur_term.j3 k x1 x16 (x16 == 5) x1000 x1001 x1002) else (spec_l01Cur_term.j3 k x1 x16 (x16 == 6) x1000 x1001 x1002))))
def spec_l01Cur_term.j3 : Nat → Int → Int → Bool → List Int → Int → Int → Option (ByteArray × Int × Int)
  | 0, _, _, _, _, _, _ => none
  | k + 1, x1, x16, x41, x1000, x1001, x1002 => if x41 = true then ((spec_l01Cur_term.f k x1000 x1001 x1002 (wrap64 (x1 - 1))).bind fun bt631 => (if 5 + bt631.1.size ≤ 9223372036854775807 then (if ((⟨#[67, 111, 110, 115, 40]⟩ : ByteArray) ++ bt631.1).size + 1 ≤ 9223372036854775807 then ((spec_l01Cur_term.f k x1000 bt631.2.1 bt631.2.2 (wrap64 (x1 - 1))).bind fun bt634 => (if (((⟨#[67, 111, 110, 115, 40]⟩ : ByteArray) ++ bt631.1) ++ (⟨#[44]⟩ : ByteArray)).size + bt634.1.size ≤ 9223372036854775807 then (if ((((⟨#[67, 111, 110, 115, 40]⟩ : ByteArray) ++ bt631.1) ++ (⟨#[44]⟩ : ByteArray)) ++ bt634.1).size + 1 ≤ 9223372036854775807 then (some (((((⟨#[67, 111, 110, 115, 40]⟩ : ByteArray) ++ bt631.1) ++ (⟨#[44]⟩ : ByteArray)) ++ bt634.1) ++ (⟨#[41]⟩ : ByteArray), bt634.2.1, bt634.2.2)) else (none)) else (none))) else (none)) else (none))) else (if x16 = 7 then ((spec_l01Cur_term.f k x1000 x1001 x1002 (wrap64 (x1 - 1))).bind fun bt637 => (if 2 + bt637.1.size ≤ 9223372036854775807 then (if ((⟨#[83, 40]⟩ : ByteArray) ++ bt637.1).size + 1 ≤ 9223372036854775807 then (some (((⟨#[83, 40]⟩ : ByteArray) ++ bt637.1) ++ (⟨#[41]⟩ : ByteArray), bt637.2.1, bt637.2.2)) else (none)) else (none))) else ((spec_l01Cur_term.f k x1000 x1001 x1002 (wrap64 (x1 - 1))).bind fun bt640 => (if 5 + bt640.1.size ≤ 9223372036854775807 then (if ((⟨#[78, 111, 100, 101, 40]⟩ : ByteArray) ++ bt640.1).size + 1 ≤ 9223372036854775807 then ((spec_l01Cur_term.f k x1000 bt640.2.1 bt640.2.2 (wrap64 (x1 - 1))).bind fun bt643 => (if (((⟨#[78, 111, 100, 101, 40]⟩ : ByteArray) ++ bt640.1) ++ (⟨#[44]⟩ : ByteArray)).size + bt643.1.size ≤ 9223372036854775807 then (if ((((⟨#[78, 111, 100, 101, 40]⟩ : ByteArray) ++ bt640.1) ++ (⟨#[44]⟩ : ByteArray)) ++ bt643.1).size + 1 ≤ 9223372036854775807 then ((spec_l01Cur_term.f k x1000 bt643.2.1 bt643.2.2 (wrap64 (x1 - 1))).bind fun bt646 => (if (((((⟨#[78, 111, 100, 101, 40]⟩ : ByteArray) ++ bt640.1) ++ (⟨#[44]⟩ : ByteArray)) ++ bt643.1) ++ (⟨#[44]⟩ : ByteArray)).size + bt646.1.size ≤ 9223372036854775807 then (if ((((((⟨#[78, 111, 100, 101, 40]⟩ : ByteArray) ++ bt640.1) ++ (⟨#[44]⟩ : ByteArray)) ++ bt643.1) ++ (⟨#[44]⟩ : ByteArray)) ++ bt646.1).size + 1 ≤ 9223372036854775807 then (some (((((((⟨#[78, 111, 100, 101, 40]⟩ : ByteArray) ++ bt640.1) ++ (⟨#[44]⟩ : ByteArray)) ++ bt643.1) ++ (⟨#[44]⟩ : ByteArray)) ++ bt646.1) ++ (⟨#[41]⟩ : ByteArray), bt646.2.1, bt646.2.2)) else (none)) else (none))) else (none)) else (none))) else (none)) else (none))))
def spec_l01Cur_term.f : Nat → List Int → Int → Int → Int → Option (ByteArray × Int × Int)
  | 0, _, _, _, _ => none
  | k + 1, s0_0, s0_1, s0_2, a1 => (spec_l01Cur_pick.f s0_0 s0_1 s0_2 9).bind fun bt606 => (if a1 ≤ 0 then (spec_l01Cur_term.j0 k a1 bt606.1 (decide (bt606.1 > 4)) s0_0 bt606.2.1 bt606.2.2) else (spec_l01Cur_term.j0 k a1 bt606.1 false s0_0 bt606.2.1 bt606.2.2))
end
set_option maxHeartbeats 8000000 in
set_option maxRecDepth 100000 in
theorem spec_l01Cur_term.calls (k : Nat) : ∀ (g : Nat) (s0_0 : List Int) (s0_1 : Int) (s0_2 : Int) (a1 : Int) (r1 : ByteArray) (r2 : Int) (r3 : Int) (w0 w : World) (hI : IsS92 w0 w g s0_0 s0_1 s0_2) (hB : Below w0.heap.size w0 w) (h : spec_l01Cur_term.f k s0_0 s0_1 s0_2 a1 = some (r1, r2, r3)),
    Calls Tryd.prog 117 #[.pointer (some ⟨g, 0, none⟩), .int .i64 a1] w fun e w' => e = .returned (.string r1) ∧ IsS92 w0 w' g s0_0 r2 r3 ∧ Below w0.heap.size w0 w' ∧ KeepBut w w' g none := by
  induction k using Nat.strongRecOn with
  | _ k ih =>
  intro g s0_0 s0_1 s0_2 a1 r1 r2 r3 w0 w hI hB h
  cases k with
  | zero => exact absurd h (by simp [spec_l01Cur_term.f])
  | succ k =>
  simp only [spec_l01Cur_term.f] at h
  have HI0 := Aside0.mk hI
  have HK := Aside0.mk (KeepBut.refl w g none)
  have HL := Aside0.mk hB.size
  clear hI
  have HW0 := Aside0.mk hB.size
  have HB := Aside0.mk hB
  clear hB
  have H : ((spec_l01Cur_pick.f s0_0 s0_1 s0_2 9).bind fun bt606 => (if a1 ≤ 0 then (spec_l01Cur_term.j0 k a1 bt606.1 (decide (bt606.1 > 4)) s0_0 bt606.2.1 bt606.2.2) else (spec_l01Cur_term.j0 k a1 bt606.1 false s0_0 bt606.2.1 bt606.2.2))) = some (r1, r2, r3) := h
  clear h
  replace H := Option.bind_eq_some_iff.mp H
  obtain ⟨⟨t606, t607, t608⟩, A30, H⟩ := H
  replace H : (if a1 ≤ 0 then (spec_l01Cur_term.j0 k a1 t606 (decide (t606 > 4)) s0_0 t607 t608) else (spec_l01Cur_term.j0 k a1 t606 false s0_0 t607 t608)) = some (r1, r2, r3) := H
  have A3 := Aside0.mk A30
  clear A30
  have HC4 := Aside0.mk H
  clear H
  go_enter Tryd.func117, Tryd.ntmps117
  go_upto_region 2 with (first | ((with_reducible refine gate_callee (f := 70) rfl ?_); refine goesL_ (some 7) rfl rfl Tryd.func70 (by kernel_rfl) rfl #[.pointer (some ⟨g, 0, none⟩), .int .i64 9] rfl (by (try simp only [List.map_toArray, List.map_cons, List.map_nil]); first | done | rfl | (simp only [List.length_drop, List.length_take]; rfl)) ?_; (with_reducible refine (spec_l01Cur_pick.calls g s0_0 s0_1 s0_2 9 t606 t607 t608 w0 _ ?side1 ?side2 A3.out).mono ?_); (case side1 => repeat (first | (with_reducible first | exact HI0.out | apply IsS92.alloc | apply IsS92.drewN | apply IsS92.drew | apply IsS92.set_1 | apply IsS92.set_2) | exact HI0.out)); (case side2 => repeat (first | (with_reducible first | exact HB.out | apply below_alloc | apply pw_below_drewN | apply below_drew1 | refine below_set ?_ (IsS92.ge HI0.out)) | exact HB.out)); rintro e w5 ⟨rfl, hi, hb, hk⟩; refine ⟨_, rfl, ?_⟩; have n0_ := Aside0.mk (KeepBut.trans (by repeat (first | (with_reducible first | exact HK.out | apply KeepBut.set_ | apply keep_drewN | apply keep_drew | apply keep_alloc) | exact HK.out)) hk (.inl rfl)); have n1_ := Aside0.mk (hb); have n2_ := Aside0.mk (hi); clear HK; clear HB; clear HI0; have HK := n0_; have HB := n1_; have HI0 := n2_; clear n0_ n1_ n2_; (try clear hb); (try clear hb2); (try clear hk); (try clear hi)))
  (try simp only [Act.put, List.setIfInBounds_toArray, List.set_cons_zero, List.set_cons_succ])
  go_cut [13] (fun v13 wc => ∃ (kq : Nat) (x13_3 : Bool), v13 = .bool x13_3 ∧ Aside0 (spec_l01Cur_term.j0 kq a1 t606 x13_3 s0_0 t607 t608 = some (r1, r2, r3)) ∧ Aside0 (kq ≤ k) ∧ Aside0 (IsS92 w0 wc g s0_0 t607 t608) ∧ Aside0 (KeepBut w wc g none) ∧ Aside0 (Below w0.heap.size w0 wc))
  case first =>
    have H := HC4.out
    clear HC4
    by_cases c6 : a1 ≤ 0
    · rw [if_pos c6] at H
      have c6b0 : decide (a1 ≤ 0) = true := decide_eq_true c6
      clear c6
      (first | rw [c6b0] | (simp only [i64_w, i32_w]; rw [c6b0]) | skip)
      have H' := Aside0.mk H
      clear H
      go_wp2
      go_meet
      case rel => exact ⟨_, (decide (t606 > 4)), (by first | rfl | (simp; done) | (simp [*]; done)), H', ⟨by first | omega | exact Nat.le_refl _⟩, ⟨by repeat (first | (with_reducible first | exact HI0.out | apply IsS92.alloc | apply IsS92.drewN | apply IsS92.drew | apply IsS92.set_1 | apply IsS92.set_2) | exact HI0.out)⟩, ⟨by repeat (first | (with_reducible first | exact HK.out | apply KeepBut.set_ | apply keep_drewN | apply keep_drew | apply keep_alloc) | exact HK.out)⟩, ⟨by repeat (first | (with_reducible first | exact HB.out | apply below_alloc | apply pw_below_drewN | apply below_drew1 | refine below_set ?_ (IsS92.ge HI0.out)) | exact HB.out)⟩⟩
    · rw [if_neg c6] at H
      have c6b0 : decide (a1 ≤ 0) = false := decide_eq_false c6
      clear c6
      (first | rw [c6b0] | (simp only [i64_w, i32_w]; rw [c6b0]) | skip)
      have H' := Aside0.mk H
      clear H
      go_wp2
      go_meet
      case rel => exact ⟨_, (false), (by first | rfl | (simp; done) | (simp [*]; done)), H', ⟨by first | omega | exact Nat.le_refl _⟩, ⟨by repeat (first | (with_reducible first | exact HI0.out | apply IsS92.alloc | apply IsS92.drewN | apply IsS92.drew | apply IsS92.set_1 | apply IsS92.set_2) | exact HI0.out)⟩, ⟨by repeat (first | (with_reducible first | exact HK.out | apply KeepBut.set_ | apply keep_drewN | apply keep_drew | apply keep_alloc) | exact HK.out)⟩, ⟨by repeat (first | (with_reducible first | exact HB.out | apply below_alloc | apply pw_below_drewN | apply below_drew1 | refine below_set ?_ (IsS92.ge HI0.out)) | exact HB.out)⟩⟩
  case rest =>
    clear HC4
    try clear c1
    try clear p2
    try clear c6
    try clear c6b0
    obtain ⟨kq, x13_3, rfl, HA, HJ3, HI0, HK, HB⟩ := hcut
    cases kq with
    | zero => exact absurd HA.out (by simp [spec_l01Cur_term.j0])
    | succ kj3 =>
      have H := HA.out
      clear HA
      simp only [spec_l01Cur_term.j0] at H
      have HC7 := Aside0.mk H
      clear H
      go_upto_if 13 with (fail)
      go_cut [5] (fun v5 wc => ∃ (kq : Nat) (x5_6 : Int), v5 = .int .i64 x5_6 ∧ Aside0 (spec_l01Cur_term.j1 kq a1 x5_6 s0_0 t607 t608 = some (r1, r2, r3)) ∧ Aside0 (kq ≤ kj3) ∧ Aside0 (IsS92 w0 wc g s0_0 t607 t608) ∧ Aside0 (KeepBut w wc g none) ∧ Aside0 (Below w0.heap.size w0 wc))
      case first =>
        have H := HC7.out
        clear HC7
        by_cases c8 : x13_3 = true
        · subst c8
          have H1 : (spec_l01Cur_term.j1 kj3 a1 (wrap64 (t606 - 4)) s0_0 t607 t608) = some (r1, r2, r3) := by rw [if_pos rfl] at H; exact H
          clear H
          have H := H1
          clear H1
          have H' := Aside0.mk H
          clear H
          go_wp2
          go_meet
          case rel => exact ⟨_, (wrap64 (t606 - 4)), (by first | rfl | (simp; done) | (simp [*]; done)), H', ⟨by have := HJ3.out; first | omega | exact Nat.le_refl _⟩, ⟨by repeat (first | (with_reducible first | exact HI0.out | apply IsS92.alloc | apply IsS92.drewN | apply IsS92.drew | apply IsS92.set_1 | apply IsS92.set_2) | exact HI0.out)⟩, ⟨by repeat (first | (with_reducible first | exact HK.out | apply KeepBut.set_ | apply keep_drewN | apply keep_drew | apply keep_alloc) | exact HK.out)⟩, ⟨by repeat (first | (with_reducible first | exact HB.out | apply below_alloc | apply pw_below_drewN | apply below_drew1 | refine below_set ?_ (IsS92.ge HI0.out)) | exact HB.out)⟩⟩
        · replace c8 := Bool.eq_false_iff.mpr c8
          subst c8
          have H1 : (spec_l01Cur_term.j1 kj3 a1 t606 s0_0 t607 t608) = some (r1, r2, r3) := by rw [if_neg (show ¬ (false = true) by decide)] at H; exact H
          clear H
          have H := H1
          clear H1
          have H' := Aside0.mk H
          clear H
          go_wp2
          go_meet
          case rel => exact ⟨_, (t606), (by first | rfl | (simp; done) | (simp [*]; done)), H', ⟨by have := HJ3.out; first | omega | exact Nat.le_refl _⟩, ⟨by repeat (first | (with_reducible first | exact HI0.out | apply IsS92.alloc | apply IsS92.drewN | apply IsS92.drew | apply IsS92.set_1 | apply IsS92.set_2) | exact HI0.out)⟩, ⟨by repeat (first | (with_reducible first | exact HK.out | apply KeepBut.set_ | apply keep_drewN | apply keep_drew | apply keep_alloc) | exact HK.out)⟩, ⟨by repeat (first | (with_reducible first | exact HB.out | apply below_alloc | apply pw_below_drewN | apply below_drew1 | refine below_set ?_ (IsS92.ge HI0.out)) | exact HB.out)⟩⟩
      case rest =>
        clear HC7
        try clear c1
        try clear p2
        try clear c6
        try clear c6b0
        try clear p6
        try clear c7
        try clear c8
        try clear p2
        obtain ⟨kq, x5_6, rfl, HA, HJ6, HI0, HK, HB⟩ := hcut
        cases kq with
        | zero => exact absurd HA.out (by simp [spec_l01Cur_term.j1])
        | succ kj6 =>
          have H := HA.out
          clear HA
          simp only [spec_l01Cur_term.j1] at H
          have HC9 := Aside0.mk H
          clear H
          go_upto_if 17 with (fail)
          go_cut [17] (fun v17 wc => ∃ (kq : Nat) (x17_8 : Bool), v17 = .bool x17_8 ∧ Aside0 (spec_l01Cur_term.j2 kq a1 x5_6 x17_8 s0_0 t607 t608 = some (r1, r2, r3)) ∧ Aside0 (kq ≤ kj6) ∧ Aside0 (IsS92 w0 wc g s0_0 t607 t608) ∧ Aside0 (KeepBut w wc g none) ∧ Aside0 (Below w0.heap.size w0 wc))
          case first =>
            have H := HC9.out
            clear HC9
            by_cases c10 : x5_6 = 0
            · rw [if_pos c10] at H
              have c10b0 : (x5_6 == 0) = true := beq_iff_eq.mpr c10
              have c10b1 : (x5_6 != 0) = false := bne_eq_false_iff_eq.mpr c10
              clear c10
              (first | rw [c10b0] | (simp only [i64_w, i32_w]; rw [c10b0]) | skip)
              have H' := Aside0.mk H
              clear H
              go_wp2
              go_meet
              case rel => exact ⟨_, ((x5_6 == 0)), (by first | rfl | (simp; done) | (simp [*]; done)), H', ⟨by have := HJ3.out; have := HJ6.out; first | omega | exact Nat.le_refl _⟩, ⟨by repeat (first | (with_reducible first | exact HI0.out | apply IsS92.alloc | apply IsS92.drewN | apply IsS92.drew | apply IsS92.set_1 | apply IsS92.set_2) | exact HI0.out)⟩, ⟨by repeat (first | (with_reducible first | exact HK.out | apply KeepBut.set_ | apply keep_drewN | apply keep_drew | apply keep_alloc) | exact HK.out)⟩, ⟨by repeat (first | (with_reducible first | exact HB.out | apply below_alloc | apply pw_below_drewN | apply below_drew1 | refine below_set ?_ (IsS92.ge HI0.out)) | exact HB.out)⟩⟩
            · rw [if_neg c10] at H
              have c10b0 : (x5_6 == 0) = false := beq_eq_false_iff_ne.mpr c10
              have c10b1 : (x5_6 != 0) = true := bne_iff_ne.mpr c10
              (first | rw [c10b0] | (simp only [i64_w, i32_w]; rw [c10b0]) | skip)
              by_cases c11 : x5_6 = 1
              · rw [if_pos c11] at H
                have c11b0 : (x5_6 == 1) = true := beq_iff_eq.mpr c11
                have c11b1 : (x5_6 != 1) = false := bne_eq_false_iff_eq.mpr c11
                clear c11
                have H' := Aside0.mk H
                clear H
                go_wp2
                go_meet
                case rel => exact ⟨_, ((x5_6 == 1)), (by first | rfl | (simp; done) | (simp [*]; done)), H', ⟨by have := HJ3.out; have := HJ6.out; first | omega | exact Nat.le_refl _⟩, ⟨by repeat (first | (with_reducible first | exact HI0.out | apply IsS92.alloc | apply IsS92.drewN | apply IsS92.drew | apply IsS92.set_1 | apply IsS92.set_2) | exact HI0.out)⟩, ⟨by repeat (first | (with_reducible first | exact HK.out | apply KeepBut.set_ | apply keep_drewN | apply keep_drew | apply keep_alloc) | exact HK.out)⟩, ⟨by repeat (first | (with_reducible first | exact HB.out | apply below_alloc | apply pw_below_drewN | apply below_drew1 | refine below_set ?_ (IsS92.ge HI0.out)) | exact HB.out)⟩⟩
              · rw [if_neg c11] at H
                have c11b0 : (x5_6 == 1) = false := beq_eq_false_iff_ne.mpr c11
                have c11b1 : (x5_6 != 1) = true := bne_iff_ne.mpr c11
                have H' := Aside0.mk H
                clear H
                go_wp2
                go_meet
                case rel => exact ⟨_, ((x5_6 == 2)), (by first | rfl | (simp; done) | (simp [*]; done)), H', ⟨by have := HJ3.out; have := HJ6.out; first | omega | exact Nat.le_refl _⟩, ⟨by repeat (first | (with_reducible first | exact HI0.out | apply IsS92.alloc | apply IsS92.drewN | apply IsS92.drew | apply IsS92.set_1 | apply IsS92.set_2) | exact HI0.out)⟩, ⟨by repeat (first | (with_reducible first | exact HK.out | apply KeepBut.set_ | apply keep_drewN | apply keep_drew | apply keep_alloc) | exact HK.out)⟩, ⟨by repeat (first | (with_reducible first | exact HB.out | apply below_alloc | apply pw_below_drewN | apply below_drew1 | refine below_set ?_ (IsS92.ge HI0.out)) | exact HB.out)⟩⟩
          case rest =>
            clear HC9
            try clear c1
            try clear p2
            try clear c6
            try clear c6b0
            try clear p6
            try clear c7
            try clear c8
            try clear c10
            try clear c10b0
            try clear c10b1
            try clear c11
            try clear c11b0
            try clear c11b1
            try clear p2
            try clear p6
            obtain ⟨kq, x17_8, rfl, HA, HJ8, HI0, HK, HB⟩ := hcut
            cases kq with
            | zero => exact absurd HA.out (by simp [spec_l01Cur_term.j2])
            | succ kj8 =>
              have H := HA.out
              clear HA
              simp only [spec_l01Cur_term.j2] at H
              by_cases c12 : x17_8 = true
              · subst c12
                have H1 : ((some (([0, 1, 2, 3, (-1), 10, 1000000, (-1000000)] : List Int) : List Int)).bind fun y609 => ((spec_l01Cur_pick.f s0_0 t607 t608 8).bind fun bt612 => (if 0 ≤ bt612.1 then (if bt612.1 < (y609.length : Int) then ((spec_NumText.f kj8 (rd y609 bt612.1)).bind fun t616 => (some (t616, bt612.2.1, bt612.2.2))) else (none)) else (none)))) = some (r1, r2, r3) := by rw [if_pos rfl] at H; exact H
                clear H
                have H := H1
                clear H1
                obtain ⟨y609, hy609⟩ : ∃ y_ : List Int, y_ = (([0, 1, 2, 3, (-1), 10, 1000000, (-1000000)] : List Int)) := ⟨_, rfl⟩
                replace H : ((spec_l01Cur_pick.f s0_0 t607 t608 8).bind fun bt612 => (if 0 ≤ bt612.1 then (if bt612.1 < (y609.length : Int) then ((spec_NumText.f kj8 (rd y609 bt612.1)).bind fun t616 => (some (t616, bt612.2.1, bt612.2.2))) else (none)) else (none))) = some (r1, r2, r3) := by first | (rw [hy609]; with_reducible exact H) | (have H2_ := (Option.bind_some _ _).symm.trans H; rw [hy609]; with_reducible exact H2_) | (have H2_ := (Option.bind_some _ _).symm.trans H; with_reducible exact H2_) | with_reducible exact H | (rw [hy609]; exact H) | exact H
                have Ny609 := Aside0.mk hy609
                clear hy609
                replace H := Option.bind_eq_some_iff.mp H
                obtain ⟨⟨t612, t613, t614⟩, A130, H⟩ := H
                replace H : (if 0 ≤ t612 then (if t612 < (y609.length : Int) then ((spec_NumText.f kj8 (rd y609 t612)).bind fun t616 => (some (t616, t613, t614))) else (none)) else (none)) = some (r1, r2, r3) := H
                have A13 := Aside0.mk A130
                clear A130
                by_cases c14 : 0 ≤ t612
                · rw [if_pos c14] at H
                  have c14b0 : decide (0 ≤ t612) = true := decide_eq_true c14
                  clear c14
                  by_cases c15 : t612 < (y609.length : Int)
                  · rw [if_pos c15] at H
                    have c15b0 : decide (t612 < (y609.length : Int)) = true := decide_eq_true c15
                    clear c15
                    replace H := Option.bind_eq_some_iff.mp H
                    obtain ⟨t616, A160, H⟩ := H
                    replace H : (some (t616, t613, t614)) = some (r1, r2, r3) := H
                    have A16 := Aside0.mk A160
                    clear A160
                    simp only [Option.some.injEq, Prod.mk.injEq] at H
                    obtain ⟨rfl, rfl, rfl⟩ := H
                    go_wp2_with (first | ((with_reducible refine gate_dst (N := 21) rfl ?_); refine Kd.R_lit (Kd.int .i64) _ 3 ?hg (N := 21) ?hd (xs := ([0, 1, 2, 3, (-1), 10, 1000000, (-1000000)] : List Int)) (inner := [.int .i64 0, .int .i64 1, .int .i64 2, .int .i64 3, .int .i64 (-1), .int .i64 10, .int .i64 1000000, .int .i64 (-1000000)]) (ok := fun _ => True) (okp := fun _ => True) ?hr ?hp (fun _ hk => hk) trivial (Below.refl _ _) (Nat.le_refl _) (by simp) ?_; (case hd => rfl); (case hg => rfl); (case hr => first | (go_simp; done) | (go_simp; rfl)); (case hp => exact (Reps.one (show Kd.M (Kd.int .i64) _ _ _ 0 [.int .i64 0] from rfl) (Reps.one (show Kd.M (Kd.int .i64) _ _ _ 1 [.int .i64 1] from rfl) (Reps.one (show Kd.M (Kd.int .i64) _ _ _ 2 [.int .i64 2] from rfl) (Reps.one (show Kd.M (Kd.int .i64) _ _ _ 3 [.int .i64 3] from rfl) (Reps.one (show Kd.M (Kd.int .i64) _ _ _ (-1) [.int .i64 (-1)] from rfl) (Reps.one (show Kd.M (Kd.int .i64) _ _ _ 10 [.int .i64 10] from rfl) (Reps.one (show Kd.M (Kd.int .i64) _ _ _ 1000000 [.int .i64 1000000] from rfl) (Reps.one (show Kd.M (Kd.int .i64) _ _ _ (-1000000) [.int .i64 (-1000000)] from rfl) (Reps.none _ _)))))))))); intro v610 w17 ho18 hb hg_ hnew_; clear hg_ hnew_; (first | rw [← Ny609.out] at ho18 | (simp only [Int.reduceToNat] at ho18; rw [← Ny609.out] at ho18)); have n0_ := Aside0.mk (Kd.R_lower ho18 (keep_size (w := w) (g := g) (row := none) (by repeat (first | (with_reducible first | exact HK.out | apply KeepBut.set_ | apply keep_drewN | apply keep_drew | apply keep_alloc) | exact HK.out)))); have n1_ := Aside0.mk (IsS92.below (by repeat (first | (with_reducible first | exact HI0.out | apply IsS92.alloc | apply IsS92.drewN | apply IsS92.drew | apply IsS92.set_1 | apply IsS92.set_2) | exact HI0.out)) hb); have n2_ := Aside0.mk (KeepBut.trans (by repeat (first | (with_reducible first | exact HK.out | apply KeepBut.set_ | apply keep_drewN | apply keep_drew | apply keep_alloc) | exact HK.out)) (KeepBut.of_below hb g none) (.inl rfl)); have n3_ := Aside0.mk (below_step (by repeat (first | (with_reducible first | exact HB.out | apply below_alloc | apply pw_below_drewN | apply below_drew1 | refine below_set ?_ (IsS92.ge HI0.out)) | exact HB.out)) hb); clear HI0; clear HK; clear HB; have HO611 := n0_; have HI0 := n1_; have HK := n2_; have HB := n3_; clear n0_ n1_ n2_ n3_; clear hb ho18) | ((with_reducible refine gate_callee (f := 70) rfl ?_); refine goesL_ (some 23) rfl rfl Tryd.func70 (by kernel_rfl) rfl #[.pointer (some ⟨g, 0, none⟩), .int .i64 8] rfl (by (try simp only [List.map_toArray, List.map_cons, List.map_nil]); first | done | rfl | (simp only [List.length_drop, List.length_take]; rfl)) ?_; (with_reducible refine (spec_l01Cur_pick.calls g s0_0 t607 t608 8 t612 t613 t614 w0 _ ?side1 ?side2 A13.out).mono ?_); (case side1 => repeat (first | (with_reducible first | exact HI0.out | apply IsS92.alloc | apply IsS92.drewN | apply IsS92.drew | apply IsS92.set_1 | apply IsS92.set_2) | exact HI0.out)); (case side2 => repeat (first | (with_reducible first | exact HB.out | apply below_alloc | apply pw_below_drewN | apply below_drew1 | refine below_set ?_ (IsS92.ge HI0.out)) | exact HB.out)); rintro e w19 ⟨rfl, hi, hb, hk⟩; refine ⟨_, rfl, ?_⟩; have n0_ := Aside0.mk (Kd.R_mono (Kd.R_keep (IsS92.apart (show IsS92 w0 _ g s0_0 t607 t608 from by repeat (first | (with_reducible first | exact HI0.out | apply IsS92.alloc | apply IsS92.drewN | apply IsS92.drew | apply IsS92.set_1 | apply IsS92.set_2) | exact HI0.out)) (by (with_reducible repeat (first | apply Kd.R_alloc | apply Kd.R_drewN | apply Kd.R_drew)); exact HO611.out) (by decide)) hk (fun _ h => h.2)) (fun _ h => h.1)); have n1_ := Aside0.mk (KeepBut.trans (by repeat (first | (with_reducible first | exact HK.out | apply KeepBut.set_ | apply keep_drewN | apply keep_drew | apply keep_alloc) | exact HK.out)) hk (.inl rfl)); have n2_ := Aside0.mk (hb); have n3_ := Aside0.mk (hi); clear HO611; clear HK; clear HB; clear HI0; have HO611 := n0_; have HK := n1_; have HB := n2_; have HI0 := n3_; clear n0_ n1_ n2_ n3_; (try clear hb); (try clear hb2); (try clear hk); (try clear hi); obtain ⟨Ao20, co20, eo20⟩ := Kd.R_slice HO611.out; subst eo20; have p615 : 0 ≤ (t612 : Int) := of_decide_eq_true (by first | (with_reducible assumption) | assumption); have q615 : t612 < (y609.length : Int) := of_decide_eq_true (by first | (with_reducible assumption) | assumption); obtain ⟨ad615, e615, hx615_0⟩ := Kd.at_int (Kd.R_reads' HO611.out).2.2 t612 p615 q615; cases e615; replace p615 := eq_true p615; replace q615 := eq_true q615) | ((with_reducible refine gate_callee (f := 20) rfl ?_); refine goesL_ (some 26) rfl rfl Tryd.func20 (by kernel_rfl) rfl #[.int .i64 (rd y609 t612)] rfl (by (try simp only [List.map_toArray, List.map_cons, List.map_nil]); first | done | rfl | (simp only [List.length_drop, List.length_take]; rfl)) ?_; (with_reducible refine (spec_NumText.calls kj8 (rd y609 t612) t616 _ A16.out).mono ?_); rintro e w21 ⟨rfl, hb⟩; refine ⟨_, rfl, ?_⟩; have n0_ := Aside0.mk (Kd.R_below (by (with_reducible repeat (first | apply Kd.R_alloc | apply Kd.R_drewN | apply Kd.R_drew)); exact HO611.out) hb); have n1_ := Aside0.mk (IsS92.below (by repeat (first | (with_reducible first | exact HI0.out | apply IsS92.alloc | apply IsS92.drewN | apply IsS92.drew | apply IsS92.set_1 | apply IsS92.set_2) | exact HI0.out)) hb); have n2_ := Aside0.mk (KeepBut.trans (by repeat (first | (with_reducible first | exact HK.out | apply KeepBut.set_ | apply keep_drewN | apply keep_drew | apply keep_alloc) | exact HK.out)) (KeepBut.of_below hb g none) (.inl rfl)); have n3_ := Aside0.mk (below_step (by repeat (first | (with_reducible first | exact HB.out | apply below_alloc | apply pw_below_drewN | apply below_drew1 | refine below_set ?_ (IsS92.ge HI0.out)) | exact HB.out)) hb); clear HO611; clear HI0; clear HK; clear HB; have HO611 := n0_; have HI0 := n1_; have HK := n2_; have HB := n3_; clear n0_ n1_ n2_ n3_; (try clear hb); (try clear hb2); (try clear hk); (try clear hi)))
                    go_ret
                    exact ⟨by first | rfl | (simp [errW_none, errW_some] <;> rfl) | (simp [*, errW_none, errW_some] <;> rfl), by repeat (first | (with_reducible first | exact HI0.out | apply IsS92.alloc | apply IsS92.drewN | apply IsS92.drew | apply IsS92.set_1 | apply IsS92.set_2) | exact HI0.out), by repeat (first | (with_reducible first | exact HB.out | apply below_alloc | apply pw_below_drewN | apply below_drew1 | refine below_set ?_ (IsS92.ge HI0.out)) | exact HB.out), by repeat (first | (with_reducible first | exact HK.out | apply KeepBut.set_ | apply keep_drewN | apply keep_drew | apply keep_alloc) | exact HK.out)⟩
                  · rw [if_neg c15] at H
                    exact absurd H (by simp)
                · rw [if_neg c14] at H
                  exact absurd H (by simp)
              · replace c12 := Bool.eq_false_iff.mpr c12
                subst c12
                have H1 : (if x5_6 = 3 then ((some (([(⟨#[34, 34]⟩ : ByteArray), (⟨#[34, 97, 34]⟩ : ByteArray), (⟨#[34, 98, 32, 99, 34]⟩ : ByteArray), (⟨#[34, 40, 44, 41, 34]⟩ : ByteArray), (⟨#[34, 120, 34]⟩ : ByteArray)] : List ByteArray) : List ByteArray)).bind fun y617 => ((spec_l01Cur_pick.f s0_0 t607 t608 5).bind fun bt620 => (if 0 ≤ bt620.1 then (if bt620.1 < (y617.length : Int) then (some (rdOf ByteArray.empty y617 bt620.1, bt620.2.1, bt620.2.2)) else (none)) else (none)))) else (if x5_6 = 4 then ((some (([(⟨#[78, 105, 108]⟩ : ByteArray), (⟨#[76, 101, 97, 102]⟩ : ByteArray), (⟨#[65]⟩ : ByteArray), (⟨#[90, 101, 114, 111]⟩ : ByteArray)] : List ByteArray) : List ByteArray)).bind fun y624 => ((spec_l01Cur_pick.f s0_0 t607 t608 4).bind fun bt627 => (if 0 ≤ bt627.1 then (if bt627.1 < (y624.length : Int) then (some (rdOf ByteArray.empty y624 bt627.1, bt627.2.1, bt627.2.2)) else (none)) else (none)))) else (if x5_6 = 5 then (spec_l01Cur_term.j3 kj8 a1 x5_6 (x5_6 == 5) s0_0 t607 t608) else (spec_l01Cur_term.j3 kj8 a1 x5_6 (x5_6 == 6) s0_0 t607 t608)))) = some (r1, r2, r3) := by rw [if_neg (show ¬ (false = true) by decide)] at H; exact H
                clear H
                have H := H1
                clear H1
                by_cases c22 : x5_6 = 3
                · rw [if_pos c22] at H
                  have c22b0 : (x5_6 == 3) = true := beq_iff_eq.mpr c22
                  have c22b1 : (x5_6 != 3) = false := bne_eq_false_iff_eq.mpr c22
                  clear c22
                  obtain ⟨y617, hy617⟩ : ∃ y_ : List ByteArray, y_ = (([(⟨#[34, 34]⟩ : ByteArray), (⟨#[34, 97, 34]⟩ : ByteArray), (⟨#[34, 98, 32, 99, 34]⟩ : ByteArray), (⟨#[34, 40, 44, 41, 34]⟩ : ByteArray), (⟨#[34, 120, 34]⟩ : ByteArray)] : List ByteArray)) := ⟨_, rfl⟩
                  replace H : ((spec_l01Cur_pick.f s0_0 t607 t608 5).bind fun bt620 => (if 0 ≤ bt620.1 then (if bt620.1 < (y617.length : Int) then (some (rdOf ByteArray.empty y617 bt620.1, bt620.2.1, bt620.2.2)) else (none)) else (none))) = some (r1, r2, r3) := by first | (rw [hy617]; with_reducible exact H) | (have H2_ := (Option.bind_some _ _).symm.trans H; rw [hy617]; with_reducible exact H2_) | (have H2_ := (Option.bind_some _ _).symm.trans H; with_reducible exact H2_) | with_reducible exact H | (rw [hy617]; exact H) | exact H
                  have Ny617 := Aside0.mk hy617
                  clear hy617
                  replace H := Option.bind_eq_some_iff.mp H
                  obtain ⟨⟨t620, t621, t622⟩, A230, H⟩ := H
                  replace H : (if 0 ≤ t620 then (if t620 < (y617.length : Int) then (some (rdOf ByteArray.empty y617 t620, t621, t622)) else (none)) else (none)) = some (r1, r2, r3) := H
                  have A23 := Aside0.mk A230
                  clear A230
                  by_cases c24 : 0 ≤ t620
                  · rw [if_pos c24] at H
                    have c24b0 : decide (0 ≤ t620) = true := decide_eq_true c24
                    clear c24
                    by_cases c25 : t620 < (y617.length : Int)
                    · rw [if_pos c25] at H
                      have c25b0 : decide (t620 < (y617.length : Int)) = true := decide_eq_true c25
                      clear c25
                      simp only [Option.some.injEq, Prod.mk.injEq] at H
                      obtain ⟨rfl, rfl, rfl⟩ := H
                      go_wp2_with (first | ((with_reducible refine gate_dst (N := 29) rfl ?_); refine Kd.R_lit Kd.string _ 9 ?hg (N := 29) ?hd (xs := ([(⟨#[34, 34]⟩ : ByteArray), (⟨#[34, 97, 34]⟩ : ByteArray), (⟨#[34, 98, 32, 99, 34]⟩ : ByteArray), (⟨#[34, 40, 44, 41, 34]⟩ : ByteArray), (⟨#[34, 120, 34]⟩ : ByteArray)] : List ByteArray)) (inner := [.string (⟨#[34, 34]⟩ : ByteArray), .string (⟨#[34, 97, 34]⟩ : ByteArray), .string (⟨#[34, 98, 32, 99, 34]⟩ : ByteArray), .string (⟨#[34, 40, 44, 41, 34]⟩ : ByteArray), .string (⟨#[34, 120, 34]⟩ : ByteArray)]) (ok := fun _ => True) (okp := fun _ => True) ?hr ?hp (fun _ hk => hk) trivial (Below.refl _ _) (Nat.le_refl _) (by simp) ?_; (case hd => rfl); (case hg => rfl); (case hr => first | (go_simp; done) | (go_simp; rfl)); (case hp => exact (Reps.one (show Kd.M Kd.string _ _ _ (⟨#[34, 34]⟩ : ByteArray) [.string (⟨#[34, 34]⟩ : ByteArray)] from rfl) (Reps.one (show Kd.M Kd.string _ _ _ (⟨#[34, 97, 34]⟩ : ByteArray) [.string (⟨#[34, 97, 34]⟩ : ByteArray)] from rfl) (Reps.one (show Kd.M Kd.string _ _ _ (⟨#[34, 98, 32, 99, 34]⟩ : ByteArray) [.string (⟨#[34, 98, 32, 99, 34]⟩ : ByteArray)] from rfl) (Reps.one (show Kd.M Kd.string _ _ _ (⟨#[34, 40, 44, 41, 34]⟩ : ByteArray) [.string (⟨#[34, 40, 44, 41, 34]⟩ : ByteArray)] from rfl) (Reps.one (show Kd.M Kd.string _ _ _ (⟨#[34, 120, 34]⟩ : ByteArray) [.string (⟨#[34, 120, 34]⟩ : ByteArray)] from rfl) (Reps.none _ _))))))); intro v618 w26 ho27 hb hg_ hnew_; clear hg_ hnew_; (first | rw [← Ny617.out] at ho27 | (simp only [Int.reduceToNat] at ho27; rw [← Ny617.out] at ho27)); have n0_ := Aside0.mk (Kd.R_lower ho27 (keep_size (w := w) (g := g) (row := none) (by repeat (first | (with_reducible first | exact HK.out | apply KeepBut.set_ | apply keep_drewN | apply keep_drew | apply keep_alloc) | exact HK.out)))); have n1_ := Aside0.mk (IsS92.below (by repeat (first | (with_reducible first | exact HI0.out | apply IsS92.alloc | apply IsS92.drewN | apply IsS92.drew | apply IsS92.set_1 | apply IsS92.set_2) | exact HI0.out)) hb); have n2_ := Aside0.mk (KeepBut.trans (by repeat (first | (with_reducible first | exact HK.out | apply KeepBut.set_ | apply keep_drewN | apply keep_drew | apply keep_alloc) | exact HK.out)) (KeepBut.of_below hb g none) (.inl rfl)); have n3_ := Aside0.mk (below_step (by repeat (first | (with_reducible first | exact HB.out | apply below_alloc | apply pw_below_drewN | apply below_drew1 | refine below_set ?_ (IsS92.ge HI0.out)) | exact HB.out)) hb); clear HI0; clear HK; clear HB; have HO619 := n0_; have HI0 := n1_; have HK := n2_; have HB := n3_; clear n0_ n1_ n2_ n3_; clear hb ho27) | ((with_reducible refine gate_callee (f := 70) rfl ?_); refine goesL_ (some 31) rfl rfl Tryd.func70 (by kernel_rfl) rfl #[.pointer (some ⟨g, 0, none⟩), .int .i64 5] rfl (by (try simp only [List.map_toArray, List.map_cons, List.map_nil]); first | done | rfl | (simp only [List.length_drop, List.length_take]; rfl)) ?_; (with_reducible refine (spec_l01Cur_pick.calls g s0_0 t607 t608 5 t620 t621 t622 w0 _ ?side1 ?side2 A23.out).mono ?_); (case side1 => repeat (first | (with_reducible first | exact HI0.out | apply IsS92.alloc | apply IsS92.drewN | apply IsS92.drew | apply IsS92.set_1 | apply IsS92.set_2) | exact HI0.out)); (case side2 => repeat (first | (with_reducible first | exact HB.out | apply below_alloc | apply pw_below_drewN | apply below_drew1 | refine below_set ?_ (IsS92.ge HI0.out)) | exact HB.out)); rintro e w28 ⟨rfl, hi, hb, hk⟩; refine ⟨_, rfl, ?_⟩; have n0_ := Aside0.mk (Kd.R_mono (Kd.R_keep (IsS92.apart (show IsS92 w0 _ g s0_0 t607 t608 from by repeat (first | (with_reducible first | exact HI0.out | apply IsS92.alloc | apply IsS92.drewN | apply IsS92.drew | apply IsS92.set_1 | apply IsS92.set_2) | exact HI0.out)) (by (with_reducible repeat (first | apply Kd.R_alloc | apply Kd.R_drewN | apply Kd.R_drew)); exact HO619.out) (by decide)) hk (fun _ h => h.2)) (fun _ h => h.1)); have n1_ := Aside0.mk (KeepBut.trans (by repeat (first | (with_reducible first | exact HK.out | apply KeepBut.set_ | apply keep_drewN | apply keep_drew | apply keep_alloc) | exact HK.out)) hk (.inl rfl)); have n2_ := Aside0.mk (hb); have n3_ := Aside0.mk (hi); clear HO619; clear HK; clear HB; clear HI0; have HO619 := n0_; have HK := n1_; have HB := n2_; have HI0 := n3_; clear n0_ n1_ n2_ n3_; (try clear hb); (try clear hb2); (try clear hk); (try clear hi); obtain ⟨Ao29, co29, eo29⟩ := Kd.R_slice HO619.out; subst eo29; have p623 : 0 ≤ (t620 : Int) := of_decide_eq_true (by first | (with_reducible assumption) | assumption); have q623 : t620 < (y617.length : Int) := of_decide_eq_true (by first | (with_reducible assumption) | assumption); obtain ⟨ad623, e623, hx623_0⟩ := Kd.at_string (Kd.R_reads' HO619.out).2.2 t620 p623 q623; cases e623; replace p623 := eq_true p623; replace q623 := eq_true q623))
                      go_ret
                      exact ⟨by first | rfl | (simp [errW_none, errW_some] <;> rfl) | (simp [*, errW_none, errW_some] <;> rfl), by repeat (first | (with_reducible first | exact HI0.out | apply IsS92.alloc | apply IsS92.drewN | apply IsS92.drew | apply IsS92.set_1 | apply IsS92.set_2) | exact HI0.out), by repeat (first | (with_reducible first | exact HB.out | apply below_alloc | apply pw_below_drewN | apply below_drew1 | refine below_set ?_ (IsS92.ge HI0.out)) | exact HB.out), by repeat (first | (with_reducible first | exact HK.out | apply KeepBut.set_ | apply keep_drewN | apply keep_drew | apply keep_alloc) | exact HK.out)⟩
                    · rw [if_neg c25] at H
                      exact absurd H (by simp)
                  · rw [if_neg c24] at H
                    exact absurd H (by simp)
                · rw [if_neg c22] at H
                  have c22b0 : (x5_6 == 3) = false := beq_eq_false_iff_ne.mpr c22
                  have c22b1 : (x5_6 != 3) = true := bne_iff_ne.mpr c22
                  by_cases c30 : x5_6 = 4
                  · rw [if_pos c30] at H
                    have c30b0 : (x5_6 == 4) = true := beq_iff_eq.mpr c30
                    have c30b1 : (x5_6 != 4) = false := bne_eq_false_iff_eq.mpr c30
                    clear c30
                    obtain ⟨y624, hy624⟩ : ∃ y_ : List ByteArray, y_ = (([(⟨#[78, 105, 108]⟩ : ByteArray), (⟨#[76, 101, 97, 102]⟩ : ByteArray), (⟨#[65]⟩ : ByteArray), (⟨#[90, 101, 114, 111]⟩ : ByteArray)] : List ByteArray)) := ⟨_, rfl⟩
                    replace H : ((spec_l01Cur_pick.f s0_0 t607 t608 4).bind fun bt627 => (if 0 ≤ bt627.1 then (if bt627.1 < (y624.length : Int) then (some (rdOf ByteArray.empty y624 bt627.1, bt627.2.1, bt627.2.2)) else (none)) else (none))) = some (r1, r2, r3) := by first | (rw [hy624]; with_reducible exact H) | (have H2_ := (Option.bind_some _ _).symm.trans H; rw [hy624]; with_reducible exact H2_) | (have H2_ := (Option.bind_some _ _).symm.trans H; with_reducible exact H2_) | with_reducible exact H | (rw [hy624]; exact H) | exact H
                    have Ny624 := Aside0.mk hy624
                    clear hy624
                    replace H := Option.bind_eq_some_iff.mp H
                    obtain ⟨⟨t627, t628, t629⟩, A310, H⟩ := H
                    replace H : (if 0 ≤ t627 then (if t627 < (y624.length : Int) then (some (rdOf ByteArray.empty y624 t627, t628, t629)) else (none)) else (none)) = some (r1, r2, r3) := H
                    have A31 := Aside0.mk A310
                    clear A310
                    by_cases c32 : 0 ≤ t627
                    · rw [if_pos c32] at H
                      have c32b0 : decide (0 ≤ t627) = true := decide_eq_true c32
                      clear c32
                      by_cases c33 : t627 < (y624.length : Int)
                      · rw [if_pos c33] at H
                        have c33b0 : decide (t627 < (y624.length : Int)) = true := decide_eq_true c33
                        clear c33
                        simp only [Option.some.injEq, Prod.mk.injEq] at H
                        obtain ⟨rfl, rfl, rfl⟩ := H
                        go_wp2_with (first | ((with_reducible refine gate_dst (N := 36) rfl ?_); refine Kd.R_lit Kd.string _ 9 ?hg (N := 36) ?hd (xs := ([(⟨#[78, 105, 108]⟩ : ByteArray), (⟨#[76, 101, 97, 102]⟩ : ByteArray), (⟨#[65]⟩ : ByteArray), (⟨#[90, 101, 114, 111]⟩ : ByteArray)] : List ByteArray)) (inner := [.string (⟨#[78, 105, 108]⟩ : ByteArray), .string (⟨#[76, 101, 97, 102]⟩ : ByteArray), .string (⟨#[65]⟩ : ByteArray), .string (⟨#[90, 101, 114, 111]⟩ : ByteArray)]) (ok := fun _ => True) (okp := fun _ => True) ?hr ?hp (fun _ hk => hk) trivial (Below.refl _ _) (Nat.le_refl _) (by simp) ?_; (case hd => rfl); (case hg => rfl); (case hr => first | (go_simp; done) | (go_simp; rfl)); (case hp => exact (Reps.one (show Kd.M Kd.string _ _ _ (⟨#[78, 105, 108]⟩ : ByteArray) [.string (⟨#[78, 105, 108]⟩ : ByteArray)] from rfl) (Reps.one (show Kd.M Kd.string _ _ _ (⟨#[76, 101, 97, 102]⟩ : ByteArray) [.string (⟨#[76, 101, 97, 102]⟩ : ByteArray)] from rfl) (Reps.one (show Kd.M Kd.string _ _ _ (⟨#[65]⟩ : ByteArray) [.string (⟨#[65]⟩ : ByteArray)] from rfl) (Reps.one (show Kd.M Kd.string _ _ _ (⟨#[90, 101, 114, 111]⟩ : ByteArray) [.string (⟨#[90, 101, 114, 111]⟩ : ByteArray)] from rfl) (Reps.none _ _)))))); intro v625 w34 ho35 hb hg_ hnew_; clear hg_ hnew_; (first | rw [← Ny624.out] at ho35 | (simp only [Int.reduceToNat] at ho35; rw [← Ny624.out] at ho35)); have n0_ := Aside0.mk (Kd.R_lower ho35 (keep_size (w := w) (g := g) (row := none) (by repeat (first | (with_reducible first | exact HK.out | apply KeepBut.set_ | apply keep_drewN | apply keep_drew | apply keep_alloc) | exact HK.out)))); have n1_ := Aside0.mk (IsS92.below (by repeat (first | (with_reducible first | exact HI0.out | apply IsS92.alloc | apply IsS92.drewN | apply IsS92.drew | apply IsS92.set_1 | apply IsS92.set_2) | exact HI0.out)) hb); have n2_ := Aside0.mk (KeepBut.trans (by repeat (first | (with_reducible first | exact HK.out | apply KeepBut.set_ | apply keep_drewN | apply keep_drew | apply keep_alloc) | exact HK.out)) (KeepBut.of_below hb g none) (.inl rfl)); have n3_ := Aside0.mk (below_step (by repeat (first | (with_reducible first | exact HB.out | apply below_alloc | apply pw_below_drewN | apply below_drew1 | refine below_set ?_ (IsS92.ge HI0.out)) | exact HB.out)) hb); clear HI0; clear HK; clear HB; have HO626 := n0_; have HI0 := n1_; have HK := n2_; have HB := n3_; clear n0_ n1_ n2_ n3_; clear hb ho35) | ((with_reducible refine gate_callee (f := 70) rfl ?_); refine goesL_ (some 38) rfl rfl Tryd.func70 (by kernel_rfl) rfl #[.pointer (some ⟨g, 0, none⟩), .int .i64 4] rfl (by (try simp only [List.map_toArray, List.map_cons, List.map_nil]); first | done | rfl | (simp only [List.length_drop, List.length_take]; rfl)) ?_; (with_reducible refine (spec_l01Cur_pick.calls g s0_0 t607 t608 4 t627 t628 t629 w0 _ ?side1 ?side2 A31.out).mono ?_); (case side1 => repeat (first | (with_reducible first | exact HI0.out | apply IsS92.alloc | apply IsS92.drewN | apply IsS92.drew | apply IsS92.set_1 | apply IsS92.set_2) | exact HI0.out)); (case side2 => repeat (first | (with_reducible first | exact HB.out | apply below_alloc | apply pw_below_drewN | apply below_drew1 | refine below_set ?_ (IsS92.ge HI0.out)) | exact HB.out)); rintro e w36 ⟨rfl, hi, hb, hk⟩; refine ⟨_, rfl, ?_⟩; have n0_ := Aside0.mk (Kd.R_mono (Kd.R_keep (IsS92.apart (show IsS92 w0 _ g s0_0 t607 t608 from by repeat (first | (with_reducible first | exact HI0.out | apply IsS92.alloc | apply IsS92.drewN | apply IsS92.drew | apply IsS92.set_1 | apply IsS92.set_2) | exact HI0.out)) (by (with_reducible repeat (first | apply Kd.R_alloc | apply Kd.R_drewN | apply Kd.R_drew)); exact HO626.out) (by decide)) hk (fun _ h => h.2)) (fun _ h => h.1)); have n1_ := Aside0.mk (KeepBut.trans (by repeat (first | (with_reducible first | exact HK.out | apply KeepBut.set_ | apply keep_drewN | apply keep_drew | apply keep_alloc) | exact HK.out)) hk (.inl rfl)); have n2_ := Aside0.mk (hb); have n3_ := Aside0.mk (hi); clear HO626; clear HK; clear HB; clear HI0; have HO626 := n0_; have HK := n1_; have HB := n2_; have HI0 := n3_; clear n0_ n1_ n2_ n3_; (try clear hb); (try clear hb2); (try clear hk); (try clear hi); obtain ⟨Ao37, co37, eo37⟩ := Kd.R_slice HO626.out; subst eo37; have p630 : 0 ≤ (t627 : Int) := of_decide_eq_true (by first | (with_reducible assumption) | assumption); have q630 : t627 < (y624.length : Int) := of_decide_eq_true (by first | (with_reducible assumption) | assumption); obtain ⟨ad630, e630, hx630_0⟩ := Kd.at_string (Kd.R_reads' HO626.out).2.2 t627 p630 q630; cases e630; replace p630 := eq_true p630; replace q630 := eq_true q630))
                        go_ret
                        exact ⟨by first | rfl | (simp [errW_none, errW_some] <;> rfl) | (simp [*, errW_none, errW_some] <;> rfl), by repeat (first | (with_reducible first | exact HI0.out | apply IsS92.alloc | apply IsS92.drewN | apply IsS92.drew | apply IsS92.set_1 | apply IsS92.set_2) | exact HI0.out), by repeat (first | (with_reducible first | exact HB.out | apply below_alloc | apply pw_below_drewN | apply below_drew1 | refine below_set ?_ (IsS92.ge HI0.out)) | exact HB.out), by repeat (first | (with_reducible first | exact HK.out | apply KeepBut.set_ | apply keep_drewN | apply keep_drew | apply keep_alloc) | exact HK.out)⟩
                      · rw [if_neg c33] at H
                        exact absurd H (by simp)
                    · rw [if_neg c32] at H
                      exact absurd H (by simp)
                  · rw [if_neg c30] at H
                    have c30b0 : (x5_6 == 4) = false := beq_eq_false_iff_ne.mpr c30
                    have c30b1 : (x5_6 != 4) = true := bne_iff_ne.mpr c30
                    have HC38 := Aside0.mk H
                    clear H
                    go_upto_if 41 with (fail)
                    go_cut [41] (fun v41 wc => ∃ (kq : Nat) (x41_37 : Bool), v41 = .bool x41_37 ∧ Aside0 (spec_l01Cur_term.j3 kq a1 x5_6 x41_37 s0_0 t607 t608 = some (r1, r2, r3)) ∧ Aside0 (kq ≤ kj8) ∧ Aside0 (IsS92 w0 wc g s0_0 t607 t608) ∧ Aside0 (KeepBut w wc g none) ∧ Aside0 (Below w0.heap.size w0 wc))
                    case first =>
                      have H := HC38.out
                      clear HC38
                      by_cases c39 : x5_6 = 5
                      · rw [if_pos c39] at H
                        have c39b0 : (x5_6 == 5) = true := beq_iff_eq.mpr c39
                        have c39b1 : (x5_6 != 5) = false := bne_eq_false_iff_eq.mpr c39
                        clear c39
                        (first | rw [c39b0] | (simp only [i64_w, i32_w]; rw [c39b0]) | skip)
                        have H' := Aside0.mk H
                        clear H
                        go_wp2
                        go_meet
                        case rel => exact ⟨_, ((x5_6 == 5)), (by first | rfl | (simp; done) | (simp [*]; done)), H', ⟨by have := HJ3.out; have := HJ6.out; have := HJ8.out; first | omega | exact Nat.le_refl _⟩, ⟨by repeat (first | (with_reducible first | exact HI0.out | apply IsS92.alloc | apply IsS92.drewN | apply IsS92.drew | apply IsS92.set_1 | apply IsS92.set_2) | exact HI0.out)⟩, ⟨by repeat (first | (with_reducible first | exact HK.out | apply KeepBut.set_ | apply keep_drewN | apply keep_drew | apply keep_alloc) | exact HK.out)⟩, ⟨by repeat (first | (with_reducible first | exact HB.out | apply below_alloc | apply pw_below_drewN | apply below_drew1 | refine below_set ?_ (IsS92.ge HI0.out)) | exact HB.out)⟩⟩
                      · rw [if_neg c39] at H
                        have c39b0 : (x5_6 == 5) = false := beq_eq_false_iff_ne.mpr c39
                        have c39b1 : (x5_6 != 5) = true := bne_iff_ne.mpr c39
                        (first | rw [c39b0] | (simp only [i64_w, i32_w]; rw [c39b0]) | skip)
                        have H' := Aside0.mk H
                        clear H
                        go_wp2
                        go_meet
                        case rel => exact ⟨_, ((x5_6 == 6)), (by first | rfl | (simp; done) | (simp [*]; done)), H', ⟨by have := HJ3.out; have := HJ6.out; have := HJ8.out; first | omega | exact Nat.le_refl _⟩, ⟨by repeat (first | (with_reducible first | exact HI0.out | apply IsS92.alloc | apply IsS92.drewN | apply IsS92.drew | apply IsS92.set_1 | apply IsS92.set_2) | exact HI0.out)⟩, ⟨by repeat (first | (with_reducible first | exact HK.out | apply KeepBut.set_ | apply keep_drewN | apply keep_drew | apply keep_alloc) | exact HK.out)⟩, ⟨by repeat (first | (with_reducible first | exact HB.out | apply below_alloc | apply pw_below_drewN | apply below_drew1 | refine below_set ?_ (IsS92.ge HI0.out)) | exact HB.out)⟩⟩
                    case rest =>
                      clear HC38
                      try clear c1
                      try clear c2
                      try clear p2
                      try clear c3
                      try clear c6
                      try clear c6b0
                      try clear p6
                      try clear q6
                      try clear hx6
                      try clear c7
                      try clear c8
                      try clear c10
                      try clear c10b0
                      try clear c10b1
                      try clear c11
                      try clear c11b0
                      try clear c11b1
                      try clear c12
                      try clear c14
                      try clear c14b0
                      try clear c15
                      try clear c15b0
                      try clear c20
                      try clear c22
                      try clear c22b0
                      try clear c22b1
                      try clear c24
                      try clear c24b0
                      try clear c25
                      try clear c25b0
                      try clear c30
                      try clear c30b0
                      try clear c30b1
                      try clear c32
                      try clear c32b0
                      try clear c33
                      try clear c33b0
                      try clear c39
                      try clear c39b0
                      try clear c39b1
                      try clear hx615_0
                      try clear hx623_0
                      try clear hx630_0
                      try clear p2
                      try clear p6
                      try clear p615
                      try clear p623
                      try clear p630
                      try clear q615
                      try clear q623
                      try clear q630
                      obtain ⟨kq, x41_37, rfl, HA, HJ37, HI0, HK, HB⟩ := hcut
                      cases kq with
                      | zero => exact absurd HA.out (by simp [spec_l01Cur_term.j3])
                      | succ kj37 =>
                        have H := HA.out
                        clear HA
                        simp only [spec_l01Cur_term.j3] at H
                        by_cases c40 : x41_37 = true
                        · subst c40
                          have H1 : ((spec_l01Cur_term.f kj37 s0_0 t607 t608 (wrap64 (a1 - 1))).bind fun bt631 => (if 5 + bt631.1.size ≤ 9223372036854775807 then (if ((⟨#[67, 111, 110, 115, 40]⟩ : ByteArray) ++ bt631.1).size + 1 ≤ 9223372036854775807 then ((spec_l01Cur_term.f kj37 s0_0 bt631.2.1 bt631.2.2 (wrap64 (a1 - 1))).bind fun bt634 => (if (((⟨#[67, 111, 110, 115, 40]⟩ : ByteArray) ++ bt631.1) ++ (⟨#[44]⟩ : ByteArray)).size + bt634.1.size ≤ 9223372036854775807 then (if ((((⟨#[67, 111, 110, 115, 40]⟩ : ByteArray) ++ bt631.1) ++ (⟨#[44]⟩ : ByteArray)) ++ bt634.1).size + 1 ≤ 9223372036854775807 then (some (((((⟨#[67, 111, 110, 115, 40]⟩ : ByteArray) ++ bt631.1) ++ (⟨#[44]⟩ : ByteArray)) ++ bt634.1) ++ (⟨#[41]⟩ : ByteArray), bt634.2.1, bt634.2.2)) else (none)) else (none))) else (none)) else (none))) = some (r1, r2, r3) := by rw [if_pos rfl] at H; exact H
                          clear H
                          have H := H1
                          clear H1
                          replace H := Option.bind_eq_some_iff.mp H
                          obtain ⟨⟨t631, t632, t633⟩, A410, H⟩ := H
                          replace H : (if 5 + t631.size ≤ 9223372036854775807 then (if ((⟨#[67, 111, 110, 115, 40]⟩ : ByteArray) ++ t631).size + 1 ≤ 9223372036854775807 then ((spec_l01Cur_term.f kj37 s0_0 t632 t633 (wrap64 (a1 - 1))).bind fun bt634 => (if (((⟨#[67, 111, 110, 115, 40]⟩ : ByteArray) ++ t631) ++ (⟨#[44]⟩ : ByteArray)).size + bt634.1.size ≤ 9223372036854775807 then (if ((((⟨#[67, 111, 110, 115, 40]⟩ : ByteArray) ++ t631) ++ (⟨#[44]⟩ : ByteArray)) ++ bt634.1).size + 1 ≤ 9223372036854775807 then (some (((((⟨#[67, 111, 110, 115, 40]⟩ : ByteArray) ++ t631) ++ (⟨#[44]⟩ : ByteArray)) ++ bt634.1) ++ (⟨#[41]⟩ : ByteArray), bt634.2.1, bt634.2.2)) else (none)) else (none))) else (none)) else (none)) = some (r1, r2, r3) := H
                          have A41 := Aside0.mk A410
                          clear A410
                          by_cases c42 : 5 + t631.size ≤ 9223372036854775807
                          · rw [if_pos c42] at H
                            have c42b0 := eq_true c42
                            have c42b1 : decide (5 + t631.size ≤ 9223372036854775807) = true := decide_eq_true c42
                            try have c42b2 : (9223372036854775807 < 5 + t631.size) = False := eq_false (Nat.not_lt.2 c42)
                            by_cases c43 : ((⟨#[67, 111, 110, 115, 40]⟩ : ByteArray) ++ t631).size + 1 ≤ 9223372036854775807
                            · rw [if_pos c43] at H
                              have c43b0 := eq_true c43
                              have c43b1 : decide (((⟨#[67, 111, 110, 115, 40]⟩ : ByteArray) ++ t631).size + 1 ≤ 9223372036854775807) = true := decide_eq_true c43
                              try have c43b2 : (9223372036854775807 < ((⟨#[67, 111, 110, 115, 40]⟩ : ByteArray) ++ t631).size + 1) = False := eq_false (Nat.not_lt.2 c43)
                              try have c43b3 : (9223372036854775807 < 5 + t631.size + 1) = False := (congrArg (fun n_ => (9223372036854775807 < n_)) (show 5 + t631.size + 1 = ((⟨#[67, 111, 110, 115, 40]⟩ : ByteArray) ++ t631).size + 1 by (simp only [ByteArray.size_append]; try rfl))).trans c43b2
                              replace H := Option.bind_eq_some_iff.mp H
                              obtain ⟨⟨t634, t635, t636⟩, A440, H⟩ := H
                              replace H : (if (((⟨#[67, 111, 110, 115, 40]⟩ : ByteArray) ++ t631) ++ (⟨#[44]⟩ : ByteArray)).size + t634.size ≤ 9223372036854775807 then (if ((((⟨#[67, 111, 110, 115, 40]⟩ : ByteArray) ++ t631) ++ (⟨#[44]⟩ : ByteArray)) ++ t634).size + 1 ≤ 9223372036854775807 then (some (((((⟨#[67, 111, 110, 115, 40]⟩ : ByteArray) ++ t631) ++ (⟨#[44]⟩ : ByteArray)) ++ t634) ++ (⟨#[41]⟩ : ByteArray), t635, t636)) else (none)) else (none)) = some (r1, r2, r3) := H
                              have A44 := Aside0.mk A440
                              clear A440
                              by_cases c45 : (((⟨#[67, 111, 110, 115, 40]⟩ : ByteArray) ++ t631) ++ (⟨#[44]⟩ : ByteArray)).size + t634.size ≤ 9223372036854775807
                              · rw [if_pos c45] at H
                                have c45b0 := eq_true c45
                                have c45b1 : decide ((((⟨#[67, 111, 110, 115, 40]⟩ : ByteArray) ++ t631) ++ (⟨#[44]⟩ : ByteArray)).size + t634.size ≤ 9223372036854775807) = true := decide_eq_true c45
                                try have c45b2 : (9223372036854775807 < (((⟨#[67, 111, 110, 115, 40]⟩ : ByteArray) ++ t631) ++ (⟨#[44]⟩ : ByteArray)).size + t634.size) = False := eq_false (Nat.not_lt.2 c45)
                                try have c45b3 : (9223372036854775807 < 5 + t631.size + 1 + t634.size) = False := (congrArg (fun n_ => (9223372036854775807 < n_)) (show 5 + t631.size + 1 + t634.size = (((⟨#[67, 111, 110, 115, 40]⟩ : ByteArray) ++ t631) ++ (⟨#[44]⟩ : ByteArray)).size + t634.size by (simp only [ByteArray.size_append]; try rfl))).trans c45b2
                                by_cases c46 : ((((⟨#[67, 111, 110, 115, 40]⟩ : ByteArray) ++ t631) ++ (⟨#[44]⟩ : ByteArray)) ++ t634).size + 1 ≤ 9223372036854775807
                                · rw [if_pos c46] at H
                                  have c46b0 := eq_true c46
                                  have c46b1 : decide (((((⟨#[67, 111, 110, 115, 40]⟩ : ByteArray) ++ t631) ++ (⟨#[44]⟩ : ByteArray)) ++ t634).size + 1 ≤ 9223372036854775807) = true := decide_eq_true c46
                                  try have c46b2 : (9223372036854775807 < ((((⟨#[67, 111, 110, 115, 40]⟩ : ByteArray) ++ t631) ++ (⟨#[44]⟩ : ByteArray)) ++ t634).size + 1) = False := eq_false (Nat.not_lt.2 c46)
                                  try have c46b3 : (9223372036854775807 < 5 + t631.size + 1 + t634.size + 1) = False := (congrArg (fun n_ => (9223372036854775807 < n_)) (show 5 + t631.size + 1 + t634.size + 1 = ((((⟨#[67, 111, 110, 115, 40]⟩ : ByteArray) ++ t631) ++ (⟨#[44]⟩ : ByteArray)) ++ t634).size + 1 by (simp only [ByteArray.size_append]; try rfl))).trans c46b2
                                  simp only [Option.some.injEq, Prod.mk.injEq] at H
                                  obtain ⟨rfl, rfl, rfl⟩ := H
                                  go_wp2_with (first | ((with_reducible refine gate_callee (f := 117) rfl ?_); refine goesL_ (some 47) rfl rfl Tryd.func117 (by kernel_rfl) rfl #[.pointer (some ⟨g, 0, none⟩), .int .i64 (wrap64 (a1 - 1))] rfl (by (try simp only [List.map_toArray, List.map_cons, List.map_nil]); first | done | rfl | (simp only [List.length_drop, List.length_take]; rfl)) ?_; (with_reducible refine (ih kj37 (by have := HJ3.out; have := HJ6.out; have := HJ8.out; have := HJ37.out; omega) g s0_0 t607 t608 (wrap64 (a1 - 1)) t631 t632 t633 w0 _ ?side1 ?side2 A41.out).mono ?_); (case side1 => repeat (first | (with_reducible first | exact HI0.out | apply IsS92.alloc | apply IsS92.drewN | apply IsS92.drew | apply IsS92.set_1 | apply IsS92.set_2) | exact HI0.out)); (case side2 => repeat (first | (with_reducible first | exact HB.out | apply below_alloc | apply pw_below_drewN | apply below_drew1 | refine below_set ?_ (IsS92.ge HI0.out)) | exact HB.out)); rintro e w47 ⟨rfl, hi, hb, hk⟩; refine ⟨_, rfl, ?_⟩; have n0_ := Aside0.mk (KeepBut.trans (by repeat (first | (with_reducible first | exact HK.out | apply KeepBut.set_ | apply keep_drewN | apply keep_drew | apply keep_alloc) | exact HK.out)) hk (.inl rfl)); have n1_ := Aside0.mk (hb); have n2_ := Aside0.mk (hi); clear HK; clear HB; clear HI0; have HK := n0_; have HB := n1_; have HI0 := n2_; clear n0_ n1_ n2_; (try clear hb); (try clear hb2); (try clear hk); (try clear hi)) | ((with_reducible refine gate_callee (f := 117) rfl ?_); refine goesL_ (some 53) rfl rfl Tryd.func117 (by kernel_rfl) rfl #[.pointer (some ⟨g, 0, none⟩), .int .i64 (wrap64 (a1 - 1))] rfl (by (try simp only [List.map_toArray, List.map_cons, List.map_nil]); first | done | rfl | (simp only [List.length_drop, List.length_take]; rfl)) ?_; (with_reducible refine (ih kj37 (by have := HJ3.out; have := HJ6.out; have := HJ8.out; have := HJ37.out; omega) g s0_0 t632 t633 (wrap64 (a1 - 1)) t634 t635 t636 w0 _ ?side1 ?side2 A44.out).mono ?_); (case side1 => repeat (first | (with_reducible first | exact HI0.out | apply IsS92.alloc | apply IsS92.drewN | apply IsS92.drew | apply IsS92.set_1 | apply IsS92.set_2) | exact HI0.out)); (case side2 => repeat (first | (with_reducible first | exact HB.out | apply below_alloc | apply pw_below_drewN | apply below_drew1 | refine below_set ?_ (IsS92.ge HI0.out)) | exact HB.out)); rintro e w48 ⟨rfl, hi, hb, hk⟩; refine ⟨_, rfl, ?_⟩; have n0_ := Aside0.mk (KeepBut.trans (by repeat (first | (with_reducible first | exact HK.out | apply KeepBut.set_ | apply keep_drewN | apply keep_drew | apply keep_alloc) | exact HK.out)) hk (.inl rfl)); have n1_ := Aside0.mk (hb); have n2_ := Aside0.mk (hi); clear HK; clear HB; clear HI0; have HK := n0_; have HB := n1_; have HI0 := n2_; clear n0_ n1_ n2_; (try clear hb); (try clear hb2); (try clear hk); (try clear hi)))
                                  go_ret
                                  exact ⟨by first | rfl | (simp [errW_none, errW_some] <;> rfl) | (simp [*, errW_none, errW_some] <;> rfl), by repeat (first | (with_reducible first | exact HI0.out | apply IsS92.alloc | apply IsS92.drewN | apply IsS92.drew | apply IsS92.set_1 | apply IsS92.set_2) | exact HI0.out), by repeat (first | (with_reducible first | exact HB.out | apply below_alloc | apply pw_below_drewN | apply below_drew1 | refine below_set ?_ (IsS92.ge HI0.out)) | exact HB.out), by repeat (first | (with_reducible first | exact HK.out | apply KeepBut.set_ | apply keep_drewN | apply keep_drew | apply keep_alloc) | exact HK.out)⟩
                                · rw [if_neg c46] at H
                                  exact absurd H (by simp)
                              · rw [if_neg c45] at H
                                exact absurd H (by simp)
                            · rw [if_neg c43] at H
                              exact absurd H (by simp)
                          · rw [if_neg c42] at H
                            exact absurd H (by simp)
                        · replace c40 := Bool.eq_false_iff.mpr c40
                          subst c40
                          have H1 : (if x5_6 = 7 then ((spec_l01Cur_term.f kj37 s0_0 t607 t608 (wrap64 (a1 - 1))).bind fun bt637 => (if 2 + bt637.1.size ≤ 9223372036854775807 then (if ((⟨#[83, 40]⟩ : ByteArray) ++ bt637.1).size + 1 ≤ 9223372036854775807 then (some (((⟨#[83, 40]⟩ : ByteArray) ++ bt637.1) ++ (⟨#[41]⟩ : ByteArray), bt637.2.1, bt637.2.2)) else (none)) else (none))) else ((spec_l01Cur_term.f kj37 s0_0 t607 t608 (wrap64 (a1 - 1))).bind fun bt640 => (if 5 + bt640.1.size ≤ 9223372036854775807 then (if ((⟨#[78, 111, 100, 101, 40]⟩ : ByteArray) ++ bt640.1).size + 1 ≤ 9223372036854775807 then ((spec_l01Cur_term.f kj37 s0_0 bt640.2.1 bt640.2.2 (wrap64 (a1 - 1))).bind fun bt643 => (if (((⟨#[78, 111, 100, 101, 40]⟩ : ByteArray) ++ bt640.1) ++ (⟨#[44]⟩ : ByteArray)).size + bt643.1.size ≤ 9223372036854775807 then (if ((((⟨#[78, 111, 100, 101, 40]⟩ : ByteArray) ++ bt640.1) ++ (⟨#[44]⟩ : ByteArray)) ++ bt643.1).size + 1 ≤ 9223372036854775807 then ((spec_l01Cur_term.f kj37 s0_0 bt643.2.1 bt643.2.2 (wrap64 (a1 - 1))).bind fun bt646 => (if (((((⟨#[78, 111, 100, 101, 40]⟩ : ByteArray) ++ bt640.1) ++ (⟨#[44]⟩ : ByteArray)) ++ bt643.1) ++ (⟨#[44]⟩ : ByteArray)).size + bt646.1.size ≤ 9223372036854775807 then (if ((((((⟨#[78, 111, 100, 101, 40]⟩ : ByteArray) ++ bt640.1) ++ (⟨#[44]⟩ : ByteArray)) ++ bt643.1) ++ (⟨#[44]⟩ : ByteArray)) ++ bt646.1).size + 1 ≤ 9223372036854775807 then (some (((((((⟨#[78, 111, 100, 101, 40]⟩ : ByteArray) ++ bt640.1) ++ (⟨#[44]⟩ : ByteArray)) ++ bt643.1) ++ (⟨#[44]⟩ : ByteArray)) ++ bt646.1) ++ (⟨#[41]⟩ : ByteArray), bt646.2.1, bt646.2.2)) else (none)) else (none))) else (none)) else (none))) else (none)) else (none)))) = some (r1, r2, r3) := by rw [if_neg (show ¬ (false = true) by decide)] at H; exact H
                          clear H
                          have H := H1
                          clear H1
                          by_cases c49 : x5_6 = 7
                          · rw [if_pos c49] at H
                            have c49b0 : (x5_6 == 7) = true := beq_iff_eq.mpr c49
                            have c49b1 : (x5_6 != 7) = false := bne_eq_false_iff_eq.mpr c49
                            clear c49
                            replace H := Option.bind_eq_some_iff.mp H
                            obtain ⟨⟨t637, t638, t639⟩, A500, H⟩ := H
                            replace H : (if 2 + t637.size ≤ 9223372036854775807 then (if ((⟨#[83, 40]⟩ : ByteArray) ++ t637).size + 1 ≤ 9223372036854775807 then (some (((⟨#[83, 40]⟩ : ByteArray) ++ t637) ++ (⟨#[41]⟩ : ByteArray), t638, t639)) else (none)) else (none)) = some (r1, r2, r3) := H
                            have A50 := Aside0.mk A500
                            clear A500
                            by_cases c51 : 2 + t637.size ≤ 9223372036854775807
                            · rw [if_pos c51] at H
                              have c51b0 := eq_true c51
                              have c51b1 : decide (2 + t637.size ≤ 9223372036854775807) = true := decide_eq_true c51
                              try have c51b2 : (9223372036854775807 < 2 + t637.size) = False := eq_false (Nat.not_lt.2 c51)
                              by_cases c52 : ((⟨#[83, 40]⟩ : ByteArray) ++ t637).size + 1 ≤ 9223372036854775807
                              · rw [if_pos c52] at H
                                have c52b0 := eq_true c52
                                have c52b1 : decide (((⟨#[83, 40]⟩ : ByteArray) ++ t637).size + 1 ≤ 9223372036854775807) = true := decide_eq_true c52
                                try have c52b2 : (9223372036854775807 < ((⟨#[83, 40]⟩ : ByteArray) ++ t637).size + 1) = False := eq_false (Nat.not_lt.2 c52)
                                try have c52b3 : (9223372036854775807 < 2 + t637.size + 1) = False := (congrArg (fun n_ => (9223372036854775807 < n_)) (show 2 + t637.size + 1 = ((⟨#[83, 40]⟩ : ByteArray) ++ t637).size + 1 by (simp only [ByteArray.size_append]; try rfl))).trans c52b2
                                simp only [Option.some.injEq, Prod.mk.injEq] at H
                                obtain ⟨rfl, rfl, rfl⟩ := H
                                go_wp2_with (first | ((with_reducible refine gate_callee (f := 117) rfl ?_); refine goesL_ (some 61) rfl rfl Tryd.func117 (by kernel_rfl) rfl #[.pointer (some ⟨g, 0, none⟩), .int .i64 (wrap64 (a1 - 1))] rfl (by (try simp only [List.map_toArray, List.map_cons, List.map_nil]); first | done | rfl | (simp only [List.length_drop, List.length_take]; rfl)) ?_; (with_reducible refine (ih kj37 (by have := HJ3.out; have := HJ6.out; have := HJ8.out; have := HJ37.out; omega) g s0_0 t607 t608 (wrap64 (a1 - 1)) t637 t638 t639 w0 _ ?side1 ?side2 A50.out).mono ?_); (case side1 => repeat (first | (with_reducible first | exact HI0.out | apply IsS92.alloc | apply IsS92.drewN | apply IsS92.drew | apply IsS92.set_1 | apply IsS92.set_2) | exact HI0.out)); (case side2 => repeat (first | (with_reducible first | exact HB.out | apply below_alloc | apply pw_below_drewN | apply below_drew1 | refine below_set ?_ (IsS92.ge HI0.out)) | exact HB.out)); rintro e w53 ⟨rfl, hi, hb, hk⟩; refine ⟨_, rfl, ?_⟩; have n0_ := Aside0.mk (KeepBut.trans (by repeat (first | (with_reducible first | exact HK.out | apply KeepBut.set_ | apply keep_drewN | apply keep_drew | apply keep_alloc) | exact HK.out)) hk (.inl rfl)); have n1_ := Aside0.mk (hb); have n2_ := Aside0.mk (hi); clear HK; clear HB; clear HI0; have HK := n0_; have HB := n1_; have HI0 := n2_; clear n0_ n1_ n2_; (try clear hb); (try clear hb2); (try clear hk); (try clear hi)))
                                go_ret
                                exact ⟨by first | rfl | (simp [errW_none, errW_some] <;> rfl) | (simp [*, errW_none, errW_some] <;> rfl), by repeat (first | (with_reducible first | exact HI0.out | apply IsS92.alloc | apply IsS92.drewN | apply IsS92.drew | apply IsS92.set_1 | apply IsS92.set_2) | exact HI0.out), by repeat (first | (with_reducible first | exact HB.out | apply below_alloc | apply pw_below_drewN | apply below_drew1 | refine below_set ?_ (IsS92.ge HI0.out)) | exact HB.out), by repeat (first | (with_reducible first | exact HK.out | apply KeepBut.set_ | apply keep_drewN | apply keep_drew | apply keep_alloc) | exact HK.out)⟩
                              · rw [if_neg c52] at H
                                exact absurd H (by simp)
                            · rw [if_neg c51] at H
                              exact absurd H (by simp)
                          · rw [if_neg c49] at H
                            have c49b0 : (x5_6 == 7) = false := beq_eq_false_iff_ne.mpr c49
                            have c49b1 : (x5_6 != 7) = true := bne_iff_ne.mpr c49
                            replace H := Option.bind_eq_some_iff.mp H
                            obtain ⟨⟨t640, t641, t642⟩, A540, H⟩ := H
                            replace H : (if 5 + t640.size ≤ 9223372036854775807 then (if ((⟨#[78, 111, 100, 101, 40]⟩ : ByteArray) ++ t640).size + 1 ≤ 9223372036854775807 then ((spec_l01Cur_term.f kj37 s0_0 t641 t642 (wrap64 (a1 - 1))).bind fun bt643 => (if (((⟨#[78, 111, 100, 101, 40]⟩ : ByteArray) ++ t640) ++ (⟨#[44]⟩ : ByteArray)).size + bt643.1.size ≤ 9223372036854775807 then (if ((((⟨#[78, 111, 100, 101, 40]⟩ : ByteArray) ++ t640) ++ (⟨#[44]⟩ : ByteArray)) ++ bt643.1).size + 1 ≤ 9223372036854775807 then ((spec_l01Cur_term.f kj37 s0_0 bt643.2.1 bt643.2.2 (wrap64 (a1 - 1))).bind fun bt646 => (if (((((⟨#[78, 111, 100, 101, 40]⟩ : ByteArray) ++ t640) ++ (⟨#[44]⟩ : ByteArray)) ++ bt643.1) ++ (⟨#[44]⟩ : ByteArray)).size + bt646.1.size ≤ 9223372036854775807 then (if ((((((⟨#[78, 111, 100, 101, 40]⟩ : ByteArray) ++ t640) ++ (⟨#[44]⟩ : ByteArray)) ++ bt643.1) ++ (⟨#[44]⟩ : ByteArray)) ++ bt646.1).size + 1 ≤ 9223372036854775807 then (some (((((((⟨#[78, 111, 100, 101, 40]⟩ : ByteArray) ++ t640) ++ (⟨#[44]⟩ : ByteArray)) ++ bt643.1) ++ (⟨#[44]⟩ : ByteArray)) ++ bt646.1) ++ (⟨#[41]⟩ : ByteArray), bt646.2.1, bt646.2.2)) else (none)) else (none))) else (none)) else (none))) else (none)) else (none)) = some (r1, r2, r3) := H
                            have A54 := Aside0.mk A540
                            clear A540
                            by_cases c55 : 5 + t640.size ≤ 9223372036854775807
                            · rw [if_pos c55] at H
                              have c55b0 := eq_true c55
                              have c55b1 : decide (5 + t640.size ≤ 9223372036854775807) = true := decide_eq_true c55
                              try have c55b2 : (9223372036854775807 < 5 + t640.size) = False := eq_false (Nat.not_lt.2 c55)
                              by_cases c56 : ((⟨#[78, 111, 100, 101, 40]⟩ : ByteArray) ++ t640).size + 1 ≤ 9223372036854775807
                              · rw [if_pos c56] at H
                                have c56b0 := eq_true c56
                                have c56b1 : decide (((⟨#[78, 111, 100, 101, 40]⟩ : ByteArray) ++ t640).size + 1 ≤ 9223372036854775807) = true := decide_eq_true c56
                                try have c56b2 : (9223372036854775807 < ((⟨#[78, 111, 100, 101, 40]⟩ : ByteArray) ++ t640).size + 1) = False := eq_false (Nat.not_lt.2 c56)
                                try have c56b3 : (9223372036854775807 < 5 + t640.size + 1) = False := (congrArg (fun n_ => (9223372036854775807 < n_)) (show 5 + t640.size + 1 = ((⟨#[78, 111, 100, 101, 40]⟩ : ByteArray) ++ t640).size + 1 by (simp only [ByteArray.size_append]; try rfl))).trans c56b2
                                replace H := Option.bind_eq_some_iff.mp H
                                obtain ⟨⟨t643, t644, t645⟩, A570, H⟩ := H
                                replace H : (if (((⟨#[78, 111, 100, 101, 40]⟩ : ByteArray) ++ t640) ++ (⟨#[44]⟩ : ByteArray)).size + t643.size ≤ 9223372036854775807 then (if ((((⟨#[78, 111, 100, 101, 40]⟩ : ByteArray) ++ t640) ++ (⟨#[44]⟩ : ByteArray)) ++ t643).size + 1 ≤ 9223372036854775807 then ((spec_l01Cur_term.f kj37 s0_0 t644 t645 (wrap64 (a1 - 1))).bind fun bt646 => (if (((((⟨#[78, 111, 100, 101, 40]⟩ : ByteArray) ++ t640) ++ (⟨#[44]⟩ : ByteArray)) ++ t643) ++ (⟨#[44]⟩ : ByteArray)).size + bt646.1.size ≤ 9223372036854775807 then (if ((((((⟨#[78, 111, 100, 101, 40]⟩ : ByteArray) ++ t640) ++ (⟨#[44]⟩ : ByteArray)) ++ t643) ++ (⟨#[44]⟩ : ByteArray)) ++ bt646.1).size + 1 ≤ 9223372036854775807 then (some (((((((⟨#[78, 111, 100, 101, 40]⟩ : ByteArray) ++ t640) ++ (⟨#[44]⟩ : ByteArray)) ++ t643) ++ (⟨#[44]⟩ : ByteArray)) ++ bt646.1) ++ (⟨#[41]⟩ : ByteArray), bt646.2.1, bt646.2.2)) else (none)) else (none))) else (none)) else (none)) = some (r1, r2, r3) := H
                                have A57 := Aside0.mk A570
                                clear A570
                                by_cases c58 : (((⟨#[78, 111, 100, 101, 40]⟩ : ByteArray) ++ t640) ++ (⟨#[44]⟩ : ByteArray)).size + t643.size ≤ 9223372036854775807
                                · rw [if_pos c58] at H
                                  have c58b0 := eq_true c58
                                  have c58b1 : decide ((((⟨#[78, 111, 100, 101, 40]⟩ : ByteArray) ++ t640) ++ (⟨#[44]⟩ : ByteArray)).size + t643.size ≤ 9223372036854775807) = true := decide_eq_true c58
                                  try have c58b2 : (9223372036854775807 < (((⟨#[78, 111, 100, 101, 40]⟩ : ByteArray) ++ t640) ++ (⟨#[44]⟩ : ByteArray)).size + t643.size) = False := eq_false (Nat.not_lt.2 c58)
                                  try have c58b3 : (9223372036854775807 < 5 + t640.size + 1 + t643.size) = False := (congrArg (fun n_ => (9223372036854775807 < n_)) (show 5 + t640.size + 1 + t643.size = (((⟨#[78, 111, 100, 101, 40]⟩ : ByteArray) ++ t640) ++ (⟨#[44]⟩ : ByteArray)).size + t643.size by (simp only [ByteArray.size_append]; try rfl))).trans c58b2
                                  by_cases c59 : ((((⟨#[78, 111, 100, 101, 40]⟩ : ByteArray) ++ t640) ++ (⟨#[44]⟩ : ByteArray)) ++ t643).size + 1 ≤ 9223372036854775807
                                  · rw [if_pos c59] at H
                                    have c59b0 := eq_true c59
                                    have c59b1 : decide (((((⟨#[78, 111, 100, 101, 40]⟩ : ByteArray) ++ t640) ++ (⟨#[44]⟩ : ByteArray)) ++ t643).size + 1 ≤ 9223372036854775807) = true := decide_eq_true c59
                                    try have c59b2 : (9223372036854775807 < ((((⟨#[78, 111, 100, 101, 40]⟩ : ByteArray) ++ t640) ++ (⟨#[44]⟩ : ByteArray)) ++ t643).size + 1) = False := eq_false (Nat.not_lt.2 c59)
                                    try have c59b3 : (9223372036854775807 < 5 + t640.size + 1 + t643.size + 1) = False := (congrArg (fun n_ => (9223372036854775807 < n_)) (show 5 + t640.size + 1 + t643.size + 1 = ((((⟨#[78, 111, 100, 101, 40]⟩ : ByteArray) ++ t640) ++ (⟨#[44]⟩ : ByteArray)) ++ t643).size + 1 by (simp only [ByteArray.size_append]; try rfl))).trans c59b2
                                    replace H := Option.bind_eq_some_iff.mp H
                                    obtain ⟨⟨t646, t647, t648⟩, A600, H⟩ := H
                                    replace H : (if (((((⟨#[78, 111, 100, 101, 40]⟩ : ByteArray) ++ t640) ++ (⟨#[44]⟩ : ByteArray)) ++ t643) ++ (⟨#[44]⟩ : ByteArray)).size + t646.size ≤ 9223372036854775807 then (if ((((((⟨#[78, 111, 100, 101, 40]⟩ : ByteArray) ++ t640) ++ (⟨#[44]⟩ : ByteArray)) ++ t643) ++ (⟨#[44]⟩ : ByteArray)) ++ t646).size + 1 ≤ 9223372036854775807 then (some (((((((⟨#[78, 111, 100, 101, 40]⟩ : ByteArray) ++ t640) ++ (⟨#[44]⟩ : ByteArray)) ++ t643) ++ (⟨#[44]⟩ : ByteArray)) ++ t646) ++ (⟨#[41]⟩ : ByteArray), t647, t648)) else (none)) else (none)) = some (r1, r2, r3) := H
                                    have A60 := Aside0.mk A600
                                    clear A600
                                    by_cases c61 : (((((⟨#[78, 111, 100, 101, 40]⟩ : ByteArray) ++ t640) ++ (⟨#[44]⟩ : ByteArray)) ++ t643) ++ (⟨#[44]⟩ : ByteArray)).size + t646.size ≤ 9223372036854775807
                                    · rw [if_pos c61] at H
                                      have c61b0 := eq_true c61
                                      have c61b1 : decide ((((((⟨#[78, 111, 100, 101, 40]⟩ : ByteArray) ++ t640) ++ (⟨#[44]⟩ : ByteArray)) ++ t643) ++ (⟨#[44]⟩ : ByteArray)).size + t646.size ≤ 9223372036854775807) = true := decide_eq_true c61
                                      try have c61b2 : (9223372036854775807 < (((((⟨#[78, 111, 100, 101, 40]⟩ : ByteArray) ++ t640) ++ (⟨#[44]⟩ : ByteArray)) ++ t643) ++ (⟨#[44]⟩ : ByteArray)).size + t646.size) = False := eq_false (Nat.not_lt.2 c61)
                                      try have c61b3 : (9223372036854775807 < 5 + t640.size + 1 + t643.size + 1 + t646.size) = False := (congrArg (fun n_ => (9223372036854775807 < n_)) (show 5 + t640.size + 1 + t643.size + 1 + t646.size = (((((⟨#[78, 111, 100, 101, 40]⟩ : ByteArray) ++ t640) ++ (⟨#[44]⟩ : ByteArray)) ++ t643) ++ (⟨#[44]⟩ : ByteArray)).size + t646.size by (simp only [ByteArray.size_append]; try rfl))).trans c61b2
                                      by_cases c62 : ((((((⟨#[78, 111, 100, 101, 40]⟩ : ByteArray) ++ t640) ++ (⟨#[44]⟩ : ByteArray)) ++ t643) ++ (⟨#[44]⟩ : ByteArray)) ++ t646).size + 1 ≤ 9223372036854775807
                                      · rw [if_pos c62] at H
                                        have c62b0 := eq_true c62
                                        have c62b1 : decide (((((((⟨#[78, 111, 100, 101, 40]⟩ : ByteArray) ++ t640) ++ (⟨#[44]⟩ : ByteArray)) ++ t643) ++ (⟨#[44]⟩ : ByteArray)) ++ t646).size + 1 ≤ 9223372036854775807) = true := decide_eq_true c62
                                        try have c62b2 : (9223372036854775807 < ((((((⟨#[78, 111, 100, 101, 40]⟩ : ByteArray) ++ t640) ++ (⟨#[44]⟩ : ByteArray)) ++ t643) ++ (⟨#[44]⟩ : ByteArray)) ++ t646).size + 1) = False := eq_false (Nat.not_lt.2 c62)
                                        try have c62b3 : (9223372036854775807 < 5 + t640.size + 1 + t643.size + 1 + t646.size + 1) = False := (congrArg (fun n_ => (9223372036854775807 < n_)) (show 5 + t640.size + 1 + t643.size + 1 + t646.size + 1 = ((((((⟨#[78, 111, 100, 101, 40]⟩ : ByteArray) ++ t640) ++ (⟨#[44]⟩ : ByteArray)) ++ t643) ++ (⟨#[44]⟩ : ByteArray)) ++ t646).size + 1 by (simp only [ByteArray.size_append]; try rfl))).trans c62b2
                                        simp only [Option.some.injEq, Prod.mk.injEq] at H
                                        obtain ⟨rfl, rfl, rfl⟩ := H
                                        go_wp2_with (first | ((with_reducible refine gate_callee (f := 117) rfl ?_); refine goesL_ (some 67) rfl rfl Tryd.func117 (by kernel_rfl) rfl #[.pointer (some ⟨g, 0, none⟩), .int .i64 (wrap64 (a1 - 1))] rfl (by (try simp only [List.map_toArray, List.map_cons, List.map_nil]); first | done | rfl | (simp only [List.length_drop, List.length_take]; rfl)) ?_; (with_reducible refine (ih kj37 (by have := HJ3.out; have := HJ6.out; have := HJ8.out; have := HJ37.out; omega) g s0_0 t607 t608 (wrap64 (a1 - 1)) t640 t641 t642 w0 _ ?side1 ?side2 A54.out).mono ?_); (case side1 => repeat (first | (with_reducible first | exact HI0.out | apply IsS92.alloc | apply IsS92.drewN | apply IsS92.drew | apply IsS92.set_1 | apply IsS92.set_2) | exact HI0.out)); (case side2 => repeat (first | (with_reducible first | exact HB.out | apply below_alloc | apply pw_below_drewN | apply below_drew1 | refine below_set ?_ (IsS92.ge HI0.out)) | exact HB.out)); rintro e w63 ⟨rfl, hi, hb, hk⟩; refine ⟨_, rfl, ?_⟩; have n0_ := Aside0.mk (KeepBut.trans (by repeat (first | (with_reducible first | exact HK.out | apply KeepBut.set_ | apply keep_drewN | apply keep_drew | apply keep_alloc) | exact HK.out)) hk (.inl rfl)); have n1_ := Aside0.mk (hb); have n2_ := Aside0.mk (hi); clear HK; clear HB; clear HI0; have HK := n0_; have HB := n1_; have HI0 := n2_; clear n0_ n1_ n2_; (try clear hb); (try clear hb2); (try clear hk); (try clear hi)) | ((with_reducible refine gate_callee (f := 117) rfl ?_); refine goesL_ (some 73) rfl rfl Tryd.func117 (by kernel_rfl) rfl #[.pointer (some ⟨g, 0, none⟩), .int .i64 (wrap64 (a1 - 1))] rfl (by (try simp only [List.map_toArray, List.map_cons, List.map_nil]); first | done | rfl | (simp only [List.length_drop, List.length_take]; rfl)) ?_; (with_reducible refine (ih kj37 (by have := HJ3.out; have := HJ6.out; have := HJ8.out; have := HJ37.out; omega) g s0_0 t641 t642 (wrap64 (a1 - 1)) t643 t644 t645 w0 _ ?side1 ?side2 A57.out).mono ?_); (case side1 => repeat (first | (with_reducible first | exact HI0.out | apply IsS92.alloc | apply IsS92.drewN | apply IsS92.drew | apply IsS92.set_1 | apply IsS92.set_2) | exact HI0.out)); (case side2 => repeat (first | (with_reducible first | exact HB.out | apply below_alloc | apply pw_below_drewN | apply below_drew1 | refine below_set ?_ (IsS92.ge HI0.out)) | exact HB.out)); rintro e w64 ⟨rfl, hi, hb, hk⟩; refine ⟨_, rfl, ?_⟩; have n0_ := Aside0.mk (KeepBut.trans (by repeat (first | (with_reducible first | exact HK.out | apply KeepBut.set_ | apply keep_drewN | apply keep_drew | apply keep_alloc) | exact HK.out)) hk (.inl rfl)); have n1_ := Aside0.mk (hb); have n2_ := Aside0.mk (hi); clear HK; clear HB; clear HI0; have HK := n0_; have HB := n1_; have HI0 := n2_; clear n0_ n1_ n2_; (try clear hb); (try clear hb2); (try clear hk); (try clear hi)) | ((with_reducible refine gate_callee (f := 117) rfl ?_); refine goesL_ (some 79) rfl rfl Tryd.func117 (by kernel_rfl) rfl #[.pointer (some ⟨g, 0, none⟩), .int .i64 (wrap64 (a1 - 1))] rfl (by (try simp only [List.map_toArray, List.map_cons, List.map_nil]); first | done | rfl | (simp only [List.length_drop, List.length_take]; rfl)) ?_; (with_reducible refine (ih kj37 (by have := HJ3.out; have := HJ6.out; have := HJ8.out; have := HJ37.out; omega) g s0_0 t644 t645 (wrap64 (a1 - 1)) t646 t647 t648 w0 _ ?side1 ?side2 A60.out).mono ?_); (case side1 => repeat (first | (with_reducible first | exact HI0.out | apply IsS92.alloc | apply IsS92.drewN | apply IsS92.drew | apply IsS92.set_1 | apply IsS92.set_2) | exact HI0.out)); (case side2 => repeat (first | (with_reducible first | exact HB.out | apply below_alloc | apply pw_below_drewN | apply below_drew1 | refine below_set ?_ (IsS92.ge HI0.out)) | exact HB.out)); rintro e w65 ⟨rfl, hi, hb, hk⟩; refine ⟨_, rfl, ?_⟩; have n0_ := Aside0.mk (KeepBut.trans (by repeat (first | (with_reducible first | exact HK.out | apply KeepBut.set_ | apply keep_drewN | apply keep_drew | apply keep_alloc) | exact HK.out)) hk (.inl rfl)); have n1_ := Aside0.mk (hb); have n2_ := Aside0.mk (hi); clear HK; clear HB; clear HI0; have HK := n0_; have HB := n1_; have HI0 := n2_; clear n0_ n1_ n2_; (try clear hb); (try clear hb2); (try clear hk); (try clear hi)))
                                        go_ret
                                        exact ⟨by first | rfl | (simp [errW_none, errW_some] <;> rfl) | (simp [*, errW_none, errW_some] <;> rfl), by repeat (first | (with_reducible first | exact HI0.out | apply IsS92.alloc | apply IsS92.drewN | apply IsS92.drew | apply IsS92.set_1 | apply IsS92.set_2) | exact HI0.out), by repeat (first | (with_reducible first | exact HB.out | apply below_alloc | apply pw_below_drewN | apply below_drew1 | refine below_set ?_ (IsS92.ge HI0.out)) | exact HB.out), by repeat (first | (with_reducible first | exact HK.out | apply KeepBut.set_ | apply keep_drewN | apply keep_drew | apply keep_alloc) | exact HK.out)⟩
                                      · rw [if_neg c62] at H
                                        exact absurd H (by simp)
                                    · rw [if_neg c61] at H
                                      exact absurd H (by simp)
                                  · rw [if_neg c59] at H
                                    exact absurd H (by simp)
                                · rw [if_neg c58] at H
                                  exact absurd H (by simp)
                              · rw [if_neg c56] at H
                                exact absurd H (by simp)
                            · rw [if_neg c55] at H
                              exact absurd H (by simp)
def spec_l01Cur_once.f (s0_0 : List Int) (s0_1 : Int) (s0_2 : Int) (a1 : Int) : Option (Bool × Int × Int) := (spec_l01Cur_pick.f s0_0 s0_1 s0_2 a1).bind fun bt649 => (some ((bt649.1 == (wrap64 (a1 - 1))), bt649.2.1, bt649.2.2))
set_option maxHeartbeats 8000000 in
set_option maxRecDepth 100000 in
theorem spec_l01Cur_once.calls (g : Nat) (s0_0 : List Int) (s0_1 : Int) (s0_2 : Int) (a1 : Int) (r1 : Bool) (r2 : Int) (r3 : Int) (w0 w : World) (hI : IsS92 w0 w g s0_0 s0_1 s0_2) (hB : Below w0.heap.size w0 w) (h : spec_l01Cur_once.f s0_0 s0_1 s0_2 a1 = some (r1, r2, r3)) :
    Calls Tryd.prog 118 #[.pointer (some ⟨g, 0, none⟩), .int .i64 a1] w fun e w' => e = .returned (.bool r1) ∧ IsS92 w0 w' g s0_0 r2 r3 ∧ Below w0.heap.size w0 w' ∧ KeepBut w w' g none := by
  have HI0 := Aside0.mk hI
  have HK := Aside0.mk (KeepBut.refl w g none)
  have HL := Aside0.mk hB.size
  clear hI
  have HW0 := Aside0.mk hB.size
  have HB := Aside0.mk hB
  clear hB
  have H : ((spec_l01Cur_pick.f s0_0 s0_1 s0_2 a1).bind fun bt649 => (some ((bt649.1 == (wrap64 (a1 - 1))), bt649.2.1, bt649.2.2))) = some (r1, r2, r3) := h
  clear h
  replace H := Option.bind_eq_some_iff.mp H
  obtain ⟨⟨t649, t650, t651⟩, A30, H⟩ := H
  replace H : (some ((t649 == (wrap64 (a1 - 1))), t650, t651)) = some (r1, r2, r3) := H
  have A3 := Aside0.mk A30
  clear A30
  simp only [Option.some.injEq, Prod.mk.injEq] at H
  obtain ⟨rfl, rfl, rfl⟩ := H
  go_enter Tryd.func118, Tryd.ntmps118
  go_wp2_with (first | ((with_reducible refine gate_callee (f := 70) rfl ?_); refine goesL_ (some 7) rfl rfl Tryd.func70 (by kernel_rfl) rfl #[.pointer (some ⟨g, 0, none⟩), .int .i64 a1] rfl (by (try simp only [List.map_toArray, List.map_cons, List.map_nil]); first | done | rfl | (simp only [List.length_drop, List.length_take]; rfl)) ?_; (with_reducible refine (spec_l01Cur_pick.calls g s0_0 s0_1 s0_2 a1 t649 t650 t651 w0 _ ?side1 ?side2 A3.out).mono ?_); (case side1 => repeat (first | (with_reducible first | exact HI0.out | apply IsS92.alloc | apply IsS92.drewN | apply IsS92.drew | apply IsS92.set_1 | apply IsS92.set_2) | exact HI0.out)); (case side2 => repeat (first | (with_reducible first | exact HB.out | apply below_alloc | apply pw_below_drewN | apply below_drew1 | refine below_set ?_ (IsS92.ge HI0.out)) | exact HB.out)); rintro e w4 ⟨rfl, hi, hb, hk⟩; refine ⟨_, rfl, ?_⟩; have n0_ := Aside0.mk (KeepBut.trans (by repeat (first | (with_reducible first | exact HK.out | apply KeepBut.set_ | apply keep_drewN | apply keep_drew | apply keep_alloc) | exact HK.out)) hk (.inl rfl)); have n1_ := Aside0.mk (hb); have n2_ := Aside0.mk (hi); clear HK; clear HB; clear HI0; have HK := n0_; have HB := n1_; have HI0 := n2_; clear n0_ n1_ n2_; (try clear hb); (try clear hb2); (try clear hk); (try clear hi)))
  go_ret
  exact ⟨by first | rfl | (simp [errW_none, errW_some] <;> rfl) | (simp [*, errW_none, errW_some] <;> rfl), by repeat (first | (with_reducible first | exact HI0.out | apply IsS92.alloc | apply IsS92.drewN | apply IsS92.drew | apply IsS92.set_1 | apply IsS92.set_2) | exact HI0.out), by repeat (first | (with_reducible first | exact HB.out | apply below_alloc | apply pw_below_drewN | apply below_drew1 | refine below_set ?_ (IsS92.ge HI0.out)) | exact HB.out), by repeat (first | (with_reducible first | exact HK.out | apply KeepBut.set_ | apply keep_drewN | apply keep_drew | apply keep_alloc) | exact HK.out)⟩
end Go.Proofs.YtebadckdihgklaaDoor.Pb
end
section
namespace Go.Proofs.YtebadckdihgklaaDoor.Pb
open Go.RowKit Go.Proofs.YtebadckdihgklaaDoorW.PrintWords Go.Proofs.YtebadckdihgklaaDoorW.PrintLast Go.Proofs.YtebadckdihgklaaDoorW.PrintMore
attribute [local go_sem] max2_int min2_int max_two min_two max_three min_three max_four min_four   -- for this text's walks alone
set_option linter.unusedVariables false
set_option linter.unusedSimpArgs false
mutual
def spec_l01Cur_any.j0 : Nat → ByteArray → List Int → Int → Int → Option (ByteArray × Int × Int)
  | 0, _, _, _, _ => none
  | k + 1, x3, x1000, x1001, x1002 => (spec_l01Cur_once.f x1000 x1001 x1002 5).bind fun bt655 => (if bt655.1 = true then ((spec_l01Cur_pick.f x1000 bt655.2.1 bt655.2.2 3).bind fun bt658 => (if bt658.1 = 0 then ((some (([(⟨#[]⟩ : ByteArray), (⟨#[48, 49]⟩ : ByteArray), (⟨#[45, 48]⟩ : ByteArray), (⟨#[49, 48, 48, 48, 48, 48, 49]⟩ : ByteArray), (⟨#[120]⟩ : ByteArray), (⟨#[78, 105, 108, 40, 41]⟩ : ByteArray), (⟨#[78, 105, 108, 40]⟩ : ByteArray), (⟨#[67, 111, 110, 115, 40, 49, 44, 41]⟩ : ByteArray), (⟨#[67, 111, 110, 115, 40, 49]⟩ : ByteArray), (⟨#[34, 97]⟩ : ByteArray), (⟨#[97, 34]⟩ : ByteArray), (⟨#[34, 97, 34, 98, 34]⟩ : ByteArray), (⟨#[34, 92, 34]⟩ : ByteArray), (⟨#[83, 32, 40, 49, 41]⟩ : ByteArray), (⟨#[83, 40, 49, 41, 41]⟩ : ByteArray), (⟨#[83, 40, 120, 41]⟩ : ByteArray), (⟨#[65, 98, 99, 100, 101, 102, 103, 104, 105, 106, 107, 108, 109, 110, 111, 112, 113, 114, 115, 116, 117]⟩ : ByteArray), (⟨#[34, 97, 98, 99, 100, 101, 102, 103, 104, 105, 106, 107, 108, 109, 110, 111, 112, 113, 114, 115, 116, 117, 34]⟩ : ByteArray), (⟨#[45]⟩ : ByteArray), (⟨#[45, 45, 49]⟩ : ByteArray), (⟨#[65, 95, 49, 40, 34, 41, 44, 40, 34, 41]⟩ : ByteArray), (⟨#[43, 49]⟩ : ByteArray)] : List ByteArray) : List ByteArray)).bind fun y661 => ((spec_l01Cur_pick.f x1000 bt658.2.1 bt658.2.2 22).bind fun bt664 => (if 0 ≤ bt664.1 then (if bt664.1 < (y661.length : Int) then (some (rdOf ByteArray.empty y661 bt664.1, bt664.2.1, bt664.2.2)) else (none)) else (none)))) else (if bt658.1 = 1 then ((spec_l01Cur_pick.f x1000 bt658.2.1 bt658.2.2 (wrap64 ((x3.size : Int) + 1))).bind fun bt668 => (if 0 ≤ bt668.1 then (if bt668.1 ≤ (x3.size : Int) then ((some (([(⟨#[40]⟩ : ByteArray), (⟨#[41]⟩ : ByteArray), (⟨#[44]⟩ : ByteArray), (⟨#[34]⟩ : ByteArray), (⟨#[49]⟩ : ByteArray), (⟨#[32]⟩ : ByteArray)] : List ByteArray) : List ByteArray)).bind fun y671 => ((spec_l01Cur_pick.f x1000 bt668.2.1 bt668.2.2 6).bind fun bt674 => (if 0 ≤ bt674.1 then (if bt674.1 < (y671.length : Int) then (if (x3.extract 0 (bt668.1 : Int).toNat).size + (rdOf ByteArray.empty y671 bt674.1).size ≤ 9223372036854775807 then (if ((x3.extract 0 (bt668.1 : Int).toNat) ++ (rdOf ByteArray.empty y671 bt674.1)).size + (x3.extract (bt668.1 : Int).toNat x3.size).size ≤ 9223372036854775807 then (some (((x3.extract 0 (bt668.1 : Int).toNat) ++ (rdOf ByteArray.empty y671 bt674.1)) ++ (x3.extract (bt668.1 : Int).toNat x3.size), bt674.2.1, bt674.2.2)) else (none)) else (none)) else (none)) else (none)))) else (none)) else (none))) else (spec_l01Cur_any.l0 k x3 x1000 bt658.2.1 bt658.2.2)))) else (some (x3, bt655.2.1, bt655.2.2)))
def spec_l01Cur_any.l0 : Nat → ByteArray → List Int → Int → Int → Option (ByteArray × Int × Int)
  | 0, _, _, _, _ => none
  | k + 1, x3, x1000, x1001, x1002 => if (x3.size : Int) ≤ 200 then (if 2 + x3.size ≤ 9223372036854775807 then (if ((⟨#[83, 40]⟩ : ByteArray) ++ x3).size + 1 ≤ 9223372036854775807 then (spec_l01Cur_any.l0 k (((⟨#[83, 40]⟩ : ByteArray) ++ x3) ++ (⟨#[41]⟩ : ByteArray)) x1000 x1001 x1002) else (none)) else (none)) else (some (x3, x1001, x1002))
end
def spec_l01Cur_any.f (k : Nat) (s0_0 : List Int) (s0_1 : Int) (s0_2 : Int) : Option (ByteArray × Int × Int) := (spec_l01Cur_term.f k s0_0 s0_1 s0_2 2).bind fun bt652 => (if (bt652.1.size : Int) > 200 then (spec_l01Cur_any.j0 k (⟨#[78, 105, 108]⟩ : ByteArray) s0_0 bt652.2.1 bt652.2.2) else (spec_l01Cur_any.j0 k bt652.1 s0_0 bt652.2.1 bt652.2.2))
def spec_l01Cur_any.T10 : Bool × List (List Nat × List Nat) := (true, [([], []), ([], []), ([0, 1], [0, 1]), ([], []), ([], []), ([4], [4]), ([3, 5], [3, 5]), ([6], [6]), ([2, 7], [2, 7]), ([], []), ([], []), ([9, 10], [9, 10]), ([8, 11], [8, 11]), ([12, 5, 0, 1, 2, 3, 4, 5, 6, 7, 8, 9, 10, 11, 12], [12])])
def spec_l01Cur_any.B10 : List Nat := [0, 0, 3, 0, 0, 16, 56, 120, 255, 0, 0, 1536, 4095, 8191]
theorem spec_l01Cur_any.tab10 : rtab .any (opsOf Tryd.f93 10) = spec_l01Cur_any.T10 := by kernel_rfl
theorem spec_l01Cur_any.bits10 : waitsOk spec_l01Cur_any.T10.2 spec_l01Cur_any.B10 = true := by kernel_rfl
set_option maxHeartbeats 8000000 in
set_option maxRecDepth 100000 in
theorem spec_l01Cur_any.calls (k : Nat) (g : Nat) (s0_0 : List Int) (s0_1 : Int) (s0_2 : Int) (r1 : ByteArray) (r2 : Int) (r3 : Int) (w0 w : World) (hI : IsS92 w0 w g s0_0 s0_1 s0_2) (hB : Below w0.heap.size w0 w) (h : spec_l01Cur_any.f k s0_0 s0_1 s0_2 = some (r1, r2, r3)) :
    Calls Tryd.prog 93 #[.pointer (some ⟨g, 0, none⟩)] w fun e w' => e = .returned (.string r1) ∧ IsS92 w0 w' g s0_0 r2 r3 ∧ Below w0.heap.size w0 w' ∧ KeepBut w w' g none := by
  have HI0 := Aside0.mk hI
  have HK := Aside0.mk (KeepBut.refl w g none)
  have HL := Aside0.mk hB.size
  clear hI
  have HW0 := Aside0.mk hB.size
  have HB := Aside0.mk hB
  clear hB
  have H : ((spec_l01Cur_term.f k s0_0 s0_1 s0_2 2).bind fun bt652 => (if (bt652.1.size : Int) > 200 then (spec_l01Cur_any.j0 k (⟨#[78, 105, 108]⟩ : ByteArray) s0_0 bt652.2.1 bt652.2.2) else (spec_l01Cur_any.j0 k bt652.1 s0_0 bt652.2.1 bt652.2.2))) = some (r1, r2, r3) := h
  clear h
  replace H := Option.bind_eq_some_iff.mp H
  obtain ⟨⟨t652, t653, t654⟩, A20, H⟩ := H
  replace H : (if (t652.size : Int) > 200 then (spec_l01Cur_any.j0 k (⟨#[78, 105, 108]⟩ : ByteArray) s0_0 t653 t654) else (spec_l01Cur_any.j0 k t652 s0_0 t653 t654)) = some (r1, r2, r3) := H
  have A2 := Aside0.mk A20
  clear A20
  have HC3 := Aside0.mk H
  clear H
  go_enter Tryd.func93, Tryd.ntmps93
  go_upto_if 9 with (first | ((with_reducible refine gate_callee (f := 117) rfl ?_); refine goesL_ (some 6) rfl rfl Tryd.func117 (by kernel_rfl) rfl #[.pointer (some ⟨g, 0, none⟩), .int .i64 2] rfl (by (try simp only [List.map_toArray, List.map_cons, List.map_nil]); first | done | rfl | (simp only [List.length_drop, List.length_take]; rfl)) ?_; (with_reducible refine (spec_l01Cur_term.calls k g s0_0 s0_1 s0_2 2 t652 t653 t654 w0 _ ?side1 ?side2 A2.out).mono ?_); (case side1 => repeat (first | (with_reducible first | exact HI0.out | apply IsS92.alloc | apply IsS92.drewN | apply IsS92.drew | apply IsS92.set_1 | apply IsS92.set_2) | exact HI0.out)); (case side2 => repeat (first | (with_reducible first | exact HB.out | apply below_alloc | apply pw_below_drewN | apply below_drew1 | refine below_set ?_ (IsS92.ge HI0.out)) | exact HB.out)); rintro e w4 ⟨rfl, hi, hb, hk⟩; refine ⟨_, rfl, ?_⟩; have n0_ := Aside0.mk (KeepBut.trans (by repeat (first | (with_reducible first | exact HK.out | apply KeepBut.set_ | apply keep_drewN | apply keep_drew | apply keep_alloc) | exact HK.out)) hk (.inl rfl)); have n1_ := Aside0.mk (hb); have n2_ := Aside0.mk (hi); clear HK; clear HB; clear HI0; have HK := n0_; have HB := n1_; have HI0 := n2_; clear n0_ n1_ n2_; (try clear hb); (try clear hb2); (try clear hk); (try clear hi)))
  (try simp only [Act.put, List.setIfInBounds_toArray, List.set_cons_zero, List.set_cons_succ])
  go_cut [3] (fun v3 wc => ∃ (kq : Nat) (x3_2 : ByteArray), v3 = .string x3_2 ∧ Aside0 (spec_l01Cur_any.j0 kq x3_2 s0_0 t653 t654 = some (r1, r2, r3)) ∧ Aside0 (kq ≤ k) ∧ Aside0 (IsS92 w0 wc g s0_0 t653 t654) ∧ Aside0 (KeepBut w wc g none) ∧ Aside0 (Below w0.heap.size w0 wc))
  case first =>
    have H := HC3.out
    clear HC3
    by_cases c5 : (t652.size : Int) > 200
    · rw [if_pos c5] at H
      have c5b0 : decide (200 < (t652.size : Int)) = true := decide_eq_true c5
      have c5b1 : decide (200 < t652.size) = true := decide_eq_true (by omega)
      clear c5
      (first | rw [c5b0] | (simp only [i64_w, i32_w]; rw [c5b0]) | skip)
      have H' := Aside0.mk H
      clear H
      go_wp2
      go_meet
      case rel => exact ⟨_, ((⟨#[78, 105, 108]⟩ : ByteArray)), (by first | rfl | (simp; done) | (simp [*]; done)), H', ⟨by first | omega | exact Nat.le_refl _⟩, ⟨by repeat (first | (with_reducible first | exact HI0.out | apply IsS92.alloc | apply IsS92.drewN | apply IsS92.drew | apply IsS92.set_1 | apply IsS92.set_2) | exact HI0.out)⟩, ⟨by repeat (first | (with_reducible first | exact HK.out | apply KeepBut.set_ | apply keep_drewN | apply keep_drew | apply keep_alloc) | exact HK.out)⟩, ⟨by repeat (first | (with_reducible first | exact HB.out | apply below_alloc | apply pw_below_drewN | apply below_drew1 | refine below_set ?_ (IsS92.ge HI0.out)) | exact HB.out)⟩⟩
    · rw [if_neg c5] at H
      have c5b0 : decide (200 < (t652.size : Int)) = false := decide_eq_false c5
      have c5b1 : decide (200 < t652.size) = false := decide_eq_false (by omega)
      clear c5
      (first | rw [c5b0] | (simp only [i64_w, i32_w]; rw [c5b0]) | skip)
      have H' := Aside0.mk H
      clear H
      go_wp2
      go_meet
      case rel => exact ⟨_, (t652), (by first | rfl | (simp; done) | (simp [*]; done)), H', ⟨by first | omega | exact Nat.le_refl _⟩, ⟨by repeat (first | (with_reducible first | exact HI0.out | apply IsS92.alloc | apply IsS92.drewN | apply IsS92.drew | apply IsS92.set_1 | apply IsS92.set_2) | exact HI0.out)⟩, ⟨by repeat (first | (with_reducible first | exact HK.out | apply KeepBut.set_ | apply keep_drewN | apply keep_drew | apply keep_alloc) | exact HK.out)⟩, ⟨by repeat (first | (with_reducible first | exact HB.out | apply below_alloc | apply pw_below_drewN | apply below_drew1 | refine below_set ?_ (IsS92.ge HI0.out)) | exact HB.out)⟩⟩
  case rest =>
    clear HC3
    try clear c1
    try clear p2
    try clear c5
    try clear c5b0
    try clear c5b1
    obtain ⟨kq, x3_2, rfl, HA, HJ2, HI0, HK, HB⟩ := hcut
    cases kq with
    | zero => exact absurd HA.out (by simp [spec_l01Cur_any.j0])
    | succ kj2 =>
      have H := HA.out
      clear HA
      simp only [spec_l01Cur_any.j0] at H
      replace H := Option.bind_eq_some_iff.mp H
      obtain ⟨⟨t655, t656, t657⟩, A60, H⟩ := H
      replace H : (if t655 = true then ((spec_l01Cur_pick.f s0_0 t656 t657 3).bind fun bt658 => (if bt658.1 = 0 then ((some (([(⟨#[]⟩ : ByteArray), (⟨#[48, 49]⟩ : ByteArray), (⟨#[45, 48]⟩ : ByteArray), (⟨#[49, 48, 48, 48, 48, 48, 49]⟩ : ByteArray), (⟨#[120]⟩ : ByteArray), (⟨#[78, 105, 108, 40, 41]⟩ : ByteArray), (⟨#[78, 105, 108, 40]⟩ : ByteArray), (⟨#[67, 111, 110, 115, 40, 49, 44, 41]⟩ : ByteArray), (⟨#[67, 111, 110, 115, 40, 49]⟩ : ByteArray), (⟨#[34, 97]⟩ : ByteArray), (⟨#[97, 34]⟩ : ByteArray), (⟨#[34, 97, 34, 98, 34]⟩ : ByteArray), (⟨#[34, 92, 34]⟩ : ByteArray), (⟨#[83, 32, 40, 49, 41]⟩ : ByteArray), (⟨#[83, 40, 49, 41, 41]⟩ : ByteArray), (⟨#[83, 40, 120, 41]⟩ : ByteArray), (⟨#[65, 98, 99, 100, 101, 102, 103, 104, 105, 106, 107, 108, 109, 110, 111, 112, 113, 114, 115, 116, 117]⟩ : ByteArray), (⟨#[34, 97, 98, 99, 100, 101, 102, 103, 104, 105, 106, 107, 108, 109, 110, 111, 112, 113, 114, 115, 116, 117, 34]⟩ : ByteArray), (⟨#[45]⟩ : ByteArray), (⟨#[45, 45, 49]⟩ : ByteArray), (⟨#[65, 95, 49, 40, 34, 41, 44, 40, 34, 41]⟩ : ByteArray), (⟨#[43, 49]⟩ : ByteArray)] : List ByteArray) : List ByteArray)).bind fun y661 => ((spec_l01Cur_pick.f s0_0 bt658.2.1 bt658.2.2 22).bind fun bt664 => (if 0 ≤ bt664.1 then (if bt664.1 < (y661.length : Int) then (some (rdOf ByteArray.empty y661 bt664.1, bt664.2.1, bt664.2.2)) else (none)) else (none)))) else (if bt658.1 = 1 then ((spec_l01Cur_pick.f s0_0 bt658.2.1 bt658.2.2 (wrap64 ((x3_2.size : Int) + 1))).bind fun bt668 => (if 0 ≤ bt668.1 then (if bt668.1 ≤ (x3_2.size : Int) then ((some (([(⟨#[40]⟩ : ByteArray), (⟨#[41]⟩ : ByteArray), (⟨#[44]⟩ : ByteArray), (⟨#[34]⟩ : ByteArray), (⟨#[49]⟩ : ByteArray), (⟨#[32]⟩ : ByteArray)] : List ByteArray) : List ByteArray)).bind fun y671 => ((spec_l01Cur_pick.f s0_0 bt668.2.1 bt668.2.2 6).bind fun bt674 => (if 0 ≤ bt674.1 then (if bt674.1 < (y671.length : Int) then (if (x3_2.extract 0 (bt668.1 : Int).toNat).size + (rdOf ByteArray.empty y671 bt674.1).size ≤ 9223372036854775807 then (if ((x3_2.extract 0 (bt668.1 : Int).toNat) ++ (rdOf ByteArray.empty y671 bt674.1)).size + (x3_2.extract (bt668.1 : Int).toNat x3_2.size).size ≤ 9223372036854775807 then (some (((x3_2.extract 0 (bt668.1 : Int).toNat) ++ (rdOf ByteArray.empty y671 bt674.1)) ++ (x3_2.extract (bt668.1 : Int).toNat x3_2.size), bt674.2.1, bt674.2.2)) else (none)) else (none)) else (none)) else (none)))) else (none)) else (none))) else (spec_l01Cur_any.l0 kj2 x3_2 s0_0 bt658.2.1 bt658.2.2)))) else (some (x3_2, t656, t657))) = some (r1, r2, r3) := H
      have A6 := Aside0.mk A60
      clear A60
      by_cases c7 : t655 = true
      · subst c7
        have H1 : ((spec_l01Cur_pick.f s0_0 t656 t657 3).bind fun bt658 => (if bt658.1 = 0 then ((some (([(⟨#[]⟩ : ByteArray), (⟨#[48, 49]⟩ : ByteArray), (⟨#[45, 48]⟩ : ByteArray), (⟨#[49, 48, 48, 48, 48, 48, 49]⟩ : ByteArray), (⟨#[120]⟩ : ByteArray), (⟨#[78, 105, 108, 40, 41]⟩ : ByteArray), (⟨#[78, 105, 108, 40]⟩ : ByteArray), (⟨#[67, 111, 110, 115, 40, 49, 44, 41]⟩ : ByteArray), (⟨#[67, 111, 110, 115, 40, 49]⟩ : ByteArray), (⟨#[34, 97]⟩ : ByteArray), (⟨#[97, 34]⟩ : ByteArray), (⟨#[34, 97, 34, 98, 34]⟩ : ByteArray), (⟨#[34, 92, 34]⟩ : ByteArray), (⟨#[83, 32, 40, 49, 41]⟩ : ByteArray), (⟨#[83, 40, 49, 41, 41]⟩ : ByteArray), (⟨#[83, 40, 120, 41]⟩ : ByteArray), (⟨#[65, 98, 99, 100, 101, 102, 103, 104, 105, 106, 107, 108, 109, 110, 111, 112, 113, 114, 115, 116, 117]⟩ : ByteArray), (⟨#[34, 97, 98, 99, 100, 101, 102, 103, 104, 105, 106, 107, 108, 109, 110, 111, 112, 113, 114, 115, 116, 117, 34]⟩ : ByteArray), (⟨#[45]⟩ : ByteArray), (⟨#[45, 45, 49]⟩ : ByteArray), (⟨#[65, 95, 49, 40, 34, 41, 44, 40, 34, 41]⟩ : ByteArray), (⟨#[43, 49]⟩ : ByteArray)] : List ByteArray) : List ByteArray)).bind fun y661 => ((spec_l01Cur_pick.f s0_0 bt658.2.1 bt658.2.2 22).bind fun bt664 => (if 0 ≤ bt664.1 then (if bt664.1 < (y661.length : Int) then (some (rdOf ByteArray.empty y661 bt664.1, bt664.2.1, bt664.2.2)) else (none)) else (none)))) else (if bt658.1 = 1 then ((spec_l01Cur_pick.f s0_0 bt658.2.1 bt658.2.2 (wrap64 ((x3_2.size : Int) + 1))).bind fun bt668 => (if 0 ≤ bt668.1 then (if bt668.1 ≤ (x3_2.size : Int) then ((some (([(⟨#[40]⟩ : ByteArray), (⟨#[41]⟩ : ByteArray), (⟨#[44]⟩ : ByteArray), (⟨#[34]⟩ : ByteArray), (⟨#[49]⟩ : ByteArray), (⟨#[32]⟩ : ByteArray)] : List ByteArray) : List ByteArray)).bind fun y671 => ((spec_l01Cur_pick.f s0_0 bt668.2.1 bt668.2.2 6).bind fun bt674 => (if 0 ≤ bt674.1 then (if bt674.1 < (y671.length : Int) then (if (x3_2.extract 0 (bt668.1 : Int).toNat).size + (rdOf ByteArray.empty y671 bt674.1).size ≤ 9223372036854775807 then (if ((x3_2.extract 0 (bt668.1 : Int).toNat) ++ (rdOf ByteArray.empty y671 bt674.1)).size + (x3_2.extract (bt668.1 : Int).toNat x3_2.size).size ≤ 9223372036854775807 then (some (((x3_2.extract 0 (bt668.1 : Int).toNat) ++ (rdOf ByteArray.empty y671 bt674.1)) ++ (x3_2.extract (bt668.1 : Int).toNat x3_2.size), bt674.2.1, bt674.2.2)) else (none)) else (none)) else (none)) else (none)))) else (none)) else (none))) else (spec_l01Cur_any.l0 kj2 x3_2 s0_0 bt658.2.1 bt658.2.2)))) = some (r1, r2, r3) := by rw [if_pos rfl] at H; exact H
        clear H
        have H := H1
        clear H1
        replace H := Option.bind_eq_some_iff.mp H
        obtain ⟨⟨t658, t659, t660⟩, A80, H⟩ := H
        replace H : (if t658 = 0 then ((some (([(⟨#[]⟩ : ByteArray), (⟨#[48, 49]⟩ : ByteArray), (⟨#[45, 48]⟩ : ByteArray), (⟨#[49, 48, 48, 48, 48, 48, 49]⟩ : ByteArray), (⟨#[120]⟩ : ByteArray), (⟨#[78, 105, 108, 40, 41]⟩ : ByteArray), (⟨#[78, 105, 108, 40]⟩ : ByteArray), (⟨#[67, 111, 110, 115, 40, 49, 44, 41]⟩ : ByteArray), (⟨#[67, 111, 110, 115, 40, 49]⟩ : ByteArray), (⟨#[34, 97]⟩ : ByteArray), (⟨#[97, 34]⟩ : ByteArray), (⟨#[34, 97, 34, 98, 34]⟩ : ByteArray), (⟨#[34, 92, 34]⟩ : ByteArray), (⟨#[83, 32, 40, 49, 41]⟩ : ByteArray), (⟨#[83, 40, 49, 41, 41]⟩ : ByteArray), (⟨#[83, 40, 120, 41]⟩ : ByteArray), (⟨#[65, 98, 99, 100, 101, 102, 103, 104, 105, 106, 107, 108, 109, 110, 111, 112, 113, 114, 115, 116, 117]⟩ : ByteArray), (⟨#[34, 97, 98, 99, 100, 101, 102, 103, 104, 105, 106, 107, 108, 109, 110, 111, 112, 113, 114, 115, 116, 117, 34]⟩ : ByteArray), (⟨#[45]⟩ : ByteArray), (⟨#[45, 45, 49]⟩ : ByteArray), (⟨#[65, 95, 49, 40, 34, 41, 44, 40, 34, 41]⟩ : ByteArray), (⟨#[43, 49]⟩ : ByteArray)] : List ByteArray) : List ByteArray)).bind fun y661 => ((spec_l01Cur_pick.f s0_0 t659 t660 22).bind fun bt664 => (if 0 ≤ bt664.1 then (if bt664.1 < (y661.length : Int) then (some (rdOf ByteArray.empty y661 bt664.1, bt664.2.1, bt664.2.2)) else (none)) else (none)))) else (if t658 = 1 then ((spec_l01Cur_pick.f s0_0 t659 t660 (wrap64 ((x3_2.size : Int) + 1))).bind fun bt668 => (if 0 ≤ bt668.1 then (if bt668.1 ≤ (x3_2.size : Int) then ((some (([(⟨#[40]⟩ : ByteArray), (⟨#[41]⟩ : ByteArray), (⟨#[44]⟩ : ByteArray), (⟨#[34]⟩ : ByteArray), (⟨#[49]⟩ : ByteArray), (⟨#[32]⟩ : ByteArray)] : List ByteArray) : List ByteArray)).bind fun y671 => ((spec_l01Cur_pick.f s0_0 bt668.2.1 bt668.2.2 6).bind fun bt674 => (if 0 ≤ bt674.1 then (if bt674.1 < (y671.length : Int) then (if (x3_2.extract 0 (bt668.1 : Int).toNat).size + (rdOf ByteArray.empty y671 bt674.1).size ≤ 9223372036854775807 then (if ((x3_2.extract 0 (bt668.1 : Int).toNat) ++ (rdOf ByteArray.empty y671 bt674.1)).size + (x3_2.extract (bt668.1 : Int).toNat x3_2.size).size ≤ 9223372036854775807 then (some (((x3_2.extract 0 (bt668.1 : Int).toNat) ++ (rdOf ByteArray.empty y671 bt674.1)) ++ (x3_2.extract (bt668.1 : Int).toNat x3_2.size), bt674.2.1, bt674.2.2)) else (none)) else (none)) else (none)) else (none)))) else (none)) else (none))) else (spec_l01Cur_any.l0 kj2 x3_2 s0_0 t659 t660))) = some (r1, r2, r3) := H
        have A8 := Aside0.mk A80
        clear A80
        by_cases c9 : t658 = 0
        · rw [if_pos c9] at H
          have c9b0 : (t658 == 0) = true := beq_iff_eq.mpr c9
          have c9b1 : (t658 != 0) = false := bne_eq_false_iff_eq.mpr c9
          clear c9
          obtain ⟨y661, hy661⟩ : ∃ y_ : List ByteArray, y_ = (([(⟨#[]⟩ : ByteArray), (⟨#[48, 49]⟩ : ByteArray), (⟨#[45, 48]⟩ : ByteArray), (⟨#[49, 48, 48, 48, 48, 48, 49]⟩ : ByteArray), (⟨#[120]⟩ : ByteArray), (⟨#[78, 105, 108, 40, 41]⟩ : ByteArray), (⟨#[78, 105, 108, 40]⟩ : ByteArray), (⟨#[67, 111, 110, 115, 40, 49, 44, 41]⟩ : ByteArray), (⟨#[67, 111, 110, 115, 40, 49]⟩ : ByteArray), (⟨#[34, 97]⟩ : ByteArray), (⟨#[97, 34]⟩ : ByteArray), (⟨#[34, 97, 34, 98, 34]⟩ : ByteArray), (⟨#[34, 92, 34]⟩ : ByteArray), (⟨#[83, 32, 40, 49, 41]⟩ : ByteArray), (⟨#[83, 40, 49, 41, 41]⟩ : ByteArray), (⟨#[83, 40, 120, 41]⟩ : ByteArray), (⟨#[65, 98, 99, 100, 101, 102, 103, 104, 105, 106, 107, 108, 109, 110, 111, 112, 113, 114, 115, 116, 117]⟩ : ByteArray), (⟨#[34, 97, 98, 99, 100, 101, 102, 103, 104, 105, 106, 107, 108, 109, 110, 111, 112, 113, 114, 115, 116, 117, 34]⟩ : ByteArray), (⟨#[45]⟩ : ByteArray), (⟨#[45, 45, 49]⟩ : ByteArray), (⟨#[65, 95, 49, 40, 34, 41, 44, 40, 34, 41]⟩ : ByteArray), (⟨#[43, 49]⟩ : ByteArray)] : List ByteArray)) := ⟨_, rfl⟩
          replace H : ((spec_l01Cur_pick.f s0_0 t659 t660 22).bind fun bt664 => (if 0 ≤ bt664.1 then (if bt664.1 < (y661.length : Int) then (some (rdOf ByteArray.empty y661 bt664.1, bt664.2.1, bt664.2.2)) else (none)) else (none))) = some (r1, r2, r3) := by first | (rw [hy661]; with_reducible exact H) | (have H2_ := (Option.bind_some _ _).symm.trans H; rw [hy661]; with_reducible exact H2_) | (have H2_ := (Option.bind_some _ _).symm.trans H; with_reducible exact H2_) | with_reducible exact H | (rw [hy661]; exact H) | exact H
          have Ny661 := Aside0.mk hy661
          clear hy661
          replace H := Option.bind_eq_some_iff.mp H
          obtain ⟨⟨t664, t665, t666⟩, A100, H⟩ := H
          replace H : (if 0 ≤ t664 then (if t664 < (y661.length : Int) then (some (rdOf ByteArray.empty y661 t664, t665, t666)) else (none)) else (none)) = some (r1, r2, r3) := H
          have A10 := Aside0.mk A100
          clear A100
          by_cases c11 : 0 ≤ t664
          · rw [if_pos c11] at H
            have c11b0 : decide (0 ≤ t664) = true := decide_eq_true c11
            clear c11
            by_cases c12 : t664 < (y661.length : Int)
            · rw [if_pos c12] at H
              have c12b0 : decide (t664 < (y661.length : Int)) = true := decide_eq_true c12
              clear c12
              simp only [Option.some.injEq, Prod.mk.injEq] at H
              obtain ⟨rfl, rfl, rfl⟩ := H
              go_wp2_with (first | ((with_reducible refine gate_callee (f := 118) rfl ?_); refine goesL_ (some 11) rfl rfl Tryd.func118 (by kernel_rfl) rfl #[.pointer (some ⟨g, 0, none⟩), .int .i64 5] rfl (by (try simp only [List.map_toArray, List.map_cons, List.map_nil]); first | done | rfl | (simp only [List.length_drop, List.length_take]; rfl)) ?_; (with_reducible refine (spec_l01Cur_once.calls g s0_0 t653 t654 5 true t656 t657 w0 _ ?side1 ?side2 A6.out).mono ?_); (case side1 => repeat (first | (with_reducible first | exact HI0.out | apply IsS92.alloc | apply IsS92.drewN | apply IsS92.drew | apply IsS92.set_1 | apply IsS92.set_2) | exact HI0.out)); (case side2 => repeat (first | (with_reducible first | exact HB.out | apply below_alloc | apply pw_below_drewN | apply below_drew1 | refine below_set ?_ (IsS92.ge HI0.out)) | exact HB.out)); rintro e w13 ⟨rfl, hi, hb, hk⟩; refine ⟨_, rfl, ?_⟩; have n0_ := Aside0.mk (KeepBut.trans (by repeat (first | (with_reducible first | exact HK.out | apply KeepBut.set_ | apply keep_drewN | apply keep_drew | apply keep_alloc) | exact HK.out)) hk (.inl rfl)); have n1_ := Aside0.mk (hb); have n2_ := Aside0.mk (hi); clear HK; clear HB; clear HI0; have HK := n0_; have HB := n1_; have HI0 := n2_; clear n0_ n1_ n2_; (try clear hb); (try clear hb2); (try clear hk); (try clear hi)) | ((with_reducible refine gate_callee (f := 70) rfl ?_); refine goesL_ (some 13) rfl rfl Tryd.func70 (by kernel_rfl) rfl #[.pointer (some ⟨g, 0, none⟩), .int .i64 3] rfl (by (try simp only [List.map_toArray, List.map_cons, List.map_nil]); first | done | rfl | (simp only [List.length_drop, List.length_take]; rfl)) ?_; (with_reducible refine (spec_l01Cur_pick.calls g s0_0 t656 t657 3 t658 t659 t660 w0 _ ?side1 ?side2 A8.out).mono ?_); (case side1 => repeat (first | (with_reducible first | exact HI0.out | apply IsS92.alloc | apply IsS92.drewN | apply IsS92.drew | apply IsS92.set_1 | apply IsS92.set_2) | exact HI0.out)); (case side2 => repeat (first | (with_reducible first | exact HB.out | apply below_alloc | apply pw_below_drewN | apply below_drew1 | refine below_set ?_ (IsS92.ge HI0.out)) | exact HB.out)); rintro e w14 ⟨rfl, hi, hb, hk⟩; refine ⟨_, rfl, ?_⟩; have n0_ := Aside0.mk (KeepBut.trans (by repeat (first | (with_reducible first | exact HK.out | apply KeepBut.set_ | apply keep_drewN | apply keep_drew | apply keep_alloc) | exact HK.out)) hk (.inl rfl)); have n1_ := Aside0.mk (hb); have n2_ := Aside0.mk (hi); clear HK; clear HB; clear HI0; have HK := n0_; have HB := n1_; have HI0 := n2_; clear n0_ n1_ n2_; (try clear hb); (try clear hb2); (try clear hk); (try clear hi)) | ((with_reducible refine gate_dst (N := 16) rfl ?_); refine Kd.R_lit Kd.string _ 9 ?hg (N := 16) ?hd (xs := ([(⟨#[]⟩ : ByteArray), (⟨#[48, 49]⟩ : ByteArray), (⟨#[45, 48]⟩ : ByteArray), (⟨#[49, 48, 48, 48, 48, 48, 49]⟩ : ByteArray), (⟨#[120]⟩ : ByteArray), (⟨#[78, 105, 108, 40, 41]⟩ : ByteArray), (⟨#[78, 105, 108, 40]⟩ : ByteArray), (⟨#[67, 111, 110, 115, 40, 49, 44, 41]⟩ : ByteArray), (⟨#[67, 111, 110, 115, 40, 49]⟩ : ByteArray), (⟨#[34, 97]⟩ : ByteArray), (⟨#[97, 34]⟩ : ByteArray), (⟨#[34, 97, 34, 98, 34]⟩ : ByteArray), (⟨#[34, 92, 34]⟩ : ByteArray), (⟨#[83, 32, 40, 49, 41]⟩ : ByteArray), (⟨#[83, 40, 49, 41, 41]⟩ : ByteArray), (⟨#[83, 40, 120, 41]⟩ : ByteArray), (⟨#[65, 98, 99, 100, 101, 102, 103, 104, 105, 106, 107, 108, 109, 110, 111, 112, 113, 114, 115, 116, 117]⟩ : ByteArray), (⟨#[34, 97, 98, 99, 100, 101, 102, 103, 104, 105, 106, 107, 108, 109, 110, 111, 112, 113, 114, 115, 116, 117, 34]⟩ : ByteArray), (⟨#[45]⟩ : ByteArray), (⟨#[45, 45, 49]⟩ : ByteArray), (⟨#[65, 95, 49, 40, 34, 41, 44, 40, 34, 41]⟩ : ByteArray), (⟨#[43, 49]⟩ : ByteArray)] : List ByteArray)) (inner := [.string (⟨#[]⟩ : ByteArray), .string (⟨#[48, 49]⟩ : ByteArray), .string (⟨#[45, 48]⟩ : ByteArray), .string (⟨#[49, 48, 48, 48, 48, 48, 49]⟩ : ByteArray), .string (⟨#[120]⟩ : ByteArray), .string (⟨#[78, 105, 108, 40, 41]⟩ : ByteArray), .string (⟨#[78, 105, 108, 40]⟩ : ByteArray), .string (⟨#[67, 111, 110, 115, 40, 49, 44, 41]⟩ : ByteArray), .string (⟨#[67, 111, 110, 115, 40, 49]⟩ : ByteArray), .string (⟨#[34, 97]⟩ : ByteArray), .string (⟨#[97, 34]⟩ : ByteArray), .string (⟨#[34, 97, 34, 98, 34]⟩ : ByteArray), .string (⟨#[34, 92, 34]⟩ : ByteArray), .string (⟨#[83, 32, 40, 49, 41]⟩ : ByteArray), .string (⟨#[83, 40, 49, 41, 41]⟩ : ByteArray), .string (⟨#[83, 40, 120, 41]⟩ : ByteArray), .string (⟨#[65, 98, 99, 100, 101, 102, 103, 104, 105, 106, 107, 108, 109, 110, 111, 112, 113, 114, 115, 116, 117]⟩ : ByteArray), .string (⟨#[34, 97, 98, 99, 100, 101, 102, 103, 104, 105, 106, 107, 108, 109, 110, 111, 112, 113, 114, 115, 116, 117, 34]⟩ : ByteArray), .string (⟨#[45]⟩ : ByteArray), .string (⟨#[45, 45, 49]⟩ : ByteArray), .string (⟨#[65, 95, 49, 40, 34, 41, 44, 40, 34, 41]⟩ : ByteArray), .string (⟨#[43, 49]⟩ : ByteArray)]) (ok := fun _ => True) (okp := fun _ => True) ?hr ?hp (fun _ hk => hk) trivial (Below.refl _ _) (Nat.le_refl _) (by simp) ?_; (case hd => rfl); (case hg => rfl); (case hr => first | (go_simp; done) | (go_simp; rfl)); (case hp => exact (Reps.one (show Kd.M Kd.string _ _ _ (⟨#[]⟩ : ByteArray) [.string (⟨#[]⟩ : ByteArray)] from rfl) (Reps.one (show Kd.M Kd.string _ _ _ (⟨#[48, 49]⟩ : ByteArray) [.string (⟨#[48, 49]⟩ : ByteArray)] from rfl) (Reps.one (show Kd.M Kd.string _ _ _ (⟨#[45, 48]⟩ : ByteArray) [.string (⟨#[45, 48]⟩ : ByteArray)] from rfl) (Reps.one (show Kd.M Kd.string _ _ _ (⟨#[49, 48, 48, 48, 48, 48, 49]⟩ : ByteArray) [.string (⟨#[49, 48, 48, 48, 48, 48, 49]⟩ : ByteArray)] from rfl) (Reps.one (show Kd.M Kd.string _ _ _ (⟨#[120]⟩ : ByteArray) [.string (⟨#[120]⟩ : ByteArray)] from rfl) (Reps.one (show Kd.M Kd.string _ _ _ (⟨#[78, 105, 108, 40, 41]⟩ : ByteArray) [.string (⟨#[78, 105, 108, 40, 41]⟩ : ByteArray)] from rfl) (Reps.one (show Kd.M Kd.string _ _ _ (⟨#[78, 105, 108, 40]⟩ : ByteArray) [.string (⟨#[78, 105, 108, 40]⟩ : ByteArray)] from rfl) (Reps.one (show Kd.M Kd.string _ _ _ (⟨#[67, 111, 110, 115, 40, 49, 44, 41]⟩ : ByteArray) [.string (⟨#[67, 111, 110, 115, 40, 49, 44, 41]⟩ : ByteArray)] from rfl) (Reps.one (show Kd.M Kd.string _ _ _ (⟨#[67, 111, 110, 115, 40, 49]⟩ : ByteArray) [.string (⟨#[67, 111, 110, 115, 40, 49]⟩ : ByteArray)] from rfl) (Reps.one (show Kd.M Kd.string _ _ _ (⟨#[34, 97]⟩ : ByteArray) [.string (⟨#[34, 97]⟩ : ByteArray)] from rfl) (Reps.one (show Kd.M Kd.string _ _ _ (⟨#[97, 34]⟩ : ByteArray) [.string (⟨#[97, 34]⟩ : ByteArray)] from rfl) (Reps.one (show Kd.M Kd.string _ _ _ (⟨#[34, 97, 34, 98, 34]⟩ : ByteArray) [.string (⟨#[34, 97, 34, 98, 34]⟩ : ByteArray)] from rfl) (Reps.one (show Kd.M Kd.string _ _ _ (⟨#[34, 92, 34]⟩ : ByteArray) [.string (⟨#[34, 92, 34]⟩ : ByteArray)] from rfl) (Reps.one (show Kd.M Kd.string _ _ _ (⟨#[83, 32, 40, 49, 41]⟩ : ByteArray) [.string (⟨#[83, 32, 40, 49, 41]⟩ : ByteArray)] from rfl) (Reps.one (show Kd.M Kd.string _ _ _ (⟨#[83, 40, 49, 41, 41]⟩ : ByteArray) [.string (⟨#[83, 40, 49, 41, 41]⟩ : ByteArray)] from rfl) (Reps.one (show Kd.M Kd.string _ _ _ (⟨#[83, 40, 120, 41]⟩ : ByteArray) [.string (⟨#[83, 40, 120, 41]⟩ : ByteArray)] from rfl) (Reps.one (show Kd.M Kd.string _ _ _ (⟨#[65, 98, 99, 100, 101, 102, 103, 104, 105, 106, 107, 108, 109, 110, 111, 112, 113, 114, 115, 116, 117]⟩ : ByteArray) [.string (⟨#[65, 98, 99, 100, 101, 102, 103, 104, 105, 106, 107, 108, 109, 110, 111, 112, 113, 114, 115, 116, 117]⟩ : ByteArray)] from rfl) (Reps.one (show Kd.M Kd.string _ _ _ (⟨#[34, 97, 98, 99, 100, 101, 102, 103, 104, 105, 106, 107, 108, 109, 110, 111, 112, 113, 114, 115, 116, 117, 34]⟩ : ByteArray) [.string (⟨#[34, 97, 98, 99, 100, 101, 102, 103, 104, 105, 106, 107, 108, 109, 110, 111, 112, 113, 114, 115, 116, 117, 34]⟩ : ByteArray)] from rfl) (Reps.one (show Kd.M Kd.string _ _ _ (⟨#[45]⟩ : ByteArray) [.string (⟨#[45]⟩ : ByteArray)] from rfl) (Reps.one (show Kd.M Kd.string _ _ _ (⟨#[45, 45, 49]⟩ : ByteArray) [.string (⟨#[45, 45, 49]⟩ : ByteArray)] from rfl) (Reps.one (show Kd.M Kd.string _ _ _ (⟨#[65, 95, 49, 40, 34, 41, 44, 40, 34, 41]⟩ : ByteArray) [.string (⟨#[65, 95, 49, 40, 34, 41, 44, 40, 34, 41]⟩ : ByteArray)] from rfl) (Reps.one (show Kd.M Kd.string _ _ _ (⟨#[43, 49]⟩ : ByteArray) [.string (⟨#[43, 49]⟩ : ByteArray)] from rfl) (Reps.none _ _)))))))))))))))))))))))); intro v662 w15 ho16 hb hg_ hnew_; clear hg_ hnew_; (first | rw [← Ny661.out] at ho16 | (simp only [Int.reduceToNat] at ho16; rw [← Ny661.out] at ho16)); have n0_ := Aside0.mk (Kd.R_lower ho16 (keep_size (w := w) (g := g) (row := none) (by repeat (first | (with_reducible first | exact HK.out | apply KeepBut.set_ | apply keep_drewN | apply keep_drew | apply keep_alloc) | exact HK.out)))); have n1_ := Aside0.mk (IsS92.below (by repeat (first | (with_reducible first | exact HI0.out | apply IsS92.alloc | apply IsS92.drewN | apply IsS92.drew | apply IsS92.set_1 | apply IsS92.set_2) | exact HI0.out)) hb); have n2_ := Aside0.mk (KeepBut.trans (by repeat (first | (with_reducible first | exact HK.out | apply KeepBut.set_ | apply keep_drewN | apply keep_drew | apply keep_alloc) | exact HK.out)) (KeepBut.of_below hb g none) (.inl rfl)); have n3_ := Aside0.mk (below_step (by repeat (first | (with_reducible first | exact HB.out | apply below_alloc | apply pw_below_drewN | apply below_drew1 | refine below_set ?_ (IsS92.ge HI0.out)) | exact HB.out)) hb); clear HI0; clear HK; clear HB; have HO663 := n0_; have HI0 := n1_; have HK := n2_; have HB := n3_; clear n0_ n1_ n2_ n3_; clear hb ho16) | ((with_reducible refine gate_callee (f := 70) rfl ?_); refine goesL_ (some 18) rfl rfl Tryd.func70 (by kernel_rfl) rfl #[.pointer (some ⟨g, 0, none⟩), .int .i64 22] rfl (by (try simp only [List.map_toArray, List.map_cons, List.map_nil]); first | done | rfl | (simp only [List.length_drop, List.length_take]; rfl)) ?_; (with_reducible refine (spec_l01Cur_pick.calls g s0_0 t659 t660 22 t664 t665 t666 w0 _ ?side1 ?side2 A10.out).mono ?_); (case side1 => repeat (first | (with_reducible first | exact HI0.out | apply IsS92.alloc | apply IsS92.drewN | apply IsS92.drew | apply IsS92.set_1 | apply IsS92.set_2) | exact HI0.out)); (case side2 => repeat (first | (with_reducible first | exact HB.out | apply below_alloc | apply pw_below_drewN | apply below_drew1 | refine below_set ?_ (IsS92.ge HI0.out)) | exact HB.out)); rintro e w17 ⟨rfl, hi, hb, hk⟩; refine ⟨_, rfl, ?_⟩; have n0_ := Aside0.mk (Kd.R_mono (Kd.R_keep (IsS92.apart (show IsS92 w0 _ g s0_0 t659 t660 from by repeat (first | (with_reducible first | exact HI0.out | apply IsS92.alloc | apply IsS92.drewN | apply IsS92.drew | apply IsS92.set_1 | apply IsS92.set_2) | exact HI0.out)) (by (with_reducible repeat (first | apply Kd.R_alloc | apply Kd.R_drewN | apply Kd.R_drew)); exact HO663.out) (by decide)) hk (fun _ h => h.2)) (fun _ h => h.1)); have n1_ := Aside0.mk (KeepBut.trans (by repeat (first | (with_reducible first | exact HK.out | apply KeepBut.set_ | apply keep_drewN | apply keep_drew | apply keep_alloc) | exact HK.out)) hk (.inl rfl)); have n2_ := Aside0.mk (hb); have n3_ := Aside0.mk (hi); clear HO663; clear HK; clear HB; clear HI0; have HO663 := n0_; have HK := n1_; have HB := n2_; have HI0 := n3_; clear n0_ n1_ n2_ n3_; (try clear hb); (try clear hb2); (try clear hk); (try clear hi); obtain ⟨Ao18, co18, eo18⟩ := Kd.R_slice HO663.out; subst eo18; have p667 : 0 ≤ (t664 : Int) := of_decide_eq_true (by first | (with_reducible assumption) | assumption); have q667 : t664 < (y661.length : Int) := of_decide_eq_true (by first | (with_reducible assumption) | assumption); obtain ⟨ad667, e667, hx667_0⟩ := Kd.at_string (Kd.R_reads' HO663.out).2.2 t664 p667 q667; cases e667; replace p667 := eq_true p667; replace q667 := eq_true q667))
              go_ret
              exact ⟨by first | rfl | (simp [errW_none, errW_some] <;> rfl) | (simp [*, errW_none, errW_some] <;> rfl), by repeat (first | (with_reducible first | exact HI0.out | apply IsS92.alloc | apply IsS92.drewN | apply IsS92.drew | apply IsS92.set_1 | apply IsS92.set_2) | exact HI0.out), by repeat (first | (with_reducible first | exact HB.out | apply below_alloc | apply pw_below_drewN | apply below_drew1 | refine below_set ?_ (IsS92.ge HI0.out)) | exact HB.out), by repeat (first | (with_reducible first | exact HK.out | apply KeepBut.set_ | apply keep_drewN | apply keep_drew | apply keep_alloc) | exact HK.out)⟩
            · rw [if_neg c12] at H
              exact absurd H (by simp)
          · rw [if_neg c11] at H
            exact absurd H (by simp)
        · rw [if_neg c9] at H
          have c9b0 : (t658 == 0) = false := beq_eq_false_iff_ne.mpr c9
          have c9b1 : (t658 != 0) = true := bne_iff_ne.mpr c9
          by_cases c19 : t658 = 1
          · rw [if_pos c19] at H
            have c19b0 : (t658 == 1) = true := beq_iff_eq.mpr c19
            have c19b1 : (t658 != 1) = false := bne_eq_false_iff_eq.mpr c19
            clear c19
            replace H := Option.bind_eq_some_iff.mp H
            obtain ⟨⟨t668, t669, t670⟩, A200, H⟩ := H
            replace H : (if 0 ≤ t668 then (if t668 ≤ (x3_2.size : Int) then ((some (([(⟨#[40]⟩ : ByteArray), (⟨#[41]⟩ : ByteArray), (⟨#[44]⟩ : ByteArray), (⟨#[34]⟩ : ByteArray), (⟨#[49]⟩ : ByteArray), (⟨#[32]⟩ : ByteArray)] : List ByteArray) : List ByteArray)).bind fun y671 => ((spec_l01Cur_pick.f s0_0 t669 t670 6).bind fun bt674 => (if 0 ≤ bt674.1 then (if bt674.1 < (y671.length : Int) then (if (x3_2.extract 0 (t668 : Int).toNat).size + (rdOf ByteArray.empty y671 bt674.1).size ≤ 9223372036854775807 then (if ((x3_2.extract 0 (t668 : Int).toNat) ++ (rdOf ByteArray.empty y671 bt674.1)).size + (x3_2.extract (t668 : Int).toNat x3_2.size).size ≤ 9223372036854775807 then (some (((x3_2.extract 0 (t668 : Int).toNat) ++ (rdOf ByteArray.empty y671 bt674.1)) ++ (x3_2.extract (t668 : Int).toNat x3_2.size), bt674.2.1, bt674.2.2)) else (none)) else (none)) else (none)) else (none)))) else (none)) else (none)) = some (r1, r2, r3) := H
            have A20 := Aside0.mk A200
            clear A200
            by_cases c21 : 0 ≤ t668
            · rw [if_pos c21] at H
              have c21b0 := eq_true c21
              have c21b1 : decide (0 ≤ t668) = true := decide_eq_true c21
              clear c21
              by_cases c22 : t668 ≤ (x3_2.size : Int)
              · rw [if_pos c22] at H
                have c22b0 := eq_true c22
                have c22b1 : decide (t668 ≤ (x3_2.size : Int)) = true := decide_eq_true c22
                clear c22
                obtain ⟨y671, hy671⟩ : ∃ y_ : List ByteArray, y_ = (([(⟨#[40]⟩ : ByteArray), (⟨#[41]⟩ : ByteArray), (⟨#[44]⟩ : ByteArray), (⟨#[34]⟩ : ByteArray), (⟨#[49]⟩ : ByteArray), (⟨#[32]⟩ : ByteArray)] : List ByteArray)) := ⟨_, rfl⟩
                replace H : ((spec_l01Cur_pick.f s0_0 t669 t670 6).bind fun bt674 => (if 0 ≤ bt674.1 then (if bt674.1 < (y671.length : Int) then (if (x3_2.extract 0 (t668 : Int).toNat).size + (rdOf ByteArray.empty y671 bt674.1).size ≤ 9223372036854775807 then (if ((x3_2.extract 0 (t668 : Int).toNat) ++ (rdOf ByteArray.empty y671 bt674.1)).size + (x3_2.extract (t668 : Int).toNat x3_2.size).size ≤ 9223372036854775807 then (some (((x3_2.extract 0 (t668 : Int).toNat) ++ (rdOf ByteArray.empty y671 bt674.1)) ++ (x3_2.extract (t668 : Int).toNat x3_2.size), bt674.2.1, bt674.2.2)) else (none)) else (none)) else (none)) else (none))) = some (r1, r2, r3) := by first | (rw [hy671]; with_reducible exact H) | (have H2_ := (Option.bind_some _ _).symm.trans H; rw [hy671]; with_reducible exact H2_) | (have H2_ := (Option.bind_some _ _).symm.trans H; with_reducible exact H2_) | with_reducible exact H | (rw [hy671]; exact H) | exact H
                have Ny671 := Aside0.mk hy671
                clear hy671
                replace H := Option.bind_eq_some_iff.mp H
                obtain ⟨⟨t674, t675, t676⟩, A230, H⟩ := H
                replace H : (if 0 ≤ t674 then (if t674 < (y671.length : Int) then (if (x3_2.extract 0 (t668 : Int).toNat).size + (rdOf ByteArray.empty y671 t674).size ≤ 9223372036854775807 then (if ((x3_2.extract 0 (t668 : Int).toNat) ++ (rdOf ByteArray.empty y671 t674)).size + (x3_2.extract (t668 : Int).toNat x3_2.size).size ≤ 9223372036854775807 then (some (((x3_2.extract 0 (t668 : Int).toNat) ++ (rdOf ByteArray.empty y671 t674)) ++ (x3_2.extract (t668 : Int).toNat x3_2.size), t675, t676)) else (none)) else (none)) else (none)) else (none)) = some (r1, r2, r3) := H
                have A23 := Aside0.mk A230
                clear A230
                by_cases c24 : 0 ≤ t674
                · rw [if_pos c24] at H
                  have c24b0 : decide (0 ≤ t674) = true := decide_eq_true c24
                  clear c24
                  by_cases c25 : t674 < (y671.length : Int)
                  · rw [if_pos c25] at H
                    have c25b0 : decide (t674 < (y671.length : Int)) = true := decide_eq_true c25
                    clear c25
                    by_cases c26 : (x3_2.extract 0 (t668 : Int).toNat).size + (rdOf ByteArray.empty y671 t674).size ≤ 9223372036854775807
                    · rw [if_pos c26] at H
                      have c26b0 := eq_true c26
                      have c26b1 : decide ((x3_2.extract 0 (t668 : Int).toNat).size + (rdOf ByteArray.empty y671 t674).size ≤ 9223372036854775807) = true := decide_eq_true c26
                      try have c26b2 : (9223372036854775807 < (x3_2.extract 0 (t668 : Int).toNat).size + (rdOf ByteArray.empty y671 t674).size) = False := eq_false (Nat.not_lt.2 c26)
                      try have c26b6 : (9223372036854775807 < (t668 : Int).toNat + (rdOf ByteArray.empty y671 t674).size) = False := (congrArg (fun n_ => (9223372036854775807 < n_)) (show (t668 : Int).toNat + (rdOf ByteArray.empty y671 t674).size = (x3_2.extract 0 (t668 : Int).toNat).size + (rdOf ByteArray.empty y671 t674).size by (simp only [ByteArray.size_append, (show (x3_2.extract 0 (t668 : Int).toNat).size = (t668 : Int).toNat from by rw [ByteArray.size_extract, Nat.sub_zero]; exact Nat.min_eq_left (Int.toNat_le.2 (of_eq_true (by assumption))))]; try rfl))).trans c26b2
                      have c27b0 := eq_true (of_decide_eq_true (by first | (with_reducible assumption) | assumption) : 0 ≤ t668)
                      have c28b0 := eq_true (of_decide_eq_true (by first | (with_reducible assumption) | assumption) : t668 ≤ (x3_2.size : Int))
                      by_cases c29 : ((x3_2.extract 0 (t668 : Int).toNat) ++ (rdOf ByteArray.empty y671 t674)).size + (x3_2.extract (t668 : Int).toNat x3_2.size).size ≤ 9223372036854775807
                      · rw [if_pos c29] at H
                        have c29b0 := eq_true c29
                        have c29b1 : decide (((x3_2.extract 0 (t668 : Int).toNat) ++ (rdOf ByteArray.empty y671 t674)).size + (x3_2.extract (t668 : Int).toNat x3_2.size).size ≤ 9223372036854775807) = true := decide_eq_true c29
                        try have c29b2 : (9223372036854775807 < ((x3_2.extract 0 (t668 : Int).toNat) ++ (rdOf ByteArray.empty y671 t674)).size + (x3_2.extract (t668 : Int).toNat x3_2.size).size) = False := eq_false (Nat.not_lt.2 c29)
                        try have c29b3 : (9223372036854775807 < (x3_2.extract 0 (t668 : Int).toNat).size + (rdOf ByteArray.empty y671 t674).size + (x3_2.extract (t668 : Int).toNat x3_2.size).size) = False := (congrArg (fun n_ => (9223372036854775807 < n_)) (show (x3_2.extract 0 (t668 : Int).toNat).size + (rdOf ByteArray.empty y671 t674).size + (x3_2.extract (t668 : Int).toNat x3_2.size).size = ((x3_2.extract 0 (t668 : Int).toNat) ++ (rdOf ByteArray.empty y671 t674)).size + (x3_2.extract (t668 : Int).toNat x3_2.size).size by (simp only [ByteArray.size_append]; try rfl))).trans c29b2
                        try have c29b6 : (9223372036854775807 < (t668 : Int).toNat + (rdOf ByteArray.empty y671 t674).size + (x3_2.size - (t668 : Int).toNat)) = False := (congrArg (fun n_ => (9223372036854775807 < n_)) (show (t668 : Int).toNat + (rdOf ByteArray.empty y671 t674).size + (x3_2.size - (t668 : Int).toNat) = ((x3_2.extract 0 (t668 : Int).toNat) ++ (rdOf ByteArray.empty y671 t674)).size + (x3_2.extract (t668 : Int).toNat x3_2.size).size by (simp only [ByteArray.size_append, (show (x3_2.extract 0 (t668 : Int).toNat).size = (t668 : Int).toNat from by rw [ByteArray.size_extract, Nat.sub_zero]; exact Nat.min_eq_left (Int.toNat_le.2 (of_eq_true (by assumption)))), (show (x3_2.extract (t668 : Int).toNat x3_2.size).size = x3_2.size - (t668 : Int).toNat from by rw [ByteArray.size_extract, Nat.min_self])]; try rfl))).trans c29b2
                        simp only [Option.some.injEq, Prod.mk.injEq] at H
                        obtain ⟨rfl, rfl, rfl⟩ := H
                        try go_wp2_with (first | ((with_reducible refine gate_callee (f := 118) rfl ?_); refine goesL_ (some 11) rfl rfl Tryd.func118 (by kernel_rfl) rfl #[.pointer (some ⟨g, 0, none⟩), .int .i64 5] rfl (by (try simp only [List.map_toArray, List.map_cons, List.map_nil]); first | done | rfl | (simp only [List.length_drop, List.length_take]; rfl)) ?_; (with_reducible refine (spec_l01Cur_once.calls g s0_0 t653 t654 5 true t656 t657 w0 _ ?side1 ?side2 A6.out).mono ?_); (case side1 => repeat (first | (with_reducible first | exact HI0.out | apply IsS92.alloc | apply IsS92.drewN | apply IsS92.drew | apply IsS92.set_1 | apply IsS92.set_2) | exact HI0.out)); (case side2 => repeat (first | (with_reducible first | exact HB.out | apply below_alloc | apply pw_below_drewN | apply below_drew1 | refine below_set ?_ (IsS92.ge HI0.out)) | exact HB.out)); rintro e w30 ⟨rfl, hi, hb, hk⟩; refine ⟨_, rfl, ?_⟩; have n0_ := Aside0.mk (KeepBut.trans (by repeat (first | (with_reducible first | exact HK.out | apply KeepBut.set_ | apply keep_drewN | apply keep_drew | apply keep_alloc) | exact HK.out)) hk (.inl rfl)); have n1_ := Aside0.mk (hb); have n2_ := Aside0.mk (hi); clear HK; clear HB; clear HI0; have HK := n0_; have HB := n1_; have HI0 := n2_; clear n0_ n1_ n2_; (try clear hb); (try clear hb2); (try clear hk); (try clear hi)) | ((with_reducible refine gate_callee (f := 70) rfl ?_); refine goesL_ (some 13) rfl rfl Tryd.func70 (by kernel_rfl) rfl #[.pointer (some ⟨g, 0, none⟩), .int .i64 3] rfl (by (try simp only [List.map_toArray, List.map_cons, List.map_nil]); first | done | rfl | (simp only [List.length_drop, List.length_take]; rfl)) ?_; (with_reducible refine (spec_l01Cur_pick.calls g s0_0 t656 t657 3 t658 t659 t660 w0 _ ?side1 ?side2 A8.out).mono ?_); (case side1 => repeat (first | (with_reducible first | exact HI0.out | apply IsS92.alloc | apply IsS92.drewN | apply IsS92.drew | apply IsS92.set_1 | apply IsS92.set_2) | exact HI0.out)); (case side2 => repeat (first | (with_reducible first | exact HB.out | apply below_alloc | apply pw_below_drewN | apply below_drew1 | refine below_set ?_ (IsS92.ge HI0.out)) | exact HB.out)); rintro e w31 ⟨rfl, hi, hb, hk⟩; refine ⟨_, rfl, ?_⟩; have n0_ := Aside0.mk (KeepBut.trans (by repeat (first | (with_reducible first | exact HK.out | apply KeepBut.set_ | apply keep_drewN | apply keep_drew | apply keep_alloc) | exact HK.out)) hk (.inl rfl)); have n1_ := Aside0.mk (hb); have n2_ := Aside0.mk (hi); clear HK; clear HB; clear HI0; have HK := n0_; have HB := n1_; have HI0 := n2_; clear n0_ n1_ n2_; (try clear hb); (try clear hb2); (try clear hk); (try clear hi)) | ((with_reducible refine gate_callee (f := 70) rfl ?_); refine goesL_ (some 27) rfl rfl Tryd.func70 (by kernel_rfl) rfl #[.pointer (some ⟨g, 0, none⟩), .int .i64 (wrap64 ((x3_2.size : Int) + 1))] rfl (by (try simp only [List.map_toArray, List.map_cons, List.map_nil]); first | done | rfl | (simp only [List.length_drop, List.length_take]; rfl)) ?_; (with_reducible refine (spec_l01Cur_pick.calls g s0_0 t659 t660 (wrap64 ((x3_2.size : Int) + 1)) t668 t669 t670 w0 _ ?side1 ?side2 A20.out).mono ?_); (case side1 => repeat (first | (with_reducible first | exact HI0.out | apply IsS92.alloc | apply IsS92.drewN | apply IsS92.drew | apply IsS92.set_1 | apply IsS92.set_2) | exact HI0.out)); (case side2 => repeat (first | (with_reducible first | exact HB.out | apply below_alloc | apply pw_below_drewN | apply below_drew1 | refine below_set ?_ (IsS92.ge HI0.out)) | exact HB.out)); rintro e w32 ⟨rfl, hi, hb, hk⟩; refine ⟨_, rfl, ?_⟩; have n0_ := Aside0.mk (KeepBut.trans (by repeat (first | (with_reducible first | exact HK.out | apply KeepBut.set_ | apply keep_drewN | apply keep_drew | apply keep_alloc) | exact HK.out)) hk (.inl rfl)); have n1_ := Aside0.mk (hb); have n2_ := Aside0.mk (hi); clear HK; clear HB; clear HI0; have HK := n0_; have HB := n1_; have HI0 := n2_; clear n0_ n1_ n2_; (try clear hb); (try clear hb2); (try clear hk); (try clear hi)))
                        have pi677 : (0 ≤ (t674 : Int)) = True := eq_true (of_decide_eq_true (by first | (with_reducible assumption) | assumption))
                        have qi677 : (t674 < (y671.length : Int)) = True := eq_true (of_decide_eq_true (by first | (with_reducible assumption) | assumption))
                        have n0_ := Aside0.mk (IsS92.drew HI0.out)
                        have n1_ := Aside0.mk (keep_drew HK.out)
                        have n2_ := Aside0.mk (below_drew1 HB.out)
                        clear HI0
                        clear HK
                        clear HB
                        have HI0 := n0_
                        have HK := n1_
                        have HB := n2_
                        clear n0_ n1_ n2_
                        refine start_ (n := 14) (S := fun w' => True) (ds := []) #[false, false, false, false, false, false, false, false, false, false, false, false, false, false] (by kernel_rfl) rfl rfl trivial (fun hHeld => ?_); refine with_tabW spec_l01Cur_any.tab10 spec_l01Cur_any.bits10 (fun HT_ HW_ => ?_)
                        generalize w32.drew = w33 at HI0 HK HB hHeld ⊢
                        refine pure_ (i := 0) (N := some 28) (v := ?_) (a' := ?_) #[true, false, false, false, false, false, false, false, false, false, false, false, false, false] rfl rfl (any_of HT_.out (by kernel_rfl)) (fun _ _ _ h => h) (Or.inl ⟨by rfl, ?_⟩) ?_ ?_
                        rotate_left
                        · intro w'
                          go_simp
                          with_reducible rfl
                        rotate_left
                        · simp only [Act.put, List.setIfInBounds_toArray, List.set_cons_zero, List.set_cons_succ, i64_w, i32_w]
                          rfl
                        refine pure_ (i := 1) (N := some 29) (v := ?_) (a' := ?_) #[true, true, false, false, false, false, false, false, false, false, false, false, false, false] rfl rfl (any_of HT_.out (by kernel_rfl)) (fun _ _ _ h => h) (Or.inl ⟨by rfl, ?_⟩) ?_ ?_
                        rotate_left
                        · intro w'
                          go_simp
                          with_reducible rfl
                        rotate_left
                        · simp only [Act.put, List.setIfInBounds_toArray, List.set_cons_zero, List.set_cons_succ, i64_w, i32_w]
                          rfl
                        refine pure_ (i := 4) (N := some 32) (v := ?_) (a' := ?_) #[true, true, false, false, true, false, false, false, false, false, false, false, false, false] rfl rfl (any_of HT_.out (by kernel_rfl)) (fun _ _ _ h => h) (Or.inl ⟨by rfl, ?_⟩) ?_ ?_
                        rotate_left
                        · intro w'
                          go_simp
                          with_reducible rfl
                        rotate_left
                        · simp only [Act.put, List.setIfInBounds_toArray, List.set_cons_zero, List.set_cons_succ, i64_w, i32_w]
                          rfl
                        refine pure_ (i := 9) (N := some 37) (v := ?_) (a' := ?_) #[true, true, false, false, true, false, false, false, false, true, false, false, false, false] rfl rfl (any_of HT_.out (by kernel_rfl)) (fun _ _ _ h => h) (Or.inl ⟨by rfl, ?_⟩) ?_ ?_
                        rotate_left
                        · intro w'
                          go_simp
                          with_reducible rfl
                        rotate_left
                        · simp only [Act.put, List.setIfInBounds_toArray, List.set_cons_zero, List.set_cons_succ, i64_w, i32_w]
                          rfl
                        refine pure_ (i := 10) (N := some 38) (v := ?_) (a' := ?_) #[true, true, false, false, true, false, false, false, false, true, true, false, false, false] rfl rfl (any_of HT_.out (by kernel_rfl)) (fun _ _ _ h => h) (Or.inl ⟨by rfl, ?_⟩) ?_ ?_
                        rotate_left
                        · intro w'
                          go_simp
                          with_reducible rfl
                        rotate_left
                        · simp only [Act.put, List.setIfInBounds_toArray, List.set_cons_zero, List.set_cons_succ, i64_w, i32_w]
                          rfl
                        refine inv_at [2, 3, 5, 6, 7, 8, 11, 12, 13] (fun a0_ b a w' => ∃ (v672 : Value) (adz_v672 : Addr) (m6_ : Value), a = putSel a0_ b [(2, 30, .string (x3_2.extract 0 (t668 : Int).toNat)), (3, 31, v672), (5, 33, .int .i64 t674), (6, 34, m6_), (7, 35, .string (rdOf ByteArray.empty y671 t674)), (8, 36, .string ((x3_2.extract 0 (t668 : Int).toNat) ++ (rdOf ByteArray.empty y671 t674))), (11, 39, .string (x3_2.extract (t668 : Int).toNat x3_2.size)), (12, 40, .string (((x3_2.extract 0 (t668 : Int).toNat) ++ (rdOf ByteArray.empty y671 t674)) ++ (x3_2.extract (t668 : Int).toNat x3_2.size))), (13, 2, .string (((x3_2.extract 0 (t668 : Int).toNat) ++ (rdOf ByteArray.empty y671 t674)) ++ (x3_2.extract (t668 : Int).toNat x3_2.size)))] ∧ (b 5 = false → IsS92 w0 w' g s0_0 t669 t670) ∧ (KeepBut w w' g none) ∧ (Below w0.heap.size w0 w') ∧ (b 3 = true → Kd.R Kd.string 9 w' w.heap.size (fun _ => True) v672 y671) ∧ (b 3 = true → ∃ c_, (v672 : Value) = .slice (some adz_v672) y671.length c_) ∧ (b 5 = true → IsS92 w0 w' g s0_0 t675 t676) ∧ (b 6 = true → (m6_ : Value) = .pointer (some (adz_v672.add (t674).toNat)))) HT_.out HW_.out (by kernel_rfl) (by kernel_rfl) ?_ ?_ ?_
                        · exact ⟨.bool false, ⟨0, 0, none⟩, .bool false, by simp only [putSel, Bool.false_eq_true, if_false], fun _ => HI0.out, HK.out, HB.out, fun h_ => absurd h_ (by decide), fun h_ => absurd h_ (by decide), fun h_ => absurd h_ (by decide), fun h_ => absurd h_ (by decide)⟩
                        · skip
                          clear HB HI0 HK
                          refine steps_cons ?_ ?_
                          · rintro b a w' ⟨v672, adz_v672, m6_, ha, Q_HI0, Q_HK, Q_HB, Q_HO673, Q_HA_HO673, Q_HI0_e5, Q_X6_⟩ hb_ hon hoff
                            refine ⟨_, rfl, fun K hK => ?_⟩
                            have e28 : a.tmps[28]? = some (.string x3_2) := by rw [ha]; exact (putSel_off rfl).trans rfl
                            have e29 : a.tmps[29]? = some (.int .i64 t668) := by rw [ha]; exact (putSel_off rfl).trans rfl
                            replace ha := Aside0.mk ha
                            have HK := Aside0.mk Q_HK
                            have HB := Aside0.mk Q_HB
                            refine value_ (w1 := w') (v := .string (x3_2.extract 0 (t668 : Int).toNat)) (by rfl) rfl ?_ ?_
                            · go_simp
                              (try simp only [i64_w])
                              try first | rfl | (have hz_ := c26; (try have hy20_ := of_eq_true c20b0); (try have hy21_ := of_eq_true c21b0); (try have hy22_ := of_eq_true c22b0); (try have hy23_ := of_eq_true c23b0); (try have hy24_ := of_eq_true c24b0); (try have hy25_ := of_eq_true c25b0); (try have hy26_ := of_eq_true c26b0); (try simp only [ByteArray.size_append, ByteArray.size_extract] at hz_); omega) | (have hz_ := c29; (try have hy23_ := of_eq_true c23b0); (try have hy24_ := of_eq_true c24b0); (try have hy25_ := of_eq_true c25b0); (try have hy26_ := of_eq_true c26b0); (try have hy27_ := of_eq_true c27b0); (try have hy28_ := of_eq_true c28b0); (try have hy29_ := of_eq_true c29b0); (try simp only [ByteArray.size_append, ByteArray.size_extract] at hz_); omega) | (have hz_ := c43; (try have hy37_ := of_eq_true c37b0); (try have hy38_ := of_eq_true c38b0); (try have hy39_ := of_eq_true c39b0); (try have hy40_ := of_eq_true c40b0); (try have hy41_ := of_eq_true c41b0); (try have hy42_ := of_eq_true c42b0); (try have hy43_ := of_eq_true c43b0); (try simp only [ByteArray.size_append, ByteArray.size_extract] at hz_); omega) | (have hz_ := c44; (try have hy38_ := of_eq_true c38b0); (try have hy39_ := of_eq_true c39b0); (try have hy40_ := of_eq_true c40b0); (try have hy41_ := of_eq_true c41b0); (try have hy42_ := of_eq_true c42b0); (try have hy43_ := of_eq_true c43b0); (try have hy44_ := of_eq_true c44b0); (try simp only [ByteArray.size_append, ByteArray.size_extract] at hz_); omega)
                            refine hK.out _ _ ⟨v672, adz_v672, m6_, (by rw [ha.out]; exact putSel_upk 0 hb_ rfl rfl rfl), Q_HI0, Q_HK, Q_HB, Q_HO673, Q_HA_HO673, Q_HI0_e5, Q_X6_⟩
                          refine steps_cons ?_ ?_
                          · rintro b a w' ⟨v672, adz_v672, m6_, ha, Q_HI0, Q_HK, Q_HB, Q_HO673, Q_HA_HO673, Q_HI0_e5, Q_X6_⟩ hb_ hon hoff
                            refine ⟨_, rfl, fun K hK => ?_⟩
                            replace ha := Aside0.mk ha
                            have HK := Aside0.mk Q_HK
                            have HB := Aside0.mk Q_HB
                            refine Kd.R_lit_step Kd.string _ 9 ?hg (N := 31) ?hd (xs := ([(⟨#[40]⟩ : ByteArray), (⟨#[41]⟩ : ByteArray), (⟨#[44]⟩ : ByteArray), (⟨#[34]⟩ : ByteArray), (⟨#[49]⟩ : ByteArray), (⟨#[32]⟩ : ByteArray)] : List ByteArray)) (inner := [.string (⟨#[40]⟩ : ByteArray), .string (⟨#[41]⟩ : ByteArray), .string (⟨#[44]⟩ : ByteArray), .string (⟨#[34]⟩ : ByteArray), .string (⟨#[49]⟩ : ByteArray), .string (⟨#[32]⟩ : ByteArray)]) (ok := fun _ => True) (okp := fun _ => True) ?hr ?hp (fun _ hk => hk) trivial (Below.refl _ _) (Nat.le_refl _) (by simp) ?_; (case hd => rfl); (case hg => rfl); (case hr => first | (go_simp; done) | (go_simp; rfl)); (case hp => exact (Reps.one (show Kd.M Kd.string _ _ _ (⟨#[40]⟩ : ByteArray) [.string (⟨#[40]⟩ : ByteArray)] from rfl) (Reps.one (show Kd.M Kd.string _ _ _ (⟨#[41]⟩ : ByteArray) [.string (⟨#[41]⟩ : ByteArray)] from rfl) (Reps.one (show Kd.M Kd.string _ _ _ (⟨#[44]⟩ : ByteArray) [.string (⟨#[44]⟩ : ByteArray)] from rfl) (Reps.one (show Kd.M Kd.string _ _ _ (⟨#[34]⟩ : ByteArray) [.string (⟨#[34]⟩ : ByteArray)] from rfl) (Reps.one (show Kd.M Kd.string _ _ _ (⟨#[49]⟩ : ByteArray) [.string (⟨#[49]⟩ : ByteArray)] from rfl) (Reps.one (show Kd.M Kd.string _ _ _ (⟨#[32]⟩ : ByteArray) [.string (⟨#[32]⟩ : ByteArray)] from rfl) (Reps.none _ _))))))))
                            intro v672 w34 ho35 hb hg_ hnew_
                            clear hg_ hnew_
                            (first | rw [← Ny671.out] at ho35 | (simp only [Int.reduceToNat] at ho35; rw [← Ny671.out] at ho35))
                            have n0_ := Aside0.mk (Kd.R_lower ho35 (keep_size (w := w) (g := g) (row := none) (by repeat (first | (with_reducible first | exact HK.out | apply KeepBut.set_ | apply keep_drewN | apply keep_drew | apply keep_alloc) | exact HK.out))))
                            have n2_ := Aside0.mk (KeepBut.trans (by repeat (first | (with_reducible first | exact HK.out | apply KeepBut.set_ | apply keep_drewN | apply keep_drew | apply keep_alloc) | exact HK.out)) (KeepBut.of_below hb g none) (.inl rfl))
                            have n3_ := Aside0.mk (below_step (by repeat (first | (with_reducible first | exact HB.out | apply below_alloc | apply pw_below_drewN | apply below_drew1) | exact HB.out)) hb)
                            have z_HI0 := fun (h0_ : b 5 = false) => (show IsS92 w0 w34 g s0_0 t669 t670 from by first | exact (IsS92.below (by repeat (first | (with_reducible first | exact (Q_HI0 h0_) | apply IsS92.alloc | apply IsS92.drewN | apply IsS92.drew | apply IsS92.set_1 | apply IsS92.set_2) | exact (Q_HI0 h0_))) hb))
                            have z_HI0_e5 := fun (h0_ : b 5 = true) => (show IsS92 w0 w34 g s0_0 t675 t676 from by first | exact (IsS92.below (by repeat (first | (with_reducible first | exact (Q_HI0_e5 h0_) | apply IsS92.alloc | apply IsS92.drewN | apply IsS92.drew | apply IsS92.set_1 | apply IsS92.set_2) | exact (Q_HI0_e5 h0_))) hb))
                            clear HK
                            clear HB
                            have HO673 := n0_
                            have HK := n2_
                            have HB := n3_
                            clear n0_ n2_ n3_
                            clear hb ho35
                            obtain ⟨Ao36, co36, eo36⟩ := Kd.R_slice HO673.out
                            subst eo36
                            obtain ⟨ado36, fo36, _⟩ := Kd.at_string (Kd.R_reads' HO673.out).2.2 0 (by decide) (by rw [Ny671.out]; simp)
                            cases fo36
                            refine hK.out _ _ ⟨.slice (some ado36) y671.length co36, ado36, m6_, (by rw [ha.out]; exact putSel_upk 1 hb_ rfl rfl rfl), z_HI0, (by repeat (first | (with_reducible first | exact HK.out | apply KeepBut.set_ | apply keep_drewN | apply keep_drew | apply keep_alloc) | exact HK.out)), (by repeat (first | (with_reducible first | exact HB.out | apply below_alloc | apply pw_below_drewN | apply below_drew1) | exact HB.out)), fun _ => (by (with_reducible repeat (first | apply Kd.R_alloc | apply Kd.R_drewN | apply Kd.R_drew)); exact HO673.out), fun _ => ⟨_, rfl⟩, z_HI0_e5, fun h0_ => absurd ((hoff 6 (by kernel_rfl)).symm.trans h0_) (by decide)⟩
                          refine steps_cons ?_ ?_
                          · rintro b a w' ⟨v672, adz_v672, m6_, ha, Q_HI0, Q_HK, Q_HB, Q_HO673, Q_HA_HO673, Q_HI0_e5, Q_X6_⟩ hb_ hon hoff
                            refine ⟨_, rfl, fun K hK => ?_⟩
                            have e32 : a.tmps[32]? = some (.pointer (some ⟨g, 0, none⟩)) := by rw [ha]; exact (putSel_off rfl).trans rfl
                            replace ha := Aside0.mk ha
                            have HI0 := Aside0.mk (Q_HI0 hb_)
                            have HK := Aside0.mk Q_HK
                            have HB := Aside0.mk Q_HB
                            refine goes_ Tryd.func70 (by kernel_rfl) rfl #[.pointer (some ⟨g, 0, none⟩), .int .i64 6] (by rfl) rfl rfl (by first | (simp only [List.map_toArray, List.map_cons, List.map_nil, Act.eval, Array.getD_eq_getD_getElem?, Option.getD_some, e32]; done) | (simp only [List.map_toArray, List.map_cons, List.map_nil, Act.eval, Array.getD_eq_getD_getElem?, Option.getD_some, e32]; rfl)) ?_
                            with_reducible refine (spec_l01Cur_pick.calls g s0_0 t669 t670 6 t674 t675 t676 w0 _ ?side1 ?side2 A23.out).mono ?_
                            (case side1 => repeat (first | (with_reducible first | exact HI0.out | apply IsS92.alloc | apply IsS92.drewN | apply IsS92.drew | apply IsS92.set_1 | apply IsS92.set_2) | exact HI0.out))
                            (case side2 => repeat (first | (with_reducible first | exact HB.out | apply below_alloc | apply pw_below_drewN | apply below_drew1 | refine below_set ?_ (IsS92.ge HI0.out)) | exact HB.out))
                            rintro e w34 ⟨rfl, hi, hb, hk⟩
                            refine ⟨_, rfl, ?_⟩
                            have n0_ := Aside0.mk (KeepBut.trans (by repeat (first | (with_reducible first | exact HK.out | apply KeepBut.set_ | apply keep_drewN | apply keep_drew | apply keep_alloc) | exact HK.out)) hk (.inl rfl))
                            have n1_ := Aside0.mk (hb)
                            have n2_ := Aside0.mk (hi)
                            have z_HO673 := fun (h0_ : b 3 = true) => (show Kd.R Kd.string 9 w34 w.heap.size (fun _ => True) v672 y671 from by first | exact (Kd.R_mono (Kd.R_keep (IsS92.apart (show IsS92 w0 _ g s0_0 t669 t670 from by repeat (first | (with_reducible first | exact HI0.out | apply IsS92.alloc | apply IsS92.drewN | apply IsS92.drew | apply IsS92.set_1 | apply IsS92.set_2) | exact HI0.out)) (by (with_reducible repeat (first | apply Kd.R_alloc | apply Kd.R_drewN | apply Kd.R_drew)); exact (Q_HO673 h0_)) (by decide)) hk (fun _ h => h.2)) (fun _ h => h.1)) | exact Kd.R_mono (Kd.R_mono (Kd.R_keep (IsS92.apart (show IsS92 w0 _ g s0_0 t669 t670 from by repeat (first | (with_reducible first | exact HI0.out | apply IsS92.alloc | apply IsS92.drewN | apply IsS92.drew | apply IsS92.set_1 | apply IsS92.set_2) | exact HI0.out)) (by (with_reducible repeat (first | apply Kd.R_alloc | apply Kd.R_drewN | apply Kd.R_drew)); exact (Q_HO673 h0_)) (by decide)) hk (fun _ h => h.2)) (fun _ h => h.1)) (fun _ h_ => by first | trivial | exact h_ | exact h_.1))
                            clear HK
                            clear HB
                            clear HI0
                            have HK := n0_
                            have HB := n1_
                            have HI0 := n2_
                            clear n0_ n1_ n2_
                            (try clear hb)
                            (try clear hb2)
                            (try clear hk)
                            (try clear hi)
                            refine hK.out _ _ ⟨v672, adz_v672, m6_, (by rw [ha.out]; exact putSel_upk 2 hb_ rfl rfl rfl), fun h0_ => absurd ((up_self b 5).symm.trans h0_) (by decide), (by repeat (first | (with_reducible first | exact HK.out | apply KeepBut.set_ | apply keep_drewN | apply keep_drew | apply keep_alloc) | exact HK.out)), (by repeat (first | (with_reducible first | exact HB.out | apply below_alloc | apply pw_below_drewN | apply below_drew1 | refine below_set ?_ (IsS92.ge HI0.out)) | exact HB.out)), z_HO673, Q_HA_HO673, fun _ => (by repeat (first | (with_reducible first | exact HI0.out | apply IsS92.alloc | apply IsS92.drewN | apply IsS92.drew | apply IsS92.set_1 | apply IsS92.set_2) | exact HI0.out)), fun h0_ => absurd ((hoff 6 (by kernel_rfl)).symm.trans h0_) (by decide)⟩
                          refine steps_cons ?_ ?_
                          · rintro b a w' ⟨v672, adz_v672, m6_, ha, Q_HI0, Q_HK, Q_HB, Q_HO673, Q_HA_HO673, Q_HI0_e5, Q_X6_⟩ hb_ hon hoff
                            refine ⟨_, rfl, fun K hK => ?_⟩
                            have e31 : a.tmps[31]? = some (v672) := by rw [ha]; exact putSel_on (e := (3, 31, v672)) 1 rfl rfl (hon 3 (by kernel_rfl)) rfl
                            have e33 : a.tmps[33]? = some (.int .i64 t674) := by rw [ha]; exact putSel_on (e := (5, 33, .int .i64 t674)) 2 rfl rfl (hon 5 (by kernel_rfl)) rfl
                            replace ha := Aside0.mk ha
                            have HK := Aside0.mk Q_HK
                            have HB := Aside0.mk Q_HB
                            have HO673 := Aside0.mk (Q_HO673 (hon 3 (by kernel_rfl)))
                            have HA_HO673 := Aside0.mk (Q_HA_HO673 (hon 3 (by kernel_rfl)))
                            have HI0 := Aside0.mk (Q_HI0_e5 (hon 5 (by kernel_rfl)))
                            obtain ⟨c_, hv_⟩ := HA_HO673.out
                            rw [hv_] at e31
                            refine value_ (w1 := w') (v := .pointer (some (adz_v672.add (t674).toNat))) (by rfl) rfl ?_ ?_
                            · go_simp
                              (try simp only [i64_w])
                              try first | rfl | (have hz_ := c26; (try have hy20_ := of_eq_true c20b0); (try have hy21_ := of_eq_true c21b0); (try have hy22_ := of_eq_true c22b0); (try have hy23_ := of_eq_true c23b0); (try have hy24_ := of_eq_true c24b0); (try have hy25_ := of_eq_true c25b0); (try have hy26_ := of_eq_true c26b0); (try simp only [ByteArray.size_append, ByteArray.size_extract] at hz_); omega) | (have hz_ := c29; (try have hy23_ := of_eq_true c23b0); (try have hy24_ := of_eq_true c24b0); (try have hy25_ := of_eq_true c25b0); (try have hy26_ := of_eq_true c26b0); (try have hy27_ := of_eq_true c27b0); (try have hy28_ := of_eq_true c28b0); (try have hy29_ := of_eq_true c29b0); (try simp only [ByteArray.size_append, ByteArray.size_extract] at hz_); omega) | (have hz_ := c43; (try have hy37_ := of_eq_true c37b0); (try have hy38_ := of_eq_true c38b0); (try have hy39_ := of_eq_true c39b0); (try have hy40_ := of_eq_true c40b0); (try have hy41_ := of_eq_true c41b0); (try have hy42_ := of_eq_true c42b0); (try have hy43_ := of_eq_true c43b0); (try simp only [ByteArray.size_append, ByteArray.size_extract] at hz_); omega) | (have hz_ := c44; (try have hy38_ := of_eq_true c38b0); (try have hy39_ := of_eq_true c39b0); (try have hy40_ := of_eq_true c40b0); (try have hy41_ := of_eq_true c41b0); (try have hy42_ := of_eq_true c42b0); (try have hy43_ := of_eq_true c43b0); (try have hy44_ := of_eq_true c44b0); (try simp only [ByteArray.size_append, ByteArray.size_extract] at hz_); omega)
                            refine hK.out _ _ ⟨v672, adz_v672, (.pointer (some (adz_v672.add (t674).toNat))), (by rw [ha.out]; exact putSel_upk 3 hb_ rfl rfl rfl), fun h0_ => absurd ((hon 5 (by kernel_rfl)).symm.trans h0_) (by decide), Q_HK, Q_HB, Q_HO673, Q_HA_HO673, Q_HI0_e5, fun _ => rfl⟩
                          refine steps_cons ?_ ?_
                          · rintro b a w' ⟨v672, adz_v672, m6_, ha, Q_HI0, Q_HK, Q_HB, Q_HO673, Q_HA_HO673, Q_HI0_e5, Q_X6_⟩ hb_ hon hoff
                            refine ⟨_, rfl, fun K hK => ?_⟩
                            have e34 : a.tmps[34]? = some (m6_) := by rw [ha]; exact putSel_on (e := (6, 34, m6_)) 3 rfl rfl (hon 6 (by kernel_rfl)) rfl
                            rw [Q_X6_ (hon 6 (by kernel_rfl))] at e34
                            replace ha := Aside0.mk ha
                            have HK := Aside0.mk Q_HK
                            have HB := Aside0.mk Q_HB
                            have HO673 := Aside0.mk (Q_HO673 (hon 3 (by kernel_rfl)))
                            have HA_HO673 := Aside0.mk (Q_HA_HO673 (hon 3 (by kernel_rfl)))
                            have HI0 := Aside0.mk (Q_HI0_e5 (hon 5 (by kernel_rfl)))
                            obtain ⟨c_, hv_⟩ := HA_HO673.out
                            have hF_ := HO673.out
                            rw [hv_] at hF_
                            obtain ⟨ad_, ea_, hx_⟩ := Kd.at_string (Kd.R_reads' hF_).2.2 t674 (of_eq_true pi677) (of_eq_true qi677)
                            cases ea_
                            refine value_ (w1 := w') (v := .string (rdOf ByteArray.empty y671 t674)) (by rfl) rfl ?_ ?_
                            · go_simp
                              (try simp only [i64_w])
                              try first | rfl | (have hz_ := c26; (try have hy20_ := of_eq_true c20b0); (try have hy21_ := of_eq_true c21b0); (try have hy22_ := of_eq_true c22b0); (try have hy23_ := of_eq_true c23b0); (try have hy24_ := of_eq_true c24b0); (try have hy25_ := of_eq_true c25b0); (try have hy26_ := of_eq_true c26b0); (try simp only [ByteArray.size_append, ByteArray.size_extract] at hz_); omega) | (have hz_ := c29; (try have hy23_ := of_eq_true c23b0); (try have hy24_ := of_eq_true c24b0); (try have hy25_ := of_eq_true c25b0); (try have hy26_ := of_eq_true c26b0); (try have hy27_ := of_eq_true c27b0); (try have hy28_ := of_eq_true c28b0); (try have hy29_ := of_eq_true c29b0); (try simp only [ByteArray.size_append, ByteArray.size_extract] at hz_); omega) | (have hz_ := c43; (try have hy37_ := of_eq_true c37b0); (try have hy38_ := of_eq_true c38b0); (try have hy39_ := of_eq_true c39b0); (try have hy40_ := of_eq_true c40b0); (try have hy41_ := of_eq_true c41b0); (try have hy42_ := of_eq_true c42b0); (try have hy43_ := of_eq_true c43b0); (try simp only [ByteArray.size_append, ByteArray.size_extract] at hz_); omega) | (have hz_ := c44; (try have hy38_ := of_eq_true c38b0); (try have hy39_ := of_eq_true c39b0); (try have hy40_ := of_eq_true c40b0); (try have hy41_ := of_eq_true c41b0); (try have hy42_ := of_eq_true c42b0); (try have hy43_ := of_eq_true c43b0); (try have hy44_ := of_eq_true c44b0); (try simp only [ByteArray.size_append, ByteArray.size_extract] at hz_); omega)
                            refine hK.out _ _ ⟨v672, adz_v672, m6_, (by rw [ha.out]; exact putSel_upk 4 hb_ rfl rfl rfl), fun h0_ => absurd ((hon 5 (by kernel_rfl)).symm.trans h0_) (by decide), Q_HK, Q_HB, Q_HO673, Q_HA_HO673, Q_HI0_e5, Q_X6_⟩
                          refine steps_cons ?_ ?_
                          · rintro b a w' ⟨v672, adz_v672, m6_, ha, Q_HI0, Q_HK, Q_HB, Q_HO673, Q_HA_HO673, Q_HI0_e5, Q_X6_⟩ hb_ hon hoff
                            refine ⟨_, rfl, fun K hK => ?_⟩
                            have e30 : a.tmps[30]? = some (.string (x3_2.extract 0 (t668 : Int).toNat)) := by rw [ha]; exact putSel_on (e := (2, 30, .string (x3_2.extract 0 (t668 : Int).toNat))) 0 rfl rfl (hon 2 (by kernel_rfl)) rfl
                            have e35 : a.tmps[35]? = some (.string (rdOf ByteArray.empty y671 t674)) := by rw [ha]; exact putSel_on (e := (7, 35, .string (rdOf ByteArray.empty y671 t674))) 4 rfl rfl (hon 7 (by kernel_rfl)) rfl
                            replace ha := Aside0.mk ha
                            have HK := Aside0.mk Q_HK
                            have HB := Aside0.mk Q_HB
                            have HO673 := Aside0.mk (Q_HO673 (hon 3 (by kernel_rfl)))
                            have HA_HO673 := Aside0.mk (Q_HA_HO673 (hon 3 (by kernel_rfl)))
                            have HI0 := Aside0.mk (Q_HI0_e5 (hon 5 (by kernel_rfl)))
                            refine value_ (w1 := w') (v := .string ((x3_2.extract 0 (t668 : Int).toNat) ++ (rdOf ByteArray.empty y671 t674))) (by rfl) rfl ?_ ?_
                            · go_simp
                              (try simp only [i64_w])
                              try first | rfl | (have hz_ := c26; (try have hy20_ := of_eq_true c20b0); (try have hy21_ := of_eq_true c21b0); (try have hy22_ := of_eq_true c22b0); (try have hy23_ := of_eq_true c23b0); (try have hy24_ := of_eq_true c24b0); (try have hy25_ := of_eq_true c25b0); (try have hy26_ := of_eq_true c26b0); (try simp only [ByteArray.size_append, ByteArray.size_extract] at hz_); omega) | (have hz_ := c29; (try have hy23_ := of_eq_true c23b0); (try have hy24_ := of_eq_true c24b0); (try have hy25_ := of_eq_true c25b0); (try have hy26_ := of_eq_true c26b0); (try have hy27_ := of_eq_true c27b0); (try have hy28_ := of_eq_true c28b0); (try have hy29_ := of_eq_true c29b0); (try simp only [ByteArray.size_append, ByteArray.size_extract] at hz_); omega) | (have hz_ := c43; (try have hy37_ := of_eq_true c37b0); (try have hy38_ := of_eq_true c38b0); (try have hy39_ := of_eq_true c39b0); (try have hy40_ := of_eq_true c40b0); (try have hy41_ := of_eq_true c41b0); (try have hy42_ := of_eq_true c42b0); (try have hy43_ := of_eq_true c43b0); (try simp only [ByteArray.size_append, ByteArray.size_extract] at hz_); omega) | (have hz_ := c44; (try have hy38_ := of_eq_true c38b0); (try have hy39_ := of_eq_true c39b0); (try have hy40_ := of_eq_true c40b0); (try have hy41_ := of_eq_true c41b0); (try have hy42_ := of_eq_true c42b0); (try have hy43_ := of_eq_true c43b0); (try have hy44_ := of_eq_true c44b0); (try simp only [ByteArray.size_append, ByteArray.size_extract] at hz_); omega)
                            refine hK.out _ _ ⟨v672, adz_v672, m6_, (by rw [ha.out]; exact putSel_upk 5 hb_ rfl rfl rfl), fun h0_ => absurd ((hon 5 (by kernel_rfl)).symm.trans h0_) (by decide), Q_HK, Q_HB, Q_HO673, Q_HA_HO673, Q_HI0_e5, Q_X6_⟩
                          refine steps_cons ?_ ?_
                          · rintro b a w' ⟨v672, adz_v672, m6_, ha, Q_HI0, Q_HK, Q_HB, Q_HO673, Q_HA_HO673, Q_HI0_e5, Q_X6_⟩ hb_ hon hoff
                            refine ⟨_, rfl, fun K hK => ?_⟩
                            have e37 : a.tmps[37]? = some (.string x3_2) := by rw [ha]; exact (putSel_off rfl).trans rfl
                            have e38 : a.tmps[38]? = some (.int .i64 t668) := by rw [ha]; exact (putSel_off rfl).trans rfl
                            replace ha := Aside0.mk ha
                            have HK := Aside0.mk Q_HK
                            have HB := Aside0.mk Q_HB
                            refine value_ (w1 := w') (v := .string (x3_2.extract (t668 : Int).toNat x3_2.size)) (by rfl) rfl ?_ ?_
                            · go_simp
                              (try simp only [i64_w])
                              try first | rfl | (have hz_ := c26; (try have hy20_ := of_eq_true c20b0); (try have hy21_ := of_eq_true c21b0); (try have hy22_ := of_eq_true c22b0); (try have hy23_ := of_eq_true c23b0); (try have hy24_ := of_eq_true c24b0); (try have hy25_ := of_eq_true c25b0); (try have hy26_ := of_eq_true c26b0); (try simp only [ByteArray.size_append, ByteArray.size_extract] at hz_); omega) | (have hz_ := c29; (try have hy23_ := of_eq_true c23b0); (try have hy24_ := of_eq_true c24b0); (try have hy25_ := of_eq_true c25b0); (try have hy26_ := of_eq_true c26b0); (try have hy27_ := of_eq_true c27b0); (try have hy28_ := of_eq_true c28b0); (try have hy29_ := of_eq_true c29b0); (try simp only [ByteArray.size_append, ByteArray.size_extract] at hz_); omega) | (have hz_ := c43; (try have hy37_ := of_eq_true c37b0); (try have hy38_ := of_eq_true c38b0); (try have hy39_ := of_eq_true c39b0); (try have hy40_ := of_eq_true c40b0); (try have hy41_ := of_eq_true c41b0); (try have hy42_ := of_eq_true c42b0); (try have hy43_ := of_eq_true c43b0); (try simp only [ByteArray.size_append, ByteArray.size_extract] at hz_); omega) | (have hz_ := c44; (try have hy38_ := of_eq_true c38b0); (try have hy39_ := of_eq_true c39b0); (try have hy40_ := of_eq_true c40b0); (try have hy41_ := of_eq_true c41b0); (try have hy42_ := of_eq_true c42b0); (try have hy43_ := of_eq_true c43b0); (try have hy44_ := of_eq_true c44b0); (try simp only [ByteArray.size_append, ByteArray.size_extract] at hz_); omega)
                            refine hK.out _ _ ⟨v672, adz_v672, m6_, (by rw [ha.out]; exact putSel_upk 6 hb_ rfl rfl rfl), Q_HI0, Q_HK, Q_HB, Q_HO673, Q_HA_HO673, Q_HI0_e5, Q_X6_⟩
                          refine steps_cons ?_ ?_
                          · rintro b a w' ⟨v672, adz_v672, m6_, ha, Q_HI0, Q_HK, Q_HB, Q_HO673, Q_HA_HO673, Q_HI0_e5, Q_X6_⟩ hb_ hon hoff
                            refine ⟨_, rfl, fun K hK => ?_⟩
                            have e36 : a.tmps[36]? = some (.string ((x3_2.extract 0 (t668 : Int).toNat) ++ (rdOf ByteArray.empty y671 t674))) := by rw [ha]; exact putSel_on (e := (8, 36, .string ((x3_2.extract 0 (t668 : Int).toNat) ++ (rdOf ByteArray.empty y671 t674)))) 5 rfl rfl (hon 8 (by kernel_rfl)) rfl
                            have e39 : a.tmps[39]? = some (.string (x3_2.extract (t668 : Int).toNat x3_2.size)) := by rw [ha]; exact putSel_on (e := (11, 39, .string (x3_2.extract (t668 : Int).toNat x3_2.size))) 6 rfl rfl (hon 11 (by kernel_rfl)) rfl
                            replace ha := Aside0.mk ha
                            have HK := Aside0.mk Q_HK
                            have HB := Aside0.mk Q_HB
                            have HO673 := Aside0.mk (Q_HO673 (hon 3 (by kernel_rfl)))
                            have HA_HO673 := Aside0.mk (Q_HA_HO673 (hon 3 (by kernel_rfl)))
                            have HI0 := Aside0.mk (Q_HI0_e5 (hon 5 (by kernel_rfl)))
                            refine value_ (w1 := w') (v := .string (((x3_2.extract 0 (t668 : Int).toNat) ++ (rdOf ByteArray.empty y671 t674)) ++ (x3_2.extract (t668 : Int).toNat x3_2.size))) (by rfl) rfl ?_ ?_
                            · go_simp
                              (try simp only [i64_w])
                              try first | rfl | (have hz_ := c26; (try have hy20_ := of_eq_true c20b0); (try have hy21_ := of_eq_true c21b0); (try have hy22_ := of_eq_true c22b0); (try have hy23_ := of_eq_true c23b0); (try have hy24_ := of_eq_true c24b0); (try have hy25_ := of_eq_true c25b0); (try have hy26_ := of_eq_true c26b0); (try simp only [ByteArray.size_append, ByteArray.size_extract] at hz_); omega) | (have hz_ := c29; (try have hy23_ := of_eq_true c23b0); (try have hy24_ := of_eq_true c24b0); (try have hy25_ := of_eq_true c25b0); (try have hy26_ := of_eq_true c26b0); (try have hy27_ := of_eq_true c27b0); (try have hy28_ := of_eq_true c28b0); (try have hy29_ := of_eq_true c29b0); (try simp only [ByteArray.size_append, ByteArray.size_extract] at hz_); omega) | (have hz_ := c43; (try have hy37_ := of_eq_true c37b0); (try have hy38_ := of_eq_true c38b0); (try have hy39_ := of_eq_true c39b0); (try have hy40_ := of_eq_true c40b0); (try have hy41_ := of_eq_true c41b0); (try have hy42_ := of_eq_true c42b0); (try have hy43_ := of_eq_true c43b0); (try simp only [ByteArray.size_append, ByteArray.size_extract] at hz_); omega) | (have hz_ := c44; (try have hy38_ := of_eq_true c38b0); (try have hy39_ := of_eq_true c39b0); (try have hy40_ := of_eq_true c40b0); (try have hy41_ := of_eq_true c41b0); (try have hy42_ := of_eq_true c42b0); (try have hy43_ := of_eq_true c43b0); (try have hy44_ := of_eq_true c44b0); (try simp only [ByteArray.size_append, ByteArray.size_extract] at hz_); omega)
                            refine hK.out _ _ ⟨v672, adz_v672, m6_, (by rw [ha.out]; exact putSel_upk 7 hb_ rfl rfl rfl), fun h0_ => absurd ((hon 5 (by kernel_rfl)).symm.trans h0_) (by decide), Q_HK, Q_HB, Q_HO673, Q_HA_HO673, Q_HI0_e5, Q_X6_⟩
                          refine steps_cons ?_ ?_
                          · rintro b a w' ⟨v672, adz_v672, m6_, ha, Q_HI0, Q_HK, Q_HB, Q_HO673, Q_HA_HO673, Q_HI0_e5, Q_X6_⟩ hb_ hon hoff
                            refine ⟨_, rfl, fun K hK => ?_⟩
                            have e40 : a.tmps[40]? = some (.string (((x3_2.extract 0 (t668 : Int).toNat) ++ (rdOf ByteArray.empty y671 t674)) ++ (x3_2.extract (t668 : Int).toNat x3_2.size))) := by rw [ha]; exact putSel_on (e := (12, 40, .string (((x3_2.extract 0 (t668 : Int).toNat) ++ (rdOf ByteArray.empty y671 t674)) ++ (x3_2.extract (t668 : Int).toNat x3_2.size)))) 7 rfl rfl (hon 12 (by kernel_rfl)) rfl
                            replace ha := Aside0.mk ha
                            have HK := Aside0.mk Q_HK
                            have HB := Aside0.mk Q_HB
                            have HO673 := Aside0.mk (Q_HO673 (hon 3 (by kernel_rfl)))
                            have HA_HO673 := Aside0.mk (Q_HA_HO673 (hon 3 (by kernel_rfl)))
                            have HI0 := Aside0.mk (Q_HI0_e5 (hon 5 (by kernel_rfl)))
                            refine value_ (w1 := w') (v := .string (((x3_2.extract 0 (t668 : Int).toNat) ++ (rdOf ByteArray.empty y671 t674)) ++ (x3_2.extract (t668 : Int).toNat x3_2.size))) (by rfl) rfl ?_ ?_
                            · go_simp
                              (try simp only [i64_w])
                              try first | rfl | (have hz_ := c26; (try have hy20_ := of_eq_true c20b0); (try have hy21_ := of_eq_true c21b0); (try have hy22_ := of_eq_true c22b0); (try have hy23_ := of_eq_true c23b0); (try have hy24_ := of_eq_true c24b0); (try have hy25_ := of_eq_true c25b0); (try have hy26_ := of_eq_true c26b0); (try simp only [ByteArray.size_append, ByteArray.size_extract] at hz_); omega) | (have hz_ := c29; (try have hy23_ := of_eq_true c23b0); (try have hy24_ := of_eq_true c24b0); (try have hy25_ := of_eq_true c25b0); (try have hy26_ := of_eq_true c26b0); (try have hy27_ := of_eq_true c27b0); (try have hy28_ := of_eq_true c28b0); (try have hy29_ := of_eq_true c29b0); (try simp only [ByteArray.size_append, ByteArray.size_extract] at hz_); omega) | (have hz_ := c43; (try have hy37_ := of_eq_true c37b0); (try have hy38_ := of_eq_true c38b0); (try have hy39_ := of_eq_true c39b0); (try have hy40_ := of_eq_true c40b0); (try have hy41_ := of_eq_true c41b0); (try have hy42_ := of_eq_true c42b0); (try have hy43_ := of_eq_true c43b0); (try simp only [ByteArray.size_append, ByteArray.size_extract] at hz_); omega) | (have hz_ := c44; (try have hy38_ := of_eq_true c38b0); (try have hy39_ := of_eq_true c39b0); (try have hy40_ := of_eq_true c40b0); (try have hy41_ := of_eq_true c41b0); (try have hy42_ := of_eq_true c42b0); (try have hy43_ := of_eq_true c43b0); (try have hy44_ := of_eq_true c44b0); (try simp only [ByteArray.size_append, ByteArray.size_extract] at hz_); omega)
                            refine hK.out _ _ ⟨v672, adz_v672, m6_, (by rw [ha.out]; exact putSel_upk 8 hb_ rfl rfl rfl), fun h0_ => absurd ((hon 5 (by kernel_rfl)).symm.trans h0_) (by decide), Q_HK, Q_HB, Q_HO673, Q_HA_HO673, Q_HI0_e5, Q_X6_⟩
                          exact steps_nil
                        rintro b a w38 hall ⟨v672, adz_v672, m6_, ha, Q_HI0, Q_HK, Q_HB, Q_HO673, Q_HA_HO673, Q_HI0_e5, Q_X6_⟩
                        clear HB HI0 HK
                        have hb2_ := hall 2 (by kernel_rfl)
                        have hb3_ := hall 3 (by kernel_rfl)
                        have hb5_ := hall 5 (by kernel_rfl)
                        have hb6_ := hall 6 (by kernel_rfl)
                        have hb7_ := hall 7 (by kernel_rfl)
                        have hb8_ := hall 8 (by kernel_rfl)
                        have hb11_ := hall 11 (by kernel_rfl)
                        have hb12_ := hall 12 (by kernel_rfl)
                        have hb13_ := hall 13 (by kernel_rfl)
                        subst ha
                        obtain rfl := Q_X6_ hb6_
                        simp only [putSel, hb2_, hb3_, hb5_, hb6_, hb7_, hb8_, hb11_, hb12_, hb13_, if_true, Act.put, List.setIfInBounds_toArray, List.set_cons_zero, List.set_cons_succ]
                        clear Q_HI0
                        have HK := Aside0.mk Q_HK
                        clear Q_HK
                        have HB := Aside0.mk Q_HB
                        clear Q_HB
                        have HO673 := Aside0.mk (Q_HO673 hb3_)
                        clear Q_HO673
                        have HA_HO673 := Aside0.mk (Q_HA_HO673 hb3_)
                        clear Q_HA_HO673
                        have HI0 := Aside0.mk (Q_HI0_e5 hb5_)
                        clear Q_HI0_e5
                        clear hall hb2_ hb3_ hb5_ hb6_ hb7_ hb8_ hb11_ hb12_ hb13_
                        obtain ⟨co39, eo39⟩ := HA_HO673.out
                        clear HA_HO673
                        subst eo39
                        try go_wp2
                        go_ret
                        exact ⟨by first | rfl | (simp [errW_none, errW_some] <;> rfl) | (simp [*, errW_none, errW_some] <;> rfl), by repeat (first | (with_reducible first | exact HI0.out | apply IsS92.alloc | apply IsS92.drewN | apply IsS92.drew | apply IsS92.set_1 | apply IsS92.set_2) | exact HI0.out), by repeat (first | (with_reducible first | exact HB.out | apply below_alloc | apply pw_below_drewN | apply below_drew1 | refine below_set ?_ (IsS92.ge HI0.out)) | exact HB.out), by repeat (first | (with_reducible first | exact HK.out | apply KeepBut.set_ | apply keep_drewN | apply keep_drew | apply keep_alloc) | exact HK.out)⟩
                      · rw [if_neg c29] at H
                        exact absurd H (by simp)
                    · rw [if_neg c26] at H
                      exact absurd H (by simp)
                  · rw [if_neg c25] at H
                    exact absurd H (by simp)
                · rw [if_neg c24] at H
                  exact absurd H (by simp)
              · rw [if_neg c22] at H
                exact absurd H (by simp)
            · rw [if_neg c21] at H
              exact absurd H (by simp)
          · rw [if_neg c19] at H
            have c19b0 : (t658 == 1) = false := beq_eq_false_iff_ne.mpr c19
            have c19b1 : (t658 != 1) = true := bne_iff_ne.mpr c19
            have H' := Aside0.mk H
            clear H
            go_wp2_with (first | ((with_reducible refine gate_callee (f := 118) rfl ?_); refine goesL_ (some 11) rfl rfl Tryd.func118 (by kernel_rfl) rfl #[.pointer (some ⟨g, 0, none⟩), .int .i64 5] rfl (by (try simp only [List.map_toArray, List.map_cons, List.map_nil]); first | done | rfl | (simp only [List.length_drop, List.length_take]; rfl)) ?_; (with_reducible refine (spec_l01Cur_once.calls g s0_0 t653 t654 5 true t656 t657 w0 _ ?side1 ?side2 A6.out).mono ?_); (case side1 => repeat (first | (with_reducible first | exact HI0.out | apply IsS92.alloc | apply IsS92.drewN | apply IsS92.drew | apply IsS92.set_1 | apply IsS92.set_2) | exact HI0.out)); (case side2 => repeat (first | (with_reducible first | exact HB.out | apply below_alloc | apply pw_below_drewN | apply below_drew1 | refine below_set ?_ (IsS92.ge HI0.out)) | exact HB.out)); rintro e w40 ⟨rfl, hi, hb, hk⟩; refine ⟨_, rfl, ?_⟩; have n0_ := Aside0.mk (KeepBut.trans (by repeat (first | (with_reducible first | exact HK.out | apply KeepBut.set_ | apply keep_drewN | apply keep_drew | apply keep_alloc) | exact HK.out)) hk (.inl rfl)); have n1_ := Aside0.mk (hb); have n2_ := Aside0.mk (hi); clear HK; clear HB; clear HI0; have HK := n0_; have HB := n1_; have HI0 := n2_; clear n0_ n1_ n2_; (try clear hb); (try clear hb2); (try clear hk); (try clear hi)) | ((with_reducible refine gate_callee (f := 70) rfl ?_); refine goesL_ (some 13) rfl rfl Tryd.func70 (by kernel_rfl) rfl #[.pointer (some ⟨g, 0, none⟩), .int .i64 3] rfl (by (try simp only [List.map_toArray, List.map_cons, List.map_nil]); first | done | rfl | (simp only [List.length_drop, List.length_take]; rfl)) ?_; (with_reducible refine (spec_l01Cur_pick.calls g s0_0 t656 t657 3 t658 t659 t660 w0 _ ?side1 ?side2 A8.out).mono ?_); (case side1 => repeat (first | (with_reducible first | exact HI0.out | apply IsS92.alloc | apply IsS92.drewN | apply IsS92.drew | apply IsS92.set_1 | apply IsS92.set_2) | exact HI0.out)); (case side2 => repeat (first | (with_reducible first | exact HB.out | apply below_alloc | apply pw_below_drewN | apply below_drew1 | refine below_set ?_ (IsS92.ge HI0.out)) | exact HB.out)); rintro e w41 ⟨rfl, hi, hb, hk⟩; refine ⟨_, rfl, ?_⟩; have n0_ := Aside0.mk (KeepBut.trans (by repeat (first | (with_reducible first | exact HK.out | apply KeepBut.set_ | apply keep_drewN | apply keep_drew | apply keep_alloc) | exact HK.out)) hk (.inl rfl)); have n1_ := Aside0.mk (hb); have n2_ := Aside0.mk (hi); clear HK; clear HB; clear HI0; have HK := n0_; have HB := n1_; have HI0 := n2_; clear n0_ n1_ n2_; (try clear hb); (try clear hb2); (try clear hk); (try clear hi)))
            go_loopg [3] kj2 (fun kq v3 w' => ∃ (x3_2 : ByteArray), v3 = .string x3_2 ∧ Aside0 (spec_l01Cur_any.l0 kq x3_2 s0_0 t659 t660 = some (r1, r2, r3)) ∧ Aside0 (kq ≤ kj2) ∧ Aside0 (IsS92 w0 w' g s0_0 t659 t660) ∧ Aside0 (KeepBut w w' g none) ∧ Aside0 (Below w0.heap.size w0 w'))
            case atStart => exact ⟨(x3_2), (by first | rfl | (simp; done) | (simp [*]; done)), H', ⟨Nat.le_refl _⟩, ⟨by repeat (first | (with_reducible first | exact HI0.out | apply IsS92.alloc | apply IsS92.drewN | apply IsS92.drew | apply IsS92.set_1 | apply IsS92.set_2) | exact HI0.out)⟩, ⟨by repeat (first | (with_reducible first | exact HK.out | apply KeepBut.set_ | apply keep_drewN | apply keep_drew | apply keep_alloc) | exact HK.out)⟩, ⟨by repeat (first | (with_reducible first | exact HB.out | apply below_alloc | apply pw_below_drewN | apply below_drew1 | refine below_set ?_ (IsS92.ge HI0.out)) | exact HB.out)⟩⟩
            case round =>
              clear H'
              try clear c1
              try clear c2
              try clear p2
              try clear c5
              try clear c5b0
              try clear c5b1
              try clear p6
              try clear q6
              try clear hx6
              try clear qi6
              try clear c7
              try clear c9
              try clear c9b0
              try clear c9b1
              try clear c11
              try clear c11b0
              try clear c12
              try clear c12b0
              try clear c19
              try clear c19b0
              try clear c19b1
              try clear c21
              try clear c21b0
              try clear c21b1
              try clear c22
              try clear c22b0
              try clear c22b1
              try clear c24
              try clear c24b0
              try clear c25
              try clear c25b0
              try clear c26
              try clear c26b0
              try clear c26b1
              try clear c26b2
              try clear c27
              try clear c27b0
              try clear c28
              try clear c28b0
              try clear c29
              try clear c29b0
              try clear c29b1
              try clear c29b2
              try clear hx667_0
              try clear p2
              try clear p667
              try clear q667
              obtain ⟨x3_2, rfl, HA, HK2, HI0, HK, HB⟩ := hrel
              cases gk with
              | zero => exact absurd HA.out (by simp [spec_l01Cur_any.l0])
              | succ k2 =>
                have H := HA.out
                clear HA
                simp only [spec_l01Cur_any.l0] at H
                by_cases c42 : (x3_2.size : Int) ≤ 200
                · rw [if_pos c42] at H
                  have c42b0 : decide ((x3_2.size : Int) ≤ 200) = true := decide_eq_true c42
                  have c42b1 : decide (x3_2.size ≤ 200) = true := decide_eq_true (by omega)
                  clear c42
                  by_cases c43 : 2 + x3_2.size ≤ 9223372036854775807
                  · rw [if_pos c43] at H
                    have c43b0 := eq_true c43
                    have c43b1 : decide (2 + x3_2.size ≤ 9223372036854775807) = true := decide_eq_true c43
                    try have c43b2 : (9223372036854775807 < 2 + x3_2.size) = False := eq_false (Nat.not_lt.2 c43)
                    by_cases c44 : ((⟨#[83, 40]⟩ : ByteArray) ++ x3_2).size + 1 ≤ 9223372036854775807
                    · rw [if_pos c44] at H
                      have c44b0 := eq_true c44
                      have c44b1 : decide (((⟨#[83, 40]⟩ : ByteArray) ++ x3_2).size + 1 ≤ 9223372036854775807) = true := decide_eq_true c44
                      try have c44b2 : (9223372036854775807 < ((⟨#[83, 40]⟩ : ByteArray) ++ x3_2).size + 1) = False := eq_false (Nat.not_lt.2 c44)
                      try have c44b3 : (9223372036854775807 < 2 + x3_2.size + 1) = False := (congrArg (fun n_ => (9223372036854775807 < n_)) (show 2 + x3_2.size + 1 = ((⟨#[83, 40]⟩ : ByteArray) ++ x3_2).size + 1 by (simp only [ByteArray.size_append]; try rfl))).trans c44b2
                      have H' := Aside0.mk H
                      clear H
                      go_wp2
                      go_roundg k2
                      case measure => have := HJ2.out; have := HK2.out; omega
                      case rel => exact ⟨(((⟨#[83, 40]⟩ : ByteArray) ++ x3_2) ++ (⟨#[41]⟩ : ByteArray)), (by first | rfl | (simp; done) | (simp [*]; done)), H', ⟨by have := HJ2.out; have := HK2.out; omega⟩, ⟨by repeat (first | (with_reducible first | exact HI0.out | apply IsS92.alloc | apply IsS92.drewN | apply IsS92.drew | apply IsS92.set_1 | apply IsS92.set_2) | exact HI0.out)⟩, ⟨by repeat (first | (with_reducible first | exact HK.out | apply KeepBut.set_ | apply keep_drewN | apply keep_drew | apply keep_alloc) | exact HK.out)⟩, ⟨by repeat (first | (with_reducible first | exact HB.out | apply below_alloc | apply pw_below_drewN | apply below_drew1 | refine below_set ?_ (IsS92.ge HI0.out)) | exact HB.out)⟩⟩
                    · rw [if_neg c44] at H
                      exact absurd H (by simp)
                  · rw [if_neg c43] at H
                    exact absurd H (by simp)
                · rw [if_neg c42] at H
                  have c42b0 : decide ((x3_2.size : Int) ≤ 200) = false := decide_eq_false c42
                  have c42b1 : decide (x3_2.size ≤ 200) = false := decide_eq_false (by omega)
                  clear c42
                  simp only [Option.some.injEq, Prod.mk.injEq] at H
                  obtain ⟨rfl, rfl, rfl⟩ := H
                  go_wp2
                  go_ret
                  exact ⟨by first | rfl | (simp [errW_none, errW_some] <;> rfl) | (simp [*, errW_none, errW_some] <;> rfl), by repeat (first | (with_reducible first | exact HI0.out | apply IsS92.alloc | apply IsS92.drewN | apply IsS92.drew | apply IsS92.set_1 | apply IsS92.set_2) | exact HI0.out), by repeat (first | (with_reducible first | exact HB.out | apply below_alloc | apply pw_below_drewN | apply below_drew1 | refine below_set ?_ (IsS92.ge HI0.out)) | exact HB.out), by repeat (first | (with_reducible first | exact HK.out | apply KeepBut.set_ | apply keep_drewN | apply keep_drew | apply keep_alloc) | exact HK.out)⟩
      · replace c7 := Bool.eq_false_iff.mpr c7
        subst c7
        have H1 : (some (x3_2, t656, t657)) = some (r1, r2, r3) := by rw [if_neg (show ¬ (false = true) by decide)] at H; exact H
        clear H
        have H := H1
        clear H1
        simp only [Option.some.injEq, Prod.mk.injEq] at H
        obtain ⟨rfl, rfl, rfl⟩ := H
        go_wp2_with (first | ((with_reducible refine gate_callee (f := 118) rfl ?_); refine goesL_ (some 11) rfl rfl Tryd.func118 (by kernel_rfl) rfl #[.pointer (some ⟨g, 0, none⟩), .int .i64 5] rfl (by (try simp only [List.map_toArray, List.map_cons, List.map_nil]); first | done | rfl | (simp only [List.length_drop, List.length_take]; rfl)) ?_; (with_reducible refine (spec_l01Cur_once.calls g s0_0 t653 t654 5 false t656 t657 w0 _ ?side1 ?side2 A6.out).mono ?_); (case side1 => repeat (first | (with_reducible first | exact HI0.out | apply IsS92.alloc | apply IsS92.drewN | apply IsS92.drew | apply IsS92.set_1 | apply IsS92.set_2) | exact HI0.out)); (case side2 => repeat (first | (with_reducible first | exact HB.out | apply below_alloc | apply pw_below_drewN | apply below_drew1 | refine below_set ?_ (IsS92.ge HI0.out)) | exact HB.out)); rintro e w45 ⟨rfl, hi, hb, hk⟩; refine ⟨_, rfl, ?_⟩; have n0_ := Aside0.mk (KeepBut.trans (by repeat (first | (with_reducible first | exact HK.out | apply KeepBut.set_ | apply keep_drewN | apply keep_drew | apply keep_alloc) | exact HK.out)) hk (.inl rfl)); have n1_ := Aside0.mk (hb); have n2_ := Aside0.mk (hi); clear HK; clear HB; clear HI0; have HK := n0_; have HB := n1_; have HI0 := n2_; clear n0_ n1_ n2_; (try clear hb); (try clear hb2); (try clear hk); (try clear hi)))
        go_ret
        exact ⟨by first | rfl | (simp [errW_none, errW_some] <;> rfl) | (simp [*, errW_none, errW_some] <;> rfl), by repeat (first | (with_reducible first | exact HI0.out | apply IsS92.alloc | apply IsS92.drewN | apply IsS92.drew | apply IsS92.set_1 | apply IsS92.set_2) | exact HI0.out), by repeat (first | (with_reducible first | exact HB.out | apply below_alloc | apply pw_below_drewN | apply below_drew1 | refine below_set ?_ (IsS92.ge HI0.out)) | exact HB.out), by repeat (first | (with_reducible first | exact HK.out | apply KeepBut.set_ | apply keep_drewN | apply keep_drew | apply keep_alloc) | exact HK.out)⟩
def spec_DrawTermKind.f (k : Nat) (l0 : List Int) : Option (ByteArray) := (spec_l01Open.f l0).bind fun bt678 => ((spec_l01Cur_any.f k bt678.1 bt678.2.1 bt678.2.2).bind fun bt682 => (some bt682.1))
set_option maxHeartbeats 8000000 in
set_option maxRecDepth 100000 in
theorem spec_DrawTermKind.calls (k : Nat) (A0 : Option Addr) (c0 : Nat) (l0 : List Int) (r : ByteArray) (w : World) (hr0 : Kd.C (Kd.int .u8) w A0 l0.length l0) (hc0 : l0.length ≤ c0) (h : spec_DrawTermKind.f k l0 = some r) :
    Calls Tryd.prog 56 #[.slice A0 l0.length c0] w fun e w' => e = .returned (.string r) ∧ Below w.heap.size w w' := by
  have HR0 := Aside0.mk hr0
  have HC0 := Aside0.mk hc0
  clear hr0 hc0
  have HB := Aside0.mk (Below.refl w.heap.size w)
  have H : ((spec_l01Open.f l0).bind fun bt678 => ((spec_l01Cur_any.f k bt678.1 bt678.2.1 bt678.2.2).bind fun bt682 => (some bt682.1))) = some r := h
  clear h
  replace H := Option.bind_eq_some_iff.mp H
  obtain ⟨⟨t678, t679, t680⟩, A20, H⟩ := H
  replace H : ((spec_l01Cur_any.f k t678 t679 t680).bind fun bt682 => (some bt682.1)) = some r := H
  have A2 := Aside0.mk A20
  clear A20
  replace H := Option.bind_eq_some_iff.mp H
  obtain ⟨⟨t682, t683, t684⟩, A30, H⟩ := H
  replace H : (some t682) = some r := H
  have A3 := Aside0.mk A30
  clear A30
  obtain rfl := Option.some.inj H
  go_enter Tryd.func56, Tryd.ntmps56
  go_wp2_with (first | ((with_reducible refine gate_callee (f := 68) rfl ?_); refine goesL_ (some 5) rfl rfl Tryd.func68 (by kernel_rfl) rfl #[.slice A0 l0.length c0] rfl (by (try simp only [List.map_toArray, List.map_cons, List.map_nil]); first | done | rfl | (simp only [List.length_drop, List.length_take]; rfl)) ?_; (with_reducible refine (spec_l01Open.calls _ _ l0 t678 t679 t680 w _ ?side1 ?side2 ?side3 A2.out).mono ?_); (case side1 => repeat (first | (with_reducible first | exact HB.out | apply below_alloc | apply pw_below_drewN | apply below_drew1) | exact HB.out)); (case side2 => exact HR0.out); (case side3 => exact HC0.out); rintro e w4 ⟨g681, rfl, hi, hb, hb2⟩; refine ⟨_, rfl, ?_⟩; have n0_ := Aside0.mk (hb); have n1_ := Aside0.mk (hi); clear HB; have HB := n0_; have HI681 := n1_; clear n0_ n1_; (try clear hb); (try clear hb2); (try clear hk); (try clear hi)) | ((with_reducible refine gate_callee (f := 93) rfl ?_); refine goesL_ (some 7) rfl rfl Tryd.func93 (by kernel_rfl) rfl #[.pointer (some ⟨g681, 0, none⟩)] rfl (by (try simp only [List.map_toArray, List.map_cons, List.map_nil]); first | done | rfl | (simp only [List.length_drop, List.length_take]; rfl)) ?_; (with_reducible refine (spec_l01Cur_any.calls k g681 t678 t679 t680 t682 t683 t684 w _ ?side1 ?side2 A3.out).mono ?_); (case side1 => repeat (first | (with_reducible first | exact HI681.out | apply IsS92.alloc | apply IsS92.drewN | apply IsS92.drew | apply IsS92.set_1 | apply IsS92.set_2) | exact HI681.out)); (case side2 => repeat (first | (with_reducible first | exact HB.out | apply below_alloc | apply pw_below_drewN | apply below_drew1 | refine below_set ?_ (IsS92.ge HI681.out)) | exact HB.out)); rintro e w5 ⟨rfl, hi, hb, hk⟩; refine ⟨_, rfl, ?_⟩; have n0_ := Aside0.mk (hb); have n1_ := Aside0.mk (hi); clear HB; clear HI681; have HB := n0_; have HI681 := n1_; clear n0_ n1_; (try clear hb); (try clear hb2); (try clear hk); (try clear hi)))
  go_ret
  exact ⟨by first | rfl | (simp [errW_none, errW_some] <;> rfl) | (simp [*, errW_none, errW_some] <;> rfl), by repeat (first | (with_reducible first | exact HB.out | apply below_alloc | apply pw_below_drewN | apply below_drew1 | refine below_set ?_ (IsS92.ge HI681.out)) | exact HB.out)⟩
end Go.Proofs.YtebadckdihgklaaDoor.Pb
end

-- Cut by prune.py, a program of this session, out of the texts of this claim: Lean checks it.
import Derived.Test.YtebadckdihgklaaDoorVtaPbx0
section
namespace Go.Proofs.YtebadckdihgklaaDoor.Pb
open Go.RowKit Go.Proofs.YtebadckdihgklaaDoorW.PrintWords Go.Proofs.YtebadckdihgklaaDoorW.PrintLast Go.Proofs.YtebadckdihgklaaDoorW.PrintMore
attribute [local go_sem] max2_int min2_int max_two min_two max_three min_three max_four min_four   -- for this text's walks alone
set_option linter.unusedVariables false
set_option linter.unusedSimpArgs false
mutual
def spec_l01Number.j0 : Nat → ByteArray → Int → ByteArray → Bool → Option (Int × Bool)
  | 0, _, _, _, _ => none
  | k + 1, x0, x4, x5, x15 => if x15 = true then (if 1 ≤ (x0.size : Int) then (spec_l01Number.j1 k x0 x4 (x0.extract 1 x0.size)) else (none)) else (spec_l01Number.j1 k x0 x4 x5)
def spec_l01Number.j1 : Nat → ByteArray → Int → ByteArray → Option (Int × Bool)
  | 0, _, _, _ => none
  | k + 1, x0, x4, x5 => (spec_l01Between.f (x5.size : Int) 1 7).bind fun t192 => (if t192 = true then (spec_l01Number.l0 k x0 x4 x5 0) else (some (0, false)))
def spec_l01Number.l0 : Nat → ByteArray → Int → ByteArray → Int → Option (Int × Bool)
  | 0, _, _, _, _ => none
  | k + 1, x0, x4, x5, x6 => if x6 < (x5.size : Int) then (if 0 ≤ x6 then ((spec_l01Digit.f (bt x5 x6)).bind fun t193 => (if t193 = true then (spec_l01Number.l0 k x0 (wrap64 ((wrap64 (10 * x4)) + (((bt x5 x6) - 48) % 256))) x5 (wrap64 (x6 + 1))) else (some (0, false)))) else (none)) else (if x5.toList = x0.toList then ((spec_NumText.f k x4).bind fun t194 => (if t194.toList = x0.toList then ((spec_l01Between.f x4 (-1000000) 1000000).bind fun t195 => (some (x4, t195))) else (some (x4, false)))) else ((spec_NumText.f k (wrap64 (-x4))).bind fun t196 => (if t196.toList = x0.toList then ((spec_l01Between.f (wrap64 (-x4)) (-1000000) 1000000).bind fun t197 => (some (wrap64 (-x4), t197))) else (some (wrap64 (-x4), false)))))
end
def spec_l01Number.f (k : Nat) (a0 : ByteArray) : Option (Int × Bool) := if (a0.size : Int) > 0 then (if 0 < (a0.size : Int) then (spec_l01Number.j0 k a0 0 a0 ((bt a0 0) == 45)) else (none)) else (spec_l01Number.j0 k a0 0 a0 false)
set_option maxHeartbeats 8000000 in
set_option maxRecDepth 100000 in
theorem spec_l01Number.calls (k : Nat) (a0 : ByteArray) (r1 : Int) (r2 : Bool) (w : World) (h : spec_l01Number.f k a0 = some (r1, r2)) :
    Calls Tryd.prog 73 #[.string a0] w fun e w' => e = .returned (.tuple #[.int .i64 r1, .bool r2]) ∧ Below w.heap.size w w' := by
  have HB := Aside0.mk (Below.refl w.heap.size w)
  have H : (if (a0.size : Int) > 0 then (if 0 < (a0.size : Int) then (spec_l01Number.j0 k a0 0 a0 ((bt a0 0) == 45)) else (none)) else (spec_l01Number.j0 k a0 0 a0 false)) = some (r1, r2) := h
  clear h
  have HC2 := Aside0.mk H
  clear H
  go_enter Tryd.func73, Tryd.ntmps73
  go_upto_region 3 with (fail)
  go_cut [15] (fun v15 wc => ∃ (kq : Nat) (x15_1 : Bool), v15 = .bool x15_1 ∧ Aside0 (spec_l01Number.j0 kq a0 0 a0 x15_1 = some (r1, r2)) ∧ Aside0 (kq ≤ k) ∧ Aside0 (Below w.heap.size w wc))
  case first =>
    have H := HC2.out
    clear HC2
    by_cases c3 : (a0.size : Int) > 0
    · rw [if_pos c3] at H
      have c3b0 : decide (0 < (a0.size : Int)) = true := decide_eq_true c3
      have c3b1 : decide (0 < a0.size) = true := decide_eq_true (by omega)
      clear c3
      (first | rw [c3b0] | (simp only [i64_w, i32_w]; rw [c3b0]) | skip)
      by_cases c4 : 0 < (a0.size : Int)
      · rw [if_pos c4] at H
        have c4b0 : decide (0 < (a0.size : Int)) = true := decide_eq_true c4
        have c4b1 : decide (0 < a0.size) = true := decide_eq_true (by omega)
        clear c4
        have H' := Aside0.mk H
        clear H
        have p5 : 0 ≤ (0 : Int) := (by omega)
        have q5 : 0 < a0.size := (by have : (0 : Int) < (a0.size : Int) := of_decide_eq_true (by first | (with_reducible assumption) | assumption); omega)
        have hx5 : ∀ h : 0 < a0.size, ((a0[0]'h).toNat : Int) = bt a0 0 := bt_at a0 0
        clear p5
        have qi5 : (0 < (a0.size : Int)) = True := eq_true (of_decide_eq_true (by first | (with_reducible assumption) | assumption))
        replace q5 := eq_true q5
        go_wp2
        go_meet
        case rel => exact ⟨_, (((bt a0 0) == 45)), (by first | rfl | (simp; done) | (simp [*]; done)), H', ⟨by first | omega | exact Nat.le_refl _⟩, ⟨by repeat (first | (with_reducible first | exact HB.out | apply below_alloc | apply pw_below_drewN | apply below_drew1) | exact HB.out)⟩⟩
      · rw [if_neg c4] at H
        exact absurd H (by simp)
    · rw [if_neg c3] at H
      have c3b0 : decide (0 < (a0.size : Int)) = false := decide_eq_false c3
      have c3b1 : decide (0 < a0.size) = false := decide_eq_false (by omega)
      clear c3
      (first | rw [c3b0] | (simp only [i64_w, i32_w]; rw [c3b0]) | skip)
      have H' := Aside0.mk H
      clear H
      go_wp2
      go_meet
      case rel => exact ⟨_, (false), (by first | rfl | (simp; done) | (simp [*]; done)), H', ⟨by first | omega | exact Nat.le_refl _⟩, ⟨by repeat (first | (with_reducible first | exact HB.out | apply below_alloc | apply pw_below_drewN | apply below_drew1) | exact HB.out)⟩⟩
  case rest =>
    clear HC2
    try clear p2
    try clear c3
    try clear c3b0
    try clear c3b1
    try clear c4
    try clear c4b0
    try clear c4b1
    try clear p5
    try clear q5
    try clear hx5
    try clear qi5
    try clear p5
    try clear q5
    obtain ⟨kq, x15_1, rfl, HA, HJ1, HB⟩ := hcut
    cases kq with
    | zero => exact absurd HA.out (by simp [spec_l01Number.j0])
    | succ kj1 =>
      have H := HA.out
      clear HA
      simp only [spec_l01Number.j0] at H
      have HC6 := Aside0.mk H
      clear H
      go_upto_if 15 with (fail)
      go_cut [5] (fun v5 wc => ∃ (kq : Nat) (x5_5 : ByteArray), v5 = .string x5_5 ∧ Aside0 (spec_l01Number.j1 kq a0 0 x5_5 = some (r1, r2)) ∧ Aside0 (kq ≤ kj1) ∧ Aside0 (Below w.heap.size w wc))
      case first =>
        have H := HC6.out
        clear HC6
        by_cases c7 : x15_1 = true
        · subst c7
          have H1 : (if 1 ≤ (a0.size : Int) then (spec_l01Number.j1 kj1 a0 0 (a0.extract 1 a0.size)) else (none)) = some (r1, r2) := by rw [if_pos rfl] at H; exact H
          clear H
          have H := H1
          clear H1
          by_cases c8 : 1 ≤ (a0.size : Int)
          · rw [if_pos c8] at H
            have c8b0 := eq_true c8
            have c8b1 : decide (1 ≤ (a0.size : Int)) = true := decide_eq_true c8
            clear c8
            have H' := Aside0.mk H
            clear H
            go_wp2
            go_meet
            case rel => exact ⟨_, (a0.extract 1 a0.size), (by first | rfl | (simp; done) | (simp [*]; done)), H', ⟨by have := HJ1.out; first | omega | exact Nat.le_refl _⟩, ⟨by repeat (first | (with_reducible first | exact HB.out | apply below_alloc | apply pw_below_drewN | apply below_drew1) | exact HB.out)⟩⟩
          · rw [if_neg c8] at H
            exact absurd H (by simp)
        · replace c7 := Bool.eq_false_iff.mpr c7
          subst c7
          have H1 : (spec_l01Number.j1 kj1 a0 0 a0) = some (r1, r2) := by rw [if_neg (show ¬ (false = true) by decide)] at H; exact H
          clear H
          have H := H1
          clear H1
          have H' := Aside0.mk H
          clear H
          go_wp2
          go_meet
          case rel => exact ⟨_, (a0), (by first | rfl | (simp; done) | (simp [*]; done)), H', ⟨by have := HJ1.out; first | omega | exact Nat.le_refl _⟩, ⟨by repeat (first | (with_reducible first | exact HB.out | apply below_alloc | apply pw_below_drewN | apply below_drew1) | exact HB.out)⟩⟩
      case rest =>
        clear HC6
        try clear p2
        try clear c3
        try clear c3b0
        try clear c3b1
        try clear c4
        try clear c4b0
        try clear c4b1
        try clear p5
        try clear q5
        try clear hx5
        try clear qi5
        try clear c7
        try clear c8
        try clear c8b0
        try clear c8b1
        try clear p2
        try clear p5
        try clear q5
        obtain ⟨kq, x5_5, rfl, HA, HJ5, HB⟩ := hcut
        cases kq with
        | zero => exact absurd HA.out (by simp [spec_l01Number.j1])
        | succ kj5 =>
          have H := HA.out
          clear HA
          simp only [spec_l01Number.j1] at H
          replace H := Option.bind_eq_some_iff.mp H
          obtain ⟨t192, A90, H⟩ := H
          replace H : (if t192 = true then (spec_l01Number.l0 kj5 a0 0 x5_5 0) else (some (0, false))) = some (r1, r2) := H
          have A9 := Aside0.mk A90
          clear A90
          by_cases c10 : t192 = true
          · subst c10
            have H1 : (spec_l01Number.l0 kj5 a0 0 x5_5 0) = some (r1, r2) := by rw [if_pos rfl] at H; exact H
            clear H
            have H := H1
            clear H1
            have H' := Aside0.mk H
            clear H
            go_wp2_with (first | ((with_reducible refine gate_callee (f := 66) rfl ?_); refine goesL_ (some 20) rfl rfl Tryd.func66 (by kernel_rfl) rfl #[.int .i64 (x5_5.size : Int), .int .i64 1, .int .i64 7] rfl (by (try simp only [List.map_toArray, List.map_cons, List.map_nil]); first | done | rfl | (simp only [List.length_drop, List.length_take]; rfl)) ?_; (with_reducible refine (spec_l01Between.calls (x5_5.size : Int) 1 7 true _ A9.out).mono ?_); rintro e w' ⟨rfl, ⟨nd, rfl⟩⟩; refine ⟨_, rfl, ?_⟩))
            go_loopg [4, 6] kj5 (fun kq v4 v6 w' => ∃ (x4_3 : Int) (x6_3 : Int), v4 = .int .i64 x4_3 ∧ v6 = .int .i64 x6_3 ∧ Aside0 (spec_l01Number.l0 kq a0 x4_3 x5_5 x6_3 = some (r1, r2)) ∧ Aside0 (kq ≤ kj5) ∧ Aside0 (Below w.heap.size w w'))
            case atStart => exact ⟨(0), (0), (by first | rfl | (simp; done) | (simp [*]; done)), (by first | rfl | (simp; done) | (simp [*]; done)), H', ⟨Nat.le_refl _⟩, ⟨by repeat (first | (with_reducible first | exact HB.out | apply below_alloc | apply pw_below_drewN | apply below_drew1) | exact HB.out)⟩⟩
            case round =>
              clear H'
              try clear c1
              try clear p2
              try clear c3
              try clear c3b0
              try clear c3b1
              try clear c4
              try clear c4b0
              try clear c4b1
              try clear p5
              try clear q5
              try clear hx5
              try clear qi5
              try clear c6
              try clear c7
              try clear c8
              try clear c8b0
              try clear c8b1
              try clear c10
              try clear p2
              try clear p5
              try clear q5
              obtain ⟨x4_3, x6_3, rfl, rfl, HA, HK3, HB⟩ := hrel
              cases gk with
              | zero => exact absurd HA.out (by simp [spec_l01Number.l0])
              | succ k3 =>
                have H := HA.out
                clear HA
                simp only [spec_l01Number.l0] at H
                by_cases c11 : x6_3 < (x5_5.size : Int)
                · rw [if_pos c11] at H
                  have c11b0 : decide (x6_3 < (x5_5.size : Int)) = true := decide_eq_true c11
                  clear c11
                  by_cases c12 : 0 ≤ x6_3
                  · rw [if_pos c12] at H
                    have c12b0 : decide (0 ≤ x6_3) = true := decide_eq_true c12
                    clear c12
                    replace H := Option.bind_eq_some_iff.mp H
                    obtain ⟨t193, A140, H⟩ := H
                    replace H : (if t193 = true then (spec_l01Number.l0 k3 a0 (wrap64 ((wrap64 (10 * x4_3)) + (((bt x5_5 x6_3) - 48) % 256))) x5_5 (wrap64 (x6_3 + 1))) else (some (0, false))) = some (r1, r2) := H
                    have A14 := Aside0.mk A140
                    clear A140
                    by_cases c15 : t193 = true
                    · subst c15
                      have H1 : (spec_l01Number.l0 k3 a0 (wrap64 ((wrap64 (10 * x4_3)) + (((bt x5_5 x6_3) - 48) % 256))) x5_5 (wrap64 (x6_3 + 1))) = some (r1, r2) := by rw [if_pos rfl] at H; exact H
                      clear H
                      have H := H1
                      clear H1
                      have H' := Aside0.mk H
                      clear H
                      have p13 : 0 ≤ (x6_3 : Int) := of_decide_eq_true (by first | (with_reducible assumption) | assumption)
                      have q13 : x6_3 < (x5_5.size : Int) := of_decide_eq_true (by first | (with_reducible assumption) | assumption)
                      have hx13 := bt_at x5_5 x6_3
                      replace p13 := eq_true p13
                      replace q13 := eq_true q13
                      go_wp2_with (first | ((with_reducible refine gate_callee (f := 88) rfl ?_); refine goesL_ (some 31) rfl rfl Tryd.func88 (by kernel_rfl) rfl #[.int .u8 (bt x5_5 x6_3)] rfl (by (try simp only [List.map_toArray, List.map_cons, List.map_nil]); first | done | rfl | (simp only [List.length_drop, List.length_take]; rfl)) ?_; (with_reducible refine (spec_l01Digit.calls (bt x5_5 x6_3) true _ A14.out).mono ?_); rintro e w' ⟨rfl, ⟨nd, rfl⟩⟩; refine ⟨_, rfl, ?_⟩; have p16 : 0 ≤ (x6_3 : Int) := of_decide_eq_true (by first | (with_reducible assumption) | assumption); have q16 : x6_3 < (x5_5.size : Int) := of_decide_eq_true (by first | (with_reducible assumption) | assumption); have hx16 := bt_at x5_5 x6_3; replace p16 := eq_true p16; replace q16 := eq_true q16))
                      go_roundg k3
                      case measure => have := HJ1.out; have := HJ5.out; have := HK3.out; omega
                      case rel => exact ⟨(wrap64 ((wrap64 (10 * x4_3)) + (((bt x5_5 x6_3) - 48) % 256))), (wrap64 (x6_3 + 1)), (by first | rfl | (simp; done) | (simp [*]; done)), (by first | rfl | (simp; done) | (simp [*]; done)), H', ⟨by have := HJ1.out; have := HJ5.out; have := HK3.out; omega⟩, ⟨by repeat (first | (with_reducible first | exact HB.out | apply below_alloc | apply pw_below_drewN | apply below_drew1) | exact HB.out)⟩⟩
                    · replace c15 := Bool.eq_false_iff.mpr c15
                      subst c15
                      have H1 : (some (0, false)) = some (r1, r2) := by rw [if_neg (show ¬ (false = true) by decide)] at H; exact H
                      clear H
                      have H := H1
                      clear H1
                      simp only [Option.some.injEq, Prod.mk.injEq] at H
                      obtain ⟨rfl, rfl⟩ := H
                      have p13 : 0 ≤ (x6_3 : Int) := of_decide_eq_true (by first | (with_reducible assumption) | assumption)
                      have q13 : x6_3 < (x5_5.size : Int) := of_decide_eq_true (by first | (with_reducible assumption) | assumption)
                      have hx13 := bt_at x5_5 x6_3
                      replace p13 := eq_true p13
                      replace q13 := eq_true q13
                      go_wp2_with (first | ((with_reducible refine gate_callee (f := 88) rfl ?_); refine goesL_ (some 31) rfl rfl Tryd.func88 (by kernel_rfl) rfl #[.int .u8 (bt x5_5 x6_3)] rfl (by (try simp only [List.map_toArray, List.map_cons, List.map_nil]); first | done | rfl | (simp only [List.length_drop, List.length_take]; rfl)) ?_; (with_reducible refine (spec_l01Digit.calls (bt x5_5 x6_3) false _ A14.out).mono ?_); rintro e w' ⟨rfl, ⟨nd, rfl⟩⟩; refine ⟨_, rfl, ?_⟩))
                      go_ret2
                      exact ⟨by first | rfl | (simp [errW_none, errW_some] <;> rfl) | (simp [*, errW_none, errW_some] <;> rfl), by repeat (first | (with_reducible first | exact HB.out | apply below_alloc | apply pw_below_drewN | apply below_drew1) | exact HB.out)⟩
                  · rw [if_neg c12] at H
                    exact absurd H (by simp)
                · rw [if_neg c11] at H
                  have c11b0 : decide (x6_3 < (x5_5.size : Int)) = false := decide_eq_false c11
                  clear c11
                  by_cases c17 : x5_5.toList = a0.toList
                  · rw [if_pos c17] at H
                    have c17b0 : (x5_5.toList == a0.toList) = true := beq_iff_eq.mpr c17
                    have c17b1 : (x5_5.toList != a0.toList) = false := bne_eq_false_iff_eq.mpr c17
                    clear c17
                    replace H := Option.bind_eq_some_iff.mp H
                    obtain ⟨t194, A180, H⟩ := H
                    replace H : (if t194.toList = a0.toList then ((spec_l01Between.f x4_3 (-1000000) 1000000).bind fun t195 => (some (x4_3, t195))) else (some (x4_3, false))) = some (r1, r2) := H
                    have A18 := Aside0.mk A180
                    clear A180
                    by_cases c19 : t194.toList = a0.toList
                    · rw [if_pos c19] at H
                      have c19b0 : (t194.toList == a0.toList) = true := beq_iff_eq.mpr c19
                      have c19b1 : (t194.toList != a0.toList) = false := bne_eq_false_iff_eq.mpr c19
                      clear c19
                      replace H := Option.bind_eq_some_iff.mp H
                      obtain ⟨t195, A200, H⟩ := H
                      replace H : (some (x4_3, t195)) = some (r1, r2) := H
                      have A20 := Aside0.mk A200
                      clear A200
                      simp only [Option.some.injEq, Prod.mk.injEq] at H
                      obtain ⟨rfl, rfl⟩ := H
                      go_wp2_with (first | ((with_reducible refine gate_callee (f := 20) rfl ?_); refine goesL_ (some 48) rfl rfl Tryd.func20 (by kernel_rfl) rfl #[.int .i64 x4_3] rfl (by (try simp only [List.map_toArray, List.map_cons, List.map_nil]); first | done | rfl | (simp only [List.length_drop, List.length_take]; rfl)) ?_; (with_reducible refine (spec_NumText.calls k3 x4_3 t194 _ A18.out).mono ?_); rintro e w21 ⟨rfl, hb⟩; refine ⟨_, rfl, ?_⟩; have n0_ := Aside0.mk (below_step (by repeat (first | (with_reducible first | exact HB.out | apply below_alloc | apply pw_below_drewN | apply below_drew1) | exact HB.out)) hb); clear HB; have HB := n0_; clear n0_; (try clear hb); (try clear hb2); (try clear hk); (try clear hi)) | (go_at_call 66; (with_reducible refine (spec_l01Between.calls x4_3 (-1000000) 1000000 t195 _ A20.out).mono ?_); rintro e w' ⟨rfl, ⟨nd, rfl⟩⟩))
                      go_ret2
                      exact ⟨by first | rfl | (simp [errW_none, errW_some] <;> rfl) | (simp [*, errW_none, errW_some] <;> rfl), by repeat (first | (with_reducible first | exact HB.out | apply below_alloc | apply pw_below_drewN | apply below_drew1) | exact HB.out)⟩
                    · rw [if_neg c19] at H
                      have c19b0 : (t194.toList == a0.toList) = false := beq_eq_false_iff_ne.mpr c19
                      have c19b1 : (t194.toList != a0.toList) = true := bne_iff_ne.mpr c19
                      simp only [Option.some.injEq, Prod.mk.injEq] at H
                      obtain ⟨rfl, rfl⟩ := H
                      go_wp2_with (first | ((with_reducible refine gate_callee (f := 20) rfl ?_); refine goesL_ (some 48) rfl rfl Tryd.func20 (by kernel_rfl) rfl #[.int .i64 x4_3] rfl (by (try simp only [List.map_toArray, List.map_cons, List.map_nil]); first | done | rfl | (simp only [List.length_drop, List.length_take]; rfl)) ?_; (with_reducible refine (spec_NumText.calls k3 x4_3 t194 _ A18.out).mono ?_); rintro e w22 ⟨rfl, hb⟩; refine ⟨_, rfl, ?_⟩; have n0_ := Aside0.mk (below_step (by repeat (first | (with_reducible first | exact HB.out | apply below_alloc | apply pw_below_drewN | apply below_drew1) | exact HB.out)) hb); clear HB; have HB := n0_; clear n0_; (try clear hb); (try clear hb2); (try clear hk); (try clear hi)))
                      go_ret2
                      exact ⟨by first | rfl | (simp [errW_none, errW_some] <;> rfl) | (simp [*, errW_none, errW_some] <;> rfl), by repeat (first | (with_reducible first | exact HB.out | apply below_alloc | apply pw_below_drewN | apply below_drew1) | exact HB.out)⟩
                  · rw [if_neg c17] at H
                    have c17b0 : (x5_5.toList == a0.toList) = false := beq_eq_false_iff_ne.mpr c17
                    have c17b1 : (x5_5.toList != a0.toList) = true := bne_iff_ne.mpr c17
                    replace H := Option.bind_eq_some_iff.mp H
                    obtain ⟨t196, A230, H⟩ := H
                    replace H : (if t196.toList = a0.toList then ((spec_l01Between.f (wrap64 (-x4_3)) (-1000000) 1000000).bind fun t197 => (some (wrap64 (-x4_3), t197))) else (some (wrap64 (-x4_3), false))) = some (r1, r2) := H
                    have A23 := Aside0.mk A230
                    clear A230
                    by_cases c24 : t196.toList = a0.toList
                    · rw [if_pos c24] at H
                      have c24b0 : (t196.toList == a0.toList) = true := beq_iff_eq.mpr c24
                      have c24b1 : (t196.toList != a0.toList) = false := bne_eq_false_iff_eq.mpr c24
                      clear c24
                      replace H := Option.bind_eq_some_iff.mp H
                      obtain ⟨t197, A250, H⟩ := H
                      replace H : (some (wrap64 (-x4_3), t197)) = some (r1, r2) := H
                      have A25 := Aside0.mk A250
                      clear A250
                      simp only [Option.some.injEq, Prod.mk.injEq] at H
                      obtain ⟨rfl, rfl⟩ := H
                      go_wp2_with (first | ((with_reducible refine gate_callee (f := 20) rfl ?_); refine goesL_ (some 48) rfl rfl Tryd.func20 (by kernel_rfl) rfl #[.int .i64 (wrap64 (-x4_3))] rfl (by (try simp only [List.map_toArray, List.map_cons, List.map_nil]); first | done | rfl | (simp only [List.length_drop, List.length_take]; rfl)) ?_; (with_reducible refine (spec_NumText.calls k3 (wrap64 (-x4_3)) t196 _ A23.out).mono ?_); rintro e w26 ⟨rfl, hb⟩; refine ⟨_, rfl, ?_⟩; have n0_ := Aside0.mk (below_step (by repeat (first | (with_reducible first | exact HB.out | apply below_alloc | apply pw_below_drewN | apply below_drew1) | exact HB.out)) hb); clear HB; have HB := n0_; clear n0_; (try clear hb); (try clear hb2); (try clear hk); (try clear hi)) | (go_at_call 66; (with_reducible refine (spec_l01Between.calls (wrap64 (-x4_3)) (-1000000) 1000000 t197 _ A25.out).mono ?_); rintro e w' ⟨rfl, ⟨nd, rfl⟩⟩))
                      go_ret2
                      exact ⟨by first | rfl | (simp [errW_none, errW_some] <;> rfl) | (simp [*, errW_none, errW_some] <;> rfl), by repeat (first | (with_reducible first | exact HB.out | apply below_alloc | apply pw_below_drewN | apply below_drew1) | exact HB.out)⟩
                    · rw [if_neg c24] at H
                      have c24b0 : (t196.toList == a0.toList) = false := beq_eq_false_iff_ne.mpr c24
                      have c24b1 : (t196.toList != a0.toList) = true := bne_iff_ne.mpr c24
                      simp only [Option.some.injEq, Prod.mk.injEq] at H
                      obtain ⟨rfl, rfl⟩ := H
                      go_wp2_with (first | ((with_reducible refine gate_callee (f := 20) rfl ?_); refine goesL_ (some 48) rfl rfl Tryd.func20 (by kernel_rfl) rfl #[.int .i64 (wrap64 (-x4_3))] rfl (by (try simp only [List.map_toArray, List.map_cons, List.map_nil]); first | done | rfl | (simp only [List.length_drop, List.length_take]; rfl)) ?_; (with_reducible refine (spec_NumText.calls k3 (wrap64 (-x4_3)) t196 _ A23.out).mono ?_); rintro e w27 ⟨rfl, hb⟩; refine ⟨_, rfl, ?_⟩; have n0_ := Aside0.mk (below_step (by repeat (first | (with_reducible first | exact HB.out | apply below_alloc | apply pw_below_drewN | apply below_drew1) | exact HB.out)) hb); clear HB; have HB := n0_; clear n0_; (try clear hb); (try clear hb2); (try clear hk); (try clear hi)))
                      go_ret2
                      exact ⟨by first | rfl | (simp [errW_none, errW_some] <;> rfl) | (simp [*, errW_none, errW_some] <;> rfl), by repeat (first | (with_reducible first | exact HB.out | apply below_alloc | apply pw_below_drewN | apply below_drew1) | exact HB.out)⟩
          · replace c10 := Bool.eq_false_iff.mpr c10
            subst c10
            have H1 : (some (0, false)) = some (r1, r2) := by rw [if_neg (show ¬ (false = true) by decide)] at H; exact H
            clear H
            have H := H1
            clear H1
            simp only [Option.some.injEq, Prod.mk.injEq] at H
            obtain ⟨rfl, rfl⟩ := H
            go_wp2_with (first | ((with_reducible refine gate_callee (f := 66) rfl ?_); refine goesL_ (some 20) rfl rfl Tryd.func66 (by kernel_rfl) rfl #[.int .i64 (x5_5.size : Int), .int .i64 1, .int .i64 7] rfl (by (try simp only [List.map_toArray, List.map_cons, List.map_nil]); first | done | rfl | (simp only [List.length_drop, List.length_take]; rfl)) ?_; (with_reducible refine (spec_l01Between.calls (x5_5.size : Int) 1 7 false _ A9.out).mono ?_); rintro e w' ⟨rfl, ⟨nd, rfl⟩⟩; refine ⟨_, rfl, ?_⟩))
            go_ret2
            exact ⟨by first | rfl | (simp [errW_none, errW_some] <;> rfl) | (simp [*, errW_none, errW_some] <;> rfl), by repeat (first | (with_reducible first | exact HB.out | apply below_alloc | apply pw_below_drewN | apply below_drew1) | exact HB.out)⟩
end Go.Proofs.YtebadckdihgklaaDoor.Pb
end
section
namespace Go.Proofs.YtebadckdihgklaaDoor.Pb
open Go.RowKit Go.Proofs.YtebadckdihgklaaDoorW.PrintWords Go.Proofs.YtebadckdihgklaaDoorW.PrintLast Go.Proofs.YtebadckdihgklaaDoorW.PrintMore
attribute [local go_sem] max2_int min2_int max_two min_two max_three min_three max_four min_four   -- for this text's walks alone
set_option linter.unusedVariables false
set_option linter.unusedSimpArgs false
def spec_l01Small.f (a0 : Int) : Option (Bool) := if a0 ≥ 97 then (some (decide (a0 ≤ 122))) else (some false)
set_option maxHeartbeats 8000000 in
set_option maxRecDepth 100000 in
theorem spec_l01Small.calls (a0 : Int) (r : Bool) (w : World) (h : spec_l01Small.f a0 = some r) :
    Calls Tryd.prog 85 #[.int .u8 a0] w fun e w' => e = .returned (.bool r) ∧ Drawn0 w w' := by
  have H : (if a0 ≥ 97 then (some (decide (a0 ≤ 122))) else (some false)) = some r := h
  clear h
  by_cases c2 : a0 ≥ 97
  · rw [if_pos c2] at H
    have c2b0 : decide (97 ≤ a0) = true := decide_eq_true c2
    clear c2
    obtain rfl := Option.some.inj H
    go_enter Tryd.func85, Tryd.ntmps85
    go_wp2
    go_ret
    exact ⟨by first | rfl | (simp; done) | (simp [*]; done), by repeat (first | exact Drawn0.refl _ | apply Drawn0.step)⟩
  · rw [if_neg c2] at H
    have c2b0 : decide (97 ≤ a0) = false := decide_eq_false c2
    clear c2
    obtain rfl := Option.some.inj H
    go_enter Tryd.func85, Tryd.ntmps85
    go_wp2
    go_ret
    exact ⟨by first | rfl | (simp; done) | (simp [*]; done), by repeat (first | exact Drawn0.refl _ | apply Drawn0.step)⟩
def spec_l01Big.f (a0 : Int) : Option (Bool) := if a0 ≥ 65 then (some (decide (a0 ≤ 90))) else (some false)
set_option maxHeartbeats 8000000 in
set_option maxRecDepth 100000 in
theorem spec_l01Big.calls (a0 : Int) (r : Bool) (w : World) (h : spec_l01Big.f a0 = some r) :
    Calls Tryd.prog 86 #[.int .u8 a0] w fun e w' => e = .returned (.bool r) ∧ Drawn0 w w' := by
  have H : (if a0 ≥ 65 then (some (decide (a0 ≤ 90))) else (some false)) = some r := h
  clear h
  by_cases c2 : a0 ≥ 65
  · rw [if_pos c2] at H
    have c2b0 : decide (65 ≤ a0) = true := decide_eq_true c2
    clear c2
    obtain rfl := Option.some.inj H
    go_enter Tryd.func86, Tryd.ntmps86
    go_wp2
    go_ret
    exact ⟨by first | rfl | (simp; done) | (simp [*]; done), by repeat (first | exact Drawn0.refl _ | apply Drawn0.step)⟩
  · rw [if_neg c2] at H
    have c2b0 : decide (65 ≤ a0) = false := decide_eq_false c2
    clear c2
    obtain rfl := Option.some.inj H
    go_enter Tryd.func86, Tryd.ntmps86
    go_wp2
    go_ret
    exact ⟨by first | rfl | (simp; done) | (simp [*]; done), by repeat (first | exact Drawn0.refl _ | apply Drawn0.step)⟩
def spec_l01Letter.f (a0 : Int) : Option (Bool) := (spec_l01Small.f a0).bind fun t219 => (if t219 = true then (some true) else ((spec_l01Big.f a0).bind fun t220 => (if t220 = true then (some true) else ((spec_l01Digit.f a0).bind fun t221 => (if t221 = true then (some true) else (some (a0 == 95)))))))
set_option maxHeartbeats 8000000 in
set_option maxRecDepth 100000 in
theorem spec_l01Letter.calls (a0 : Int) (r : Bool) (w : World) (h : spec_l01Letter.f a0 = some r) :
    Calls Tryd.prog 87 #[.int .u8 a0] w fun e w' => e = .returned (.bool r) ∧ Drawn0 w w' := by
  have H : ((spec_l01Small.f a0).bind fun t219 => (if t219 = true then (some true) else ((spec_l01Big.f a0).bind fun t220 => (if t220 = true then (some true) else ((spec_l01Digit.f a0).bind fun t221 => (if t221 = true then (some true) else (some (a0 == 95)))))))) = some r := h
  clear h
  replace H := Option.bind_eq_some_iff.mp H
  obtain ⟨t219, A20, H⟩ := H
  replace H : (if t219 = true then (some true) else ((spec_l01Big.f a0).bind fun t220 => (if t220 = true then (some true) else ((spec_l01Digit.f a0).bind fun t221 => (if t221 = true then (some true) else (some (a0 == 95))))))) = some r := H
  have A2 := Aside0.mk A20
  clear A20
  by_cases c3 : t219 = true
  · subst c3
    have H1 : (some true) = some r := by rw [if_pos rfl] at H; exact H
    clear H
    have H := H1
    clear H1
    obtain rfl := Option.some.inj H
    go_enter Tryd.func87, Tryd.ntmps87
    go_wp2_with (first | ((with_reducible refine gate_callee (f := 85) rfl ?_); refine goesL_ (some 4) rfl rfl Tryd.func85 (by kernel_rfl) rfl #[.int .u8 a0] rfl (by (try simp only [List.map_toArray, List.map_cons, List.map_nil]); first | done | rfl | (simp only [List.length_drop, List.length_take]; rfl)) ?_; (with_reducible refine (spec_l01Small.calls a0 true _ A2.out).mono ?_); rintro e w' ⟨rfl, ⟨nd, rfl⟩⟩; refine ⟨_, rfl, ?_⟩))
    go_ret
    exact ⟨by first | rfl | (simp; done) | (simp [*]; done), by repeat (first | exact Drawn0.refl _ | apply Drawn0.step)⟩
  · replace c3 := Bool.eq_false_iff.mpr c3
    subst c3
    have H1 : ((spec_l01Big.f a0).bind fun t220 => (if t220 = true then (some true) else ((spec_l01Digit.f a0).bind fun t221 => (if t221 = true then (some true) else (some (a0 == 95)))))) = some r := by rw [if_neg (show ¬ (false = true) by decide)] at H; exact H
    clear H
    have H := H1
    clear H1
    replace H := Option.bind_eq_some_iff.mp H
    obtain ⟨t220, A40, H⟩ := H
    replace H : (if t220 = true then (some true) else ((spec_l01Digit.f a0).bind fun t221 => (if t221 = true then (some true) else (some (a0 == 95))))) = some r := H
    have A4 := Aside0.mk A40
    clear A40
    by_cases c5 : t220 = true
    · subst c5
      have H1 : (some true) = some r := by rw [if_pos rfl] at H; exact H
      clear H
      have H := H1
      clear H1
      obtain rfl := Option.some.inj H
      go_enter Tryd.func87, Tryd.ntmps87
      go_wp2_with (first | ((with_reducible refine gate_callee (f := 85) rfl ?_); refine goesL_ (some 4) rfl rfl Tryd.func85 (by kernel_rfl) rfl #[.int .u8 a0] rfl (by (try simp only [List.map_toArray, List.map_cons, List.map_nil]); first | done | rfl | (simp only [List.length_drop, List.length_take]; rfl)) ?_; (with_reducible refine (spec_l01Small.calls a0 false _ A2.out).mono ?_); rintro e w' ⟨rfl, ⟨nd, rfl⟩⟩; refine ⟨_, rfl, ?_⟩) | (go_at_call 86; (with_reducible refine (spec_l01Big.calls a0 true _ A4.out).mono ?_); rintro e w' ⟨rfl, ⟨nd, rfl⟩⟩))
      go_ret
      exact ⟨by first | rfl | (simp; done) | (simp [*]; done), by repeat (first | exact Drawn0.refl _ | apply Drawn0.step)⟩
    · replace c5 := Bool.eq_false_iff.mpr c5
      subst c5
      have H1 : ((spec_l01Digit.f a0).bind fun t221 => (if t221 = true then (some true) else (some (a0 == 95)))) = some r := by rw [if_neg (show ¬ (false = true) by decide)] at H; exact H
      clear H
      have H := H1
      clear H1
      replace H := Option.bind_eq_some_iff.mp H
      obtain ⟨t221, A60, H⟩ := H
      replace H : (if t221 = true then (some true) else (some (a0 == 95))) = some r := H
      have A6 := Aside0.mk A60
      clear A60
      by_cases c7 : t221 = true
      · subst c7
        have H1 : (some true) = some r := by rw [if_pos rfl] at H; exact H
        clear H
        have H := H1
        clear H1
        obtain rfl := Option.some.inj H
        go_enter Tryd.func87, Tryd.ntmps87
        go_wp2_with (first | ((with_reducible refine gate_callee (f := 85) rfl ?_); refine goesL_ (some 4) rfl rfl Tryd.func85 (by kernel_rfl) rfl #[.int .u8 a0] rfl (by (try simp only [List.map_toArray, List.map_cons, List.map_nil]); first | done | rfl | (simp only [List.length_drop, List.length_take]; rfl)) ?_; (with_reducible refine (spec_l01Small.calls a0 false _ A2.out).mono ?_); rintro e w' ⟨rfl, ⟨nd, rfl⟩⟩; refine ⟨_, rfl, ?_⟩) | (go_at_call 86; (with_reducible refine (spec_l01Big.calls a0 false _ A4.out).mono ?_); rintro e w' ⟨rfl, ⟨nd, rfl⟩⟩) | (go_at_call 88; (with_reducible refine (spec_l01Digit.calls a0 true _ A6.out).mono ?_); rintro e w' ⟨rfl, ⟨nd, rfl⟩⟩))
        go_ret
        exact ⟨by first | rfl | (simp; done) | (simp [*]; done), by repeat (first | exact Drawn0.refl _ | apply Drawn0.step)⟩
      · replace c7 := Bool.eq_false_iff.mpr c7
        subst c7
        have H1 : (some (a0 == 95)) = some r := by rw [if_neg (show ¬ (false = true) by decide)] at H; exact H
        clear H
        have H := H1
        clear H1
        obtain rfl := Option.some.inj H
        go_enter Tryd.func87, Tryd.ntmps87
        go_wp2_with (first | ((with_reducible refine gate_callee (f := 85) rfl ?_); refine goesL_ (some 4) rfl rfl Tryd.func85 (by kernel_rfl) rfl #[.int .u8 a0] rfl (by (try simp only [List.map_toArray, List.map_cons, List.map_nil]); first | done | rfl | (simp only [List.length_drop, List.length_take]; rfl)) ?_; (with_reducible refine (spec_l01Small.calls a0 false _ A2.out).mono ?_); rintro e w' ⟨rfl, ⟨nd, rfl⟩⟩; refine ⟨_, rfl, ?_⟩) | (go_at_call 86; (with_reducible refine (spec_l01Big.calls a0 false _ A4.out).mono ?_); rintro e w' ⟨rfl, ⟨nd, rfl⟩⟩) | (go_at_call 88; (with_reducible refine (spec_l01Digit.calls a0 false _ A6.out).mono ?_); rintro e w' ⟨rfl, ⟨nd, rfl⟩⟩))
        go_ret
        exact ⟨by first | rfl | (simp; done) | (simp [*]; done), by repeat (first | exact Drawn0.refl _ | apply Drawn0.step)⟩
mutual
def spec_l01Name.j0 : Nat → ByteArray → Bool → Option (Bool)
  | 0, _, _ => none
  | k + 1, x0, x28 => if x28 = true then (some false) else (spec_l01Name.l0 k x0 0)
def spec_l01Name.l0 : Nat → ByteArray → Int → Option (Bool)
  | 0, _, _ => none
  | k + 1, x0, x5 => if x5 < (x0.size : Int) then (if 0 ≤ x5 then ((spec_l01Letter.f (bt x0 x5)).bind fun t225 => (if t225 = true then (spec_l01Name.l0 k x0 (wrap64 (x5 + 1))) else (some false))) else (none)) else (some true)
end
def spec_l01Name.f (k : Nat) (a0 : ByteArray) (a1 : Bool) : Option (Bool) := (spec_l01Between.f (a0.size : Int) 1 20).bind fun t222 => (if t222 = true then (if a1 = true then (if 0 < (a0.size : Int) then ((spec_l01Big.f (bt a0 0)).bind fun t223 => (if t223 = true then (spec_l01Name.j0 k a0 false) else (spec_l01Name.j0 k a0 true))) else (none)) else (if 0 < (a0.size : Int) then ((spec_l01Small.f (bt a0 0)).bind fun t224 => (spec_l01Name.j0 k a0 (!t224))) else (none))) else (spec_l01Name.j0 k a0 true))
set_option maxHeartbeats 8000000 in
set_option maxRecDepth 100000 in
theorem spec_l01Name.calls (k : Nat) (a0 : ByteArray) (a1 : Bool) (r : Bool) (w : World) (h : spec_l01Name.f k a0 a1 = some r) :
    Calls Tryd.prog 75 #[.string a0, .bool a1] w fun e w' => e = .returned (.bool r) ∧ Drawn0 w w' := by
  have H : ((spec_l01Between.f (a0.size : Int) 1 20).bind fun t222 => (if t222 = true then (if a1 = true then (if 0 < (a0.size : Int) then ((spec_l01Big.f (bt a0 0)).bind fun t223 => (if t223 = true then (spec_l01Name.j0 k a0 false) else (spec_l01Name.j0 k a0 true))) else (none)) else (if 0 < (a0.size : Int) then ((spec_l01Small.f (bt a0 0)).bind fun t224 => (spec_l01Name.j0 k a0 (!t224))) else (none))) else (spec_l01Name.j0 k a0 true))) = some r := h
  clear h
  have HC3 := Aside0.mk H
  clear H
  go_enter Tryd.func75, Tryd.ntmps75
  go_upto_region 1 with (fail)
  go_cut [28] (fun v28 wc => ∃ (kq : Nat) (x28_2 : Bool), v28 = .bool x28_2 ∧ Aside0 (spec_l01Name.j0 kq a0 x28_2 = some r) ∧ Aside0 (kq ≤ k) ∧ Drawn0 w wc)
  case first =>
    have H := HC3.out
    clear HC3
    replace H := Option.bind_eq_some_iff.mp H
    obtain ⟨t222, A40, H⟩ := H
    replace H : (if t222 = true then (if a1 = true then (if 0 < (a0.size : Int) then ((spec_l01Big.f (bt a0 0)).bind fun t223 => (if t223 = true then (spec_l01Name.j0 k a0 false) else (spec_l01Name.j0 k a0 true))) else (none)) else (if 0 < (a0.size : Int) then ((spec_l01Small.f (bt a0 0)).bind fun t224 => (spec_l01Name.j0 k a0 (!t224))) else (none))) else (spec_l01Name.j0 k a0 true)) = some r := H
    have A4 := Aside0.mk A40
    clear A40
    by_cases c5 : t222 = true
    · subst c5
      have H1 : (if a1 = true then (if 0 < (a0.size : Int) then ((spec_l01Big.f (bt a0 0)).bind fun t223 => (if t223 = true then (spec_l01Name.j0 k a0 false) else (spec_l01Name.j0 k a0 true))) else (none)) else (if 0 < (a0.size : Int) then ((spec_l01Small.f (bt a0 0)).bind fun t224 => (spec_l01Name.j0 k a0 (!t224))) else (none))) = some r := by rw [if_pos rfl] at H; exact H
      clear H
      have H := H1
      clear H1
      by_cases c6 : a1 = true
      · subst c6
        have H1 : (if 0 < (a0.size : Int) then ((spec_l01Big.f (bt a0 0)).bind fun t223 => (if t223 = true then (spec_l01Name.j0 k a0 false) else (spec_l01Name.j0 k a0 true))) else (none)) = some r := by rw [if_pos rfl] at H; exact H
        clear H
        have H := H1
        clear H1
        by_cases c7 : 0 < (a0.size : Int)
        · rw [if_pos c7] at H
          have c7b0 : decide (0 < (a0.size : Int)) = true := decide_eq_true c7
          have c7b1 : decide (0 < a0.size) = true := decide_eq_true (by omega)
          clear c7
          (first | rw [c7b0] | (simp only [i64_w, i32_w]; rw [c7b0]) | skip)
          replace H := Option.bind_eq_some_iff.mp H
          obtain ⟨t223, A90, H⟩ := H
          replace H : (if t223 = true then (spec_l01Name.j0 k a0 false) else (spec_l01Name.j0 k a0 true)) = some r := H
          have A9 := Aside0.mk A90
          clear A90
          by_cases c10 : t223 = true
          · subst c10
            have H1 : (spec_l01Name.j0 k a0 false) = some r := by rw [if_pos rfl] at H; exact H
            clear H
            have H := H1
            clear H1
            have H' := Aside0.mk H
            clear H
            go_wp2_with (first | ((with_reducible refine gate_callee (f := 66) rfl ?_); refine goesL_ (some 8) rfl rfl Tryd.func66 (by kernel_rfl) rfl #[.int .i64 (a0.size : Int), .int .i64 1, .int .i64 20] rfl (by (try simp only [List.map_toArray, List.map_cons, List.map_nil]); first | done | rfl | (simp only [List.length_drop, List.length_take]; rfl)) ?_; (with_reducible refine (spec_l01Between.calls (a0.size : Int) 1 20 true _ A4.out).mono ?_); rintro e w' ⟨rfl, ⟨nd, rfl⟩⟩; refine ⟨_, rfl, ?_⟩; have p8 : 0 ≤ (0 : Int) := (by omega); have q8 : 0 < a0.size := (by have : (0 : Int) < (a0.size : Int) := of_decide_eq_true (by first | (with_reducible assumption) | assumption); omega); have hx8 : ∀ h : 0 < a0.size, ((a0[0]'h).toNat : Int) = bt a0 0 := bt_at a0 0; clear p8; have qi8 : (0 < (a0.size : Int)) = True := eq_true (of_decide_eq_true (by first | (with_reducible assumption) | assumption)); replace q8 := eq_true q8) | (go_at_call 86; (with_reducible refine (spec_l01Big.calls (bt a0 0) true _ A9.out).mono ?_); rintro e w' ⟨rfl, ⟨nd, rfl⟩⟩))
            go_meet
            case rel => exact ⟨_, (false), (by first | rfl | (simp; done) | (simp [*]; done)), H', ⟨by first | omega | exact Nat.le_refl _⟩, by repeat (first | exact Drawn0.refl _ | apply Drawn0.step)⟩
          · replace c10 := Bool.eq_false_iff.mpr c10
            subst c10
            have H1 : (spec_l01Name.j0 k a0 true) = some r := by rw [if_neg (show ¬ (false = true) by decide)] at H; exact H
            clear H
            have H := H1
            clear H1
            have H' := Aside0.mk H
            clear H
            go_wp2_with (first | ((with_reducible refine gate_callee (f := 66) rfl ?_); refine goesL_ (some 8) rfl rfl Tryd.func66 (by kernel_rfl) rfl #[.int .i64 (a0.size : Int), .int .i64 1, .int .i64 20] rfl (by (try simp only [List.map_toArray, List.map_cons, List.map_nil]); first | done | rfl | (simp only [List.length_drop, List.length_take]; rfl)) ?_; (with_reducible refine (spec_l01Between.calls (a0.size : Int) 1 20 true _ A4.out).mono ?_); rintro e w' ⟨rfl, ⟨nd, rfl⟩⟩; refine ⟨_, rfl, ?_⟩; have p8 : 0 ≤ (0 : Int) := (by omega); have q8 : 0 < a0.size := (by have : (0 : Int) < (a0.size : Int) := of_decide_eq_true (by first | (with_reducible assumption) | assumption); omega); have hx8 : ∀ h : 0 < a0.size, ((a0[0]'h).toNat : Int) = bt a0 0 := bt_at a0 0; clear p8; have qi8 : (0 < (a0.size : Int)) = True := eq_true (of_decide_eq_true (by first | (with_reducible assumption) | assumption)); replace q8 := eq_true q8) | (go_at_call 86; (with_reducible refine (spec_l01Big.calls (bt a0 0) false _ A9.out).mono ?_); rintro e w' ⟨rfl, ⟨nd, rfl⟩⟩))
            go_meet
            case rel => exact ⟨_, (true), (by first | rfl | (simp; done) | (simp [*]; done)), H', ⟨by first | omega | exact Nat.le_refl _⟩, by repeat (first | exact Drawn0.refl _ | apply Drawn0.step)⟩
        · rw [if_neg c7] at H
          exact absurd H (by simp)
      · replace c6 := Bool.eq_false_iff.mpr c6
        subst c6
        have H1 : (if 0 < (a0.size : Int) then ((spec_l01Small.f (bt a0 0)).bind fun t224 => (spec_l01Name.j0 k a0 (!t224))) else (none)) = some r := by rw [if_neg (show ¬ (false = true) by decide)] at H; exact H
        clear H
        have H := H1
        clear H1
        by_cases c11 : 0 < (a0.size : Int)
        · rw [if_pos c11] at H
          have c11b0 : decide (0 < (a0.size : Int)) = true := decide_eq_true c11
          have c11b1 : decide (0 < a0.size) = true := decide_eq_true (by omega)
          clear c11
          replace H := Option.bind_eq_some_iff.mp H
          obtain ⟨t224, A130, H⟩ := H
          replace H : (spec_l01Name.j0 k a0 (!t224)) = some r := H
          have A13 := Aside0.mk A130
          clear A130
          have H' := Aside0.mk H
          clear H
          go_wp2_with (first | ((with_reducible refine gate_callee (f := 66) rfl ?_); refine goesL_ (some 8) rfl rfl Tryd.func66 (by kernel_rfl) rfl #[.int .i64 (a0.size : Int), .int .i64 1, .int .i64 20] rfl (by (try simp only [List.map_toArray, List.map_cons, List.map_nil]); first | done | rfl | (simp only [List.length_drop, List.length_take]; rfl)) ?_; (with_reducible refine (spec_l01Between.calls (a0.size : Int) 1 20 true _ A4.out).mono ?_); rintro e w' ⟨rfl, ⟨nd, rfl⟩⟩; refine ⟨_, rfl, ?_⟩; have p12 : 0 ≤ (0 : Int) := (by omega); have q12 : 0 < a0.size := (by have : (0 : Int) < (a0.size : Int) := of_decide_eq_true (by first | (with_reducible assumption) | assumption); omega); have hx12 : ∀ h : 0 < a0.size, ((a0[0]'h).toNat : Int) = bt a0 0 := bt_at a0 0; clear p12; have qi12 : (0 < (a0.size : Int)) = True := eq_true (of_decide_eq_true (by first | (with_reducible assumption) | assumption)); replace q12 := eq_true q12) | (go_at_call 85; (with_reducible refine (spec_l01Small.calls (bt a0 0) t224 _ A13.out).mono ?_); rintro e w' ⟨rfl, ⟨nd, rfl⟩⟩))
          go_meet
          case rel => exact ⟨_, (!t224), (by first | rfl | (simp; done) | (simp [*]; done)), H', ⟨by first | omega | exact Nat.le_refl _⟩, by repeat (first | exact Drawn0.refl _ | apply Drawn0.step)⟩
        · rw [if_neg c11] at H
          exact absurd H (by simp)
    · replace c5 := Bool.eq_false_iff.mpr c5
      subst c5
      have H1 : (spec_l01Name.j0 k a0 true) = some r := by rw [if_neg (show ¬ (false = true) by decide)] at H; exact H
      clear H
      have H := H1
      clear H1
      have H' := Aside0.mk H
      clear H
      go_wp2_with (first | ((with_reducible refine gate_callee (f := 66) rfl ?_); refine goesL_ (some 8) rfl rfl Tryd.func66 (by kernel_rfl) rfl #[.int .i64 (a0.size : Int), .int .i64 1, .int .i64 20] rfl (by (try simp only [List.map_toArray, List.map_cons, List.map_nil]); first | done | rfl | (simp only [List.length_drop, List.length_take]; rfl)) ?_; (with_reducible refine (spec_l01Between.calls (a0.size : Int) 1 20 false _ A4.out).mono ?_); rintro e w' ⟨rfl, ⟨nd, rfl⟩⟩; refine ⟨_, rfl, ?_⟩))
      go_meet
      case rel => exact ⟨_, (true), (by first | rfl | (simp; done) | (simp [*]; done)), H', ⟨by first | omega | exact Nat.le_refl _⟩, by repeat (first | exact Drawn0.refl _ | apply Drawn0.step)⟩
  case rest =>
    clear HC3
    try clear c1
    try clear p1
    try clear q1
    try clear hx1
    try clear qi1
    try clear p2
    try clear c5
    try clear c6
    try clear c7
    try clear c7b0
    try clear c7b1
    try clear p8
    try clear q8
    try clear hx8
    try clear qi8
    try clear c10
    try clear c11
    try clear c11b0
    try clear c11b1
    try clear p12
    try clear q12
    try clear hx12
    try clear qi12
    try clear p12
    try clear p8
    try clear q12
    try clear q8
    obtain ⟨kq, x28_2, rfl, HA, HJ2, ⟨mc2, rfl⟩⟩ := hcut
    cases kq with
    | zero => exact absurd HA.out (by simp [spec_l01Name.j0])
    | succ kj2 =>
      have H := HA.out
      clear HA
      simp only [spec_l01Name.j0] at H
      by_cases c14 : x28_2 = true
      · subst c14
        have H1 : (some false) = some r := by rw [if_pos rfl] at H; exact H
        clear H
        have H := H1
        clear H1
        obtain rfl := Option.some.inj H
        go_wp2
        go_ret
        exact ⟨by first | rfl | (simp; done) | (simp [*]; done), by repeat (first | exact Drawn0.refl _ | apply Drawn0.step)⟩
      · replace c14 := Bool.eq_false_iff.mpr c14
        subst c14
        have H1 : (spec_l01Name.l0 kj2 a0 0) = some r := by rw [if_neg (show ¬ (false = true) by decide)] at H; exact H
        clear H
        have H := H1
        clear H1
        have H' := Aside0.mk H
        clear H
        go_wp2
        go_loopg [5] kj2 (fun kq v5 w' => ∃ (x5_2 : Int), v5 = .int .i64 x5_2 ∧ Aside0 (spec_l01Name.l0 kq a0 x5_2 = some r) ∧ Aside0 (kq ≤ kj2) ∧ Drawn0 w w')
        case atStart => exact ⟨(0), (by first | rfl | (simp; done) | (simp [*]; done)), H', ⟨Nat.le_refl _⟩, by repeat (first | exact Drawn0.refl _ | apply Drawn0.step)⟩
        case round =>
          clear H'
          try clear c1
          try clear p1
          try clear q1
          try clear hx1
          try clear qi1
          try clear c2
          try clear p2
          try clear c5
          try clear c6
          try clear c7
          try clear c7b0
          try clear c7b1
          try clear p8
          try clear q8
          try clear hx8
          try clear qi8
          try clear c10
          try clear c11
          try clear c11b0
          try clear c11b1
          try clear p12
          try clear q12
          try clear hx12
          try clear qi12
          try clear c14
          try clear p1
          try clear p12
          try clear p2
          try clear p8
          try clear q1
          try clear q12
          try clear q8
          obtain ⟨x5_2, rfl, HA, HK2, ⟨m2, rfl⟩⟩ := hrel
          cases gk with
          | zero => exact absurd HA.out (by simp [spec_l01Name.l0])
          | succ k2 =>
            have H := HA.out
            clear HA
            simp only [spec_l01Name.l0] at H
            by_cases c15 : x5_2 < (a0.size : Int)
            · rw [if_pos c15] at H
              have c15b0 : decide (x5_2 < (a0.size : Int)) = true := decide_eq_true c15
              clear c15
              by_cases c16 : 0 ≤ x5_2
              · rw [if_pos c16] at H
                have c16b0 : decide (0 ≤ x5_2) = true := decide_eq_true c16
                clear c16
                replace H := Option.bind_eq_some_iff.mp H
                obtain ⟨t225, A180, H⟩ := H
                replace H : (if t225 = true then (spec_l01Name.l0 k2 a0 (wrap64 (x5_2 + 1))) else (some false)) = some r := H
                have A18 := Aside0.mk A180
                clear A180
                by_cases c19 : t225 = true
                · subst c19
                  have H1 : (spec_l01Name.l0 k2 a0 (wrap64 (x5_2 + 1))) = some r := by rw [if_pos rfl] at H; exact H
                  clear H
                  have H := H1
                  clear H1
                  have H' := Aside0.mk H
                  clear H
                  have p17 : 0 ≤ (x5_2 : Int) := of_decide_eq_true (by first | (with_reducible assumption) | assumption)
                  have q17 : x5_2 < (a0.size : Int) := of_decide_eq_true (by first | (with_reducible assumption) | assumption)
                  have hx17 := bt_at a0 x5_2
                  replace p17 := eq_true p17
                  replace q17 := eq_true q17
                  go_wp2_with (first | ((with_reducible refine gate_callee (f := 87) rfl ?_); refine goesL_ (some 38) rfl rfl Tryd.func87 (by kernel_rfl) rfl #[.int .u8 (bt a0 x5_2)] rfl (by (try simp only [List.map_toArray, List.map_cons, List.map_nil]); first | done | rfl | (simp only [List.length_drop, List.length_take]; rfl)) ?_; (with_reducible refine (spec_l01Letter.calls (bt a0 x5_2) true _ A18.out).mono ?_); rintro e w' ⟨rfl, ⟨nd, rfl⟩⟩; refine ⟨_, rfl, ?_⟩))
                  go_roundg k2
                  case measure => have := HJ2.out; have := HK2.out; omega
                  case rel => exact ⟨(wrap64 (x5_2 + 1)), (by first | rfl | (simp; done) | (simp [*]; done)), H', ⟨by have := HJ2.out; have := HK2.out; omega⟩, by repeat (first | exact Drawn0.refl _ | apply Drawn0.step)⟩
                · replace c19 := Bool.eq_false_iff.mpr c19
                  subst c19
                  have H1 : (some false) = some r := by rw [if_neg (show ¬ (false = true) by decide)] at H; exact H
                  clear H
                  have H := H1
                  clear H1
                  obtain rfl := Option.some.inj H
                  have p17 : 0 ≤ (x5_2 : Int) := of_decide_eq_true (by first | (with_reducible assumption) | assumption)
                  have q17 : x5_2 < (a0.size : Int) := of_decide_eq_true (by first | (with_reducible assumption) | assumption)
                  have hx17 := bt_at a0 x5_2
                  replace p17 := eq_true p17
                  replace q17 := eq_true q17
                  go_wp2_with (first | ((with_reducible refine gate_callee (f := 87) rfl ?_); refine goesL_ (some 38) rfl rfl Tryd.func87 (by kernel_rfl) rfl #[.int .u8 (bt a0 x5_2)] rfl (by (try simp only [List.map_toArray, List.map_cons, List.map_nil]); first | done | rfl | (simp only [List.length_drop, List.length_take]; rfl)) ?_; (with_reducible refine (spec_l01Letter.calls (bt a0 x5_2) false _ A18.out).mono ?_); rintro e w' ⟨rfl, ⟨nd, rfl⟩⟩; refine ⟨_, rfl, ?_⟩))
                  go_ret
                  exact ⟨by first | rfl | (simp; done) | (simp [*]; done), by repeat (first | exact Drawn0.refl _ | apply Drawn0.step)⟩
              · rw [if_neg c16] at H
                exact absurd H (by simp)
            · rw [if_neg c15] at H
              have c15b0 : decide (x5_2 < (a0.size : Int)) = false := decide_eq_false c15
              clear c15
              obtain rfl := Option.some.inj H
              go_wp2
              go_ret
              exact ⟨by first | rfl | (simp; done) | (simp [*]; done), by repeat (first | exact Drawn0.refl _ | apply Drawn0.step)⟩
end Go.Proofs.YtebadckdihgklaaDoor.Pb
end
section
namespace Go.Proofs.YtebadckdihgklaaDoor.Pb
open Go.RowKit Go.Proofs.YtebadckdihgklaaDoorW.PrintWords Go.Proofs.YtebadckdihgklaaDoorW.PrintLast Go.Proofs.YtebadckdihgklaaDoorW.PrintMore
attribute [local go_sem] max2_int min2_int max_two min_two max_three min_three max_four min_four   -- for this text's walks alone
set_option linter.unusedVariables false
set_option linter.unusedSimpArgs false
mutual
def spec_TermKind.j0 : Nat → ByteArray → Bool → Option (Int)
  | 0, _, _ => none
  | k + 1, x0, x16 => if x16 = true then (some 0) else ((spec_l01Number.f k x0).bind fun bt226 => (if bt226.2 = true then (some 1) else (if 0 < (x0.size : Int) then (if (bt x0 0) = 34 then ((spec_l01Between.f (x0.size : Int) 2 22).bind fun t228 => (if t228 = true then (if 0 ≤ (wrap64 ((x0.size : Int) - 1)) then (if (wrap64 ((x0.size : Int) - 1)) < (x0.size : Int) then (spec_TermKind.j1 k x0 ((bt x0 (wrap64 ((x0.size : Int) - 1))) != 34)) else (none)) else (none)) else (spec_TermKind.j1 k x0 true))) else ((spec_l01Args.f k x0).bind fun bt230 => (if bt230.2.2 = true then ((spec_l01Name.f k bt230.1 true).bind fun t235 => (spec_TermKind.j3 k bt230.2.1 (!t235))) else (spec_TermKind.j3 k bt230.2.1 true)))) else (none))))
def spec_TermKind.j1 : Nat → ByteArray → Bool → Option (Int)
  | 0, _, _ => none
  | k + 1, x0, x37 => if x37 = true then (some 0) else (spec_TermKind.l0 k x0 1)
def spec_TermKind.l0 : Nat → ByteArray → Int → Option (Int)
  | 0, _, _ => none
  | k + 1, x0, x5 => if (wrap64 (x5 + 1)) < (x0.size : Int) then (if 0 ≤ x5 then (if x5 < (x0.size : Int) then ((spec_l01Between.f (wrap64 (bt x0 x5)) 32 126).bind fun t229 => (if t229 = true then (if (bt x0 x5) = 34 then (some 0) else (if (bt x0 x5) = 92 then (some 0) else (spec_TermKind.l0 k x0 (wrap64 (x5 + 1))))) else (some 0))) else (none)) else (none)) else (some 2)
def spec_TermKind.j3 : Nat → List ByteArray → Bool → Option (Int)
  | 0, _, _ => none
  | k + 1, x7, x75 => if x75 = true then (some 0) else (spec_TermKind.l1 k x7 0)
def spec_TermKind.l1 : Nat → List ByteArray → Int → Option (Int)
  | 0, _, _ => none
  | k + 1, x7, x9 => if x9 < (x7.length : Int) then (if 0 ≤ x9 then ((spec_TermKind.f k (rdOf ByteArray.empty x7 x9)).bind fun t237 => (if t237 = 0 then (some 0) else (spec_TermKind.l1 k x7 (wrap64 (x9 + 1))))) else (none)) else (some 3)
def spec_TermKind.f : Nat → ByteArray → Option (Int)
  | 0, _ => none
  | k + 1, a0 => if a0.toList = ([] : List UInt8) then (spec_TermKind.j0 k a0 true) else (spec_TermKind.j0 k a0 (decide ((a0.size : Int) > 200)))
end
set_option maxHeartbeats 8000000 in
set_option maxRecDepth 100000 in
theorem spec_TermKind.calls (k : Nat) : ∀ (a0 : ByteArray) (r : Int) (w : World) (h : spec_TermKind.f k a0 = some r),
    Calls Tryd.prog 29 #[.string a0] w fun e w' => e = .returned (.int .i64 r) ∧ Below w.heap.size w w' := by
  induction k using Nat.strongRecOn with
  | _ k ih =>
  intro a0 r w h
  cases k with
  | zero => exact absurd h (by simp [spec_TermKind.f])
  | succ k =>
  simp only [spec_TermKind.f] at h
  have HB := Aside0.mk (Below.refl w.heap.size w)
  have H : (if a0.toList = ([] : List UInt8) then (spec_TermKind.j0 k a0 true) else (spec_TermKind.j0 k a0 (decide ((a0.size : Int) > 200)))) = some r := h
  clear h
  have HC2 := Aside0.mk H
  clear H
  go_enter Tryd.func29, Tryd.ntmps29
  go_upto_region 1 with (fail)
  go_cut [16] (fun v16 wc => ∃ (kq : Nat) (x16_1 : Bool), v16 = .bool x16_1 ∧ Aside0 (spec_TermKind.j0 kq a0 x16_1 = some r) ∧ Aside0 (kq ≤ k) ∧ Aside0 (Below w.heap.size w wc))
  case first =>
    have H := HC2.out
    clear HC2
    by_cases c3 : a0.toList = ([] : List UInt8)
    · rw [if_pos c3] at H
      have c3b0 : (a0.toList == ([] : List UInt8)) = true := beq_iff_eq.mpr c3
      have c3b1 : (a0.toList != ([] : List UInt8)) = false := bne_eq_false_iff_eq.mpr c3
      clear c3
      (first | rw [c3b0] | (simp only [i64_w, i32_w]; rw [c3b0]) | skip)
      have H' := Aside0.mk H
      clear H
      go_wp2
      go_meet
      case rel => exact ⟨_, (true), (by first | rfl | (simp; done) | (simp [*]; done)), H', ⟨by first | omega | exact Nat.le_refl _⟩, ⟨by repeat (first | (with_reducible first | exact HB.out | apply below_alloc | apply pw_below_drewN | apply below_drew1) | exact HB.out)⟩⟩
    · rw [if_neg c3] at H
      have c3b0 : (a0.toList == ([] : List UInt8)) = false := beq_eq_false_iff_ne.mpr c3
      have c3b1 : (a0.toList != ([] : List UInt8)) = true := bne_iff_ne.mpr c3
      (first | rw [c3b0] | (simp only [i64_w, i32_w]; rw [c3b0]) | skip)
      have H' := Aside0.mk H
      clear H
      go_wp2
      go_meet
      case rel => exact ⟨_, (decide ((a0.size : Int) > 200)), (by first | rfl | (simp; done) | (simp [*]; done)), H', ⟨by first | omega | exact Nat.le_refl _⟩, ⟨by repeat (first | (with_reducible first | exact HB.out | apply below_alloc | apply pw_below_drewN | apply below_drew1) | exact HB.out)⟩⟩
  case rest =>
    clear HC2
    try clear c2
    try clear p2
    try clear c3
    try clear c3b0
    try clear c3b1
    obtain ⟨kq, x16_1, rfl, HA, HJ1, HB⟩ := hcut
    cases kq with
    | zero => exact absurd HA.out (by simp [spec_TermKind.j0])
    | succ kj1 =>
      have H := HA.out
      clear HA
      simp only [spec_TermKind.j0] at H
      by_cases c4 : x16_1 = true
      · subst c4
        have H1 : (some 0) = some r := by rw [if_pos rfl] at H; exact H
        clear H
        have H := H1
        clear H1
        obtain rfl := Option.some.inj H
        go_wp2
        go_ret
        exact ⟨by first | rfl | (simp [errW_none, errW_some] <;> rfl) | (simp [*, errW_none, errW_some] <;> rfl), by repeat (first | (with_reducible first | exact HB.out | apply below_alloc | apply pw_below_drewN | apply below_drew1) | exact HB.out)⟩
      · replace c4 := Bool.eq_false_iff.mpr c4
        subst c4
        have H1 : ((spec_l01Number.f kj1 a0).bind fun bt226 => (if bt226.2 = true then (some 1) else (if 0 < (a0.size : Int) then (if (bt a0 0) = 34 then ((spec_l01Between.f (a0.size : Int) 2 22).bind fun t228 => (if t228 = true then (if 0 ≤ (wrap64 ((a0.size : Int) - 1)) then (if (wrap64 ((a0.size : Int) - 1)) < (a0.size : Int) then (spec_TermKind.j1 kj1 a0 ((bt a0 (wrap64 ((a0.size : Int) - 1))) != 34)) else (none)) else (none)) else (spec_TermKind.j1 kj1 a0 true))) else ((spec_l01Args.f kj1 a0).bind fun bt230 => (if bt230.2.2 = true then ((spec_l01Name.f kj1 bt230.1 true).bind fun t235 => (spec_TermKind.j3 kj1 bt230.2.1 (!t235))) else (spec_TermKind.j3 kj1 bt230.2.1 true)))) else (none)))) = some r := by rw [if_neg (show ¬ (false = true) by decide)] at H; exact H
        clear H
        have H := H1
        clear H1
        replace H := Option.bind_eq_some_iff.mp H
        obtain ⟨⟨t226, t227⟩, A50, H⟩ := H
        replace H : (if t227 = true then (some 1) else (if 0 < (a0.size : Int) then (if (bt a0 0) = 34 then ((spec_l01Between.f (a0.size : Int) 2 22).bind fun t228 => (if t228 = true then (if 0 ≤ (wrap64 ((a0.size : Int) - 1)) then (if (wrap64 ((a0.size : Int) - 1)) < (a0.size : Int) then (spec_TermKind.j1 kj1 a0 ((bt a0 (wrap64 ((a0.size : Int) - 1))) != 34)) else (none)) else (none)) else (spec_TermKind.j1 kj1 a0 true))) else ((spec_l01Args.f kj1 a0).bind fun bt230 => (if bt230.2.2 = true then ((spec_l01Name.f kj1 bt230.1 true).bind fun t235 => (spec_TermKind.j3 kj1 bt230.2.1 (!t235))) else (spec_TermKind.j3 kj1 bt230.2.1 true)))) else (none))) = some r := H
        have A5 := Aside0.mk A50
        clear A50
        by_cases c6 : t227 = true
        · subst c6
          have H1 : (some 1) = some r := by rw [if_pos rfl] at H; exact H
          clear H
          have H := H1
          clear H1
          obtain rfl := Option.some.inj H
          go_wp2_with (first | ((with_reducible refine gate_callee (f := 73) rfl ?_); refine goesL_ (some 19) rfl rfl Tryd.func73 (by kernel_rfl) rfl #[.string a0] rfl (by (try simp only [List.map_toArray, List.map_cons, List.map_nil]); first | done | rfl | (simp only [List.length_drop, List.length_take]; rfl)) ?_; (with_reducible refine (spec_l01Number.calls kj1 a0 t226 true _ A5.out).mono ?_); rintro e w7 ⟨rfl, hb⟩; refine ⟨_, rfl, ?_⟩; have n0_ := Aside0.mk (below_step (by repeat (first | (with_reducible first | exact HB.out | apply below_alloc | apply pw_below_drewN | apply below_drew1) | exact HB.out)) hb); clear HB; have HB := n0_; clear n0_; (try clear hb); (try clear hb2); (try clear hk); (try clear hi)))
          go_ret
          exact ⟨by first | rfl | (simp [errW_none, errW_some] <;> rfl) | (simp [*, errW_none, errW_some] <;> rfl), by repeat (first | (with_reducible first | exact HB.out | apply below_alloc | apply pw_below_drewN | apply below_drew1) | exact HB.out)⟩
        · replace c6 := Bool.eq_false_iff.mpr c6
          subst c6
          have H1 : (if 0 < (a0.size : Int) then (if (bt a0 0) = 34 then ((spec_l01Between.f (a0.size : Int) 2 22).bind fun t228 => (if t228 = true then (if 0 ≤ (wrap64 ((a0.size : Int) - 1)) then (if (wrap64 ((a0.size : Int) - 1)) < (a0.size : Int) then (spec_TermKind.j1 kj1 a0 ((bt a0 (wrap64 ((a0.size : Int) - 1))) != 34)) else (none)) else (none)) else (spec_TermKind.j1 kj1 a0 true))) else ((spec_l01Args.f kj1 a0).bind fun bt230 => (if bt230.2.2 = true then ((spec_l01Name.f kj1 bt230.1 true).bind fun t235 => (spec_TermKind.j3 kj1 bt230.2.1 (!t235))) else (spec_TermKind.j3 kj1 bt230.2.1 true)))) else (none)) = some r := by rw [if_neg (show ¬ (false = true) by decide)] at H; exact H
          clear H
          have H := H1
          clear H1
          by_cases c8 : 0 < (a0.size : Int)
          · rw [if_pos c8] at H
            have c8b0 : decide (0 < (a0.size : Int)) = true := decide_eq_true c8
            have c8b1 : decide (0 < a0.size) = true := decide_eq_true (by omega)
            clear c8
            by_cases c10 : (bt a0 0) = 34
            · rw [if_pos c10] at H
              have c10b0 : ((bt a0 0) == 34) = true := beq_iff_eq.mpr c10
              have c10b1 : ((bt a0 0) != 34) = false := bne_eq_false_iff_eq.mpr c10
              clear c10
              have HC11 := Aside0.mk H
              clear H
              go_upto_region 7 with (first | ((with_reducible refine gate_callee (f := 73) rfl ?_); refine goesL_ (some 19) rfl rfl Tryd.func73 (by kernel_rfl) rfl #[.string a0] rfl (by (try simp only [List.map_toArray, List.map_cons, List.map_nil]); first | done | rfl | (simp only [List.length_drop, List.length_take]; rfl)) ?_; (with_reducible refine (spec_l01Number.calls kj1 a0 t226 false _ A5.out).mono ?_); rintro e w12 ⟨rfl, hb⟩; refine ⟨_, rfl, ?_⟩; have n0_ := Aside0.mk (below_step (by repeat (first | (with_reducible first | exact HB.out | apply below_alloc | apply pw_below_drewN | apply below_drew1) | exact HB.out)) hb); clear HB; have HB := n0_; clear n0_; (try clear hb); (try clear hb2); (try clear hk); (try clear hi); have p9 : 0 ≤ (0 : Int) := (by omega); have q9 : 0 < a0.size := (by have : (0 : Int) < (a0.size : Int) := of_decide_eq_true (by first | (with_reducible assumption) | assumption); omega); have hx9 : ∀ h : 0 < a0.size, ((a0[0]'h).toNat : Int) = bt a0 0 := bt_at a0 0; clear p9; have qi9 : (0 < (a0.size : Int)) = True := eq_true (of_decide_eq_true (by first | (with_reducible assumption) | assumption)); replace q9 := eq_true q9))
              (try simp only [Act.put, List.setIfInBounds_toArray, List.set_cons_zero, List.set_cons_succ])
              go_cut [37] (fun v37 wc => ∃ (kq : Nat) (x37_10 : Bool), v37 = .bool x37_10 ∧ Aside0 (spec_TermKind.j1 kq a0 x37_10 = some r) ∧ Aside0 (kq ≤ kj1) ∧ Aside0 (Below w.heap.size w wc))
              case first =>
                have H := HC11.out
                clear HC11
                replace H := Option.bind_eq_some_iff.mp H
                obtain ⟨t228, A130, H⟩ := H
                replace H : (if t228 = true then (if 0 ≤ (wrap64 ((a0.size : Int) - 1)) then (if (wrap64 ((a0.size : Int) - 1)) < (a0.size : Int) then (spec_TermKind.j1 kj1 a0 ((bt a0 (wrap64 ((a0.size : Int) - 1))) != 34)) else (none)) else (none)) else (spec_TermKind.j1 kj1 a0 true)) = some r := H
                have A13 := Aside0.mk A130
                clear A130
                by_cases c14 : t228 = true
                · subst c14
                  have H1 : (if 0 ≤ (wrap64 ((a0.size : Int) - 1)) then (if (wrap64 ((a0.size : Int) - 1)) < (a0.size : Int) then (spec_TermKind.j1 kj1 a0 ((bt a0 (wrap64 ((a0.size : Int) - 1))) != 34)) else (none)) else (none)) = some r := by rw [if_pos rfl] at H; exact H
                  clear H
                  have H := H1
                  clear H1
                  obtain ⟨ji15, hji15⟩ : ∃ j_ : Int, (wrap64 ((a0.size : Int) - 1)) = j_ := ⟨_, rfl⟩
                  replace H : (if 0 ≤ (ji15) then (if (ji15) < (a0.size : Int) then (spec_TermKind.j1 kj1 a0 ((bt a0 (ji15)) != 34)) else (none)) else (none)) = some r := by first | (rw [hji15] at H; exact H) | (simp only [hji15] at H ⊢; exact H)
                  (try rw [hji15] at A13)
                  have hji15w : (IntKind.i64.wrap ((a0.size : Int) - 1)) = ji15 := (i64_w _).trans hji15
                  by_cases c16 : 0 ≤ (ji15)
                  · rw [if_pos c16] at H
                    have c16b0 : decide (0 ≤ (ji15)) = true := decide_eq_true c16
                    clear c16
                    (first | rw [c16b0] | (simp only [i64_w, i32_w]; rw [c16b0]) | skip)
                    by_cases c17 : (ji15) < (a0.size : Int)
                    · rw [if_pos c17] at H
                      have c17b0 : decide ((ji15) < (a0.size : Int)) = true := decide_eq_true c17
                      clear c17
                      have H' := Aside0.mk H
                      clear H
                      go_wp2_with (first | ((with_reducible refine gate_callee (f := 66) rfl ?_); refine goesL_ (some 28) rfl rfl Tryd.func66 (by kernel_rfl) rfl #[.int .i64 (a0.size : Int), .int .i64 2, .int .i64 22] rfl (by (try simp only [List.map_toArray, List.map_cons, List.map_nil]); first | done | rfl | (simp only [List.length_drop, List.length_take]; rfl)) ?_; (with_reducible refine (spec_l01Between.calls (a0.size : Int) 2 22 true _ A13.out).mono ?_); rintro e w' ⟨rfl, ⟨nd, rfl⟩⟩; refine ⟨_, rfl, ?_⟩; have p18 : 0 ≤ ((ji15) : Int) := of_decide_eq_true (by first | (with_reducible assumption) | assumption); have q18 : (ji15) < (a0.size : Int) := of_decide_eq_true (by first | (with_reducible assumption) | assumption); have hx18 := bt_at a0 (ji15); replace p18 := eq_true p18; replace q18 := eq_true q18))
                      go_meet
                      case rel => exact ⟨_, (((bt a0 (ji15)) != 34)), (by first | rfl | (simp; done) | (simp only [← hji15] <;> (first | rfl | simp)) | (simp [*]; done)), H', ⟨by have := HJ1.out; first | omega | exact Nat.le_refl _⟩, ⟨by repeat (first | (with_reducible first | exact HB.out | apply below_alloc | apply pw_below_drewN | apply below_drew1) | exact HB.out)⟩⟩
                    · rw [if_neg c17] at H
                      exact absurd H (by simp)
                  · rw [if_neg c16] at H
                    exact absurd H (by simp)
                · replace c14 := Bool.eq_false_iff.mpr c14
                  subst c14
                  have H1 : (spec_TermKind.j1 kj1 a0 true) = some r := by rw [if_neg (show ¬ (false = true) by decide)] at H; exact H
                  clear H
                  have H := H1
                  clear H1
                  have H' := Aside0.mk H
                  clear H
                  go_wp2_with (first | ((with_reducible refine gate_callee (f := 66) rfl ?_); refine goesL_ (some 28) rfl rfl Tryd.func66 (by kernel_rfl) rfl #[.int .i64 (a0.size : Int), .int .i64 2, .int .i64 22] rfl (by (try simp only [List.map_toArray, List.map_cons, List.map_nil]); first | done | rfl | (simp only [List.length_drop, List.length_take]; rfl)) ?_; (with_reducible refine (spec_l01Between.calls (a0.size : Int) 2 22 false _ A13.out).mono ?_); rintro e w' ⟨rfl, ⟨nd, rfl⟩⟩; refine ⟨_, rfl, ?_⟩))
                  go_meet
                  case rel => exact ⟨_, (true), (by first | rfl | (simp; done) | (simp [*]; done)), H', ⟨by have := HJ1.out; first | omega | exact Nat.le_refl _⟩, ⟨by repeat (first | (with_reducible first | exact HB.out | apply below_alloc | apply pw_below_drewN | apply below_drew1) | exact HB.out)⟩⟩
              case rest =>
                clear HC11
                try clear c1
                try clear p1
                try clear q1
                try clear hx1
                try clear c2
                try clear p2
                try clear c3
                try clear c3b0
                try clear c3b1
                try clear c4
                try clear c6
                try clear p6
                try clear c7
                try clear c8
                try clear c8b0
                try clear c8b1
                try clear p9
                try clear q9
                try clear hx9
                try clear qi9
                try clear c10
                try clear c10b0
                try clear c10b1
                try clear c14
                try clear c16
                try clear c16b0
                try clear c17
                try clear c17b0
                try clear p18
                try clear q18
                try clear hx18
                try clear p18
                try clear p2
                try clear p9
                try clear q18
                try clear q9
                obtain ⟨kq, x37_10, rfl, HA, HJ10, HB⟩ := hcut
                cases kq with
                | zero => exact absurd HA.out (by simp [spec_TermKind.j1])
                | succ kj10 =>
                  have H := HA.out
                  clear HA
                  simp only [spec_TermKind.j1] at H
                  by_cases c19 : x37_10 = true
                  · subst c19
                    have H1 : (some 0) = some r := by rw [if_pos rfl] at H; exact H
                    clear H
                    have H := H1
                    clear H1
                    obtain rfl := Option.some.inj H
                    go_wp2
                    go_ret
                    exact ⟨by first | rfl | (simp [errW_none, errW_some] <;> rfl) | (simp [*, errW_none, errW_some] <;> rfl), by repeat (first | (with_reducible first | exact HB.out | apply below_alloc | apply pw_below_drewN | apply below_drew1) | exact HB.out)⟩
                  · replace c19 := Bool.eq_false_iff.mpr c19
                    subst c19
                    have H1 : (spec_TermKind.l0 kj10 a0 1) = some r := by rw [if_neg (show ¬ (false = true) by decide)] at H; exact H
                    clear H
                    have H := H1
                    clear H1
                    have H' := Aside0.mk H
                    clear H
                    go_wp2
                    go_loopg [5] kj10 (fun kq v5 w' => ∃ (x5_3 : Int), v5 = .int .i64 x5_3 ∧ Aside0 (spec_TermKind.l0 kq a0 x5_3 = some r) ∧ Aside0 (kq ≤ kj10) ∧ Aside0 (Below w.heap.size w w'))
                    case atStart => exact ⟨(1), (by first | rfl | (simp; done) | (simp [*]; done)), H', ⟨Nat.le_refl _⟩, ⟨by repeat (first | (with_reducible first | exact HB.out | apply below_alloc | apply pw_below_drewN | apply below_drew1) | exact HB.out)⟩⟩
                    case round =>
                      clear H'
                      try clear c1
                      try clear p1
                      try clear q1
                      try clear hx1
                      try clear c2
                      try clear p2
                      try clear c3
                      try clear c3b0
                      try clear c3b1
                      try clear c4
                      try clear c6
                      try clear p6
                      try clear c7
                      try clear c8
                      try clear c8b0
                      try clear c8b1
                      try clear p9
                      try clear q9
                      try clear hx9
                      try clear qi9
                      try clear c10
                      try clear c10b0
                      try clear c10b1
                      try clear c14
                      try clear c16
                      try clear c16b0
                      try clear c17
                      try clear c17b0
                      try clear p18
                      try clear q18
                      try clear hx18
                      try clear c19
                      try clear p1
                      try clear p18
                      try clear p2
                      try clear p6
                      try clear p9
                      try clear q1
                      try clear q18
                      try clear q9
                      obtain ⟨x5_3, rfl, HA, HK3, HB⟩ := hrel
                      cases gk with
                      | zero => exact absurd HA.out (by simp [spec_TermKind.l0])
                      | succ k3 =>
                        have H := HA.out
                        clear HA
                        simp only [spec_TermKind.l0] at H
                        by_cases c20 : (wrap64 (x5_3 + 1)) < (a0.size : Int)
                        · rw [if_pos c20] at H
                          have c20b0 : decide ((wrap64 (x5_3 + 1)) < (a0.size : Int)) = true := decide_eq_true c20
                          clear c20
                          by_cases c21 : 0 ≤ x5_3
                          · rw [if_pos c21] at H
                            have c21b0 : decide (0 ≤ x5_3) = true := decide_eq_true c21
                            clear c21
                            by_cases c22 : x5_3 < (a0.size : Int)
                            · rw [if_pos c22] at H
                              have c22b0 : decide (x5_3 < (a0.size : Int)) = true := decide_eq_true c22
                              clear c22
                              replace H := Option.bind_eq_some_iff.mp H
                              obtain ⟨t229, A240, H⟩ := H
                              replace H : (if t229 = true then (if (bt a0 x5_3) = 34 then (some 0) else (if (bt a0 x5_3) = 92 then (some 0) else (spec_TermKind.l0 k3 a0 (wrap64 (x5_3 + 1))))) else (some 0)) = some r := H
                              have A24 := Aside0.mk A240
                              clear A240
                              by_cases c25 : t229 = true
                              · subst c25
                                have H1 : (if (bt a0 x5_3) = 34 then (some 0) else (if (bt a0 x5_3) = 92 then (some 0) else (spec_TermKind.l0 k3 a0 (wrap64 (x5_3 + 1))))) = some r := by rw [if_pos rfl] at H; exact H
                                clear H
                                have H := H1
                                clear H1
                                by_cases c27 : (bt a0 x5_3) = 34
                                · rw [if_pos c27] at H
                                  have c27b0 : ((bt a0 x5_3) == 34) = true := beq_iff_eq.mpr c27
                                  have c27b1 : ((bt a0 x5_3) != 34) = false := bne_eq_false_iff_eq.mpr c27
                                  clear c27
                                  obtain rfl := Option.some.inj H
                                  have p23 : 0 ≤ (x5_3 : Int) := of_decide_eq_true (by first | (with_reducible assumption) | assumption)
                                  have q23 : x5_3 < (a0.size : Int) := of_decide_eq_true (by first | (with_reducible assumption) | assumption)
                                  have hx23 := bt_at a0 x5_3
                                  replace p23 := eq_true p23
                                  replace q23 := eq_true q23
                                  go_wp2_with (first | ((with_reducible refine gate_callee (f := 66) rfl ?_); refine goesL_ (some 49) rfl rfl Tryd.func66 (by kernel_rfl) rfl #[.int .i64 (wrap64 (bt a0 x5_3)), .int .i64 32, .int .i64 126] rfl (by (try simp only [List.map_toArray, List.map_cons, List.map_nil]); first | done | rfl | (simp only [List.length_drop, List.length_take]; rfl)) ?_; (with_reducible refine (spec_l01Between.calls (wrap64 (bt a0 x5_3)) 32 126 true _ A24.out).mono ?_); rintro e w' ⟨rfl, ⟨nd, rfl⟩⟩; refine ⟨_, rfl, ?_⟩; have p26 : 0 ≤ (x5_3 : Int) := of_decide_eq_true (by first | (with_reducible assumption) | assumption); have q26 : x5_3 < (a0.size : Int) := of_decide_eq_true (by first | (with_reducible assumption) | assumption); have hx26 := bt_at a0 x5_3; replace p26 := eq_true p26; replace q26 := eq_true q26))
                                  go_ret
                                  exact ⟨by first | rfl | (simp [errW_none, errW_some] <;> rfl) | (simp [*, errW_none, errW_some] <;> rfl), by repeat (first | (with_reducible first | exact HB.out | apply below_alloc | apply pw_below_drewN | apply below_drew1) | exact HB.out)⟩
                                · rw [if_neg c27] at H
                                  have c27b0 : ((bt a0 x5_3) == 34) = false := beq_eq_false_iff_ne.mpr c27
                                  have c27b1 : ((bt a0 x5_3) != 34) = true := bne_iff_ne.mpr c27
                                  by_cases c29 : (bt a0 x5_3) = 92
                                  · rw [if_pos c29] at H
                                    have c29b0 : ((bt a0 x5_3) == 92) = true := beq_iff_eq.mpr c29
                                    have c29b1 : ((bt a0 x5_3) != 92) = false := bne_eq_false_iff_eq.mpr c29
                                    clear c29
                                    obtain rfl := Option.some.inj H
                                    have p23 : 0 ≤ (x5_3 : Int) := of_decide_eq_true (by first | (with_reducible assumption) | assumption)
                                    have q23 : x5_3 < (a0.size : Int) := of_decide_eq_true (by first | (with_reducible assumption) | assumption)
                                    have hx23 := bt_at a0 x5_3
                                    replace p23 := eq_true p23
                                    replace q23 := eq_true q23
                                    go_wp2_with (first | ((with_reducible refine gate_callee (f := 66) rfl ?_); refine goesL_ (some 49) rfl rfl Tryd.func66 (by kernel_rfl) rfl #[.int .i64 (wrap64 (bt a0 x5_3)), .int .i64 32, .int .i64 126] rfl (by (try simp only [List.map_toArray, List.map_cons, List.map_nil]); first | done | rfl | (simp only [List.length_drop, List.length_take]; rfl)) ?_; (with_reducible refine (spec_l01Between.calls (wrap64 (bt a0 x5_3)) 32 126 true _ A24.out).mono ?_); rintro e w' ⟨rfl, ⟨nd, rfl⟩⟩; refine ⟨_, rfl, ?_⟩; have p26 : 0 ≤ (x5_3 : Int) := of_decide_eq_true (by first | (with_reducible assumption) | assumption); have q26 : x5_3 < (a0.size : Int) := of_decide_eq_true (by first | (with_reducible assumption) | assumption); have hx26 := bt_at a0 x5_3; replace p26 := eq_true p26; replace q26 := eq_true q26; have p28 : 0 ≤ (x5_3 : Int) := of_decide_eq_true (by first | (with_reducible assumption) | assumption); have q28 : x5_3 < (a0.size : Int) := of_decide_eq_true (by first | (with_reducible assumption) | assumption); have hx28 := bt_at a0 x5_3; replace p28 := eq_true p28; replace q28 := eq_true q28))
                                    go_ret
                                    exact ⟨by first | rfl | (simp [errW_none, errW_some] <;> rfl) | (simp [*, errW_none, errW_some] <;> rfl), by repeat (first | (with_reducible first | exact HB.out | apply below_alloc | apply pw_below_drewN | apply below_drew1) | exact HB.out)⟩
                                  · rw [if_neg c29] at H
                                    have c29b0 : ((bt a0 x5_3) == 92) = false := beq_eq_false_iff_ne.mpr c29
                                    have c29b1 : ((bt a0 x5_3) != 92) = true := bne_iff_ne.mpr c29
                                    have H' := Aside0.mk H
                                    clear H
                                    have p23 : 0 ≤ (x5_3 : Int) := of_decide_eq_true (by first | (with_reducible assumption) | assumption)
                                    have q23 : x5_3 < (a0.size : Int) := of_decide_eq_true (by first | (with_reducible assumption) | assumption)
                                    have hx23 := bt_at a0 x5_3
                                    replace p23 := eq_true p23
                                    replace q23 := eq_true q23
                                    go_wp2_with (first | ((with_reducible refine gate_callee (f := 66) rfl ?_); refine goesL_ (some 49) rfl rfl Tryd.func66 (by kernel_rfl) rfl #[.int .i64 (wrap64 (bt a0 x5_3)), .int .i64 32, .int .i64 126] rfl (by (try simp only [List.map_toArray, List.map_cons, List.map_nil]); first | done | rfl | (simp only [List.length_drop, List.length_take]; rfl)) ?_; (with_reducible refine (spec_l01Between.calls (wrap64 (bt a0 x5_3)) 32 126 true _ A24.out).mono ?_); rintro e w' ⟨rfl, ⟨nd, rfl⟩⟩; refine ⟨_, rfl, ?_⟩; have p26 : 0 ≤ (x5_3 : Int) := of_decide_eq_true (by first | (with_reducible assumption) | assumption); have q26 : x5_3 < (a0.size : Int) := of_decide_eq_true (by first | (with_reducible assumption) | assumption); have hx26 := bt_at a0 x5_3; replace p26 := eq_true p26; replace q26 := eq_true q26; have p28 : 0 ≤ (x5_3 : Int) := of_decide_eq_true (by first | (with_reducible assumption) | assumption); have q28 : x5_3 < (a0.size : Int) := of_decide_eq_true (by first | (with_reducible assumption) | assumption); have hx28 := bt_at a0 x5_3; replace p28 := eq_true p28; replace q28 := eq_true q28))
                                    go_roundg k3
                                    case measure => have := HJ1.out; have := HJ10.out; have := HK3.out; omega
                                    case rel => exact ⟨(wrap64 (x5_3 + 1)), (by first | rfl | (simp; done) | (simp [*]; done)), H', ⟨by have := HJ1.out; have := HJ10.out; have := HK3.out; omega⟩, ⟨by repeat (first | (with_reducible first | exact HB.out | apply below_alloc | apply pw_below_drewN | apply below_drew1) | exact HB.out)⟩⟩
                              · replace c25 := Bool.eq_false_iff.mpr c25
                                subst c25
                                have H1 : (some 0) = some r := by rw [if_neg (show ¬ (false = true) by decide)] at H; exact H
                                clear H
                                have H := H1
                                clear H1
                                obtain rfl := Option.some.inj H
                                have p23 : 0 ≤ (x5_3 : Int) := of_decide_eq_true (by first | (with_reducible assumption) | assumption)
                                have q23 : x5_3 < (a0.size : Int) := of_decide_eq_true (by first | (with_reducible assumption) | assumption)
                                have hx23 := bt_at a0 x5_3
                                replace p23 := eq_true p23
                                replace q23 := eq_true q23
                                go_wp2_with (first | ((with_reducible refine gate_callee (f := 66) rfl ?_); refine goesL_ (some 49) rfl rfl Tryd.func66 (by kernel_rfl) rfl #[.int .i64 (wrap64 (bt a0 x5_3)), .int .i64 32, .int .i64 126] rfl (by (try simp only [List.map_toArray, List.map_cons, List.map_nil]); first | done | rfl | (simp only [List.length_drop, List.length_take]; rfl)) ?_; (with_reducible refine (spec_l01Between.calls (wrap64 (bt a0 x5_3)) 32 126 false _ A24.out).mono ?_); rintro e w' ⟨rfl, ⟨nd, rfl⟩⟩; refine ⟨_, rfl, ?_⟩))
                                go_ret
                                exact ⟨by first | rfl | (simp [errW_none, errW_some] <;> rfl) | (simp [*, errW_none, errW_some] <;> rfl), by repeat (first | (with_reducible first | exact HB.out | apply below_alloc | apply pw_below_drewN | apply below_drew1) | exact HB.out)⟩
                            · rw [if_neg c22] at H
                              exact absurd H (by simp)
                          · rw [if_neg c21] at H
                            exact absurd H (by simp)
                        · rw [if_neg c20] at H
                          have c20b0 : decide ((wrap64 (x5_3 + 1)) < (a0.size : Int)) = false := decide_eq_false c20
                          clear c20
                          obtain rfl := Option.some.inj H
                          go_wp2
                          go_ret
                          exact ⟨by first | rfl | (simp [errW_none, errW_some] <;> rfl) | (simp [*, errW_none, errW_some] <;> rfl), by repeat (first | (with_reducible first | exact HB.out | apply below_alloc | apply pw_below_drewN | apply below_drew1) | exact HB.out)⟩
            · rw [if_neg c10] at H
              have c10b0 : ((bt a0 0) == 34) = false := beq_eq_false_iff_ne.mpr c10
              have c10b1 : ((bt a0 0) != 34) = true := bne_iff_ne.mpr c10
              replace H := Option.bind_eq_some_iff.mp H
              obtain ⟨⟨t230, t231, t232⟩, A300, H⟩ := H
              replace H : (if t232 = true then ((spec_l01Name.f kj1 t230 true).bind fun t235 => (spec_TermKind.j3 kj1 t231 (!t235))) else (spec_TermKind.j3 kj1 t231 true)) = some r := H
              have A30 := Aside0.mk A300
              clear A300
              have HC31 := Aside0.mk H
              clear H
              go_upto_region 16 with (first | ((with_reducible refine gate_callee (f := 73) rfl ?_); refine goesL_ (some 19) rfl rfl Tryd.func73 (by kernel_rfl) rfl #[.string a0] rfl (by (try simp only [List.map_toArray, List.map_cons, List.map_nil]); first | done | rfl | (simp only [List.length_drop, List.length_take]; rfl)) ?_; (with_reducible refine (spec_l01Number.calls kj1 a0 t226 false _ A5.out).mono ?_); rintro e w32 ⟨rfl, hb⟩; refine ⟨_, rfl, ?_⟩; have n0_ := Aside0.mk (below_step (by repeat (first | (with_reducible first | exact HB.out | apply below_alloc | apply pw_below_drewN | apply below_drew1) | exact HB.out)) hb); clear HB; have HB := n0_; clear n0_; (try clear hb); (try clear hb2); (try clear hk); (try clear hi); have p9 : 0 ≤ (0 : Int) := (by omega); have q9 : 0 < a0.size := (by have : (0 : Int) < (a0.size : Int) := of_decide_eq_true (by first | (with_reducible assumption) | assumption); omega); have hx9 : ∀ h : 0 < a0.size, ((a0[0]'h).toNat : Int) = bt a0 0 := bt_at a0 0; clear p9; have qi9 : (0 < (a0.size : Int)) = True := eq_true (of_decide_eq_true (by first | (with_reducible assumption) | assumption)); replace q9 := eq_true q9) | ((with_reducible refine gate_callee (f := 74) rfl ?_); refine goesL_ (some 65) rfl rfl Tryd.func74 (by kernel_rfl) rfl #[.string a0] rfl (by (try simp only [List.map_toArray, List.map_cons, List.map_nil]); first | done | rfl | (simp only [List.length_drop, List.length_take]; rfl)) ?_; (with_reducible refine (spec_l01Args.calls kj1 a0 t230 t231 t232 _ A30.out).mono ?_); rintro e w33 ⟨v233, rfl, ho0, hb⟩; refine ⟨_, rfl, ?_⟩; have n0_ := Aside0.mk (Kd.R_lower ho0 (below_size (by repeat (first | (with_reducible first | exact HB.out | apply below_alloc | apply pw_below_drewN | apply below_drew1) | exact HB.out)))); have n1_ := Aside0.mk (below_step (by repeat (first | (with_reducible first | exact HB.out | apply below_alloc | apply pw_below_drewN | apply below_drew1) | exact HB.out)) hb); clear HB; have HO234 := n0_; have HB := n1_; clear n0_ n1_; (try clear hb); (try clear hb2); (try clear hk); (try clear hi); (try clear ho0)))
              (try simp only [Act.put, List.setIfInBounds_toArray, List.set_cons_zero, List.set_cons_succ])
              go_cut [75] (fun v75 wc => ∃ (kq : Nat) (x75_30 : Bool), v75 = .bool x75_30 ∧ Aside0 (spec_TermKind.j3 kq t231 x75_30 = some r) ∧ Aside0 (kq ≤ kj1) ∧ Aside0 (Kd.R Kd.string 9 wc w.heap.size (fun _ => True) v233 t231) ∧ Aside0 (Below w.heap.size w wc))
              case first =>
                have H := HC31.out
                clear HC31
                by_cases c34 : t232 = true
                · subst c34
                  have H1 : ((spec_l01Name.f kj1 t230 true).bind fun t235 => (spec_TermKind.j3 kj1 t231 (!t235))) = some r := by rw [if_pos rfl] at H; exact H
                  clear H
                  have H := H1
                  clear H1
                  replace H := Option.bind_eq_some_iff.mp H
                  obtain ⟨t235, A350, H⟩ := H
                  replace H : (spec_TermKind.j3 kj1 t231 (!t235)) = some r := H
                  have A35 := Aside0.mk A350
                  clear A350
                  have H' := Aside0.mk H
                  clear H
                  go_wp2_with (first | (go_at_call 75; (with_reducible refine (spec_l01Name.calls kj1 t230 true t235 _ A35.out).mono ?_); rintro e w' ⟨rfl, ⟨nd, rfl⟩⟩))
                  go_meet
                  case rel => exact ⟨_, (!t235), (by first | rfl | (simp; done) | (simp [*]; done)), H', ⟨by have := HJ1.out; first | omega | exact Nat.le_refl _⟩, ⟨by (with_reducible repeat (first | apply Kd.R_alloc | apply Kd.R_drewN | apply Kd.R_drew)); exact HO234.out⟩, ⟨by repeat (first | (with_reducible first | exact HB.out | apply below_alloc | apply pw_below_drewN | apply below_drew1) | exact HB.out)⟩⟩
                · replace c34 := Bool.eq_false_iff.mpr c34
                  subst c34
                  have H1 : (spec_TermKind.j3 kj1 t231 true) = some r := by rw [if_neg (show ¬ (false = true) by decide)] at H; exact H
                  clear H
                  have H := H1
                  clear H1
                  have H' := Aside0.mk H
                  clear H
                  go_wp2
                  go_meet
                  case rel => exact ⟨_, (true), (by first | rfl | (simp; done) | (simp [*]; done)), H', ⟨by have := HJ1.out; first | omega | exact Nat.le_refl _⟩, ⟨by (with_reducible repeat (first | apply Kd.R_alloc | apply Kd.R_drewN | apply Kd.R_drew)); exact HO234.out⟩, ⟨by repeat (first | (with_reducible first | exact HB.out | apply below_alloc | apply pw_below_drewN | apply below_drew1) | exact HB.out)⟩⟩
              case rest =>
                clear HC31
                try clear c1
                try clear p1
                try clear q1
                try clear hx1
                try clear c2
                try clear p2
                try clear q2
                try clear hx2
                try clear c3
                try clear c3b0
                try clear c3b1
                try clear c4
                try clear c6
                try clear p6
                try clear c7
                try clear c8
                try clear c8b0
                try clear c8b1
                try clear p9
                try clear q9
                try clear hx9
                try clear qi9
                try clear c10
                try clear c10b0
                try clear c10b1
                try clear c14
                try clear c16
                try clear c16b0
                try clear c17
                try clear c17b0
                try clear p18
                try clear q18
                try clear hx18
                try clear c19
                try clear c20
                try clear c20b0
                try clear c21
                try clear c21b0
                try clear c22
                try clear c22b0
                try clear p23
                try clear q23
                try clear hx23
                try clear c25
                try clear p26
                try clear q26
                try clear hx26
                try clear c27
                try clear c27b0
                try clear c27b1
                try clear p28
                try clear q28
                try clear hx28
                try clear c29
                try clear c29b0
                try clear c29b1
                try clear c34
                try clear p1
                try clear p18
                try clear p2
                try clear p23
                try clear p26
                try clear p28
                try clear p6
                try clear p9
                try clear q1
                try clear q18
                try clear q23
                try clear q26
                try clear q28
                try clear q9
                obtain ⟨kq, x75_30, rfl, HA, HJ30, HO_7, HB⟩ := hcut
                cases kq with
                | zero => exact absurd HA.out (by simp [spec_TermKind.j3])
                | succ kj30 =>
                  have H := HA.out
                  clear HA
                  simp only [spec_TermKind.j3] at H
                  by_cases c36 : x75_30 = true
                  · subst c36
                    have H1 : (some 0) = some r := by rw [if_pos rfl] at H; exact H
                    clear H
                    have H := H1
                    clear H1
                    obtain rfl := Option.some.inj H
                    go_wp2
                    go_ret
                    exact ⟨by first | rfl | (simp [errW_none, errW_some] <;> rfl) | (simp [*, errW_none, errW_some] <;> rfl), by repeat (first | (with_reducible first | exact HB.out | apply below_alloc | apply pw_below_drewN | apply below_drew1) | exact HB.out)⟩
                  · replace c36 := Bool.eq_false_iff.mpr c36
                    subst c36
                    have H1 : (spec_TermKind.l1 kj30 t231 0) = some r := by rw [if_neg (show ¬ (false = true) by decide)] at H; exact H
                    clear H
                    have H := H1
                    clear H1
                    have H' := Aside0.mk H
                    clear H
                    go_wp2
                    go_loopg [9] kj30 (fun kq v9 w' => ∃ (x9_3 : Int), v9 = .int .i64 x9_3 ∧ Aside0 (spec_TermKind.l1 kq t231 x9_3 = some r) ∧ Aside0 (kq ≤ kj30) ∧ Aside0 (Kd.R Kd.string 9 w' w.heap.size (fun _ => True) v233 t231) ∧ Aside0 (Below w.heap.size w w'))
                    case atStart => exact ⟨(0), (by first | rfl | (simp; done) | (simp [*]; done)), H', ⟨Nat.le_refl _⟩, ⟨by (with_reducible repeat (first | apply Kd.R_alloc | apply Kd.R_drewN | apply Kd.R_drew)); exact HO_7.out⟩, ⟨by repeat (first | (with_reducible first | exact HB.out | apply below_alloc | apply pw_below_drewN | apply below_drew1) | exact HB.out)⟩⟩
                    case round =>
                      clear H'
                      try clear c1
                      try clear p1
                      try clear q1
                      try clear hx1
                      try clear c2
                      try clear p2
                      try clear q2
                      try clear hx2
                      try clear c3
                      try clear c3b0
                      try clear c3b1
                      try clear c4
                      try clear c6
                      try clear p6
                      try clear c7
                      try clear c8
                      try clear c8b0
                      try clear c8b1
                      try clear p9
                      try clear q9
                      try clear hx9
                      try clear qi9
                      try clear c10
                      try clear c10b0
                      try clear c10b1
                      try clear c14
                      try clear c16
                      try clear c16b0
                      try clear c17
                      try clear c17b0
                      try clear p18
                      try clear q18
                      try clear hx18
                      try clear c19
                      try clear c20
                      try clear c20b0
                      try clear c21
                      try clear c21b0
                      try clear c22
                      try clear c22b0
                      try clear p23
                      try clear q23
                      try clear hx23
                      try clear c25
                      try clear p26
                      try clear q26
                      try clear hx26
                      try clear c27
                      try clear c27b0
                      try clear c27b1
                      try clear p28
                      try clear q28
                      try clear hx28
                      try clear c29
                      try clear c29b0
                      try clear c29b1
                      try clear c34
                      try clear c36
                      try clear p1
                      try clear p18
                      try clear p2
                      try clear p23
                      try clear p26
                      try clear p28
                      try clear p6
                      try clear p9
                      try clear q1
                      try clear q18
                      try clear q2
                      try clear q23
                      try clear q26
                      try clear q28
                      try clear q9
                      obtain ⟨x9_3, rfl, HA, HK3, HO_7, HB⟩ := hrel
                      cases gk with
                      | zero => exact absurd HA.out (by simp [spec_TermKind.l1])
                      | succ k3 =>
                        have H := HA.out
                        clear HA
                        simp only [spec_TermKind.l1] at H
                        by_cases c37 : x9_3 < (t231.length : Int)
                        · rw [if_pos c37] at H
                          have c37b0 : decide (x9_3 < (t231.length : Int)) = true := decide_eq_true c37
                          clear c37
                          by_cases c38 : 0 ≤ x9_3
                          · rw [if_pos c38] at H
                            have c38b0 : decide (0 ≤ x9_3) = true := decide_eq_true c38
                            clear c38
                            replace H := Option.bind_eq_some_iff.mp H
                            obtain ⟨t237, A390, H⟩ := H
                            replace H : (if t237 = 0 then (some 0) else (spec_TermKind.l1 k3 t231 (wrap64 (x9_3 + 1)))) = some r := H
                            have A39 := Aside0.mk A390
                            clear A390
                            by_cases c40 : t237 = 0
                            · rw [if_pos c40] at H
                              have c40b0 : (t237 == 0) = true := beq_iff_eq.mpr c40
                              have c40b1 : (t237 != 0) = false := bne_eq_false_iff_eq.mpr c40
                              clear c40
                              obtain rfl := Option.some.inj H
                              obtain ⟨Ao41, co41, eo41⟩ := Kd.R_slice HO_7.out
                              subst eo41
                              have p236 : 0 ≤ (x9_3 : Int) := of_decide_eq_true (by first | (with_reducible assumption) | assumption)
                              have q236 : x9_3 < (t231.length : Int) := of_decide_eq_true (by first | (with_reducible assumption) | assumption)
                              obtain ⟨ad236, e236, hx236_0⟩ := Kd.at_string (Kd.R_reads' HO_7.out).2.2 x9_3 p236 q236
                              cases e236
                              replace p236 := eq_true p236
                              replace q236 := eq_true q236
                              go_wp2_with (first | ((with_reducible refine gate_callee (f := 29) rfl ?_); refine goesL_ (some 86) rfl rfl Tryd.func29 (by kernel_rfl) rfl #[.string (rdOf ByteArray.empty t231 x9_3)] rfl (by (try simp only [List.map_toArray, List.map_cons, List.map_nil]); first | done | rfl | (simp only [List.length_drop, List.length_take]; rfl)) ?_; (with_reducible refine (ih k3 (by have := HJ1.out; have := HJ30.out; have := HK3.out; omega) (rdOf ByteArray.empty t231 x9_3) t237 _ A39.out).mono ?_); rintro e w42 ⟨rfl, hb⟩; refine ⟨_, rfl, ?_⟩; have n0_ := Aside0.mk (Kd.R_below (by (with_reducible repeat (first | apply Kd.R_alloc | apply Kd.R_drewN | apply Kd.R_drew)); exact HO_7.out) hb); have n1_ := Aside0.mk (below_step (by repeat (first | (with_reducible first | exact HB.out | apply below_alloc | apply pw_below_drewN | apply below_drew1) | exact HB.out)) hb); clear HO_7; clear HB; have HO_7 := n0_; have HB := n1_; clear n0_ n1_; (try clear hb); (try clear hb2); (try clear hk); (try clear hi)))
                              go_ret
                              exact ⟨by first | rfl | (simp [errW_none, errW_some] <;> rfl) | (simp [*, errW_none, errW_some] <;> rfl), by repeat (first | (with_reducible first | exact HB.out | apply below_alloc | apply pw_below_drewN | apply below_drew1) | exact HB.out)⟩
                            · rw [if_neg c40] at H
                              have c40b0 : (t237 == 0) = false := beq_eq_false_iff_ne.mpr c40
                              have c40b1 : (t237 != 0) = true := bne_iff_ne.mpr c40
                              have H' := Aside0.mk H
                              clear H
                              obtain ⟨Ao43, co43, eo43⟩ := Kd.R_slice HO_7.out
                              subst eo43
                              have p236 : 0 ≤ (x9_3 : Int) := of_decide_eq_true (by first | (with_reducible assumption) | assumption)
                              have q236 : x9_3 < (t231.length : Int) := of_decide_eq_true (by first | (with_reducible assumption) | assumption)
                              obtain ⟨ad236, e236, hx236_0⟩ := Kd.at_string (Kd.R_reads' HO_7.out).2.2 x9_3 p236 q236
                              cases e236
                              replace p236 := eq_true p236
                              replace q236 := eq_true q236
                              go_wp2_with (first | ((with_reducible refine gate_callee (f := 29) rfl ?_); refine goesL_ (some 86) rfl rfl Tryd.func29 (by kernel_rfl) rfl #[.string (rdOf ByteArray.empty t231 x9_3)] rfl (by (try simp only [List.map_toArray, List.map_cons, List.map_nil]); first | done | rfl | (simp only [List.length_drop, List.length_take]; rfl)) ?_; (with_reducible refine (ih k3 (by have := HJ1.out; have := HJ30.out; have := HK3.out; omega) (rdOf ByteArray.empty t231 x9_3) t237 _ A39.out).mono ?_); rintro e w44 ⟨rfl, hb⟩; refine ⟨_, rfl, ?_⟩; have n0_ := Aside0.mk (Kd.R_below (by (with_reducible repeat (first | apply Kd.R_alloc | apply Kd.R_drewN | apply Kd.R_drew)); exact HO_7.out) hb); have n1_ := Aside0.mk (below_step (by repeat (first | (with_reducible first | exact HB.out | apply below_alloc | apply pw_below_drewN | apply below_drew1) | exact HB.out)) hb); clear HO_7; clear HB; have HO_7 := n0_; have HB := n1_; clear n0_ n1_; (try clear hb); (try clear hb2); (try clear hk); (try clear hi)))
                              go_roundg k3
                              case measure => have := HJ1.out; have := HJ30.out; have := HK3.out; omega
                              case rel => exact ⟨(wrap64 (x9_3 + 1)), (by first | rfl | (simp; done) | (simp [*]; done)), H', ⟨by have := HJ1.out; have := HJ30.out; have := HK3.out; omega⟩, ⟨by (with_reducible repeat (first | apply Kd.R_alloc | apply Kd.R_drewN | apply Kd.R_drew)); exact HO_7.out⟩, ⟨by repeat (first | (with_reducible first | exact HB.out | apply below_alloc | apply pw_below_drewN | apply below_drew1) | exact HB.out)⟩⟩
                          · rw [if_neg c38] at H
                            exact absurd H (by simp)
                        · rw [if_neg c37] at H
                          have c37b0 : decide (x9_3 < (t231.length : Int)) = false := decide_eq_false c37
                          clear c37
                          obtain rfl := Option.some.inj H
                          obtain ⟨Ao45, co45, eo45⟩ := Kd.R_slice HO_7.out
                          subst eo45
                          go_wp2
                          go_ret
                          exact ⟨by first | rfl | (simp [errW_none, errW_some] <;> rfl) | (simp [*, errW_none, errW_some] <;> rfl), by repeat (first | (with_reducible first | exact HB.out | apply below_alloc | apply pw_below_drewN | apply below_drew1) | exact HB.out)⟩
          · rw [if_neg c8] at H
            exact absurd H (by simp)
end Go.Proofs.YtebadckdihgklaaDoor.Pb
end
section
namespace Go.Proofs.YtebadckdihgklaaDoor.Pb
open Go.RowKit Go.Proofs.YtebadckdihgklaaDoorW.PrintWords Go.Proofs.YtebadckdihgklaaDoorW.PrintLast Go.Proofs.YtebadckdihgklaaDoorW.PrintMore
attribute [local go_sem] max2_int min2_int max_two min_two max_three min_three max_four min_four   -- for this text's walks alone
set_option linter.unusedVariables false
set_option linter.unusedSimpArgs false
def strings_HasPrefix.f (a0 a1 : ByteArray) : Option Bool := some (Lib.hasPrefix a0.data.toList a1.data.toList)
theorem strings_HasPrefix.calls (a0 a1 : ByteArray) (r : Bool) (w : World) (h : strings_HasPrefix.f a0 a1 = some r) :
    Calls Tryd.prog 108 #[.string a0, .string a1] w fun e w' => e = .returned (.bool r) ∧ Drawn0 w w' := by
  obtain rfl := Option.some.inj h
  refine (Tryd.strings_HasPrefix a0 a1 w).mono ?_
  rintro e w' ⟨rfl, rfl⟩
  exact ⟨rfl, Drawn0.refl _⟩
end Go.Proofs.YtebadckdihgklaaDoor.Pb
end
section
namespace Go.Proofs.YtebadckdihgklaaDoor.Pb
open Go.RowKit Go.Proofs.YtebadckdihgklaaDoorW.PrintWords Go.Proofs.YtebadckdihgklaaDoorW.PrintLast Go.Proofs.YtebadckdihgklaaDoorW.PrintMore
attribute [local go_sem] max2_int min2_int max_two min_two max_three min_three max_four min_four   -- for this text's walks alone
set_option linter.unusedVariables false
set_option linter.unusedSimpArgs false
def spec_l01Cur_size.f (s0_0 : List Int) (s0_1 : Int) (s0_2 : Int) (a1 : Int) : Option (Int × Int × Int) := if (wrap64 (1 + (wrap64 ((s0_0.length : Int) / 8)))) > a1 then ((spec_l01Cur_pick.f s0_0 s0_1 s0_2 (wrap64 (a1 + 1))).bind fun bt369 => (some (bt369.1, bt369.2.1, bt369.2.2))) else ((spec_l01Cur_pick.f s0_0 s0_1 s0_2 (wrap64 ((wrap64 (1 + (wrap64 ((s0_0.length : Int) / 8)))) + 1))).bind fun bt372 => (some (bt372.1, bt372.2.1, bt372.2.2)))
set_option maxHeartbeats 8000000 in
set_option maxRecDepth 100000 in
theorem spec_l01Cur_size.calls (g : Nat) (s0_0 : List Int) (s0_1 : Int) (s0_2 : Int) (a1 : Int) (r1 : Int) (r2 : Int) (r3 : Int) (w0 w : World) (hI : IsS92 w0 w g s0_0 s0_1 s0_2) (hB : Below w0.heap.size w0 w) (h : spec_l01Cur_size.f s0_0 s0_1 s0_2 a1 = some (r1, r2, r3)) :
    Calls Tryd.prog 133 #[.pointer (some ⟨g, 0, none⟩), .int .i64 a1] w fun e w' => e = .returned (.int .i64 r1) ∧ IsS92 w0 w' g s0_0 r2 r3 ∧ Below w0.heap.size w0 w' ∧ KeepBut w w' g none := by
  have HI0 := Aside0.mk hI
  have HK := Aside0.mk (KeepBut.refl w g none)
  have HL := Aside0.mk hB.size
  clear hI
  have HW0 := Aside0.mk hB.size
  have HB := Aside0.mk hB
  clear hB
  have H : (if (wrap64 (1 + (wrap64 ((s0_0.length : Int) / 8)))) > a1 then ((spec_l01Cur_pick.f s0_0 s0_1 s0_2 (wrap64 (a1 + 1))).bind fun bt369 => (some (bt369.1, bt369.2.1, bt369.2.2))) else ((spec_l01Cur_pick.f s0_0 s0_1 s0_2 (wrap64 ((wrap64 (1 + (wrap64 ((s0_0.length : Int) / 8)))) + 1))).bind fun bt372 => (some (bt372.1, bt372.2.1, bt372.2.2)))) = some (r1, r2, r3) := h
  clear h
  by_cases c3 : (wrap64 (1 + (wrap64 ((s0_0.length : Int) / 8)))) > a1
  · rw [if_pos c3] at H
    have c3b0 : decide (a1 < (wrap64 (1 + (wrap64 ((s0_0.length : Int) / 8))))) = true := decide_eq_true c3
    clear c3
    replace H := Option.bind_eq_some_iff.mp H
    obtain ⟨⟨t369, t370, t371⟩, A40, H⟩ := H
    replace H : (some (t369, t370, t371)) = some (r1, r2, r3) := H
    have A4 := Aside0.mk A40
    clear A40
    simp only [Option.some.injEq, Prod.mk.injEq] at H
    obtain ⟨rfl, rfl, rfl⟩ := H
    obtain ⟨ASz5_0, cSz5_0, HGz5, hgz5, HSz5_0⟩ := HI0.out
    have hcz5_0 := cellS92_0 HGz5
    have hcz5_1 := cellS92_1 HGz5
    have hcz5_2 := cellS92_2 HGz5
    have hfz5_1 := blk_frozen HGz5 1
    have hfz5_2 := blk_frozen HGz5 2
    clear HGz5 hgz5
    go_enter Tryd.func133, Tryd.ntmps133
    go_wp2_with (first | ((with_reducible refine gate_callee (f := 70) rfl ?_); refine goesL_ (some 20) rfl rfl Tryd.func70 (by kernel_rfl) rfl #[.pointer (some ⟨g, 0, none⟩), .int .i64 (wrap64 (a1 + 1))] rfl (by (try simp only [List.map_toArray, List.map_cons, List.map_nil]); first | done | rfl | (simp only [List.length_drop, List.length_take]; rfl)) ?_; (with_reducible refine (spec_l01Cur_pick.calls g s0_0 s0_1 s0_2 (wrap64 (a1 + 1)) t369 t370 t371 w0 _ ?side1 ?side2 A4.out).mono ?_); (case side1 => repeat (first | (with_reducible first | exact HI0.out | apply IsS92.alloc | apply IsS92.drewN | apply IsS92.drew | apply IsS92.set_1 | apply IsS92.set_2) | exact HI0.out)); (case side2 => repeat (first | (with_reducible first | exact HB.out | apply below_alloc | apply pw_below_drewN | apply below_drew1 | refine below_set ?_ (IsS92.ge HI0.out)) | exact HB.out)); rintro e w6 ⟨rfl, hi, hb, hk⟩; refine ⟨_, rfl, ?_⟩; have n0_ := Aside0.mk (KeepBut.trans (by repeat (first | (with_reducible first | exact HK.out | apply KeepBut.set_ | apply keep_drewN | apply keep_drew | apply keep_alloc) | exact HK.out)) hk (.inl rfl)); have n1_ := Aside0.mk (hb); have n2_ := Aside0.mk (hi); clear HK; clear HB; clear HI0; have HK := n0_; have HB := n1_; have HI0 := n2_; clear n0_ n1_ n2_; (try clear hb); (try clear hb2); (try clear hk); (try clear hi)))
    go_ret
    exact ⟨by first | rfl | (simp [errW_none, errW_some] <;> rfl) | (simp [*, errW_none, errW_some] <;> rfl), by repeat (first | (with_reducible first | exact HI0.out | apply IsS92.alloc | apply IsS92.drewN | apply IsS92.drew | apply IsS92.set_1 | apply IsS92.set_2) | exact HI0.out), by repeat (first | (with_reducible first | exact HB.out | apply below_alloc | apply pw_below_drewN | apply below_drew1 | refine below_set ?_ (IsS92.ge HI0.out)) | exact HB.out), by repeat (first | (with_reducible first | exact HK.out | apply KeepBut.set_ | apply keep_drewN | apply keep_drew | apply keep_alloc) | exact HK.out)⟩
  · rw [if_neg c3] at H
    have c3b0 : decide (a1 < (wrap64 (1 + (wrap64 ((s0_0.length : Int) / 8))))) = false := decide_eq_false c3
    clear c3
    replace H := Option.bind_eq_some_iff.mp H
    obtain ⟨⟨t372, t373, t374⟩, A70, H⟩ := H
    replace H : (some (t372, t373, t374)) = some (r1, r2, r3) := H
    have A7 := Aside0.mk A70
    clear A70
    simp only [Option.some.injEq, Prod.mk.injEq] at H
    obtain ⟨rfl, rfl, rfl⟩ := H
    obtain ⟨ASz8_0, cSz8_0, HGz8, hgz8, HSz8_0⟩ := HI0.out
    have hcz8_0 := cellS92_0 HGz8
    have hcz8_1 := cellS92_1 HGz8
    have hcz8_2 := cellS92_2 HGz8
    have hfz8_1 := blk_frozen HGz8 1
    have hfz8_2 := blk_frozen HGz8 2
    clear HGz8 hgz8
    go_enter Tryd.func133, Tryd.ntmps133
    go_wp2_with (first | ((with_reducible refine gate_callee (f := 70) rfl ?_); refine goesL_ (some 20) rfl rfl Tryd.func70 (by kernel_rfl) rfl #[.pointer (some ⟨g, 0, none⟩), .int .i64 (wrap64 ((wrap64 (1 + (wrap64 ((s0_0.length : Int) / 8)))) + 1))] rfl (by (try simp only [List.map_toArray, List.map_cons, List.map_nil]); first | done | rfl | (simp only [List.length_drop, List.length_take]; rfl)) ?_; (with_reducible refine (spec_l01Cur_pick.calls g s0_0 s0_1 s0_2 (wrap64 ((wrap64 (1 + (wrap64 ((s0_0.length : Int) / 8)))) + 1)) t372 t373 t374 w0 _ ?side1 ?side2 A7.out).mono ?_); (case side1 => repeat (first | (with_reducible first | exact HI0.out | apply IsS92.alloc | apply IsS92.drewN | apply IsS92.drew | apply IsS92.set_1 | apply IsS92.set_2) | exact HI0.out)); (case side2 => repeat (first | (with_reducible first | exact HB.out | apply below_alloc | apply pw_below_drewN | apply below_drew1 | refine below_set ?_ (IsS92.ge HI0.out)) | exact HB.out)); rintro e w9 ⟨rfl, hi, hb, hk⟩; refine ⟨_, rfl, ?_⟩; have n0_ := Aside0.mk (KeepBut.trans (by repeat (first | (with_reducible first | exact HK.out | apply KeepBut.set_ | apply keep_drewN | apply keep_drew | apply keep_alloc) | exact HK.out)) hk (.inl rfl)); have n1_ := Aside0.mk (hb); have n2_ := Aside0.mk (hi); clear HK; clear HB; clear HI0; have HK := n0_; have HB := n1_; have HI0 := n2_; clear n0_ n1_ n2_; (try clear hb); (try clear hb2); (try clear hk); (try clear hi)))
    go_ret
    exact ⟨by first | rfl | (simp [errW_none, errW_some] <;> rfl) | (simp [*, errW_none, errW_some] <;> rfl), by repeat (first | (with_reducible first | exact HI0.out | apply IsS92.alloc | apply IsS92.drewN | apply IsS92.drew | apply IsS92.set_1 | apply IsS92.set_2) | exact HI0.out), by repeat (first | (with_reducible first | exact HB.out | apply below_alloc | apply pw_below_drewN | apply below_drew1 | refine below_set ?_ (IsS92.ge HI0.out)) | exact HB.out), by repeat (first | (with_reducible first | exact HK.out | apply KeepBut.set_ | apply keep_drewN | apply keep_drew | apply keep_alloc) | exact HK.out)⟩
end Go.Proofs.YtebadckdihgklaaDoor.Pb
end
section
namespace Go.Proofs.YtebadckdihgklaaDoor.Pb
open Go.RowKit Go.Proofs.YtebadckdihgklaaDoorW.PrintWords Go.Proofs.YtebadckdihgklaaDoorW.PrintLast Go.Proofs.YtebadckdihgklaaDoorW.PrintMore
attribute [local go_sem] max2_int min2_int max_two min_two max_three min_three max_four min_four   -- for this text's walks alone
set_option linter.unusedVariables false
set_option linter.unusedSimpArgs false
def spec_l01Cur_program.l0 : Nat → ByteArray → Int → List Int → Int → Int → Option (ByteArray × Int × Int)
  | 0, _, _, _, _, _ => none
  | k + 1, x3, x4, x1000, x1001, x1002 => if x4 > 0 then ((some (([(⟨#[112, 97, 116, 104, 40, 120, 44, 32, 121, 41, 32, 58, 45, 32, 101, 100, 103, 101, 40, 120, 44, 32, 121, 41, 46]⟩ : ByteArray), (⟨#[112, 97, 116, 104, 40, 120, 44, 32, 122, 41, 32, 58, 45, 32, 112, 97, 116, 104, 40, 120, 44, 32, 121, 41, 44, 32, 101, 100, 103, 101, 40, 121, 44, 32, 122, 41, 46]⟩ : ByteArray), (⟨#[110, 111, 100, 101, 40, 120, 41, 32, 58, 45, 32, 101, 100, 103, 101, 40, 120, 44, 32, 95, 41, 46]⟩ : ByteArray), (⟨#[110, 111, 100, 101, 40, 121, 41, 32, 58, 45, 32, 101, 100, 103, 101, 40, 95, 44, 32, 121, 41, 46]⟩ : ByteArray), (⟨#[112, 97, 116, 104, 40, 120, 44, 32, 121, 41, 32, 58, 45, 32, 110, 111, 100, 101, 40, 120, 41, 44, 32, 110, 111, 100, 101, 40, 121, 41, 44, 32, 33, 101, 100, 103, 101, 40, 120, 44, 32, 121, 41, 44, 32, 120, 32, 60, 32, 121, 46]⟩ : ByteArray), (⟨#[108, 105, 115, 116, 40, 78, 105, 108, 41, 46]⟩ : ByteArray), (⟨#[108, 105, 115, 116, 40, 67, 111, 110, 115, 40, 49, 44, 32, 78, 105, 108, 41, 41, 46]⟩ : ByteArray), (⟨#[108, 105, 115, 116, 40, 116, 41, 32, 58, 45, 32, 108, 105, 115, 116, 40, 67, 111, 110, 115, 40, 95, 44, 32, 116, 41, 41, 46]⟩ : ByteArray), (⟨#[108, 105, 115, 116, 40, 67, 111, 110, 115, 40, 120, 44, 32, 78, 105, 108, 41, 41, 32, 58, 45, 32, 101, 100, 103, 101, 40, 120, 44, 32, 95, 41, 46]⟩ : ByteArray), (⟨#[108, 101, 110, 40, 78, 105, 108, 44, 32, 48, 41, 32, 58, 45, 32, 108, 105, 115, 116, 40, 78, 105, 108, 41, 46]⟩ : ByteArray), (⟨#[108, 101, 110, 40, 108, 44, 32, 110, 32, 43, 32, 49, 41, 32, 58, 45, 32, 108, 105, 115, 116, 40, 108, 41, 44, 32, 108, 32, 61, 32, 67, 111, 110, 115, 40, 95, 44, 32, 116, 41, 44, 32, 108, 101, 110, 40, 116, 44, 32, 110, 41, 46]⟩ : ByteArray), (⟨#[111, 117, 116, 40, 115, 41, 32, 58, 45, 32, 110, 97, 109, 101, 40, 120, 44, 32, 115, 41, 44, 32, 33, 110, 111, 100, 101, 40, 120, 41, 46]⟩ : ByteArray), (⟨#[111, 117, 116, 40, 34, 110, 111, 110, 101, 34, 41, 32, 58, 45, 32, 33, 110, 111, 100, 101, 40, 49, 41, 44, 32, 33, 110, 111, 100, 101, 40, 50, 41, 46]⟩ : ByteArray), (⟨#[101, 100, 103, 101, 40, 49, 44, 32, 50, 41, 46]⟩ : ByteArray), (⟨#[101, 100, 103, 101, 40, 50, 44, 32, 51, 41, 46]⟩ : ByteArray), (⟨#[101, 100, 103, 101, 40, 51, 44, 32, 49, 41, 46]⟩ : ByteArray), (⟨#[110, 97, 109, 101, 40, 49, 44, 32, 34, 97, 34, 41, 46]⟩ : ByteArray), (⟨#[110, 97, 109, 101, 40, 50, 44, 32, 34, 98, 32, 99, 34, 41, 46]⟩ : ByteArray), (⟨#[110, 111, 100, 101, 40, 122, 41, 32, 58, 45, 32, 101, 100, 103, 101, 40, 120, 44, 32, 121, 41, 44, 32, 122, 32, 61, 32, 120, 32, 42, 32, 49, 48, 32, 43, 32, 121, 46]⟩ : ByteArray), (⟨#[112, 97, 116, 104, 40, 121, 44, 32, 120, 41, 32, 58, 45, 32, 112, 97, 116, 104, 40, 120, 44, 32, 121, 41, 44, 32, 120, 32, 33, 61, 32, 121, 46]⟩ : ByteArray), (⟨#[102, 97, 114, 40, 120, 44, 32, 121, 41, 32, 58, 45, 32, 101, 100, 103, 101, 40, 120, 44, 32, 122, 41, 44, 32, 101, 100, 103, 101, 40, 122, 44, 32, 121, 41, 46]⟩ : ByteArray), (⟨#[112, 97, 116, 104, 40, 120, 44, 32, 121, 41, 32, 58, 45, 32, 102, 97, 114, 40, 120, 44, 32, 121, 41, 44, 32, 120, 32, 60, 61, 32, 121, 46]⟩ : ByteArray), (⟨#[110, 111, 100, 101, 40, 120, 32, 45, 32, 49, 41, 32, 58, 45, 32, 110, 111, 100, 101, 40, 120, 41, 44, 32, 48, 32, 60, 32, 120, 46]⟩ : ByteArray), (⟨#[108, 105, 115, 116, 40, 67, 111, 110, 115, 40, 50, 44, 32, 108, 41, 41, 32, 58, 45, 32, 108, 105, 115, 116, 40, 108, 41, 44, 32, 108, 101, 110, 40, 108, 44, 32, 110, 41, 44, 32, 110, 32, 60, 32, 50, 46]⟩ : ByteArray)] : List ByteArray) : List ByteArray)).bind fun y385 => ((spec_l01Cur_pick.f x1000 x1001 x1002 24).bind fun bt388 => (if 0 ≤ bt388.1 then (if bt388.1 < (y385.length : Int) then (if x3.size + (rdOf ByteArray.empty y385 bt388.1).size ≤ 9223372036854775807 then ((some (([(⟨#[10]⟩ : ByteArray), (⟨#[10]⟩ : ByteArray), (⟨#[32]⟩ : ByteArray), (⟨#[10, 47, 47, 32, 99, 10]⟩ : ByteArray)] : List ByteArray) : List ByteArray)).bind fun y392 => ((spec_l01Cur_pick.f x1000 bt388.2.1 bt388.2.2 4).bind fun bt395 => (if 0 ≤ bt395.1 then (if bt395.1 < (y392.length : Int) then (if (x3 ++ (rdOf ByteArray.empty y385 bt388.1)).size + (rdOf ByteArray.empty y392 bt395.1).size ≤ 9223372036854775807 then (spec_l01Cur_program.l0 k ((x3 ++ (rdOf ByteArray.empty y385 bt388.1)) ++ (rdOf ByteArray.empty y392 bt395.1)) (wrap64 (x4 - 1)) x1000 bt395.2.1 bt395.2.2) else (none)) else (none)) else (none)))) else (none)) else (none)) else (none)))) else (some (x3, x1001, x1002))
def spec_l01Cur_program.f (k : Nat) (s0_0 : List Int) (s0_1 : Int) (s0_2 : Int) : Option (ByteArray × Int × Int) := (some (([(⟨#[116, 121, 112, 101, 32, 76, 105, 115, 116, 32, 61, 32, 78, 105, 108, 32, 124, 32, 67, 111, 110, 115, 40, 110, 117, 109, 98, 101, 114, 44, 32, 76, 105, 115, 116, 41, 46, 10]⟩ : ByteArray), (⟨#[116, 121, 112, 101, 32, 84, 32, 61, 32, 65, 32, 124, 32, 66, 40, 84, 41, 32, 124, 32, 67, 40, 84, 44, 32, 110, 117, 109, 98, 101, 114, 41, 46, 10, 116, 121, 112, 101, 32, 76, 105, 115, 116, 32, 61, 32, 78, 105, 108, 32, 124, 32, 67, 111, 110, 115, 40, 110, 117, 109, 98, 101, 114, 44, 32, 76, 105, 115, 116, 41, 46, 10]⟩ : ByteArray), (⟨#[116, 121, 112, 101, 32, 76, 105, 115, 116, 32, 61, 32, 78, 105, 108, 32, 124, 32, 67, 111, 110, 115, 40, 110, 117, 109, 98, 101, 114, 44, 32, 76, 105, 115, 116, 41, 46, 32, 47, 47, 32, 108, 105, 115, 116, 115, 10]⟩ : ByteArray)] : List ByteArray) : List ByteArray)).bind fun y375 => ((spec_l01Cur_pick.f s0_0 s0_1 s0_2 3).bind fun bt378 => (if 0 ≤ bt378.1 then (if bt378.1 < (y375.length : Int) then (if (rdOf ByteArray.empty y375 bt378.1).size + 224 ≤ 9223372036854775807 then ((spec_l01Cur_size.f s0_0 bt378.2.1 bt378.2.2 7).bind fun bt382 => (spec_l01Cur_program.l0 k ((rdOf ByteArray.empty y375 bt378.1) ++ (⟨#[114, 101, 108, 32, 101, 100, 103, 101, 40, 110, 117, 109, 98, 101, 114, 44, 32, 110, 117, 109, 98, 101, 114, 41, 32, 105, 110, 112, 117, 116, 46, 10, 114, 101, 108, 32, 112, 97, 116, 104, 40, 110, 117, 109, 98, 101, 114, 44, 32, 110, 117, 109, 98, 101, 114, 41, 32, 111, 117, 116, 112, 117, 116, 46, 10, 114, 101, 108, 32, 110, 111, 100, 101, 40, 110, 117, 109, 98, 101, 114, 41, 46, 10, 114, 101, 108, 32, 108, 105, 115, 116, 40, 76, 105, 115, 116, 41, 32, 111, 117, 116, 112, 117, 116, 46, 10, 114, 101, 108, 32, 110, 97, 109, 101, 40, 110, 117, 109, 98, 101, 114, 44, 32, 115, 121, 109, 98, 111, 108, 41, 32, 105, 110, 112, 117, 116, 46, 10, 114, 101, 108, 32, 111, 117, 116, 40, 115, 121, 109, 98, 111, 108, 41, 32, 111, 117, 116, 112, 117, 116, 46, 10, 114, 101, 108, 32, 108, 101, 110, 40, 76, 105, 115, 116, 44, 32, 110, 117, 109, 98, 101, 114, 41, 32, 111, 117, 116, 112, 117, 116, 46, 10, 114, 101, 108, 32, 102, 97, 114, 40, 110, 117, 109, 98, 101, 114, 44, 32, 110, 117, 109, 98, 101, 114, 41, 32, 105, 110, 108, 105, 110, 101, 46, 10]⟩ : ByteArray)) (wrap64 (1 + bt382.1)) s0_0 bt382.2.1 bt382.2.2)) else (none)) else (none)) else (none)))
def spec_l01Cur_program.T6 : Bool × List (List Nat × List Nat) := (true, [([], []), ([], []), ([], []), ([2], [2]), ([1, 3], [1, 3]), ([4], [4]), ([0, 5], [0, 5]), ([], []), ([], []), ([8, 3], [8]), ([7, 9], [7, 9]), ([10], [10]), ([6, 11], [6, 11]), ([12, 9, 0, 1, 2, 3, 4, 5, 6, 7, 8, 9, 10, 11, 12], [0, 12])])
def spec_l01Cur_program.B6 : List Nat := [0, 0, 0, 4, 14, 30, 63, 0, 0, 268, 908, 1932, 4095, 8191]
theorem spec_l01Cur_program.tab6 : rtab .any (opsOf Tryd.f109 6) = spec_l01Cur_program.T6 := by kernel_rfl
theorem spec_l01Cur_program.bits6 : waitsOk spec_l01Cur_program.T6.2 spec_l01Cur_program.B6 = true := by kernel_rfl
set_option maxHeartbeats 8000000 in
set_option maxRecDepth 100000 in
theorem spec_l01Cur_program.calls (k : Nat) (g : Nat) (s0_0 : List Int) (s0_1 : Int) (s0_2 : Int) (r1 : ByteArray) (r2 : Int) (r3 : Int) (w0 w : World) (hI : IsS92 w0 w g s0_0 s0_1 s0_2) (hB : Below w0.heap.size w0 w) (h : spec_l01Cur_program.f k s0_0 s0_1 s0_2 = some (r1, r2, r3)) :
    Calls Tryd.prog 109 #[.pointer (some ⟨g, 0, none⟩)] w fun e w' => e = .returned (.string r1) ∧ IsS92 w0 w' g s0_0 r2 r3 ∧ Below w0.heap.size w0 w' ∧ KeepBut w w' g none := by
  have HI0 := Aside0.mk hI
  have HK := Aside0.mk (KeepBut.refl w g none)
  have HL := Aside0.mk hB.size
  clear hI
  have HW0 := Aside0.mk hB.size
  have HB := Aside0.mk hB
  clear hB
  have H : ((some (([(⟨#[116, 121, 112, 101, 32, 76, 105, 115, 116, 32, 61, 32, 78, 105, 108, 32, 124, 32, 67, 111, 110, 115, 40, 110, 117, 109, 98, 101, 114, 44, 32, 76, 105, 115, 116, 41, 46, 10]⟩ : ByteArray), (⟨#[116, 121, 112, 101, 32, 84, 32, 61, 32, 65, 32, 124, 32, 66, 40, 84, 41, 32, 124, 32, 67, 40, 84, 44, 32, 110, 117, 109, 98, 101, 114, 41, 46, 10, 116, 121, 112, 101, 32, 76, 105, 115, 116, 32, 61, 32, 78, 105, 108, 32, 124, 32, 67, 111, 110, 115, 40, 110, 117, 109, 98, 101, 114, 44, 32, 76, 105, 115, 116, 41, 46, 10]⟩ : ByteArray), (⟨#[116, 121, 112, 101, 32, 76, 105, 115, 116, 32, 61, 32, 78, 105, 108, 32, 124, 32, 67, 111, 110, 115, 40, 110, 117, 109, 98, 101, 114, 44, 32, 76, 105, 115, 116, 41, 46, 32, 47, 47, 32, 108, 105, 115, 116, 115, 10]⟩ : ByteArray)] : List ByteArray) : List ByteArray)).bind fun y375 => ((spec_l01Cur_pick.f s0_0 s0_1 s0_2 3).bind fun bt378 => (if 0 ≤ bt378.1 then (if bt378.1 < (y375.length : Int) then (if (rdOf ByteArray.empty y375 bt378.1).size + 224 ≤ 9223372036854775807 then ((spec_l01Cur_size.f s0_0 bt378.2.1 bt378.2.2 7).bind fun bt382 => (spec_l01Cur_program.l0 k ((rdOf ByteArray.empty y375 bt378.1) ++ (⟨#[114, 101, 108, 32, 101, 100, 103, 101, 40, 110, 117, 109, 98, 101, 114, 44, 32, 110, 117, 109, 98, 101, 114, 41, 32, 105, 110, 112, 117, 116, 46, 10, 114, 101, 108, 32, 112, 97, 116, 104, 40, 110, 117, 109, 98, 101, 114, 44, 32, 110, 117, 109, 98, 101, 114, 41, 32, 111, 117, 116, 112, 117, 116, 46, 10, 114, 101, 108, 32, 110, 111, 100, 101, 40, 110, 117, 109, 98, 101, 114, 41, 46, 10, 114, 101, 108, 32, 108, 105, 115, 116, 40, 76, 105, 115, 116, 41, 32, 111, 117, 116, 112, 117, 116, 46, 10, 114, 101, 108, 32, 110, 97, 109, 101, 40, 110, 117, 109, 98, 101, 114, 44, 32, 115, 121, 109, 98, 111, 108, 41, 32, 105, 110, 112, 117, 116, 46, 10, 114, 101, 108, 32, 111, 117, 116, 40, 115, 121, 109, 98, 111, 108, 41, 32, 111, 117, 116, 112, 117, 116, 46, 10, 114, 101, 108, 32, 108, 101, 110, 40, 76, 105, 115, 116, 44, 32, 110, 117, 109, 98, 101, 114, 41, 32, 111, 117, 116, 112, 117, 116, 46, 10, 114, 101, 108, 32, 102, 97, 114, 40, 110, 117, 109, 98, 101, 114, 44, 32, 110, 117, 109, 98, 101, 114, 41, 32, 105, 110, 108, 105, 110, 101, 46, 10]⟩ : ByteArray)) (wrap64 (1 + bt382.1)) s0_0 bt382.2.1 bt382.2.2)) else (none)) else (none)) else (none)))) = some (r1, r2, r3) := h
  clear h
  obtain ⟨y375, hy375⟩ : ∃ y_ : List ByteArray, y_ = (([(⟨#[116, 121, 112, 101, 32, 76, 105, 115, 116, 32, 61, 32, 78, 105, 108, 32, 124, 32, 67, 111, 110, 115, 40, 110, 117, 109, 98, 101, 114, 44, 32, 76, 105, 115, 116, 41, 46, 10]⟩ : ByteArray), (⟨#[116, 121, 112, 101, 32, 84, 32, 61, 32, 65, 32, 124, 32, 66, 40, 84, 41, 32, 124, 32, 67, 40, 84, 44, 32, 110, 117, 109, 98, 101, 114, 41, 46, 10, 116, 121, 112, 101, 32, 76, 105, 115, 116, 32, 61, 32, 78, 105, 108, 32, 124, 32, 67, 111, 110, 115, 40, 110, 117, 109, 98, 101, 114, 44, 32, 76, 105, 115, 116, 41, 46, 10]⟩ : ByteArray), (⟨#[116, 121, 112, 101, 32, 76, 105, 115, 116, 32, 61, 32, 78, 105, 108, 32, 124, 32, 67, 111, 110, 115, 40, 110, 117, 109, 98, 101, 114, 44, 32, 76, 105, 115, 116, 41, 46, 32, 47, 47, 32, 108, 105, 115, 116, 115, 10]⟩ : ByteArray)] : List ByteArray)) := ⟨_, rfl⟩
  replace H : ((spec_l01Cur_pick.f s0_0 s0_1 s0_2 3).bind fun bt378 => (if 0 ≤ bt378.1 then (if bt378.1 < (y375.length : Int) then (if (rdOf ByteArray.empty y375 bt378.1).size + 224 ≤ 9223372036854775807 then ((spec_l01Cur_size.f s0_0 bt378.2.1 bt378.2.2 7).bind fun bt382 => (spec_l01Cur_program.l0 k ((rdOf ByteArray.empty y375 bt378.1) ++ (⟨#[114, 101, 108, 32, 101, 100, 103, 101, 40, 110, 117, 109, 98, 101, 114, 44, 32, 110, 117, 109, 98, 101, 114, 41, 32, 105, 110, 112, 117, 116, 46, 10, 114, 101, 108, 32, 112, 97, 116, 104, 40, 110, 117, 109, 98, 101, 114, 44, 32, 110, 117, 109, 98, 101, 114, 41, 32, 111, 117, 116, 112, 117, 116, 46, 10, 114, 101, 108, 32, 110, 111, 100, 101, 40, 110, 117, 109, 98, 101, 114, 41, 46, 10, 114, 101, 108, 32, 108, 105, 115, 116, 40, 76, 105, 115, 116, 41, 32, 111, 117, 116, 112, 117, 116, 46, 10, 114, 101, 108, 32, 110, 97, 109, 101, 40, 110, 117, 109, 98, 101, 114, 44, 32, 115, 121, 109, 98, 111, 108, 41, 32, 105, 110, 112, 117, 116, 46, 10, 114, 101, 108, 32, 111, 117, 116, 40, 115, 121, 109, 98, 111, 108, 41, 32, 111, 117, 116, 112, 117, 116, 46, 10, 114, 101, 108, 32, 108, 101, 110, 40, 76, 105, 115, 116, 44, 32, 110, 117, 109, 98, 101, 114, 41, 32, 111, 117, 116, 112, 117, 116, 46, 10, 114, 101, 108, 32, 102, 97, 114, 40, 110, 117, 109, 98, 101, 114, 44, 32, 110, 117, 109, 98, 101, 114, 41, 32, 105, 110, 108, 105, 110, 101, 46, 10]⟩ : ByteArray)) (wrap64 (1 + bt382.1)) s0_0 bt382.2.1 bt382.2.2)) else (none)) else (none)) else (none))) = some (r1, r2, r3) := by first | (rw [hy375]; with_reducible exact H) | (have H2_ := (Option.bind_some _ _).symm.trans H; rw [hy375]; with_reducible exact H2_) | (have H2_ := (Option.bind_some _ _).symm.trans H; with_reducible exact H2_) | with_reducible exact H | (rw [hy375]; exact H) | exact H
  have Ny375 := Aside0.mk hy375
  clear hy375
  replace H := Option.bind_eq_some_iff.mp H
  obtain ⟨⟨t378, t379, t380⟩, A20, H⟩ := H
  replace H : (if 0 ≤ t378 then (if t378 < (y375.length : Int) then (if (rdOf ByteArray.empty y375 t378).size + 224 ≤ 9223372036854775807 then ((spec_l01Cur_size.f s0_0 t379 t380 7).bind fun bt382 => (spec_l01Cur_program.l0 k ((rdOf ByteArray.empty y375 t378) ++ (⟨#[114, 101, 108, 32, 101, 100, 103, 101, 40, 110, 117, 109, 98, 101, 114, 44, 32, 110, 117, 109, 98, 101, 114, 41, 32, 105, 110, 112, 117, 116, 46, 10, 114, 101, 108, 32, 112, 97, 116, 104, 40, 110, 117, 109, 98, 101, 114, 44, 32, 110, 117, 109, 98, 101, 114, 41, 32, 111, 117, 116, 112, 117, 116, 46, 10, 114, 101, 108, 32, 110, 111, 100, 101, 40, 110, 117, 109, 98, 101, 114, 41, 46, 10, 114, 101, 108, 32, 108, 105, 115, 116, 40, 76, 105, 115, 116, 41, 32, 111, 117, 116, 112, 117, 116, 46, 10, 114, 101, 108, 32, 110, 97, 109, 101, 40, 110, 117, 109, 98, 101, 114, 44, 32, 115, 121, 109, 98, 111, 108, 41, 32, 105, 110, 112, 117, 116, 46, 10, 114, 101, 108, 32, 111, 117, 116, 40, 115, 121, 109, 98, 111, 108, 41, 32, 111, 117, 116, 112, 117, 116, 46, 10, 114, 101, 108, 32, 108, 101, 110, 40, 76, 105, 115, 116, 44, 32, 110, 117, 109, 98, 101, 114, 41, 32, 111, 117, 116, 112, 117, 116, 46, 10, 114, 101, 108, 32, 102, 97, 114, 40, 110, 117, 109, 98, 101, 114, 44, 32, 110, 117, 109, 98, 101, 114, 41, 32, 105, 110, 108, 105, 110, 101, 46, 10]⟩ : ByteArray)) (wrap64 (1 + bt382.1)) s0_0 bt382.2.1 bt382.2.2)) else (none)) else (none)) else (none)) = some (r1, r2, r3) := H
  have A2 := Aside0.mk A20
  clear A20
  by_cases c3 : 0 ≤ t378
  · rw [if_pos c3] at H
    have c3b0 : decide (0 ≤ t378) = true := decide_eq_true c3
    clear c3
    by_cases c4 : t378 < (y375.length : Int)
    · rw [if_pos c4] at H
      have c4b0 : decide (t378 < (y375.length : Int)) = true := decide_eq_true c4
      clear c4
      by_cases c5 : (rdOf ByteArray.empty y375 t378).size + 224 ≤ 9223372036854775807
      · rw [if_pos c5] at H
        have c5b0 := eq_true c5
        have c5b1 : decide ((rdOf ByteArray.empty y375 t378).size + 224 ≤ 9223372036854775807) = true := decide_eq_true c5
        try have c5b2 : (9223372036854775807 < (rdOf ByteArray.empty y375 t378).size + 224) = False := eq_false (Nat.not_lt.2 c5)
        replace H := Option.bind_eq_some_iff.mp H
        obtain ⟨⟨t382, t383, t384⟩, A60, H⟩ := H
        replace H : (spec_l01Cur_program.l0 k ((rdOf ByteArray.empty y375 t378) ++ (⟨#[114, 101, 108, 32, 101, 100, 103, 101, 40, 110, 117, 109, 98, 101, 114, 44, 32, 110, 117, 109, 98, 101, 114, 41, 32, 105, 110, 112, 117, 116, 46, 10, 114, 101, 108, 32, 112, 97, 116, 104, 40, 110, 117, 109, 98, 101, 114, 44, 32, 110, 117, 109, 98, 101, 114, 41, 32, 111, 117, 116, 112, 117, 116, 46, 10, 114, 101, 108, 32, 110, 111, 100, 101, 40, 110, 117, 109, 98, 101, 114, 41, 46, 10, 114, 101, 108, 32, 108, 105, 115, 116, 40, 76, 105, 115, 116, 41, 32, 111, 117, 116, 112, 117, 116, 46, 10, 114, 101, 108, 32, 110, 97, 109, 101, 40, 110, 117, 109, 98, 101, 114, 44, 32, 115, 121, 109, 98, 111, 108, 41, 32, 105, 110, 112, 117, 116, 46, 10, 114, 101, 108, 32, 111, 117, 116, 40, 115, 121, 109, 98, 111, 108, 41, 32, 111, 117, 116, 112, 117, 116, 46, 10, 114, 101, 108, 32, 108, 101, 110, 40, 76, 105, 115, 116, 44, 32, 110, 117, 109, 98, 101, 114, 41, 32, 111, 117, 116, 112, 117, 116, 46, 10, 114, 101, 108, 32, 102, 97, 114, 40, 110, 117, 109, 98, 101, 114, 44, 32, 110, 117, 109, 98, 101, 114, 41, 32, 105, 110, 108, 105, 110, 101, 46, 10]⟩ : ByteArray)) (wrap64 (1 + t382)) s0_0 t383 t384) = some (r1, r2, r3) := H
        have A6 := Aside0.mk A60
        clear A60
        have H' := Aside0.mk H
        clear H
        go_enter Tryd.func109, Tryd.ntmps109
        go_wp2_with (first | ((with_reducible refine gate_dst (N := 5) rfl ?_); refine Kd.R_lit Kd.string _ 9 ?hg (N := 5) ?hd (xs := ([(⟨#[116, 121, 112, 101, 32, 76, 105, 115, 116, 32, 61, 32, 78, 105, 108, 32, 124, 32, 67, 111, 110, 115, 40, 110, 117, 109, 98, 101, 114, 44, 32, 76, 105, 115, 116, 41, 46, 10]⟩ : ByteArray), (⟨#[116, 121, 112, 101, 32, 84, 32, 61, 32, 65, 32, 124, 32, 66, 40, 84, 41, 32, 124, 32, 67, 40, 84, 44, 32, 110, 117, 109, 98, 101, 114, 41, 46, 10, 116, 121, 112, 101, 32, 76, 105, 115, 116, 32, 61, 32, 78, 105, 108, 32, 124, 32, 67, 111, 110, 115, 40, 110, 117, 109, 98, 101, 114, 44, 32, 76, 105, 115, 116, 41, 46, 10]⟩ : ByteArray), (⟨#[116, 121, 112, 101, 32, 76, 105, 115, 116, 32, 61, 32, 78, 105, 108, 32, 124, 32, 67, 111, 110, 115, 40, 110, 117, 109, 98, 101, 114, 44, 32, 76, 105, 115, 116, 41, 46, 32, 47, 47, 32, 108, 105, 115, 116, 115, 10]⟩ : ByteArray)] : List ByteArray)) (inner := [.string (⟨#[116, 121, 112, 101, 32, 76, 105, 115, 116, 32, 61, 32, 78, 105, 108, 32, 124, 32, 67, 111, 110, 115, 40, 110, 117, 109, 98, 101, 114, 44, 32, 76, 105, 115, 116, 41, 46, 10]⟩ : ByteArray), .string (⟨#[116, 121, 112, 101, 32, 84, 32, 61, 32, 65, 32, 124, 32, 66, 40, 84, 41, 32, 124, 32, 67, 40, 84, 44, 32, 110, 117, 109, 98, 101, 114, 41, 46, 10, 116, 121, 112, 101, 32, 76, 105, 115, 116, 32, 61, 32, 78, 105, 108, 32, 124, 32, 67, 111, 110, 115, 40, 110, 117, 109, 98, 101, 114, 44, 32, 76, 105, 115, 116, 41, 46, 10]⟩ : ByteArray), .string (⟨#[116, 121, 112, 101, 32, 76, 105, 115, 116, 32, 61, 32, 78, 105, 108, 32, 124, 32, 67, 111, 110, 115, 40, 110, 117, 109, 98, 101, 114, 44, 32, 76, 105, 115, 116, 41, 46, 32, 47, 47, 32, 108, 105, 115, 116, 115, 10]⟩ : ByteArray)]) (ok := fun _ => True) (okp := fun _ => True) ?hr ?hp (fun _ hk => hk) trivial (Below.refl _ _) (Nat.le_refl _) (by simp) ?_; (case hd => rfl); (case hg => rfl); (case hr => first | (go_simp; done) | (go_simp; rfl)); (case hp => exact (Reps.one (show Kd.M Kd.string _ _ _ (⟨#[116, 121, 112, 101, 32, 76, 105, 115, 116, 32, 61, 32, 78, 105, 108, 32, 124, 32, 67, 111, 110, 115, 40, 110, 117, 109, 98, 101, 114, 44, 32, 76, 105, 115, 116, 41, 46, 10]⟩ : ByteArray) [.string (⟨#[116, 121, 112, 101, 32, 76, 105, 115, 116, 32, 61, 32, 78, 105, 108, 32, 124, 32, 67, 111, 110, 115, 40, 110, 117, 109, 98, 101, 114, 44, 32, 76, 105, 115, 116, 41, 46, 10]⟩ : ByteArray)] from rfl) (Reps.one (show Kd.M Kd.string _ _ _ (⟨#[116, 121, 112, 101, 32, 84, 32, 61, 32, 65, 32, 124, 32, 66, 40, 84, 41, 32, 124, 32, 67, 40, 84, 44, 32, 110, 117, 109, 98, 101, 114, 41, 46, 10, 116, 121, 112, 101, 32, 76, 105, 115, 116, 32, 61, 32, 78, 105, 108, 32, 124, 32, 67, 111, 110, 115, 40, 110, 117, 109, 98, 101, 114, 44, 32, 76, 105, 115, 116, 41, 46, 10]⟩ : ByteArray) [.string (⟨#[116, 121, 112, 101, 32, 84, 32, 61, 32, 65, 32, 124, 32, 66, 40, 84, 41, 32, 124, 32, 67, 40, 84, 44, 32, 110, 117, 109, 98, 101, 114, 41, 46, 10, 116, 121, 112, 101, 32, 76, 105, 115, 116, 32, 61, 32, 78, 105, 108, 32, 124, 32, 67, 111, 110, 115, 40, 110, 117, 109, 98, 101, 114, 44, 32, 76, 105, 115, 116, 41, 46, 10]⟩ : ByteArray)] from rfl) (Reps.one (show Kd.M Kd.string _ _ _ (⟨#[116, 121, 112, 101, 32, 76, 105, 115, 116, 32, 61, 32, 78, 105, 108, 32, 124, 32, 67, 111, 110, 115, 40, 110, 117, 109, 98, 101, 114, 44, 32, 76, 105, 115, 116, 41, 46, 32, 47, 47, 32, 108, 105, 115, 116, 115, 10]⟩ : ByteArray) [.string (⟨#[116, 121, 112, 101, 32, 76, 105, 115, 116, 32, 61, 32, 78, 105, 108, 32, 124, 32, 67, 111, 110, 115, 40, 110, 117, 109, 98, 101, 114, 44, 32, 76, 105, 115, 116, 41, 46, 32, 47, 47, 32, 108, 105, 115, 116, 115, 10]⟩ : ByteArray)] from rfl) (Reps.none _ _))))); intro v376 w7 ho8 hb hg_ hnew_; clear hg_ hnew_; (first | rw [← Ny375.out] at ho8 | (simp only [Int.reduceToNat] at ho8; rw [← Ny375.out] at ho8)); have n0_ := Aside0.mk (Kd.R_lower ho8 (keep_size (w := w) (g := g) (row := none) (by repeat (first | (with_reducible first | exact HK.out | apply KeepBut.set_ | apply keep_drewN | apply keep_drew | apply keep_alloc) | exact HK.out)))); have n1_ := Aside0.mk (IsS92.below (by repeat (first | (with_reducible first | exact HI0.out | apply IsS92.alloc | apply IsS92.drewN | apply IsS92.drew | apply IsS92.set_1 | apply IsS92.set_2) | exact HI0.out)) hb); have n2_ := Aside0.mk (KeepBut.trans (by repeat (first | (with_reducible first | exact HK.out | apply KeepBut.set_ | apply keep_drewN | apply keep_drew | apply keep_alloc) | exact HK.out)) (KeepBut.of_below hb g none) (.inl rfl)); have n3_ := Aside0.mk (below_step (by repeat (first | (with_reducible first | exact HB.out | apply below_alloc | apply pw_below_drewN | apply below_drew1 | refine below_set ?_ (IsS92.ge HI0.out)) | exact HB.out)) hb); clear HI0; clear HK; clear HB; have HO377 := n0_; have HI0 := n1_; have HK := n2_; have HB := n3_; clear n0_ n1_ n2_ n3_; clear hb ho8) | ((with_reducible refine gate_callee (f := 70) rfl ?_); refine goesL_ (some 7) rfl rfl Tryd.func70 (by kernel_rfl) rfl #[.pointer (some ⟨g, 0, none⟩), .int .i64 3] rfl (by (try simp only [List.map_toArray, List.map_cons, List.map_nil]); first | done | rfl | (simp only [List.length_drop, List.length_take]; rfl)) ?_; (with_reducible refine (spec_l01Cur_pick.calls g s0_0 s0_1 s0_2 3 t378 t379 t380 w0 _ ?side1 ?side2 A2.out).mono ?_); (case side1 => repeat (first | (with_reducible first | exact HI0.out | apply IsS92.alloc | apply IsS92.drewN | apply IsS92.drew | apply IsS92.set_1 | apply IsS92.set_2) | exact HI0.out)); (case side2 => repeat (first | (with_reducible first | exact HB.out | apply below_alloc | apply pw_below_drewN | apply below_drew1 | refine below_set ?_ (IsS92.ge HI0.out)) | exact HB.out)); rintro e w9 ⟨rfl, hi, hb, hk⟩; refine ⟨_, rfl, ?_⟩; have n0_ := Aside0.mk (Kd.R_mono (Kd.R_keep (IsS92.apart (show IsS92 w0 _ g s0_0 s0_1 s0_2 from by repeat (first | (with_reducible first | exact HI0.out | apply IsS92.alloc | apply IsS92.drewN | apply IsS92.drew | apply IsS92.set_1 | apply IsS92.set_2) | exact HI0.out)) (by (with_reducible repeat (first | apply Kd.R_alloc | apply Kd.R_drewN | apply Kd.R_drew)); exact HO377.out) (by decide)) hk (fun _ h => h.2)) (fun _ h => h.1)); have n1_ := Aside0.mk (KeepBut.trans (by repeat (first | (with_reducible first | exact HK.out | apply KeepBut.set_ | apply keep_drewN | apply keep_drew | apply keep_alloc) | exact HK.out)) hk (.inl rfl)); have n2_ := Aside0.mk (hb); have n3_ := Aside0.mk (hi); clear HO377; clear HK; clear HB; clear HI0; have HO377 := n0_; have HK := n1_; have HB := n2_; have HI0 := n3_; clear n0_ n1_ n2_ n3_; (try clear hb); (try clear hb2); (try clear hk); (try clear hi); obtain ⟨Ao10, co10, eo10⟩ := Kd.R_slice HO377.out; subst eo10; have p381 : 0 ≤ (t378 : Int) := of_decide_eq_true (by first | (with_reducible assumption) | assumption); have q381 : t378 < (y375.length : Int) := of_decide_eq_true (by first | (with_reducible assumption) | assumption); obtain ⟨ad381, e381, hx381_0⟩ := Kd.at_string (Kd.R_reads' HO377.out).2.2 t378 p381 q381; cases e381; replace p381 := eq_true p381; replace q381 := eq_true q381) | ((with_reducible refine gate_callee (f := 133) rfl ?_); refine goesL_ (some 13) rfl rfl Tryd.func133 (by kernel_rfl) rfl #[.pointer (some ⟨g, 0, none⟩), .int .i64 7] rfl (by (try simp only [List.map_toArray, List.map_cons, List.map_nil]); first | done | rfl | (simp only [List.length_drop, List.length_take]; rfl)) ?_; (with_reducible refine (spec_l01Cur_size.calls g s0_0 t379 t380 7 t382 t383 t384 w0 _ ?side1 ?side2 A6.out).mono ?_); (case side1 => repeat (first | (with_reducible first | exact HI0.out | apply IsS92.alloc | apply IsS92.drewN | apply IsS92.drew | apply IsS92.set_1 | apply IsS92.set_2) | exact HI0.out)); (case side2 => repeat (first | (with_reducible first | exact HB.out | apply below_alloc | apply pw_below_drewN | apply below_drew1 | refine below_set ?_ (IsS92.ge HI0.out)) | exact HB.out)); rintro e w11 ⟨rfl, hi, hb, hk⟩; refine ⟨_, rfl, ?_⟩; have n0_ := Aside0.mk (Kd.R_mono (Kd.R_keep (IsS92.apart (show IsS92 w0 _ g s0_0 t379 t380 from by repeat (first | (with_reducible first | exact HI0.out | apply IsS92.alloc | apply IsS92.drewN | apply IsS92.drew | apply IsS92.set_1 | apply IsS92.set_2) | exact HI0.out)) (by (with_reducible repeat (first | apply Kd.R_alloc | apply Kd.R_drewN | apply Kd.R_drew)); exact HO377.out) (by decide)) hk (fun _ h => h.2)) (fun _ h => h.1)); have n1_ := Aside0.mk (KeepBut.trans (by repeat (first | (with_reducible first | exact HK.out | apply KeepBut.set_ | apply keep_drewN | apply keep_drew | apply keep_alloc) | exact HK.out)) hk (.inl rfl)); have n2_ := Aside0.mk (hb); have n3_ := Aside0.mk (hi); clear HO377; clear HK; clear HB; clear HI0; have HO377 := n0_; have HK := n1_; have HB := n2_; have HI0 := n3_; clear n0_ n1_ n2_ n3_; (try clear hb); (try clear hb2); (try clear hk); (try clear hi)))
        go_loopg [3, 4] k (fun kq v3 v4 w' => ∃ (x3_1 : ByteArray) (x4_1 : Int) (x1001_1 : Int) (x1002_1 : Int), v3 = .string x3_1 ∧ v4 = .int .i64 x4_1 ∧ Aside0 (spec_l01Cur_program.l0 kq x3_1 x4_1 s0_0 x1001_1 x1002_1 = some (r1, r2, r3)) ∧ Aside0 (kq ≤ k) ∧ Aside0 (IsS92 w0 w' g s0_0 x1001_1 x1002_1) ∧ Aside0 (KeepBut w w' g none) ∧ Aside0 (Below w0.heap.size w0 w'))
        case atStart => exact ⟨((rdOf ByteArray.empty y375 t378) ++ (⟨#[114, 101, 108, 32, 101, 100, 103, 101, 40, 110, 117, 109, 98, 101, 114, 44, 32, 110, 117, 109, 98, 101, 114, 41, 32, 105, 110, 112, 117, 116, 46, 10, 114, 101, 108, 32, 112, 97, 116, 104, 40, 110, 117, 109, 98, 101, 114, 44, 32, 110, 117, 109, 98, 101, 114, 41, 32, 111, 117, 116, 112, 117, 116, 46, 10, 114, 101, 108, 32, 110, 111, 100, 101, 40, 110, 117, 109, 98, 101, 114, 41, 46, 10, 114, 101, 108, 32, 108, 105, 115, 116, 40, 76, 105, 115, 116, 41, 32, 111, 117, 116, 112, 117, 116, 46, 10, 114, 101, 108, 32, 110, 97, 109, 101, 40, 110, 117, 109, 98, 101, 114, 44, 32, 115, 121, 109, 98, 111, 108, 41, 32, 105, 110, 112, 117, 116, 46, 10, 114, 101, 108, 32, 111, 117, 116, 40, 115, 121, 109, 98, 111, 108, 41, 32, 111, 117, 116, 112, 117, 116, 46, 10, 114, 101, 108, 32, 108, 101, 110, 40, 76, 105, 115, 116, 44, 32, 110, 117, 109, 98, 101, 114, 41, 32, 111, 117, 116, 112, 117, 116, 46, 10, 114, 101, 108, 32, 102, 97, 114, 40, 110, 117, 109, 98, 101, 114, 44, 32, 110, 117, 109, 98, 101, 114, 41, 32, 105, 110, 108, 105, 110, 101, 46, 10]⟩ : ByteArray)), (wrap64 (1 + t382)), (t383), (t384), (by first | rfl | (simp; done) | (simp [*]; done)), (by first | rfl | (simp; done) | (simp [*]; done)), H', ⟨Nat.le_refl _⟩, ⟨by repeat (first | (with_reducible first | exact HI0.out | apply IsS92.alloc | apply IsS92.drewN | apply IsS92.drew | apply IsS92.set_1 | apply IsS92.set_2) | exact HI0.out)⟩, ⟨by repeat (first | (with_reducible first | exact HK.out | apply KeepBut.set_ | apply keep_drewN | apply keep_drew | apply keep_alloc) | exact HK.out)⟩, ⟨by repeat (first | (with_reducible first | exact HB.out | apply below_alloc | apply pw_below_drewN | apply below_drew1 | refine below_set ?_ (IsS92.ge HI0.out)) | exact HB.out)⟩⟩
        case round =>
          clear H'
          try clear c1
          try clear p2
          try clear c3
          try clear c3b0
          try clear p3
          try clear q3
          try clear hx3
          try clear c4
          try clear c4b0
          try clear c5
          try clear c5b0
          try clear c5b1
          try clear c5b2
          try clear p6
          try clear c7
          try clear c10
          try clear hx381_0
          try clear p381
          try clear q381
          obtain ⟨x3_1, x4_1, x1001_1, x1002_1, rfl, rfl, HA, HK1, HI0, HK, HB⟩ := hrel
          cases gk with
          | zero => exact absurd HA.out (by simp [spec_l01Cur_program.l0])
          | succ k1 =>
            have H := HA.out
            clear HA
            simp only [spec_l01Cur_program.l0] at H
            by_cases c12 : x4_1 > 0
            · rw [if_pos c12] at H
              have c12b0 : decide (0 < x4_1) = true := decide_eq_true c12
              clear c12
              obtain ⟨y385, hy385⟩ : ∃ y_ : List ByteArray, y_ = (([(⟨#[112, 97, 116, 104, 40, 120, 44, 32, 121, 41, 32, 58, 45, 32, 101, 100, 103, 101, 40, 120, 44, 32, 121, 41, 46]⟩ : ByteArray), (⟨#[112, 97, 116, 104, 40, 120, 44, 32, 122, 41, 32, 58, 45, 32, 112, 97, 116, 104, 40, 120, 44, 32, 121, 41, 44, 32, 101, 100, 103, 101, 40, 121, 44, 32, 122, 41, 46]⟩ : ByteArray), (⟨#[110, 111, 100, 101, 40, 120, 41, 32, 58, 45, 32, 101, 100, 103, 101, 40, 120, 44, 32, 95, 41, 46]⟩ : ByteArray), (⟨#[110, 111, 100, 101, 40, 121, 41, 32, 58, 45, 32, 101, 100, 103, 101, 40, 95, 44, 32, 121, 41, 46]⟩ : ByteArray), (⟨#[112, 97, 116, 104, 40, 120, 44, 32, 121, 41, 32, 58, 45, 32, 110, 111, 100, 101, 40, 120, 41, 44, 32, 110, 111, 100, 101, 40, 121, 41, 44, 32, 33, 101, 100, 103, 101, 40, 120, 44, 32, 121, 41, 44, 32, 120, 32, 60, 32, 121, 46]⟩ : ByteArray), (⟨#[108, 105, 115, 116, 40, 78, 105, 108, 41, 46]⟩ : ByteArray), (⟨#[108, 105, 115, 116, 40, 67, 111, 110, 115, 40, 49, 44, 32, 78, 105, 108, 41, 41, 46]⟩ : ByteArray), (⟨#[108, 105, 115, 116, 40, 116, 41, 32, 58, 45, 32, 108, 105, 115, 116, 40, 67, 111, 110, 115, 40, 95, 44, 32, 116, 41, 41, 46]⟩ : ByteArray), (⟨#[108, 105, 115, 116, 40, 67, 111, 110, 115, 40, 120, 44, 32, 78, 105, 108, 41, 41, 32, 58, 45, 32, 101, 100, 103, 101, 40, 120, 44, 32, 95, 41, 46]⟩ : ByteArray), (⟨#[108, 101, 110, 40, 78, 105, 108, 44, 32, 48, 41, 32, 58, 45, 32, 108, 105, 115, 116, 40, 78, 105, 108, 41, 46]⟩ : ByteArray), (⟨#[108, 101, 110, 40, 108, 44, 32, 110, 32, 43, 32, 49, 41, 32, 58, 45, 32, 108, 105, 115, 116, 40, 108, 41, 44, 32, 108, 32, 61, 32, 67, 111, 110, 115, 40, 95, 44, 32, 116, 41, 44, 32, 108, 101, 110, 40, 116, 44, 32, 110, 41, 46]⟩ : ByteArray), (⟨#[111, 117, 116, 40, 115, 41, 32, 58, 45, 32, 110, 97, 109, 101, 40, 120, 44, 32, 115, 41, 44, 32, 33, 110, 111, 100, 101, 40, 120, 41, 46]⟩ : ByteArray), (⟨#[111, 117, 116, 40, 34, 110, 111, 110, 101, 34, 41, 32, 58, 45, 32, 33, 110, 111, 100, 101, 40, 49, 41, 44, 32, 33, 110, 111, 100, 101, 40, 50, 41, 46]⟩ : ByteArray), (⟨#[101, 100, 103, 101, 40, 49, 44, 32, 50, 41, 46]⟩ : ByteArray), (⟨#[101, 100, 103, 101, 40, 50, 44, 32, 51, 41, 46]⟩ : ByteArray), (⟨#[101, 100, 103, 101, 40, 51, 44, 32, 49, 41, 46]⟩ : ByteArray), (⟨#[110, 97, 109, 101, 40, 49, 44, 32, 34, 97, 34, 41, 46]⟩ : ByteArray), (⟨#[110, 97, 109, 101, 40, 50, 44, 32, 34, 98, 32, 99, 34, 41, 46]⟩ : ByteArray), (⟨#[110, 111, 100, 101, 40, 122, 41, 32, 58, 45, 32, 101, 100, 103, 101, 40, 120, 44, 32, 121, 41, 44, 32, 122, 32, 61, 32, 120, 32, 42, 32, 49, 48, 32, 43, 32, 121, 46]⟩ : ByteArray), (⟨#[112, 97, 116, 104, 40, 121, 44, 32, 120, 41, 32, 58, 45, 32, 112, 97, 116, 104, 40, 120, 44, 32, 121, 41, 44, 32, 120, 32, 33, 61, 32, 121, 46]⟩ : ByteArray), (⟨#[102, 97, 114, 40, 120, 44, 32, 121, 41, 32, 58, 45, 32, 101, 100, 103, 101, 40, 120, 44, 32, 122, 41, 44, 32, 101, 100, 103, 101, 40, 122, 44, 32, 121, 41, 46]⟩ : ByteArray), (⟨#[112, 97, 116, 104, 40, 120, 44, 32, 121, 41, 32, 58, 45, 32, 102, 97, 114, 40, 120, 44, 32, 121, 41, 44, 32, 120, 32, 60, 61, 32, 121, 46]⟩ : ByteArray), (⟨#[110, 111, 100, 101, 40, 120, 32, 45, 32, 49, 41, 32, 58, 45, 32, 110, 111, 100, 101, 40, 120, 41, 44, 32, 48, 32, 60, 32, 120, 46]⟩ : ByteArray), (⟨#[108, 105, 115, 116, 40, 67, 111, 110, 115, 40, 50, 44, 32, 108, 41, 41, 32, 58, 45, 32, 108, 105, 115, 116, 40, 108, 41, 44, 32, 108, 101, 110, 40, 108, 44, 32, 110, 41, 44, 32, 110, 32, 60, 32, 50, 46]⟩ : ByteArray)] : List ByteArray)) := ⟨_, rfl⟩
              replace H : ((spec_l01Cur_pick.f s0_0 x1001_1 x1002_1 24).bind fun bt388 => (if 0 ≤ bt388.1 then (if bt388.1 < (y385.length : Int) then (if x3_1.size + (rdOf ByteArray.empty y385 bt388.1).size ≤ 9223372036854775807 then ((some (([(⟨#[10]⟩ : ByteArray), (⟨#[10]⟩ : ByteArray), (⟨#[32]⟩ : ByteArray), (⟨#[10, 47, 47, 32, 99, 10]⟩ : ByteArray)] : List ByteArray) : List ByteArray)).bind fun y392 => ((spec_l01Cur_pick.f s0_0 bt388.2.1 bt388.2.2 4).bind fun bt395 => (if 0 ≤ bt395.1 then (if bt395.1 < (y392.length : Int) then (if (x3_1 ++ (rdOf ByteArray.empty y385 bt388.1)).size + (rdOf ByteArray.empty y392 bt395.1).size ≤ 9223372036854775807 then (spec_l01Cur_program.l0 k1 ((x3_1 ++ (rdOf ByteArray.empty y385 bt388.1)) ++ (rdOf ByteArray.empty y392 bt395.1)) (wrap64 (x4_1 - 1)) s0_0 bt395.2.1 bt395.2.2) else (none)) else (none)) else (none)))) else (none)) else (none)) else (none))) = some (r1, r2, r3) := by first | (rw [hy385]; with_reducible exact H) | (have H2_ := (Option.bind_some _ _).symm.trans H; rw [hy385]; with_reducible exact H2_) | (have H2_ := (Option.bind_some _ _).symm.trans H; with_reducible exact H2_) | with_reducible exact H | (rw [hy385]; exact H) | exact H
              have Ny385 := Aside0.mk hy385
              clear hy385
              replace H := Option.bind_eq_some_iff.mp H
              obtain ⟨⟨t388, t389, t390⟩, A130, H⟩ := H
              replace H : (if 0 ≤ t388 then (if t388 < (y385.length : Int) then (if x3_1.size + (rdOf ByteArray.empty y385 t388).size ≤ 9223372036854775807 then ((some (([(⟨#[10]⟩ : ByteArray), (⟨#[10]⟩ : ByteArray), (⟨#[32]⟩ : ByteArray), (⟨#[10, 47, 47, 32, 99, 10]⟩ : ByteArray)] : List ByteArray) : List ByteArray)).bind fun y392 => ((spec_l01Cur_pick.f s0_0 t389 t390 4).bind fun bt395 => (if 0 ≤ bt395.1 then (if bt395.1 < (y392.length : Int) then (if (x3_1 ++ (rdOf ByteArray.empty y385 t388)).size + (rdOf ByteArray.empty y392 bt395.1).size ≤ 9223372036854775807 then (spec_l01Cur_program.l0 k1 ((x3_1 ++ (rdOf ByteArray.empty y385 t388)) ++ (rdOf ByteArray.empty y392 bt395.1)) (wrap64 (x4_1 - 1)) s0_0 bt395.2.1 bt395.2.2) else (none)) else (none)) else (none)))) else (none)) else (none)) else (none)) = some (r1, r2, r3) := H
              have A13 := Aside0.mk A130
              clear A130
              by_cases c14 : 0 ≤ t388
              · rw [if_pos c14] at H
                have c14b0 : decide (0 ≤ t388) = true := decide_eq_true c14
                clear c14
                by_cases c15 : t388 < (y385.length : Int)
                · rw [if_pos c15] at H
                  have c15b0 : decide (t388 < (y385.length : Int)) = true := decide_eq_true c15
                  clear c15
                  by_cases c16 : x3_1.size + (rdOf ByteArray.empty y385 t388).size ≤ 9223372036854775807
                  · rw [if_pos c16] at H
                    have c16b0 := eq_true c16
                    have c16b1 : decide (x3_1.size + (rdOf ByteArray.empty y385 t388).size ≤ 9223372036854775807) = true := decide_eq_true c16
                    try have c16b2 : (9223372036854775807 < x3_1.size + (rdOf ByteArray.empty y385 t388).size) = False := eq_false (Nat.not_lt.2 c16)
                    obtain ⟨y392, hy392⟩ : ∃ y_ : List ByteArray, y_ = (([(⟨#[10]⟩ : ByteArray), (⟨#[10]⟩ : ByteArray), (⟨#[32]⟩ : ByteArray), (⟨#[10, 47, 47, 32, 99, 10]⟩ : ByteArray)] : List ByteArray)) := ⟨_, rfl⟩
                    replace H : ((spec_l01Cur_pick.f s0_0 t389 t390 4).bind fun bt395 => (if 0 ≤ bt395.1 then (if bt395.1 < (y392.length : Int) then (if (x3_1 ++ (rdOf ByteArray.empty y385 t388)).size + (rdOf ByteArray.empty y392 bt395.1).size ≤ 9223372036854775807 then (spec_l01Cur_program.l0 k1 ((x3_1 ++ (rdOf ByteArray.empty y385 t388)) ++ (rdOf ByteArray.empty y392 bt395.1)) (wrap64 (x4_1 - 1)) s0_0 bt395.2.1 bt395.2.2) else (none)) else (none)) else (none))) = some (r1, r2, r3) := by first | (rw [hy392]; with_reducible exact H) | (have H2_ := (Option.bind_some _ _).symm.trans H; rw [hy392]; with_reducible exact H2_) | (have H2_ := (Option.bind_some _ _).symm.trans H; with_reducible exact H2_) | with_reducible exact H | (rw [hy392]; exact H) | exact H
                    have Ny392 := Aside0.mk hy392
                    clear hy392
                    replace H := Option.bind_eq_some_iff.mp H
                    obtain ⟨⟨t395, t396, t397⟩, A170, H⟩ := H
                    replace H : (if 0 ≤ t395 then (if t395 < (y392.length : Int) then (if (x3_1 ++ (rdOf ByteArray.empty y385 t388)).size + (rdOf ByteArray.empty y392 t395).size ≤ 9223372036854775807 then (spec_l01Cur_program.l0 k1 ((x3_1 ++ (rdOf ByteArray.empty y385 t388)) ++ (rdOf ByteArray.empty y392 t395)) (wrap64 (x4_1 - 1)) s0_0 t396 t397) else (none)) else (none)) else (none)) = some (r1, r2, r3) := H
                    have A17 := Aside0.mk A170
                    clear A170
                    by_cases c18 : 0 ≤ t395
                    · rw [if_pos c18] at H
                      have c18b0 : decide (0 ≤ t395) = true := decide_eq_true c18
                      clear c18
                      by_cases c19 : t395 < (y392.length : Int)
                      · rw [if_pos c19] at H
                        have c19b0 : decide (t395 < (y392.length : Int)) = true := decide_eq_true c19
                        clear c19
                        by_cases c20 : (x3_1 ++ (rdOf ByteArray.empty y385 t388)).size + (rdOf ByteArray.empty y392 t395).size ≤ 9223372036854775807
                        · rw [if_pos c20] at H
                          have c20b0 := eq_true c20
                          have c20b1 : decide ((x3_1 ++ (rdOf ByteArray.empty y385 t388)).size + (rdOf ByteArray.empty y392 t395).size ≤ 9223372036854775807) = true := decide_eq_true c20
                          try have c20b2 : (9223372036854775807 < (x3_1 ++ (rdOf ByteArray.empty y385 t388)).size + (rdOf ByteArray.empty y392 t395).size) = False := eq_false (Nat.not_lt.2 c20)
                          try have c20b3 : (9223372036854775807 < x3_1.size + (rdOf ByteArray.empty y385 t388).size + (rdOf ByteArray.empty y392 t395).size) = False := (congrArg (fun n_ => (9223372036854775807 < n_)) (show x3_1.size + (rdOf ByteArray.empty y385 t388).size + (rdOf ByteArray.empty y392 t395).size = (x3_1 ++ (rdOf ByteArray.empty y385 t388)).size + (rdOf ByteArray.empty y392 t395).size by (simp only [ByteArray.size_append]; try rfl))).trans c20b2
                          have H' := Aside0.mk H
                          clear H
                          try go_wp2
                          have pi391 : (0 ≤ (t388 : Int)) = True := eq_true (of_decide_eq_true (by first | (with_reducible assumption) | assumption))
                          have qi391 : (t388 < (y385.length : Int)) = True := eq_true (of_decide_eq_true (by first | (with_reducible assumption) | assumption))
                          have pi398 : (0 ≤ (t395 : Int)) = True := eq_true (of_decide_eq_true (by first | (with_reducible assumption) | assumption))
                          have qi398 : (t395 < (y392.length : Int)) = True := eq_true (of_decide_eq_true (by first | (with_reducible assumption) | assumption))
                          have n0_ := Aside0.mk (IsS92.drew HI0.out)
                          have n1_ := Aside0.mk (keep_drew HK.out)
                          have n2_ := Aside0.mk (below_drew1 HB.out)
                          clear HI0
                          clear HK
                          clear HB
                          have HI0 := n0_
                          have HK := n1_
                          have HB := n2_
                          clear n0_ n1_ n2_
                          refine start_ (n := 14) (S := fun w' => True) (ds := []) #[false, false, false, false, false, false, false, false, false, false, false, false, false, false] (by kernel_rfl) rfl rfl trivial (fun hHeld => ?_); refine with_tabW spec_l01Cur_program.tab6 spec_l01Cur_program.bits6 (fun HT_ HW_ => ?_)
                          generalize wr.drew = w21 at HI0 HK HB hHeld ⊢
                          refine pure_ (i := 0) (N := some 19) (v := ?_) (a' := ?_) #[true, false, false, false, false, false, false, false, false, false, false, false, false, false] rfl rfl (any_of HT_.out (by kernel_rfl)) (fun _ _ _ h => h) (Or.inl ⟨by rfl, ?_⟩) ?_ ?_
                          rotate_left
                          · intro w'
                            go_simp
                            with_reducible rfl
                          rotate_left
                          · simp only [Act.put, List.setIfInBounds_toArray, List.set_cons_zero, List.set_cons_succ, i64_w, i32_w]
                            rfl
                          refine pure_ (i := 2) (N := some 21) (v := ?_) (a' := ?_) #[true, false, true, false, false, false, false, false, false, false, false, false, false, false] rfl rfl (any_of HT_.out (by kernel_rfl)) (fun _ _ _ h => h) (Or.inl ⟨by rfl, ?_⟩) ?_ ?_
                          rotate_left
                          · intro w'
                            go_simp
                            with_reducible rfl
                          rotate_left
                          · simp only [Act.put, List.setIfInBounds_toArray, List.set_cons_zero, List.set_cons_succ, i64_w, i32_w]
                            rfl
                          refine pure_ (i := 8) (N := some 27) (v := ?_) (a' := ?_) #[true, false, true, false, false, false, false, false, true, false, false, false, false, false] rfl rfl (any_of HT_.out (by kernel_rfl)) (fun _ _ _ h => h) (Or.inl ⟨by rfl, ?_⟩) ?_ ?_
                          rotate_left
                          · intro w'
                            go_simp
                            with_reducible rfl
                          rotate_left
                          · simp only [Act.put, List.setIfInBounds_toArray, List.set_cons_zero, List.set_cons_succ, i64_w, i32_w]
                            rfl
                          refine inv_at [1, 3, 4, 5, 6, 7, 9, 10, 11, 12, 13] (fun a0_ b a w' => ∃ (v386 : Value) (adz_v386 : Addr) (v393 : Value) (adz_v393 : Addr) (m4_ : Value) (m10_ : Value), a = putSel a0_ b [(1, 20, v386), (3, 22, .int .i64 t388), (4, 23, m4_), (5, 24, .string (rdOf ByteArray.empty y385 t388)), (6, 25, .string (x3_1 ++ (rdOf ByteArray.empty y385 t388))), (7, 26, v393), (9, 28, .int .i64 t395), (10, 29, m10_), (11, 30, .string (rdOf ByteArray.empty y392 t395)), (12, 31, .string ((x3_1 ++ (rdOf ByteArray.empty y385 t388)) ++ (rdOf ByteArray.empty y392 t395))), (13, 3, .string ((x3_1 ++ (rdOf ByteArray.empty y385 t388)) ++ (rdOf ByteArray.empty y392 t395)))] ∧ (b 3 = false → IsS92 w0 w' g s0_0 x1001_1 x1002_1) ∧ (KeepBut w w' g none) ∧ (Below w0.heap.size w0 w') ∧ (b 1 = true → Kd.R Kd.string 9 w' w.heap.size (fun _ => True) v386 y385) ∧ (b 1 = true → ∃ c_, (v386 : Value) = .slice (some adz_v386) y385.length c_) ∧ (b 3 = true → b 9 = false → IsS92 w0 w' g s0_0 t389 t390) ∧ (b 7 = true → Kd.R Kd.string 9 w' w.heap.size (fun _ => True) v393 y392) ∧ (b 7 = true → ∃ c_, (v393 : Value) = .slice (some adz_v393) y392.length c_) ∧ (b 9 = true → IsS92 w0 w' g s0_0 t396 t397) ∧ (b 4 = true → (m4_ : Value) = .pointer (some (adz_v386.add (t388).toNat))) ∧ (b 10 = true → (m10_ : Value) = .pointer (some (adz_v393.add (t395).toNat)))) HT_.out HW_.out (by kernel_rfl) (by kernel_rfl) ?_ ?_ ?_
                          · exact ⟨.bool false, ⟨0, 0, none⟩, .bool false, ⟨0, 0, none⟩, .bool false, .bool false, by simp only [putSel, Bool.false_eq_true, if_false], fun _ => HI0.out, HK.out, HB.out, fun h_ => absurd h_ (by decide), fun h_ => absurd h_ (by decide), fun h_ => absurd h_ (by decide), fun h_ => absurd h_ (by decide), fun h_ => absurd h_ (by decide), fun h_ => absurd h_ (by decide), fun h_ => absurd h_ (by decide), fun h_ => absurd h_ (by decide)⟩
                          · skip
                            clear HB HI0 HK
                            refine steps_cons ?_ ?_
                            · rintro b a w' ⟨v386, adz_v386, v393, adz_v393, m4_, m10_, ha, Q_HI0, Q_HK, Q_HB, Q_HO387, Q_HA_HO387, Q_HI0_e3, Q_HO394, Q_HA_HO394, Q_HI0_e9, Q_X4_, Q_X10_⟩ hb_ hon hoff
                              refine ⟨_, rfl, fun K hK => ?_⟩
                              replace ha := Aside0.mk ha
                              have HK := Aside0.mk Q_HK
                              have HB := Aside0.mk Q_HB
                              refine Kd.R_lit_step Kd.string _ 9 ?hg (N := 20) ?hd (xs := ([(⟨#[112, 97, 116, 104, 40, 120, 44, 32, 121, 41, 32, 58, 45, 32, 101, 100, 103, 101, 40, 120, 44, 32, 121, 41, 46]⟩ : ByteArray), (⟨#[112, 97, 116, 104, 40, 120, 44, 32, 122, 41, 32, 58, 45, 32, 112, 97, 116, 104, 40, 120, 44, 32, 121, 41, 44, 32, 101, 100, 103, 101, 40, 121, 44, 32, 122, 41, 46]⟩ : ByteArray), (⟨#[110, 111, 100, 101, 40, 120, 41, 32, 58, 45, 32, 101, 100, 103, 101, 40, 120, 44, 32, 95, 41, 46]⟩ : ByteArray), (⟨#[110, 111, 100, 101, 40, 121, 41, 32, 58, 45, 32, 101, 100, 103, 101, 40, 95, 44, 32, 121, 41, 46]⟩ : ByteArray), (⟨#[112, 97, 116, 104, 40, 120, 44, 32, 121, 41, 32, 58, 45, 32, 110, 111, 100, 101, 40, 120, 41, 44, 32, 110, 111, 100, 101, 40, 121, 41, 44, 32, 33, 101, 100, 103, 101, 40, 120, 44, 32, 121, 41, 44, 32, 120, 32, 60, 32, 121, 46]⟩ : ByteArray), (⟨#[108, 105, 115, 116, 40, 78, 105, 108, 41, 46]⟩ : ByteArray), (⟨#[108, 105, 115, 116, 40, 67, 111, 110, 115, 40, 49, 44, 32, 78, 105, 108, 41, 41, 46]⟩ : ByteArray), (⟨#[108, 105, 115, 116, 40, 116, 41, 32, 58, 45, 32, 108, 105, 115, 116, 40, 67, 111, 110, 115, 40, 95, 44, 32, 116, 41, 41, 46]⟩ : ByteArray), (⟨#[108, 105, 115, 116, 40, 67, 111, 110, 115, 40, 120, 44, 32, 78, 105, 108, 41, 41, 32, 58, 45, 32, 101, 100, 103, 101, 40, 120, 44, 32, 95, 41, 46]⟩ : ByteArray), (⟨#[108, 101, 110, 40, 78, 105, 108, 44, 32, 48, 41, 32, 58, 45, 32, 108, 105, 115, 116, 40, 78, 105, 108, 41, 46]⟩ : ByteArray), (⟨#[108, 101, 110, 40, 108, 44, 32, 110, 32, 43, 32, 49, 41, 32, 58, 45, 32, 108, 105, 115, 116, 40, 108, 41, 44, 32, 108, 32, 61, 32, 67, 111, 110, 115, 40, 95, 44, 32, 116, 41, 44, 32, 108, 101, 110, 40, 116, 44, 32, 110, 41, 46]⟩ : ByteArray), (⟨#[111, 117, 116, 40, 115, 41, 32, 58, 45, 32, 110, 97, 109, 101, 40, 120, 44, 32, 115, 41, 44, 32, 33, 110, 111, 100, 101, 40, 120, 41, 46]⟩ : ByteArray), (⟨#[111, 117, 116, 40, 34, 110, 111, 110, 101, 34, 41, 32, 58, 45, 32, 33, 110, 111, 100, 101, 40, 49, 41, 44, 32, 33, 110, 111, 100, 101, 40, 50, 41, 46]⟩ : ByteArray), (⟨#[101, 100, 103, 101, 40, 49, 44, 32, 50, 41, 46]⟩ : ByteArray), (⟨#[101, 100, 103, 101, 40, 50, 44, 32, 51, 41, 46]⟩ : ByteArray), (⟨#[101, 100, 103, 101, 40, 51, 44, 32, 49, 41, 46]⟩ : ByteArray), (⟨#[110, 97, 109, 101, 40, 49, 44, 32, 34, 97, 34, 41, 46]⟩ : ByteArray), (⟨#[110, 97, 109, 101, 40, 50, 44, 32, 34, 98, 32, 99, 34, 41, 46]⟩ : ByteArray), (⟨#[110, 111, 100, 101, 40, 122, 41, 32, 58, 45, 32, 101, 100, 103, 101, 40, 120, 44, 32, 121, 41, 44, 32, 122, 32, 61, 32, 120, 32, 42, 32, 49, 48, 32, 43, 32, 121, 46]⟩ : ByteArray), (⟨#[112, 97, 116, 104, 40, 121, 44, 32, 120, 41, 32, 58, 45, 32, 112, 97, 116, 104, 40, 120, 44, 32, 121, 41, 44, 32, 120, 32, 33, 61, 32, 121, 46]⟩ : ByteArray), (⟨#[102, 97, 114, 40, 120, 44, 32, 121, 41, 32, 58, 45, 32, 101, 100, 103, 101, 40, 120, 44, 32, 122, 41, 44, 32, 101, 100, 103, 101, 40, 122, 44, 32, 121, 41, 46]⟩ : ByteArray), (⟨#[112, 97, 116, 104, 40, 120, 44, 32, 121, 41, 32, 58, 45, 32, 102, 97, 114, 40, 120, 44, 32, 121, 41, 44, 32, 120, 32, 60, 61, 32, 121, 46]⟩ : ByteArray), (⟨#[110, 111, 100, 101, 40, 120, 32, 45, 32, 49, 41, 32, 58, 45, 32, 110, 111, 100, 101, 40, 120, 41, 44, 32, 48, 32, 60, 32, 120, 46]⟩ : ByteArray), (⟨#[108, 105, 115, 116, 40, 67, 111, 110, 115, 40, 50, 44, 32, 108, 41, 41, 32, 58, 45, 32, 108, 105, 115, 116, 40, 108, 41, 44, 32, 108, 101, 110, 40, 108, 44, 32, 110, 41, 44, 32, 110, 32, 60, 32, 50, 46]⟩ : ByteArray)] : List ByteArray)) (inner := [.string (⟨#[112, 97, 116, 104, 40, 120, 44, 32, 121, 41, 32, 58, 45, 32, 101, 100, 103, 101, 40, 120, 44, 32, 121, 41, 46]⟩ : ByteArray), .string (⟨#[112, 97, 116, 104, 40, 120, 44, 32, 122, 41, 32, 58, 45, 32, 112, 97, 116, 104, 40, 120, 44, 32, 121, 41, 44, 32, 101, 100, 103, 101, 40, 121, 44, 32, 122, 41, 46]⟩ : ByteArray), .string (⟨#[110, 111, 100, 101, 40, 120, 41, 32, 58, 45, 32, 101, 100, 103, 101, 40, 120, 44, 32, 95, 41, 46]⟩ : ByteArray), .string (⟨#[110, 111, 100, 101, 40, 121, 41, 32, 58, 45, 32, 101, 100, 103, 101, 40, 95, 44, 32, 121, 41, 46]⟩ : ByteArray), .string (⟨#[112, 97, 116, 104, 40, 120, 44, 32, 121, 41, 32, 58, 45, 32, 110, 111, 100, 101, 40, 120, 41, 44, 32, 110, 111, 100, 101, 40, 121, 41, 44, 32, 33, 101, 100, 103, 101, 40, 120, 44, 32, 121, 41, 44, 32, 120, 32, 60, 32, 121, 46]⟩ : ByteArray), .string (⟨#[108, 105, 115, 116, 40, 78, 105, 108, 41, 46]⟩ : ByteArray), .string (⟨#[108, 105, 115, 116, 40, 67, 111, 110, 115, 40, 49, 44, 32, 78, 105, 108, 41, 41, 46]⟩ : ByteArray), .string (⟨#[108, 105, 115, 116, 40, 116, 41, 32, 58, 45, 32, 108, 105, 115, 116, 40, 67, 111, 110, 115, 40, 95, 44, 32, 116, 41, 41, 46]⟩ : ByteArray), .string (⟨#[108, 105, 115, 116, 40, 67, 111, 110, 115, 40, 120, 44, 32, 78, 105, 108, 41, 41, 32, 58, 45, 32, 101, 100, 103, 101, 40, 120, 44, 32, 95, 41, 46]⟩ : ByteArray), .string (⟨#[108, 101, 110, 40, 78, 105, 108, 44, 32, 48, 41, 32, 58, 45, 32, 108, 105, 115, 116, 40, 78, 105, 108, 41, 46]⟩ : ByteArray), .string (⟨#[108, 101, 110, 40, 108, 44, 32, 110, 32, 43, 32, 49, 41, 32, 58, 45, 32, 108, 105, 115, 116, 40, 108, 41, 44, 32, 108, 32, 61, 32, 67, 111, 110, 115, 40, 95, 44, 32, 116, 41, 44, 32, 108, 101, 110, 40, 116, 44, 32, 110, 41, 46]⟩ : ByteArray), .string (⟨#[111, 117, 116, 40, 115, 41, 32, 58, 45, 32, 110, 97, 109, 101, 40, 120, 44, 32, 115, 41, 44, 32, 33, 110, 111, 100, 101, 40, 120, 41, 46]⟩ : ByteArray), .string (⟨#[111, 117, 116, 40, 34, 110, 111, 110, 101, 34, 41, 32, 58, 45, 32, 33, 110, 111, 100, 101, 40, 49, 41, 44, 32, 33, 110, 111, 100, 101, 40, 50, 41, 46]⟩ : ByteArray), .string (⟨#[101, 100, 103, 101, 40, 49, 44, 32, 50, 41, 46]⟩ : ByteArray), .string (⟨#[101, 100, 103, 101, 40, 50, 44, 32, 51, 41, 46]⟩ : ByteArray), .string (⟨#[101, 100, 103, 101, 40, 51, 44, 32, 49, 41, 46]⟩ : ByteArray), .string (⟨#[110, 97, 109, 101, 40, 49, 44, 32, 34, 97, 34, 41, 46]⟩ : ByteArray), .string (⟨#[110, 97, 109, 101, 40, 50, 44, 32, 34, 98, 32, 99, 34, 41, 46]⟩ : ByteArray), .string (⟨#[110, 111, 100, 101, 40, 122, 41, 32, 58, 45, 32, 101, 100, 103, 101, 40, 120, 44, 32, 121, 41, 44, 32, 122, 32, 61, 32, 120, 32, 42, 32, 49, 48, 32, 43, 32, 121, 46]⟩ : ByteArray), .string (⟨#[112, 97, 116, 104, 40, 121, 44, 32, 120, 41, 32, 58, 45, 32, 112, 97, 116, 104, 40, 120, 44, 32, 121, 41, 44, 32, 120, 32, 33, 61, 32, 121, 46]⟩ : ByteArray), .string (⟨#[102, 97, 114, 40, 120, 44, 32, 121, 41, 32, 58, 45, 32, 101, 100, 103, 101, 40, 120, 44, 32, 122, 41, 44, 32, 101, 100, 103, 101, 40, 122, 44, 32, 121, 41, 46]⟩ : ByteArray), .string (⟨#[112, 97, 116, 104, 40, 120, 44, 32, 121, 41, 32, 58, 45, 32, 102, 97, 114, 40, 120, 44, 32, 121, 41, 44, 32, 120, 32, 60, 61, 32, 121, 46]⟩ : ByteArray), .string (⟨#[110, 111, 100, 101, 40, 120, 32, 45, 32, 49, 41, 32, 58, 45, 32, 110, 111, 100, 101, 40, 120, 41, 44, 32, 48, 32, 60, 32, 120, 46]⟩ : ByteArray), .string (⟨#[108, 105, 115, 116, 40, 67, 111, 110, 115, 40, 50, 44, 32, 108, 41, 41, 32, 58, 45, 32, 108, 105, 115, 116, 40, 108, 41, 44, 32, 108, 101, 110, 40, 108, 44, 32, 110, 41, 44, 32, 110, 32, 60, 32, 50, 46]⟩ : ByteArray)]) (ok := fun _ => True) (okp := fun _ => True) ?hr ?hp (fun _ hk => hk) trivial (Below.refl _ _) (Nat.le_refl _) (by simp) ?_; (case hd => rfl); (case hg => rfl); (case hr => first | (go_simp; done) | (go_simp; rfl)); (case hp => exact (Reps.one (show Kd.M Kd.string _ _ _ (⟨#[112, 97, 116, 104, 40, 120, 44, 32, 121, 41, 32, 58, 45, 32, 101, 100, 103, 101, 40, 120, 44, 32, 121, 41, 46]⟩ : ByteArray) [.string (⟨#[112, 97, 116, 104, 40, 120, 44, 32, 121, 41, 32, 58, 45, 32, 101, 100, 103, 101, 40, 120, 44, 32, 121, 41, 46]⟩ : ByteArray)] from rfl) (Reps.one (show Kd.M Kd.string _ _ _ (⟨#[112, 97, 116, 104, 40, 120, 44, 32, 122, 41, 32, 58, 45, 32, 112, 97, 116, 104, 40, 120, 44, 32, 121, 41, 44, 32, 101, 100, 103, 101, 40, 121, 44, 32, 122, 41, 46]⟩ : ByteArray) [.string (⟨#[112, 97, 116, 104, 40, 120, 44, 32, 122, 41, 32, 58, 45, 32, 112, 97, 116, 104, 40, 120, 44, 32, 121, 41, 44, 32, 101, 100, 103, 101, 40, 121, 44, 32, 122, 41, 46]⟩ : ByteArray)] from rfl) (Reps.one (show Kd.M Kd.string _ _ _ (⟨#[110, 111, 100, 101, 40, 120, 41, 32, 58, 45, 32, 101, 100, 103, 101, 40, 120, 44, 32, 95, 41, 46]⟩ : ByteArray) [.string (⟨#[110, 111, 100, 101, 40, 120, 41, 32, 58, 45, 32, 101, 100, 103, 101, 40, 120, 44, 32, 95, 41, 46]⟩ : ByteArray)] from rfl) (Reps.one (show Kd.M Kd.string _ _ _ (⟨#[110, 111, 100, 101, 40, 121, 41, 32, 58, 45, 32, 101, 100, 103, 101, 40, 95, 44, 32, 121, 41, 46]⟩ : ByteArray) [.string (⟨#[110, 111, 100, 101, 40, 121, 41, 32, 58, 45, 32, 101, 100, 103, 101, 40, 95, 44, 32, 121, 41, 46]⟩ : ByteArray)] from rfl) (Reps.one (show Kd.M Kd.string _ _ _ (⟨#[112, 97, 116, 104, 40, 120, 44, 32, 121, 41, 32, 58, 45, 32, 110, 111, 100, 101, 40, 120, 41, 44, 32, 110, 111, 100, 101, 40, 121, 41, 44, 32, 33, 101, 100, 103, 101, 40, 120, 44, 32, 121, 41, 44, 32, 120, 32, 60, 32, 121, 46]⟩ : ByteArray) [.string (⟨#[112, 97, 116, 104, 40, 120, 44, 32, 121, 41, 32, 58, 45, 32, 110, 111, 100, 101, 40, 120, 41, 44, 32, 110, 111, 100, 101, 40, 121, 41, 44, 32, 33, 101, 100, 103, 101, 40, 120, 44, 32, 121, 41, 44, 32, 120, 32, 60, 32, 121, 46]⟩ : ByteArray)] from rfl) (Reps.one (show Kd.M Kd.string _ _ _ (⟨#[108, 105, 115, 116, 40, 78, 105, 108, 41, 46]⟩ : ByteArray) [.string (⟨#[108, 105, 115, 116, 40, 78, 105, 108, 41, 46]⟩ : ByteArray)] from rfl) (Reps.one (show Kd.M Kd.string _ _ _ (⟨#[108, 105, 115, 116, 40, 67, 111, 110, 115, 40, 49, 44, 32, 78, 105, 108, 41, 41, 46]⟩ : ByteArray) [.string (⟨#[108, 105, 115, 116, 40, 67, 111, 110, 115, 40, 49, 44, 32, 78, 105, 108, 41, 41, 46]⟩ : ByteArray)] from rfl) (Reps.one (show Kd.M Kd.string _ _ _ (⟨#[108, 105, 115, 116, 40, 116, 41, 32, 58, 45, 32, 108, 105, 115, 116, 40, 67, 111, 110, 115, 40, 95, 44, 32, 116, 41, 41, 46]⟩ : ByteArray) [.string (⟨#[108, 105, 115, 116, 40, 116, 41, 32, 58, 45, 32, 108, 105, 115, 116, 40, 67, 111, 110, 115, 40, 95, 44, 32, 116, 41, 41, 46]⟩ : ByteArray)] from rfl) (Reps.one (show Kd.M Kd.string _ _ _ (⟨#[108, 105, 115, 116, 40, 67, 111, 110, 115, 40, 120, 44, 32, 78, 105, 108, 41, 41, 32, 58, 45, 32, 101, 100, 103, 101, 40, 120, 44, 32, 95, 41, 46]⟩ : ByteArray) [.string (⟨#[108, 105, 115, 116, 40, 67, 111, 110, 115, 40, 120, 44, 32, 78, 105, 108, 41, 41, 32, 58, 45, 32, 101, 100, 103, 101, 40, 120, 44, 32, 95, 41, 46]⟩ : ByteArray)] from rfl) (Reps.one (show Kd.M Kd.string _ _ _ (⟨#[108, 101, 110, 40, 78, 105, 108, 44, 32, 48, 41, 32, 58, 45, 32, 108, 105, 115, 116, 40, 78, 105, 108, 41, 46]⟩ : ByteArray) [.string (⟨#[108, 101, 110, 40, 78, 105, 108, 44, 32, 48, 41, 32, 58, 45, 32, 108, 105, 115, 116, 40, 78, 105, 108, 41, 46]⟩ : ByteArray)] from rfl) (Reps.one (show Kd.M Kd.string _ _ _ (⟨#[108, 101, 110, 40, 108, 44, 32, 110, 32, 43, 32, 49, 41, 32, 58, 45, 32, 108, 105, 115, 116, 40, 108, 41, 44, 32, 108, 32, 61, 32, 67, 111, 110, 115, 40, 95, 44, 32, 116, 41, 44, 32, 108, 101, 110, 40, 116, 44, 32, 110, 41, 46]⟩ : ByteArray) [.string (⟨#[108, 101, 110, 40, 108, 44, 32, 110, 32, 43, 32, 49, 41, 32, 58, 45, 32, 108, 105, 115, 116, 40, 108, 41, 44, 32, 108, 32, 61, 32, 67, 111, 110, 115, 40, 95, 44, 32, 116, 41, 44, 32, 108, 101, 110, 40, 116, 44, 32, 110, 41, 46]⟩ : ByteArray)] from rfl) (Reps.one (show Kd.M Kd.string _ _ _ (⟨#[111, 117, 116, 40, 115, 41, 32, 58, 45, 32, 110, 97, 109, 101, 40, 120, 44, 32, 115, 41, 44, 32, 33, 110, 111, 100, 101, 40, 120, 41, 46]⟩ : ByteArray) [.string (⟨#[111, 117, 116, 40, 115, 41, 32, 58, 45, 32, 110, 97, 109, 101, 40, 120, 44, 32, 115, 41, 44, 32, 33, 110, 111, 100, 101, 40, 120, 41, 46]⟩ : ByteArray)] from rfl) (Reps.one (show Kd.M Kd.string _ _ _ (⟨#[111, 117, 116, 40, 34, 110, 111, 110, 101, 34, 41, 32, 58, 45, 32, 33, 110, 111, 100, 101, 40, 49, 41, 44, 32, 33, 110, 111, 100, 101, 40, 50, 41, 46]⟩ : ByteArray) [.string (⟨#[111, 117, 116, 40, 34, 110, 111, 110, 101, 34, 41, 32, 58, 45, 32, 33, 110, 111, 100, 101, 40, 49, 41, 44, 32, 33, 110, 111, 100, 101, 40, 50, 41, 46]⟩ : ByteArray)] from rfl) (Reps.one (show Kd.M Kd.string _ _ _ (⟨#[101, 100, 103, 101, 40, 49, 44, 32, 50, 41, 46]⟩ : ByteArray) [.string (⟨#[101, 100, 103, 101, 40, 49, 44, 32, 50, 41, 46]⟩ : ByteArray)] from rfl) (Reps.one (show Kd.M Kd.string _ _ _ (⟨#[101, 100, 103, 101, 40, 50, 44, 32, 51, 41, 46]⟩ : ByteArray) [.string (⟨#[101, 100, 103, 101, 40, 50, 44, 32, 51, 41, 46]⟩ : ByteArray)] from rfl) (Reps.one (show Kd.M Kd.string _ _ _ (⟨#[101, 100, 103, 101, 40, 51, 44, 32, 49, 41, 46]⟩ : ByteArray) [.string (⟨#[101, 100, 103, 101, 40, 51, 44, 32, 49, 41, 46]⟩ : ByteArray)] from rfl) (Reps.one (show Kd.M Kd.string _ _ _ (⟨#[110, 97, 109, 101, 40, 49, 44, 32, 34, 97, 34, 41, 46]⟩ : ByteArray) [.string (⟨#[110, 97, 109, 101, 40, 49, 44, 32, 34, 97, 34, 41, 46]⟩ : ByteArray)] from rfl) (Reps.one (show Kd.M Kd.string _ _ _ (⟨#[110, 97, 109, 101, 40, 50, 44, 32, 34, 98, 32, 99, 34, 41, 46]⟩ : ByteArray) [.string (⟨#[110, 97, 109, 101, 40, 50, 44, 32, 34, 98, 32, 99, 34, 41, 46]⟩ : ByteArray)] from rfl) (Reps.one (show Kd.M Kd.string _ _ _ (⟨#[110, 111, 100, 101, 40, 122, 41, 32, 58, 45, 32, 101, 100, 103, 101, 40, 120, 44, 32, 121, 41, 44, 32, 122, 32, 61, 32, 120, 32, 42, 32, 49, 48, 32, 43, 32, 121, 46]⟩ : ByteArray) [.string (⟨#[110, 111, 100, 101, 40, 122, 41, 32, 58, 45, 32, 101, 100, 103, 101, 40, 120, 44, 32, 121, 41, 44, 32, 122, 32, 61, 32, 120, 32, 42, 32, 49, 48, 32, 43, 32, 121, 46]⟩ : ByteArray)] from rfl) (Reps.one (show Kd.M Kd.string _ _ _ (⟨#[112, 97, 116, 104, 40, 121, 44, 32, 120, 41, 32, 58, 45, 32, 112, 97, 116, 104, 40, 120, 44, 32, 121, 41, 44, 32, 120, 32, 33, 61, 32, 121, 46]⟩ : ByteArray) [.string (⟨#[112, 97, 116, 104, 40, 121, 44, 32, 120, 41, 32, 58, 45, 32, 112, 97, 116, 104, 40, 120, 44, 32, 121, 41, 44, 32, 120, 32, 33, 61, 32, 121, 46]⟩ : ByteArray)] from rfl) (Reps.one (show Kd.M Kd.string _ _ _ (⟨#[102, 97, 114, 40, 120, 44, 32, 121, 41, 32, 58, 45, 32, 101, 100, 103, 101, 40, 120, 44, 32, 122, 41, 44, 32, 101, 100, 103, 101, 40, 122, 44, 32, 121, 41, 46]⟩ : ByteArray) [.string (⟨#[102, 97, 114, 40, 120, 44, 32, 121, 41, 32, 58, 45, 32, 101, 100, 103, 101, 40, 120, 44, 32, 122, 41, 44, 32, 101, 100, 103, 101, 40, 122, 44, 32, 121, 41, 46]⟩ : ByteArray)] from rfl) (Reps.one (show Kd.M Kd.string _ _ _ (⟨#[112, 97, 116, 104, 40, 120, 44, 32, 121, 41, 32, 58, 45, 32, 102, 97, 114, 40, 120, 44, 32, 121, 41, 44, 32, 120, 32, 60, 61, 32, 121, 46]⟩ : ByteArray) [.string (⟨#[112, 97, 116, 104, 40, 120, 44, 32, 121, 41, 32, 58, 45, 32, 102, 97, 114, 40, 120, 44, 32, 121, 41, 44, 32, 120, 32, 60, 61, 32, 121, 46]⟩ : ByteArray)] from rfl) (Reps.one (show Kd.M Kd.string _ _ _ (⟨#[110, 111, 100, 101, 40, 120, 32, 45, 32, 49, 41, 32, 58, 45, 32, 110, 111, 100, 101, 40, 120, 41, 44, 32, 48, 32, 60, 32, 120, 46]⟩ : ByteArray) [.string (⟨#[110, 111, 100, 101, 40, 120, 32, 45, 32, 49, 41, 32, 58, 45, 32, 110, 111, 100, 101, 40, 120, 41, 44, 32, 48, 32, 60, 32, 120, 46]⟩ : ByteArray)] from rfl) (Reps.one (show Kd.M Kd.string _ _ _ (⟨#[108, 105, 115, 116, 40, 67, 111, 110, 115, 40, 50, 44, 32, 108, 41, 41, 32, 58, 45, 32, 108, 105, 115, 116, 40, 108, 41, 44, 32, 108, 101, 110, 40, 108, 44, 32, 110, 41, 44, 32, 110, 32, 60, 32, 50, 46]⟩ : ByteArray) [.string (⟨#[108, 105, 115, 116, 40, 67, 111, 110, 115, 40, 50, 44, 32, 108, 41, 41, 32, 58, 45, 32, 108, 105, 115, 116, 40, 108, 41, 44, 32, 108, 101, 110, 40, 108, 44, 32, 110, 41, 44, 32, 110, 32, 60, 32, 50, 46]⟩ : ByteArray)] from rfl) (Reps.none _ _))))))))))))))))))))))))))
                              intro v386 w22 ho23 hb hg_ hnew_
                              clear hg_ hnew_
                              (first | rw [← Ny385.out] at ho23 | (simp only [Int.reduceToNat] at ho23; rw [← Ny385.out] at ho23))
                              have n0_ := Aside0.mk (Kd.R_lower ho23 (keep_size (w := w) (g := g) (row := none) (by repeat (first | (with_reducible first | exact HK.out | apply KeepBut.set_ | apply keep_drewN | apply keep_drew | apply keep_alloc) | exact HK.out))))
                              have n2_ := Aside0.mk (KeepBut.trans (by repeat (first | (with_reducible first | exact HK.out | apply KeepBut.set_ | apply keep_drewN | apply keep_drew | apply keep_alloc) | exact HK.out)) (KeepBut.of_below hb g none) (.inl rfl))
                              have n3_ := Aside0.mk (below_step (by repeat (first | (with_reducible first | exact HB.out | apply below_alloc | apply pw_below_drewN | apply below_drew1) | exact HB.out)) hb)
                              have z_HI0 := fun (h0_ : b 3 = false) => (show IsS92 w0 w22 g s0_0 x1001_1 x1002_1 from by first | exact (IsS92.below (by repeat (first | (with_reducible first | exact (Q_HI0 h0_) | apply IsS92.alloc | apply IsS92.drewN | apply IsS92.drew | apply IsS92.set_1 | apply IsS92.set_2) | exact (Q_HI0 h0_))) hb))
                              have z_HI0_e3 := fun (h0_ : b 3 = true) (h1_ : b 9 = false) => (show IsS92 w0 w22 g s0_0 t389 t390 from by first | exact (IsS92.below (by repeat (first | (with_reducible first | exact (Q_HI0_e3 h0_ h1_) | apply IsS92.alloc | apply IsS92.drewN | apply IsS92.drew | apply IsS92.set_1 | apply IsS92.set_2) | exact (Q_HI0_e3 h0_ h1_))) hb))
                              have z_HO394 := fun (h0_ : b 7 = true) => (show Kd.R Kd.string 9 w22 w.heap.size (fun _ => True) v393 y392 from by first | exact (Kd.R_elder' (by (with_reducible repeat (first | apply Kd.R_alloc | apply Kd.R_drewN | apply Kd.R_drew)); exact (Q_HO394 h0_)) (Kd.R_base ho23) hb) | exact Kd.R_mono (Kd.R_elder' (by (with_reducible repeat (first | apply Kd.R_alloc | apply Kd.R_drewN | apply Kd.R_drew)); exact (Q_HO394 h0_)) (Kd.R_base ho23) hb) (fun _ h_ => by first | trivial | exact h_ | exact h_.1))
                              have z_HI0_e9 := fun (h0_ : b 9 = true) => (show IsS92 w0 w22 g s0_0 t396 t397 from by first | exact (IsS92.below (by repeat (first | (with_reducible first | exact (Q_HI0_e9 h0_) | apply IsS92.alloc | apply IsS92.drewN | apply IsS92.drew | apply IsS92.set_1 | apply IsS92.set_2) | exact (Q_HI0_e9 h0_))) hb))
                              clear HK
                              clear HB
                              have HO387 := n0_
                              have HK := n2_
                              have HB := n3_
                              clear n0_ n2_ n3_
                              clear hb ho23
                              obtain ⟨Ao24, co24, eo24⟩ := Kd.R_slice HO387.out
                              subst eo24
                              obtain ⟨ado24, fo24, _⟩ := Kd.at_string (Kd.R_reads' HO387.out).2.2 0 (by decide) (by rw [Ny385.out]; simp)
                              cases fo24
                              refine hK.out _ _ ⟨.slice (some ado24) y385.length co24, ado24, v393, adz_v393, m4_, m10_, (by rw [ha.out]; exact putSel_upk 0 hb_ rfl rfl rfl), z_HI0, (by repeat (first | (with_reducible first | exact HK.out | apply KeepBut.set_ | apply keep_drewN | apply keep_drew | apply keep_alloc) | exact HK.out)), (by repeat (first | (with_reducible first | exact HB.out | apply below_alloc | apply pw_below_drewN | apply below_drew1) | exact HB.out)), fun _ => (by (with_reducible repeat (first | apply Kd.R_alloc | apply Kd.R_drewN | apply Kd.R_drew)); exact HO387.out), fun _ => ⟨_, rfl⟩, z_HI0_e3, z_HO394, Q_HA_HO394, z_HI0_e9, fun h0_ => absurd ((hoff 4 (by kernel_rfl)).symm.trans h0_) (by decide), Q_X10_⟩
                            refine steps_cons ?_ ?_
                            · rintro b a w' ⟨v386, adz_v386, v393, adz_v393, m4_, m10_, ha, Q_HI0, Q_HK, Q_HB, Q_HO387, Q_HA_HO387, Q_HI0_e3, Q_HO394, Q_HA_HO394, Q_HI0_e9, Q_X4_, Q_X10_⟩ hb_ hon hoff
                              refine ⟨_, rfl, fun K hK => ?_⟩
                              have e21 : a.tmps[21]? = some (.pointer (some ⟨g, 0, none⟩)) := by rw [ha]; exact (putSel_off rfl).trans rfl
                              replace ha := Aside0.mk ha
                              have HI0 := Aside0.mk (Q_HI0 hb_)
                              have HK := Aside0.mk Q_HK
                              have HB := Aside0.mk Q_HB
                              refine goes_ Tryd.func70 (by kernel_rfl) rfl #[.pointer (some ⟨g, 0, none⟩), .int .i64 24] (by rfl) rfl rfl (by first | (simp only [List.map_toArray, List.map_cons, List.map_nil, Act.eval, Array.getD_eq_getD_getElem?, Option.getD_some, e21]; done) | (simp only [List.map_toArray, List.map_cons, List.map_nil, Act.eval, Array.getD_eq_getD_getElem?, Option.getD_some, e21]; rfl)) ?_
                              with_reducible refine (spec_l01Cur_pick.calls g s0_0 x1001_1 x1002_1 24 t388 t389 t390 w0 _ ?side1 ?side2 A13.out).mono ?_
                              (case side1 => repeat (first | (with_reducible first | exact HI0.out | apply IsS92.alloc | apply IsS92.drewN | apply IsS92.drew | apply IsS92.set_1 | apply IsS92.set_2) | exact HI0.out))
                              (case side2 => repeat (first | (with_reducible first | exact HB.out | apply below_alloc | apply pw_below_drewN | apply below_drew1 | refine below_set ?_ (IsS92.ge HI0.out)) | exact HB.out))
                              rintro e w22 ⟨rfl, hi, hb, hk⟩
                              refine ⟨_, rfl, ?_⟩
                              have n0_ := Aside0.mk (KeepBut.trans (by repeat (first | (with_reducible first | exact HK.out | apply KeepBut.set_ | apply keep_drewN | apply keep_drew | apply keep_alloc) | exact HK.out)) hk (.inl rfl))
                              have n1_ := Aside0.mk (hb)
                              have n2_ := Aside0.mk (hi)
                              have z_HO387 := fun (h0_ : b 1 = true) => (show Kd.R Kd.string 9 w22 w.heap.size (fun _ => True) v386 y385 from by first | exact (Kd.R_mono (Kd.R_keep (IsS92.apart (show IsS92 w0 _ g s0_0 x1001_1 x1002_1 from by repeat (first | (with_reducible first | exact HI0.out | apply IsS92.alloc | apply IsS92.drewN | apply IsS92.drew | apply IsS92.set_1 | apply IsS92.set_2) | exact HI0.out)) (by (with_reducible repeat (first | apply Kd.R_alloc | apply Kd.R_drewN | apply Kd.R_drew)); exact (Q_HO387 h0_)) (by decide)) hk (fun _ h => h.2)) (fun _ h => h.1)) | exact Kd.R_mono (Kd.R_mono (Kd.R_keep (IsS92.apart (show IsS92 w0 _ g s0_0 x1001_1 x1002_1 from by repeat (first | (with_reducible first | exact HI0.out | apply IsS92.alloc | apply IsS92.drewN | apply IsS92.drew | apply IsS92.set_1 | apply IsS92.set_2) | exact HI0.out)) (by (with_reducible repeat (first | apply Kd.R_alloc | apply Kd.R_drewN | apply Kd.R_drew)); exact (Q_HO387 h0_)) (by decide)) hk (fun _ h => h.2)) (fun _ h => h.1)) (fun _ h_ => by first | trivial | exact h_ | exact h_.1))
                              have z_HO394 := fun (h0_ : b 7 = true) => (show Kd.R Kd.string 9 w22 w.heap.size (fun _ => True) v393 y392 from by first | exact (Kd.R_mono (Kd.R_keep (IsS92.apart (show IsS92 w0 _ g s0_0 x1001_1 x1002_1 from by repeat (first | (with_reducible first | exact HI0.out | apply IsS92.alloc | apply IsS92.drewN | apply IsS92.drew | apply IsS92.set_1 | apply IsS92.set_2) | exact HI0.out)) (by (with_reducible repeat (first | apply Kd.R_alloc | apply Kd.R_drewN | apply Kd.R_drew)); exact (Q_HO394 h0_)) (by decide)) hk (fun _ h => h.2)) (fun _ h => h.1)) | exact Kd.R_mono (Kd.R_mono (Kd.R_keep (IsS92.apart (show IsS92 w0 _ g s0_0 x1001_1 x1002_1 from by repeat (first | (with_reducible first | exact HI0.out | apply IsS92.alloc | apply IsS92.drewN | apply IsS92.drew | apply IsS92.set_1 | apply IsS92.set_2) | exact HI0.out)) (by (with_reducible repeat (first | apply Kd.R_alloc | apply Kd.R_drewN | apply Kd.R_drew)); exact (Q_HO394 h0_)) (by decide)) hk (fun _ h => h.2)) (fun _ h => h.1)) (fun _ h_ => by first | trivial | exact h_ | exact h_.1))
                              clear HK
                              clear HB
                              clear HI0
                              have HK := n0_
                              have HB := n1_
                              have HI0 := n2_
                              clear n0_ n1_ n2_
                              (try clear hb)
                              (try clear hb2)
                              (try clear hk)
                              (try clear hi)
                              refine hK.out _ _ ⟨v386, adz_v386, v393, adz_v393, m4_, m10_, (by rw [ha.out]; exact putSel_upk 1 hb_ rfl rfl rfl), fun h0_ => absurd ((up_self b 3).symm.trans h0_) (by decide), (by repeat (first | (with_reducible first | exact HK.out | apply KeepBut.set_ | apply keep_drewN | apply keep_drew | apply keep_alloc) | exact HK.out)), (by repeat (first | (with_reducible first | exact HB.out | apply below_alloc | apply pw_below_drewN | apply below_drew1 | refine below_set ?_ (IsS92.ge HI0.out)) | exact HB.out)), z_HO387, Q_HA_HO387, fun _ _ => (by repeat (first | (with_reducible first | exact HI0.out | apply IsS92.alloc | apply IsS92.drewN | apply IsS92.drew | apply IsS92.set_1 | apply IsS92.set_2) | exact HI0.out)), z_HO394, Q_HA_HO394, fun h0_ => absurd ((hoff 9 (by kernel_rfl)).symm.trans h0_) (by decide), fun h0_ => absurd ((hoff 4 (by kernel_rfl)).symm.trans h0_) (by decide), fun h0_ => absurd ((hoff 10 (by kernel_rfl)).symm.trans h0_) (by decide)⟩
                            refine steps_cons ?_ ?_
                            · rintro b a w' ⟨v386, adz_v386, v393, adz_v393, m4_, m10_, ha, Q_HI0, Q_HK, Q_HB, Q_HO387, Q_HA_HO387, Q_HI0_e3, Q_HO394, Q_HA_HO394, Q_HI0_e9, Q_X4_, Q_X10_⟩ hb_ hon hoff
                              refine ⟨_, rfl, fun K hK => ?_⟩
                              have e20 : a.tmps[20]? = some (v386) := by rw [ha]; exact putSel_on (e := (1, 20, v386)) 0 rfl rfl (hon 1 (by kernel_rfl)) rfl
                              have e22 : a.tmps[22]? = some (.int .i64 t388) := by rw [ha]; exact putSel_on (e := (3, 22, .int .i64 t388)) 1 rfl rfl (hon 3 (by kernel_rfl)) rfl
                              replace ha := Aside0.mk ha
                              have HK := Aside0.mk Q_HK
                              have HB := Aside0.mk Q_HB
                              have HO387 := Aside0.mk (Q_HO387 (hon 1 (by kernel_rfl)))
                              have HA_HO387 := Aside0.mk (Q_HA_HO387 (hon 1 (by kernel_rfl)))
                              obtain ⟨c_, hv_⟩ := HA_HO387.out
                              rw [hv_] at e20
                              refine value_ (w1 := w') (v := .pointer (some (adz_v386.add (t388).toNat))) (by rfl) rfl ?_ ?_
                              · go_simp
                                (try simp only [i64_w])
                                try first | rfl | (have hz_ := c5; (try have hy1_ := of_eq_true c1b0); (try have hy2_ := of_eq_true c2b0); (try have hy3_ := of_eq_true c3b0); (try have hy4_ := of_eq_true c4b0); (try have hy5_ := of_eq_true c5b0); (try simp only [ByteArray.size_append, ByteArray.size_extract] at hz_); omega) | (have hz_ := c16; (try have hy10_ := of_eq_true c10b0); (try have hy11_ := of_eq_true c11b0); (try have hy12_ := of_eq_true c12b0); (try have hy13_ := of_eq_true c13b0); (try have hy14_ := of_eq_true c14b0); (try have hy15_ := of_eq_true c15b0); (try have hy16_ := of_eq_true c16b0); (try simp only [ByteArray.size_append, ByteArray.size_extract] at hz_); omega) | (have hz_ := c20; (try have hy14_ := of_eq_true c14b0); (try have hy15_ := of_eq_true c15b0); (try have hy16_ := of_eq_true c16b0); (try have hy17_ := of_eq_true c17b0); (try have hy18_ := of_eq_true c18b0); (try have hy19_ := of_eq_true c19b0); (try have hy20_ := of_eq_true c20b0); (try simp only [ByteArray.size_append, ByteArray.size_extract] at hz_); omega)
                              refine hK.out _ _ ⟨v386, adz_v386, v393, adz_v393, (.pointer (some (adz_v386.add (t388).toNat))), m10_, (by rw [ha.out]; exact putSel_upk 2 hb_ rfl rfl rfl), fun h0_ => absurd ((hon 3 (by kernel_rfl)).symm.trans h0_) (by decide), Q_HK, Q_HB, Q_HO387, Q_HA_HO387, Q_HI0_e3, Q_HO394, Q_HA_HO394, Q_HI0_e9, fun _ => rfl, Q_X10_⟩
                            refine steps_cons ?_ ?_
                            · rintro b a w' ⟨v386, adz_v386, v393, adz_v393, m4_, m10_, ha, Q_HI0, Q_HK, Q_HB, Q_HO387, Q_HA_HO387, Q_HI0_e3, Q_HO394, Q_HA_HO394, Q_HI0_e9, Q_X4_, Q_X10_⟩ hb_ hon hoff
                              refine ⟨_, rfl, fun K hK => ?_⟩
                              have e23 : a.tmps[23]? = some (m4_) := by rw [ha]; exact putSel_on (e := (4, 23, m4_)) 2 rfl rfl (hon 4 (by kernel_rfl)) rfl
                              rw [Q_X4_ (hon 4 (by kernel_rfl))] at e23
                              replace ha := Aside0.mk ha
                              have HK := Aside0.mk Q_HK
                              have HB := Aside0.mk Q_HB
                              have HO387 := Aside0.mk (Q_HO387 (hon 1 (by kernel_rfl)))
                              have HA_HO387 := Aside0.mk (Q_HA_HO387 (hon 1 (by kernel_rfl)))
                              obtain ⟨c_, hv_⟩ := HA_HO387.out
                              have hF_ := HO387.out
                              rw [hv_] at hF_
                              obtain ⟨ad_, ea_, hx_⟩ := Kd.at_string (Kd.R_reads' hF_).2.2 t388 (of_eq_true pi391) (of_eq_true qi391)
                              cases ea_
                              refine value_ (w1 := w') (v := .string (rdOf ByteArray.empty y385 t388)) (by rfl) rfl ?_ ?_
                              · go_simp
                                (try simp only [i64_w])
                                try first | rfl | (have hz_ := c5; (try have hy1_ := of_eq_true c1b0); (try have hy2_ := of_eq_true c2b0); (try have hy3_ := of_eq_true c3b0); (try have hy4_ := of_eq_true c4b0); (try have hy5_ := of_eq_true c5b0); (try simp only [ByteArray.size_append, ByteArray.size_extract] at hz_); omega) | (have hz_ := c16; (try have hy10_ := of_eq_true c10b0); (try have hy11_ := of_eq_true c11b0); (try have hy12_ := of_eq_true c12b0); (try have hy13_ := of_eq_true c13b0); (try have hy14_ := of_eq_true c14b0); (try have hy15_ := of_eq_true c15b0); (try have hy16_ := of_eq_true c16b0); (try simp only [ByteArray.size_append, ByteArray.size_extract] at hz_); omega) | (have hz_ := c20; (try have hy14_ := of_eq_true c14b0); (try have hy15_ := of_eq_true c15b0); (try have hy16_ := of_eq_true c16b0); (try have hy17_ := of_eq_true c17b0); (try have hy18_ := of_eq_true c18b0); (try have hy19_ := of_eq_true c19b0); (try have hy20_ := of_eq_true c20b0); (try simp only [ByteArray.size_append, ByteArray.size_extract] at hz_); omega)
                              refine hK.out _ _ ⟨v386, adz_v386, v393, adz_v393, m4_, m10_, (by rw [ha.out]; exact putSel_upk 3 hb_ rfl rfl rfl), fun h0_ => absurd ((hon 3 (by kernel_rfl)).symm.trans h0_) (by decide), Q_HK, Q_HB, Q_HO387, Q_HA_HO387, Q_HI0_e3, Q_HO394, Q_HA_HO394, Q_HI0_e9, Q_X4_, Q_X10_⟩
                            refine steps_cons ?_ ?_
                            · rintro b a w' ⟨v386, adz_v386, v393, adz_v393, m4_, m10_, ha, Q_HI0, Q_HK, Q_HB, Q_HO387, Q_HA_HO387, Q_HI0_e3, Q_HO394, Q_HA_HO394, Q_HI0_e9, Q_X4_, Q_X10_⟩ hb_ hon hoff
                              refine ⟨_, rfl, fun K hK => ?_⟩
                              have e19 : a.tmps[19]? = some (.string x3_1) := by rw [ha]; exact (putSel_off rfl).trans rfl
                              have e24 : a.tmps[24]? = some (.string (rdOf ByteArray.empty y385 t388)) := by rw [ha]; exact putSel_on (e := (5, 24, .string (rdOf ByteArray.empty y385 t388))) 3 rfl rfl (hon 5 (by kernel_rfl)) rfl
                              replace ha := Aside0.mk ha
                              have HK := Aside0.mk Q_HK
                              have HB := Aside0.mk Q_HB
                              have HO387 := Aside0.mk (Q_HO387 (hon 1 (by kernel_rfl)))
                              have HA_HO387 := Aside0.mk (Q_HA_HO387 (hon 1 (by kernel_rfl)))
                              refine value_ (w1 := w') (v := .string (x3_1 ++ (rdOf ByteArray.empty y385 t388))) (by rfl) rfl ?_ ?_
                              · go_simp
                                (try simp only [i64_w])
                                try first | rfl | (have hz_ := c5; (try have hy1_ := of_eq_true c1b0); (try have hy2_ := of_eq_true c2b0); (try have hy3_ := of_eq_true c3b0); (try have hy4_ := of_eq_true c4b0); (try have hy5_ := of_eq_true c5b0); (try simp only [ByteArray.size_append, ByteArray.size_extract] at hz_); omega) | (have hz_ := c16; (try have hy10_ := of_eq_true c10b0); (try have hy11_ := of_eq_true c11b0); (try have hy12_ := of_eq_true c12b0); (try have hy13_ := of_eq_true c13b0); (try have hy14_ := of_eq_true c14b0); (try have hy15_ := of_eq_true c15b0); (try have hy16_ := of_eq_true c16b0); (try simp only [ByteArray.size_append, ByteArray.size_extract] at hz_); omega) | (have hz_ := c20; (try have hy14_ := of_eq_true c14b0); (try have hy15_ := of_eq_true c15b0); (try have hy16_ := of_eq_true c16b0); (try have hy17_ := of_eq_true c17b0); (try have hy18_ := of_eq_true c18b0); (try have hy19_ := of_eq_true c19b0); (try have hy20_ := of_eq_true c20b0); (try simp only [ByteArray.size_append, ByteArray.size_extract] at hz_); omega)
                              refine hK.out _ _ ⟨v386, adz_v386, v393, adz_v393, m4_, m10_, (by rw [ha.out]; exact putSel_upk 4 hb_ rfl rfl rfl), fun h0_ => absurd ((hon 3 (by kernel_rfl)).symm.trans h0_) (by decide), Q_HK, Q_HB, Q_HO387, Q_HA_HO387, Q_HI0_e3, Q_HO394, Q_HA_HO394, Q_HI0_e9, Q_X4_, Q_X10_⟩
                            refine steps_cons ?_ ?_
                            · rintro b a w' ⟨v386, adz_v386, v393, adz_v393, m4_, m10_, ha, Q_HI0, Q_HK, Q_HB, Q_HO387, Q_HA_HO387, Q_HI0_e3, Q_HO394, Q_HA_HO394, Q_HI0_e9, Q_X4_, Q_X10_⟩ hb_ hon hoff
                              refine ⟨_, rfl, fun K hK => ?_⟩
                              replace ha := Aside0.mk ha
                              have HK := Aside0.mk Q_HK
                              have HB := Aside0.mk Q_HB
                              refine Kd.R_lit_step Kd.string _ 9 ?hg (N := 26) ?hd (xs := ([(⟨#[10]⟩ : ByteArray), (⟨#[10]⟩ : ByteArray), (⟨#[32]⟩ : ByteArray), (⟨#[10, 47, 47, 32, 99, 10]⟩ : ByteArray)] : List ByteArray)) (inner := [.string (⟨#[10]⟩ : ByteArray), .string (⟨#[10]⟩ : ByteArray), .string (⟨#[32]⟩ : ByteArray), .string (⟨#[10, 47, 47, 32, 99, 10]⟩ : ByteArray)]) (ok := fun _ => True) (okp := fun _ => True) ?hr ?hp (fun _ hk => hk) trivial (Below.refl _ _) (Nat.le_refl _) (by simp) ?_; (case hd => rfl); (case hg => rfl); (case hr => first | (go_simp; done) | (go_simp; rfl)); (case hp => exact (Reps.one (show Kd.M Kd.string _ _ _ (⟨#[10]⟩ : ByteArray) [.string (⟨#[10]⟩ : ByteArray)] from rfl) (Reps.one (show Kd.M Kd.string _ _ _ (⟨#[10]⟩ : ByteArray) [.string (⟨#[10]⟩ : ByteArray)] from rfl) (Reps.one (show Kd.M Kd.string _ _ _ (⟨#[32]⟩ : ByteArray) [.string (⟨#[32]⟩ : ByteArray)] from rfl) (Reps.one (show Kd.M Kd.string _ _ _ (⟨#[10, 47, 47, 32, 99, 10]⟩ : ByteArray) [.string (⟨#[10, 47, 47, 32, 99, 10]⟩ : ByteArray)] from rfl) (Reps.none _ _))))))
                              intro v393 w22 ho23 hb hg_ hnew_
                              clear hg_ hnew_
                              (first | rw [← Ny392.out] at ho23 | (simp only [Int.reduceToNat] at ho23; rw [← Ny392.out] at ho23))
                              have n0_ := Aside0.mk (Kd.R_lower ho23 (keep_size (w := w) (g := g) (row := none) (by repeat (first | (with_reducible first | exact HK.out | apply KeepBut.set_ | apply keep_drewN | apply keep_drew | apply keep_alloc) | exact HK.out))))
                              have n2_ := Aside0.mk (KeepBut.trans (by repeat (first | (with_reducible first | exact HK.out | apply KeepBut.set_ | apply keep_drewN | apply keep_drew | apply keep_alloc) | exact HK.out)) (KeepBut.of_below hb g none) (.inl rfl))
                              have n3_ := Aside0.mk (below_step (by repeat (first | (with_reducible first | exact HB.out | apply below_alloc | apply pw_below_drewN | apply below_drew1) | exact HB.out)) hb)
                              have z_HI0 := fun (h0_ : b 3 = false) => (show IsS92 w0 w22 g s0_0 x1001_1 x1002_1 from by first | exact (IsS92.below (by repeat (first | (with_reducible first | exact (Q_HI0 h0_) | apply IsS92.alloc | apply IsS92.drewN | apply IsS92.drew | apply IsS92.set_1 | apply IsS92.set_2) | exact (Q_HI0 h0_))) hb))
                              have z_HO387 := fun (h0_ : b 1 = true) => (show Kd.R Kd.string 9 w22 w.heap.size (fun _ => True) v386 y385 from by first | exact (Kd.R_elder' (by (with_reducible repeat (first | apply Kd.R_alloc | apply Kd.R_drewN | apply Kd.R_drew)); exact (Q_HO387 h0_)) (Kd.R_base ho23) hb) | exact Kd.R_mono (Kd.R_elder' (by (with_reducible repeat (first | apply Kd.R_alloc | apply Kd.R_drewN | apply Kd.R_drew)); exact (Q_HO387 h0_)) (Kd.R_base ho23) hb) (fun _ h_ => by first | trivial | exact h_ | exact h_.1))
                              have z_HI0_e3 := fun (h0_ : b 3 = true) (h1_ : b 9 = false) => (show IsS92 w0 w22 g s0_0 t389 t390 from by first | exact (IsS92.below (by repeat (first | (with_reducible first | exact (Q_HI0_e3 h0_ h1_) | apply IsS92.alloc | apply IsS92.drewN | apply IsS92.drew | apply IsS92.set_1 | apply IsS92.set_2) | exact (Q_HI0_e3 h0_ h1_))) hb))
                              have z_HI0_e9 := fun (h0_ : b 9 = true) => (show IsS92 w0 w22 g s0_0 t396 t397 from by first | exact (IsS92.below (by repeat (first | (with_reducible first | exact (Q_HI0_e9 h0_) | apply IsS92.alloc | apply IsS92.drewN | apply IsS92.drew | apply IsS92.set_1 | apply IsS92.set_2) | exact (Q_HI0_e9 h0_))) hb))
                              clear HK
                              clear HB
                              have HO394 := n0_
                              have HK := n2_
                              have HB := n3_
                              clear n0_ n2_ n3_
                              clear hb ho23
                              obtain ⟨Ao24, co24, eo24⟩ := Kd.R_slice HO394.out
                              subst eo24
                              obtain ⟨ado24, fo24, _⟩ := Kd.at_string (Kd.R_reads' HO394.out).2.2 0 (by decide) (by rw [Ny392.out]; simp)
                              cases fo24
                              refine hK.out _ _ ⟨v386, adz_v386, .slice (some ado24) y392.length co24, ado24, m4_, m10_, (by rw [ha.out]; exact putSel_upk 5 hb_ rfl rfl rfl), z_HI0, (by repeat (first | (with_reducible first | exact HK.out | apply KeepBut.set_ | apply keep_drewN | apply keep_drew | apply keep_alloc) | exact HK.out)), (by repeat (first | (with_reducible first | exact HB.out | apply below_alloc | apply pw_below_drewN | apply below_drew1) | exact HB.out)), z_HO387, Q_HA_HO387, z_HI0_e3, fun _ => (by (with_reducible repeat (first | apply Kd.R_alloc | apply Kd.R_drewN | apply Kd.R_drew)); exact HO394.out), fun _ => ⟨_, rfl⟩, z_HI0_e9, Q_X4_, fun h0_ => absurd ((hoff 10 (by kernel_rfl)).symm.trans h0_) (by decide)⟩
                            refine steps_cons ?_ ?_
                            · rintro b a w' ⟨v386, adz_v386, v393, adz_v393, m4_, m10_, ha, Q_HI0, Q_HK, Q_HB, Q_HO387, Q_HA_HO387, Q_HI0_e3, Q_HO394, Q_HA_HO394, Q_HI0_e9, Q_X4_, Q_X10_⟩ hb_ hon hoff
                              refine ⟨_, rfl, fun K hK => ?_⟩
                              have e27 : a.tmps[27]? = some (.pointer (some ⟨g, 0, none⟩)) := by rw [ha]; exact (putSel_off rfl).trans rfl
                              replace ha := Aside0.mk ha
                              have HK := Aside0.mk Q_HK
                              have HB := Aside0.mk Q_HB
                              have HI0 := Aside0.mk (Q_HI0_e3 (hon 3 (by kernel_rfl)) hb_)
                              refine goes_ Tryd.func70 (by kernel_rfl) rfl #[.pointer (some ⟨g, 0, none⟩), .int .i64 4] (by rfl) rfl rfl (by first | (simp only [List.map_toArray, List.map_cons, List.map_nil, Act.eval, Array.getD_eq_getD_getElem?, Option.getD_some, e27]; done) | (simp only [List.map_toArray, List.map_cons, List.map_nil, Act.eval, Array.getD_eq_getD_getElem?, Option.getD_some, e27]; rfl)) ?_
                              with_reducible refine (spec_l01Cur_pick.calls g s0_0 t389 t390 4 t395 t396 t397 w0 _ ?side1 ?side2 A17.out).mono ?_
                              (case side1 => repeat (first | (with_reducible first | exact HI0.out | apply IsS92.alloc | apply IsS92.drewN | apply IsS92.drew | apply IsS92.set_1 | apply IsS92.set_2) | exact HI0.out))
                              (case side2 => repeat (first | (with_reducible first | exact HB.out | apply below_alloc | apply pw_below_drewN | apply below_drew1 | refine below_set ?_ (IsS92.ge HI0.out)) | exact HB.out))
                              rintro e w24 ⟨rfl, hi, hb, hk⟩
                              refine ⟨_, rfl, ?_⟩
                              have n0_ := Aside0.mk (KeepBut.trans (by repeat (first | (with_reducible first | exact HK.out | apply KeepBut.set_ | apply keep_drewN | apply keep_drew | apply keep_alloc) | exact HK.out)) hk (.inl rfl))
                              have n1_ := Aside0.mk (hb)
                              have n2_ := Aside0.mk (hi)
                              have z_HO387 := fun (h0_ : b 1 = true) => (show Kd.R Kd.string 9 w24 w.heap.size (fun _ => True) v386 y385 from by first | exact (Kd.R_mono (Kd.R_keep (IsS92.apart (show IsS92 w0 _ g s0_0 t389 t390 from by repeat (first | (with_reducible first | exact HI0.out | apply IsS92.alloc | apply IsS92.drewN | apply IsS92.drew | apply IsS92.set_1 | apply IsS92.set_2) | exact HI0.out)) (by (with_reducible repeat (first | apply Kd.R_alloc | apply Kd.R_drewN | apply Kd.R_drew)); exact (Q_HO387 h0_)) (by decide)) hk (fun _ h => h.2)) (fun _ h => h.1)) | exact Kd.R_mono (Kd.R_mono (Kd.R_keep (IsS92.apart (show IsS92 w0 _ g s0_0 t389 t390 from by repeat (first | (with_reducible first | exact HI0.out | apply IsS92.alloc | apply IsS92.drewN | apply IsS92.drew | apply IsS92.set_1 | apply IsS92.set_2) | exact HI0.out)) (by (with_reducible repeat (first | apply Kd.R_alloc | apply Kd.R_drewN | apply Kd.R_drew)); exact (Q_HO387 h0_)) (by decide)) hk (fun _ h => h.2)) (fun _ h => h.1)) (fun _ h_ => by first | trivial | exact h_ | exact h_.1))
                              have z_HO394 := fun (h0_ : b 7 = true) => (show Kd.R Kd.string 9 w24 w.heap.size (fun _ => True) v393 y392 from by first | exact (Kd.R_mono (Kd.R_keep (IsS92.apart (show IsS92 w0 _ g s0_0 t389 t390 from by repeat (first | (with_reducible first | exact HI0.out | apply IsS92.alloc | apply IsS92.drewN | apply IsS92.drew | apply IsS92.set_1 | apply IsS92.set_2) | exact HI0.out)) (by (with_reducible repeat (first | apply Kd.R_alloc | apply Kd.R_drewN | apply Kd.R_drew)); exact (Q_HO394 h0_)) (by decide)) hk (fun _ h => h.2)) (fun _ h => h.1)) | exact Kd.R_mono (Kd.R_mono (Kd.R_keep (IsS92.apart (show IsS92 w0 _ g s0_0 t389 t390 from by repeat (first | (with_reducible first | exact HI0.out | apply IsS92.alloc | apply IsS92.drewN | apply IsS92.drew | apply IsS92.set_1 | apply IsS92.set_2) | exact HI0.out)) (by (with_reducible repeat (first | apply Kd.R_alloc | apply Kd.R_drewN | apply Kd.R_drew)); exact (Q_HO394 h0_)) (by decide)) hk (fun _ h => h.2)) (fun _ h => h.1)) (fun _ h_ => by first | trivial | exact h_ | exact h_.1))
                              clear HK
                              clear HB
                              clear HI0
                              have HK := n0_
                              have HB := n1_
                              have HI0 := n2_
                              clear n0_ n1_ n2_
                              (try clear hb)
                              (try clear hb2)
                              (try clear hk)
                              (try clear hi)
                              refine hK.out _ _ ⟨v386, adz_v386, v393, adz_v393, m4_, m10_, (by rw [ha.out]; exact putSel_upk 6 hb_ rfl rfl rfl), fun h0_ => absurd ((hon 3 (by kernel_rfl)).symm.trans h0_) (by decide), (by repeat (first | (with_reducible first | exact HK.out | apply KeepBut.set_ | apply keep_drewN | apply keep_drew | apply keep_alloc) | exact HK.out)), (by repeat (first | (with_reducible first | exact HB.out | apply below_alloc | apply pw_below_drewN | apply below_drew1 | refine below_set ?_ (IsS92.ge HI0.out)) | exact HB.out)), z_HO387, Q_HA_HO387, fun _ h1_ => absurd ((up_self b 9).symm.trans h1_) (by decide), z_HO394, Q_HA_HO394, fun _ => (by repeat (first | (with_reducible first | exact HI0.out | apply IsS92.alloc | apply IsS92.drewN | apply IsS92.drew | apply IsS92.set_1 | apply IsS92.set_2) | exact HI0.out)), Q_X4_, fun h0_ => absurd ((hoff 10 (by kernel_rfl)).symm.trans h0_) (by decide)⟩
                            refine steps_cons ?_ ?_
                            · rintro b a w' ⟨v386, adz_v386, v393, adz_v393, m4_, m10_, ha, Q_HI0, Q_HK, Q_HB, Q_HO387, Q_HA_HO387, Q_HI0_e3, Q_HO394, Q_HA_HO394, Q_HI0_e9, Q_X4_, Q_X10_⟩ hb_ hon hoff
                              refine ⟨_, rfl, fun K hK => ?_⟩
                              have e26 : a.tmps[26]? = some (v393) := by rw [ha]; exact putSel_on (e := (7, 26, v393)) 5 rfl rfl (hon 7 (by kernel_rfl)) rfl
                              have e28 : a.tmps[28]? = some (.int .i64 t395) := by rw [ha]; exact putSel_on (e := (9, 28, .int .i64 t395)) 6 rfl rfl (hon 9 (by kernel_rfl)) rfl
                              replace ha := Aside0.mk ha
                              have HK := Aside0.mk Q_HK
                              have HB := Aside0.mk Q_HB
                              have HO394 := Aside0.mk (Q_HO394 (hon 7 (by kernel_rfl)))
                              have HA_HO394 := Aside0.mk (Q_HA_HO394 (hon 7 (by kernel_rfl)))
                              have HI0 := Aside0.mk (Q_HI0_e9 (hon 9 (by kernel_rfl)))
                              obtain ⟨c_, hv_⟩ := HA_HO394.out
                              rw [hv_] at e26
                              refine value_ (w1 := w') (v := .pointer (some (adz_v393.add (t395).toNat))) (by rfl) rfl ?_ ?_
                              · go_simp
                                (try simp only [i64_w])
                                try first | rfl | (have hz_ := c5; (try have hy1_ := of_eq_true c1b0); (try have hy2_ := of_eq_true c2b0); (try have hy3_ := of_eq_true c3b0); (try have hy4_ := of_eq_true c4b0); (try have hy5_ := of_eq_true c5b0); (try simp only [ByteArray.size_append, ByteArray.size_extract] at hz_); omega) | (have hz_ := c16; (try have hy10_ := of_eq_true c10b0); (try have hy11_ := of_eq_true c11b0); (try have hy12_ := of_eq_true c12b0); (try have hy13_ := of_eq_true c13b0); (try have hy14_ := of_eq_true c14b0); (try have hy15_ := of_eq_true c15b0); (try have hy16_ := of_eq_true c16b0); (try simp only [ByteArray.size_append, ByteArray.size_extract] at hz_); omega) | (have hz_ := c20; (try have hy14_ := of_eq_true c14b0); (try have hy15_ := of_eq_true c15b0); (try have hy16_ := of_eq_true c16b0); (try have hy17_ := of_eq_true c17b0); (try have hy18_ := of_eq_true c18b0); (try have hy19_ := of_eq_true c19b0); (try have hy20_ := of_eq_true c20b0); (try simp only [ByteArray.size_append, ByteArray.size_extract] at hz_); omega)
                              refine hK.out _ _ ⟨v386, adz_v386, v393, adz_v393, m4_, (.pointer (some (adz_v393.add (t395).toNat))), (by rw [ha.out]; exact putSel_upk 7 hb_ rfl rfl rfl), fun h0_ => absurd ((hon 3 (by kernel_rfl)).symm.trans h0_) (by decide), Q_HK, Q_HB, Q_HO387, Q_HA_HO387, fun _ h1_ => absurd ((hon 9 (by kernel_rfl)).symm.trans h1_) (by decide), Q_HO394, Q_HA_HO394, Q_HI0_e9, Q_X4_, fun _ => rfl⟩
                            refine steps_cons ?_ ?_
                            · rintro b a w' ⟨v386, adz_v386, v393, adz_v393, m4_, m10_, ha, Q_HI0, Q_HK, Q_HB, Q_HO387, Q_HA_HO387, Q_HI0_e3, Q_HO394, Q_HA_HO394, Q_HI0_e9, Q_X4_, Q_X10_⟩ hb_ hon hoff
                              refine ⟨_, rfl, fun K hK => ?_⟩
                              have e29 : a.tmps[29]? = some (m10_) := by rw [ha]; exact putSel_on (e := (10, 29, m10_)) 7 rfl rfl (hon 10 (by kernel_rfl)) rfl
                              rw [Q_X10_ (hon 10 (by kernel_rfl))] at e29
                              replace ha := Aside0.mk ha
                              have HK := Aside0.mk Q_HK
                              have HB := Aside0.mk Q_HB
                              have HO394 := Aside0.mk (Q_HO394 (hon 7 (by kernel_rfl)))
                              have HA_HO394 := Aside0.mk (Q_HA_HO394 (hon 7 (by kernel_rfl)))
                              have HI0 := Aside0.mk (Q_HI0_e9 (hon 9 (by kernel_rfl)))
                              obtain ⟨c_, hv_⟩ := HA_HO394.out
                              have hF_ := HO394.out
                              rw [hv_] at hF_
                              obtain ⟨ad_, ea_, hx_⟩ := Kd.at_string (Kd.R_reads' hF_).2.2 t395 (of_eq_true pi398) (of_eq_true qi398)
                              cases ea_
                              refine value_ (w1 := w') (v := .string (rdOf ByteArray.empty y392 t395)) (by rfl) rfl ?_ ?_
                              · go_simp
                                (try simp only [i64_w])
                                try first | rfl | (have hz_ := c5; (try have hy1_ := of_eq_true c1b0); (try have hy2_ := of_eq_true c2b0); (try have hy3_ := of_eq_true c3b0); (try have hy4_ := of_eq_true c4b0); (try have hy5_ := of_eq_true c5b0); (try simp only [ByteArray.size_append, ByteArray.size_extract] at hz_); omega) | (have hz_ := c16; (try have hy10_ := of_eq_true c10b0); (try have hy11_ := of_eq_true c11b0); (try have hy12_ := of_eq_true c12b0); (try have hy13_ := of_eq_true c13b0); (try have hy14_ := of_eq_true c14b0); (try have hy15_ := of_eq_true c15b0); (try have hy16_ := of_eq_true c16b0); (try simp only [ByteArray.size_append, ByteArray.size_extract] at hz_); omega) | (have hz_ := c20; (try have hy14_ := of_eq_true c14b0); (try have hy15_ := of_eq_true c15b0); (try have hy16_ := of_eq_true c16b0); (try have hy17_ := of_eq_true c17b0); (try have hy18_ := of_eq_true c18b0); (try have hy19_ := of_eq_true c19b0); (try have hy20_ := of_eq_true c20b0); (try simp only [ByteArray.size_append, ByteArray.size_extract] at hz_); omega)
                              refine hK.out _ _ ⟨v386, adz_v386, v393, adz_v393, m4_, m10_, (by rw [ha.out]; exact putSel_upk 8 hb_ rfl rfl rfl), fun h0_ => absurd ((hon 3 (by kernel_rfl)).symm.trans h0_) (by decide), Q_HK, Q_HB, Q_HO387, Q_HA_HO387, fun _ h1_ => absurd ((hon 9 (by kernel_rfl)).symm.trans h1_) (by decide), Q_HO394, Q_HA_HO394, Q_HI0_e9, Q_X4_, Q_X10_⟩
                            refine steps_cons ?_ ?_
                            · rintro b a w' ⟨v386, adz_v386, v393, adz_v393, m4_, m10_, ha, Q_HI0, Q_HK, Q_HB, Q_HO387, Q_HA_HO387, Q_HI0_e3, Q_HO394, Q_HA_HO394, Q_HI0_e9, Q_X4_, Q_X10_⟩ hb_ hon hoff
                              refine ⟨_, rfl, fun K hK => ?_⟩
                              have e25 : a.tmps[25]? = some (.string (x3_1 ++ (rdOf ByteArray.empty y385 t388))) := by rw [ha]; exact putSel_on (e := (6, 25, .string (x3_1 ++ (rdOf ByteArray.empty y385 t388)))) 4 rfl rfl (hon 6 (by kernel_rfl)) rfl
                              have e30 : a.tmps[30]? = some (.string (rdOf ByteArray.empty y392 t395)) := by rw [ha]; exact putSel_on (e := (11, 30, .string (rdOf ByteArray.empty y392 t395))) 8 rfl rfl (hon 11 (by kernel_rfl)) rfl
                              replace ha := Aside0.mk ha
                              have HK := Aside0.mk Q_HK
                              have HB := Aside0.mk Q_HB
                              have HO387 := Aside0.mk (Q_HO387 (hon 1 (by kernel_rfl)))
                              have HA_HO387 := Aside0.mk (Q_HA_HO387 (hon 1 (by kernel_rfl)))
                              have HO394 := Aside0.mk (Q_HO394 (hon 7 (by kernel_rfl)))
                              have HA_HO394 := Aside0.mk (Q_HA_HO394 (hon 7 (by kernel_rfl)))
                              have HI0 := Aside0.mk (Q_HI0_e9 (hon 9 (by kernel_rfl)))
                              refine value_ (w1 := w') (v := .string ((x3_1 ++ (rdOf ByteArray.empty y385 t388)) ++ (rdOf ByteArray.empty y392 t395))) (by rfl) rfl ?_ ?_
                              · go_simp
                                (try simp only [i64_w])
                                try first | rfl | (have hz_ := c5; (try have hy1_ := of_eq_true c1b0); (try have hy2_ := of_eq_true c2b0); (try have hy3_ := of_eq_true c3b0); (try have hy4_ := of_eq_true c4b0); (try have hy5_ := of_eq_true c5b0); (try simp only [ByteArray.size_append, ByteArray.size_extract] at hz_); omega) | (have hz_ := c16; (try have hy10_ := of_eq_true c10b0); (try have hy11_ := of_eq_true c11b0); (try have hy12_ := of_eq_true c12b0); (try have hy13_ := of_eq_true c13b0); (try have hy14_ := of_eq_true c14b0); (try have hy15_ := of_eq_true c15b0); (try have hy16_ := of_eq_true c16b0); (try simp only [ByteArray.size_append, ByteArray.size_extract] at hz_); omega) | (have hz_ := c20; (try have hy14_ := of_eq_true c14b0); (try have hy15_ := of_eq_true c15b0); (try have hy16_ := of_eq_true c16b0); (try have hy17_ := of_eq_true c17b0); (try have hy18_ := of_eq_true c18b0); (try have hy19_ := of_eq_true c19b0); (try have hy20_ := of_eq_true c20b0); (try simp only [ByteArray.size_append, ByteArray.size_extract] at hz_); omega)
                              refine hK.out _ _ ⟨v386, adz_v386, v393, adz_v393, m4_, m10_, (by rw [ha.out]; exact putSel_upk 9 hb_ rfl rfl rfl), fun h0_ => absurd ((hon 3 (by kernel_rfl)).symm.trans h0_) (by decide), Q_HK, Q_HB, Q_HO387, Q_HA_HO387, fun _ h1_ => absurd ((hon 9 (by kernel_rfl)).symm.trans h1_) (by decide), Q_HO394, Q_HA_HO394, Q_HI0_e9, Q_X4_, Q_X10_⟩
                            refine steps_cons ?_ ?_
                            · rintro b a w' ⟨v386, adz_v386, v393, adz_v393, m4_, m10_, ha, Q_HI0, Q_HK, Q_HB, Q_HO387, Q_HA_HO387, Q_HI0_e3, Q_HO394, Q_HA_HO394, Q_HI0_e9, Q_X4_, Q_X10_⟩ hb_ hon hoff
                              refine ⟨_, rfl, fun K hK => ?_⟩
                              have e31 : a.tmps[31]? = some (.string ((x3_1 ++ (rdOf ByteArray.empty y385 t388)) ++ (rdOf ByteArray.empty y392 t395))) := by rw [ha]; exact putSel_on (e := (12, 31, .string ((x3_1 ++ (rdOf ByteArray.empty y385 t388)) ++ (rdOf ByteArray.empty y392 t395)))) 9 rfl rfl (hon 12 (by kernel_rfl)) rfl
                              replace ha := Aside0.mk ha
                              have HK := Aside0.mk Q_HK
                              have HB := Aside0.mk Q_HB
                              have HO387 := Aside0.mk (Q_HO387 (hon 1 (by kernel_rfl)))
                              have HA_HO387 := Aside0.mk (Q_HA_HO387 (hon 1 (by kernel_rfl)))
                              have HO394 := Aside0.mk (Q_HO394 (hon 7 (by kernel_rfl)))
                              have HA_HO394 := Aside0.mk (Q_HA_HO394 (hon 7 (by kernel_rfl)))
                              have HI0 := Aside0.mk (Q_HI0_e9 (hon 9 (by kernel_rfl)))
                              refine value_ (w1 := w') (v := .string ((x3_1 ++ (rdOf ByteArray.empty y385 t388)) ++ (rdOf ByteArray.empty y392 t395))) (by rfl) rfl ?_ ?_
                              · go_simp
                                (try simp only [i64_w])
                                try first | rfl | (have hz_ := c5; (try have hy1_ := of_eq_true c1b0); (try have hy2_ := of_eq_true c2b0); (try have hy3_ := of_eq_true c3b0); (try have hy4_ := of_eq_true c4b0); (try have hy5_ := of_eq_true c5b0); (try simp only [ByteArray.size_append, ByteArray.size_extract] at hz_); omega) | (have hz_ := c16; (try have hy10_ := of_eq_true c10b0); (try have hy11_ := of_eq_true c11b0); (try have hy12_ := of_eq_true c12b0); (try have hy13_ := of_eq_true c13b0); (try have hy14_ := of_eq_true c14b0); (try have hy15_ := of_eq_true c15b0); (try have hy16_ := of_eq_true c16b0); (try simp only [ByteArray.size_append, ByteArray.size_extract] at hz_); omega) | (have hz_ := c20; (try have hy14_ := of_eq_true c14b0); (try have hy15_ := of_eq_true c15b0); (try have hy16_ := of_eq_true c16b0); (try have hy17_ := of_eq_true c17b0); (try have hy18_ := of_eq_true c18b0); (try have hy19_ := of_eq_true c19b0); (try have hy20_ := of_eq_true c20b0); (try simp only [ByteArray.size_append, ByteArray.size_extract] at hz_); omega)
                              refine hK.out _ _ ⟨v386, adz_v386, v393, adz_v393, m4_, m10_, (by rw [ha.out]; exact putSel_upk 10 hb_ rfl rfl rfl), fun h0_ => absurd ((hon 3 (by kernel_rfl)).symm.trans h0_) (by decide), Q_HK, Q_HB, Q_HO387, Q_HA_HO387, fun _ h1_ => absurd ((hon 9 (by kernel_rfl)).symm.trans h1_) (by decide), Q_HO394, Q_HA_HO394, Q_HI0_e9, Q_X4_, Q_X10_⟩
                            exact steps_nil
                          rintro b a w30 hall ⟨v386, adz_v386, v393, adz_v393, m4_, m10_, ha, Q_HI0, Q_HK, Q_HB, Q_HO387, Q_HA_HO387, Q_HI0_e3, Q_HO394, Q_HA_HO394, Q_HI0_e9, Q_X4_, Q_X10_⟩
                          clear HB HI0 HK
                          have hb1_ := hall 1 (by kernel_rfl)
                          have hb3_ := hall 3 (by kernel_rfl)
                          have hb4_ := hall 4 (by kernel_rfl)
                          have hb5_ := hall 5 (by kernel_rfl)
                          have hb6_ := hall 6 (by kernel_rfl)
                          have hb7_ := hall 7 (by kernel_rfl)
                          have hb9_ := hall 9 (by kernel_rfl)
                          have hb10_ := hall 10 (by kernel_rfl)
                          have hb11_ := hall 11 (by kernel_rfl)
                          have hb12_ := hall 12 (by kernel_rfl)
                          have hb13_ := hall 13 (by kernel_rfl)
                          subst ha
                          obtain rfl := Q_X4_ hb4_
                          obtain rfl := Q_X10_ hb10_
                          simp only [putSel, hb1_, hb3_, hb4_, hb5_, hb6_, hb7_, hb9_, hb10_, hb11_, hb12_, hb13_, if_true, Act.put, List.setIfInBounds_toArray, List.set_cons_zero, List.set_cons_succ]
                          clear Q_HI0
                          have HK := Aside0.mk Q_HK
                          clear Q_HK
                          have HB := Aside0.mk Q_HB
                          clear Q_HB
                          have HO387 := Aside0.mk (Q_HO387 hb1_)
                          clear Q_HO387
                          have HA_HO387 := Aside0.mk (Q_HA_HO387 hb1_)
                          clear Q_HA_HO387
                          clear Q_HI0_e3
                          have HO394 := Aside0.mk (Q_HO394 hb7_)
                          clear Q_HO394
                          have HA_HO394 := Aside0.mk (Q_HA_HO394 hb7_)
                          clear Q_HA_HO394
                          have HI0 := Aside0.mk (Q_HI0_e9 hb9_)
                          clear Q_HI0_e9
                          clear hall hb1_ hb3_ hb4_ hb5_ hb6_ hb7_ hb9_ hb10_ hb11_ hb12_ hb13_
                          obtain ⟨co31, eo31⟩ := HA_HO387.out
                          clear HA_HO387
                          subst eo31
                          obtain ⟨co32, eo32⟩ := HA_HO394.out
                          clear HA_HO394
                          subst eo32
                          try go_wp2
                          go_roundg k1
                          case measure => have := HK1.out; omega
                          case rel => exact ⟨((x3_1 ++ (rdOf ByteArray.empty y385 t388)) ++ (rdOf ByteArray.empty y392 t395)), (wrap64 (x4_1 - 1)), (t396), (t397), (by first | rfl | (simp; done) | (simp [*]; done)), (by first | rfl | (simp; done) | (simp [*]; done)), H', ⟨by have := HK1.out; omega⟩, ⟨by repeat (first | (with_reducible first | exact HI0.out | apply IsS92.alloc | apply IsS92.drewN | apply IsS92.drew | apply IsS92.set_1 | apply IsS92.set_2) | exact HI0.out)⟩, ⟨by repeat (first | (with_reducible first | exact HK.out | apply KeepBut.set_ | apply keep_drewN | apply keep_drew | apply keep_alloc) | exact HK.out)⟩, ⟨by repeat (first | (with_reducible first | exact HB.out | apply below_alloc | apply pw_below_drewN | apply below_drew1 | refine below_set ?_ (IsS92.ge HI0.out)) | exact HB.out)⟩⟩
                        · rw [if_neg c20] at H
                          exact absurd H (by simp)
                      · rw [if_neg c19] at H
                        exact absurd H (by simp)
                    · rw [if_neg c18] at H
                      exact absurd H (by simp)
                  · rw [if_neg c16] at H
                    exact absurd H (by simp)
                · rw [if_neg c15] at H
                  exact absurd H (by simp)
              · rw [if_neg c14] at H
                exact absurd H (by simp)
            · rw [if_neg c12] at H
              have c12b0 : decide (0 < x4_1) = false := decide_eq_false c12
              clear c12
              simp only [Option.some.injEq, Prod.mk.injEq] at H
              obtain ⟨rfl, rfl, rfl⟩ := H
              go_wp2
              go_ret
              exact ⟨by first | rfl | (simp [errW_none, errW_some] <;> rfl) | (simp [*, errW_none, errW_some] <;> rfl), by repeat (first | (with_reducible first | exact HI0.out | apply IsS92.alloc | apply IsS92.drewN | apply IsS92.drew | apply IsS92.set_1 | apply IsS92.set_2) | exact HI0.out), by repeat (first | (with_reducible first | exact HB.out | apply below_alloc | apply pw_below_drewN | apply below_drew1 | refine below_set ?_ (IsS92.ge HI0.out)) | exact HB.out), by repeat (first | (with_reducible first | exact HK.out | apply KeepBut.set_ | apply keep_drewN | apply keep_drew | apply keep_alloc) | exact HK.out)⟩
      · rw [if_neg c5] at H
        exact absurd H (by simp)
    · rw [if_neg c4] at H
      exact absurd H (by simp)
  · rw [if_neg c3] at H
    exact absurd H (by simp)
end Go.Proofs.YtebadckdihgklaaDoor.Pb
end

-- Cut by prune.py, a program of this session, out of the texts of this claim: Lean checks it.
import Derived.Test.YtebadckdihgklaaDoorVtbPbx0
import Derived.Test.YtebadckdihgklaaDoorVtbPbx6
section
namespace Go.Proofs.YtebadckdihgklaaDoor.Pb
open Go.RowKit Go.Proofs.YtebadckdihgklaaDoorW.PrintWords Go.Proofs.YtebadckdihgklaaDoorW.PrintLast Go.Proofs.YtebadckdihgklaaDoorW.PrintMore
attribute [local go_sem] max2_int min2_int max_two min_two max_three min_three max_four min_four   -- for this text's walks alone
set_option linter.unusedVariables false
set_option linter.unusedSimpArgs false
mutual
def spec_Tokens.l0 : Nat → ByteArray → List (S54) → List (S54) → Int → Option ((List (S54)) × Int × Int)
  | 0, _, _, _, _ => none
  | k + 1, x0, x5, x6, x7 => if x7 < (x0.size : Int) then (if 0 ≤ x7 then (if (bt x0 x7) = 32 then (spec_Tokens.j1 k x0 x5 x6 x7 (bt x0 x7) (wrap64 (x7 + 1)) true 0 (⟨#[]⟩ : ByteArray) x7) else (if (bt x0 x7) = 9 then (spec_Tokens.j1 k x0 x5 x6 x7 (bt x0 x7) (wrap64 (x7 + 1)) true 0 (⟨#[]⟩ : ByteArray) x7) else (if (bt x0 x7) = 10 then (spec_Tokens.j1 k x0 x5 x6 x7 (bt x0 x7) (wrap64 (x7 + 1)) true 0 (⟨#[]⟩ : ByteArray) x7) else (spec_Tokens.j1 k x0 x5 x6 x7 (bt x0 x7) (wrap64 (x7 + 1)) ((bt x0 x7) == 13) 0 (⟨#[]⟩ : ByteArray) x7)))) else (none)) else (some (x6, 0, 0))
def spec_Tokens.j1 : Nat → ByteArray → List (S54) → List (S54) → Int → Int → Int → Bool → Int → ByteArray → Int → Option ((List (S54)) × Int × Int)
  | 0, _, _, _, _, _, _, _, _, _, _ => none
  | k + 1, x0, x5, x6, x7, x8, x10, x44, x466000, x466001, x466002 => if x44 = true then (spec_Tokens.l0 k x0 x5 x6 (wrap64 (x7 + 1))) else (if x8 = 47 then (if (wrap64 (x7 + 1)) < (x0.size : Int) then (if 0 ≤ (wrap64 (x7 + 1)) then (spec_Tokens.j2 k x0 x5 x6 x7 x8 x10 ((bt x0 (wrap64 (x7 + 1))) == 47) x466000 x466001 x466002) else (none)) else (spec_Tokens.j2 k x0 x5 x6 x7 x8 x10 false x466000 x466001 x466002)) else (spec_Tokens.j2 k x0 x5 x6 x7 x8 x10 false x466000 x466001 x466002))
def spec_Tokens.j2 : Nat → ByteArray → List (S54) → List (S54) → Int → Int → Int → Bool → Int → ByteArray → Int → Option ((List (S54)) × Int × Int)
  | 0, _, _, _, _, _, _, _, _, _, _ => none
  | k + 1, x0, x5, x6, x7, x8, x10, x61, x466000, x466001, x466002 => if x61 = true then (spec_Tokens.l1 k x0 x5 x6 x7) else ((spec_l01Small.f x8).bind fun t466 => (if t466 = true then (spec_Tokens.j4 k x0 x5 x6 x7 x8 x10 true x466000 x466001 x466002) else ((spec_l01Big.f x8).bind fun t467 => (spec_Tokens.j4 k x0 x5 x6 x7 x8 x10 t467 x466000 x466001 x466002))))
def spec_Tokens.l1 : Nat → ByteArray → List (S54) → List (S54) → Int → Option ((List (S54)) × Int × Int)
  | 0, _, _, _, _ => none
  | k + 1, x0, x5, x6, x7 => if x7 < (x0.size : Int) then (if 0 ≤ x7 then (if (bt x0 x7) = 10 then (spec_Tokens.l0 k x0 x5 x6 x7) else (spec_Tokens.l1 k x0 x5 x6 (wrap64 (x7 + 1)))) else (none)) else (spec_Tokens.l0 k x0 x5 x6 x7)
def spec_Tokens.j4 : Nat → ByteArray → List (S54) → List (S54) → Int → Int → Int → Bool → Int → ByteArray → Int → Option ((List (S54)) × Int × Int)
  | 0, _, _, _, _, _, _, _, _, _, _ => none
  | k + 1, x0, x5, x6, x7, x8, x10, x90, x466000, x466001, x466002 => if x90 = true then (spec_Tokens.l2 k x0 x5 x6 x7 x8 x10 x466000 x466001 x466002) else ((spec_l01Digit.f x8).bind fun t476 => (if t476 = true then (spec_Tokens.l3 k x0 x5 x6 x7 x10 x466000 x466001 x466002) else (if x8 = 34 then (spec_Tokens.l4 k x0 x5 x6 x7 x10 x466000 x466001 x466002) else (if 0 ≤ x7 then (if x7 ≤ (x0.size : Int) then ((spec_l03Sign.f k (x0.extract (x7 : Int).toNat x0.size)).bind fun t496 => (if t496.toList = ([] : List UInt8) then (some (x5, x7, 2)) else (if x7 ≤ (wrap64 (x7 + (t496.size : Int))) then (if (wrap64 (x7 + (t496.size : Int))) ≤ (x0.size : Int) then (if x6.length < 4398046511104 then (spec_Tokens.l0 k x0 x5 (x6 ++ [(⟨5, x0.extract (x7 : Int).toNat ((wrap64 (x7 + (t496.size : Int))) : Int).toNat, x466002⟩ : S54)]) (wrap64 (x7 + (t496.size : Int)))) else (none)) else (none)) else (none)))) else (none)) else (none)))))
def spec_Tokens.j6 : Nat → ByteArray → List (S54) → List (S54) → Int → Int → Int → Int → ByteArray → Int → Option ((List (S54)) × Int × Int)
  | 0, _, _, _, _, _, _, _, _, _ => none
  | k + 1, x0, x5, x6, x7, x8, x10, x466000, x466001, x466002 => if (wrap64 (x10 - x7)) > 20 then (some (x5, x7, 2)) else ((spec_l01Big.f x8).bind fun t469 => (if t469 = true then (if 0 ≤ x7 then (if x7 ≤ x10 then (if x10 ≤ (x0.size : Int) then (if x6.length < 4398046511104 then (spec_Tokens.l0 k x0 x5 (x6 ++ [(⟨2, x0.extract (x7 : Int).toNat (x10 : Int).toNat, x466002⟩ : S54)]) x10) else (none)) else (none)) else (none)) else (none)) else (if 0 ≤ x7 then (if x7 ≤ x10 then (if x10 ≤ (x0.size : Int) then (if x6.length < 4398046511104 then (spec_Tokens.l0 k x0 x5 (x6 ++ [(⟨1, x0.extract (x7 : Int).toNat (x10 : Int).toNat, x466002⟩ : S54)]) x10) else (none)) else (none)) else (none)) else (none))))
def spec_Tokens.l2 : Nat → ByteArray → List (S54) → List (S54) → Int → Int → Int → Int → ByteArray → Int → Option ((List (S54)) × Int × Int)
  | 0, _, _, _, _, _, _, _, _, _ => none
  | k + 1, x0, x5, x6, x7, x8, x10, x466000, x466001, x466002 => if x10 < (x0.size : Int) then (if 0 ≤ x10 then ((spec_l01Letter.f (bt x0 x10)).bind fun t468 => (if t468 = true then (spec_Tokens.l2 k x0 x5 x6 x7 x8 (wrap64 (x10 + 1)) x466000 x466001 x466002) else (spec_Tokens.j6 k x0 x5 x6 x7 x8 x10 x466000 x466001 x466002))) else (none)) else (spec_Tokens.j6 k x0 x5 x6 x7 x8 x10 x466000 x466001 x466002)
def spec_Tokens.l3 : Nat → ByteArray → List (S54) → List (S54) → Int → Int → Int → ByteArray → Int → Option ((List (S54)) × Int × Int)
  | 0, _, _, _, _, _, _, _, _ => none
  | k + 1, x0, x5, x6, x7, x10, x466000, x466001, x466002 => if x10 < (x0.size : Int) then (if 0 ≤ x10 then ((spec_l01Digit.f (bt x0 x10)).bind fun t477 => (if t477 = true then (spec_Tokens.l3 k x0 x5 x6 x7 (wrap64 (x10 + 1)) x466000 x466001 x466002) else (if 0 ≤ x7 then (if x7 ≤ x10 then (if x10 ≤ (x0.size : Int) then ((spec_l01Number.f k (x0.extract (x7 : Int).toNat (x10 : Int).toNat)).bind fun bt478 => (if bt478.2 = true then (if x6.length < 4398046511104 then (spec_Tokens.l0 k x0 x5 (x6 ++ [(⟨3, x0.extract (x7 : Int).toNat (x10 : Int).toNat, x466002⟩ : S54)]) x10) else (none)) else (some (x5, x7, 4)))) else (none)) else (none)) else (none)))) else (none)) else (if 0 ≤ x7 then (if x7 ≤ x10 then (if x10 ≤ (x0.size : Int) then ((spec_l01Number.f k (x0.extract (x7 : Int).toNat (x10 : Int).toNat)).bind fun bt483 => (if bt483.2 = true then (if x6.length < 4398046511104 then (spec_Tokens.l0 k x0 x5 (x6 ++ [(⟨3, x0.extract (x7 : Int).toNat (x10 : Int).toNat, x466002⟩ : S54)]) x10) else (none)) else (some (x5, x7, 4)))) else (none)) else (none)) else (none))
def spec_Tokens.l4 : Nat → ByteArray → List (S54) → List (S54) → Int → Int → Int → ByteArray → Int → Option ((List (S54)) × Int × Int)
  | 0, _, _, _, _, _, _, _, _ => none
  | k + 1, x0, x5, x6, x7, x10, x466000, x466001, x466002 => if x10 < (x0.size : Int) then (if 0 ≤ x10 then (if (bt x0 x10) = 34 then (if x10 = (x0.size : Int) then (some (x5, x7, 3)) else (if 0 ≤ x7 then (if x7 ≤ (wrap64 (x10 + 1)) then (if (wrap64 (x10 + 1)) ≤ (x0.size : Int) then ((spec_TermKind.f k (x0.extract (x7 : Int).toNat ((wrap64 (x10 + 1)) : Int).toNat)).bind fun t488 => (if t488 = 2 then (if x6.length < 4398046511104 then (spec_Tokens.l0 k x0 x5 (x6 ++ [(⟨4, x0.extract (x7 : Int).toNat ((wrap64 (x10 + 1)) : Int).toNat, x466002⟩ : S54)]) (wrap64 (x10 + 1))) else (none)) else (some (x5, x7, 3)))) else (none)) else (none)) else (none))) else (spec_Tokens.l4 k x0 x5 x6 x7 (wrap64 (x10 + 1)) x466000 x466001 x466002)) else (none)) else (if x10 = (x0.size : Int) then (some (x5, x7, 3)) else (if 0 ≤ x7 then (if x7 ≤ (wrap64 (x10 + 1)) then (if (wrap64 (x10 + 1)) ≤ (x0.size : Int) then ((spec_TermKind.f k (x0.extract (x7 : Int).toNat ((wrap64 (x10 + 1)) : Int).toNat)).bind fun t492 => (if t492 = 2 then (if x6.length < 4398046511104 then (spec_Tokens.l0 k x0 x5 (x6 ++ [(⟨4, x0.extract (x7 : Int).toNat ((wrap64 (x10 + 1)) : Int).toNat, x466002⟩ : S54)]) (wrap64 (x10 + 1))) else (none)) else (some (x5, x7, 3)))) else (none)) else (none)) else (none)))
end
def spec_Tokens.f (k : Nat) (a0 : ByteArray) : Option ((List (S54)) × Int × Int) := (some (([] : List (S54)) : List (S54))).bind fun y459 => (if (a0.size : Int) > 3000 then (some (y459, 0, 1)) else (spec_Tokens.l0 k a0 y459 (([] : List (S54))) 0))
set_option maxHeartbeats 8000000 in
set_option maxRecDepth 100000 in
theorem spec_Tokens.calls (k : Nat) (a0 : ByteArray) (r1 : List (S54)) (r2 : Int) (r3 : Int) (w : World) (h : spec_Tokens.f k a0 = some (r1, r2, r3)) :
    Calls Tryd.prog 50 #[.string a0] w fun e w' => ∃ v0_ : Value, e = .returned (.tuple #[v0_, .int .i64 r2, .int .i64 r3]) ∧ Kd.R k54 54 w' w.heap.size (fun _ => True) v0_ r1 ∧ Below w.heap.size w w' := by
  have hu54 := Tryd.underlying54
  have HB := Aside0.mk (Below.refl w.heap.size w)
  have H : ((some (([] : List (S54)) : List (S54))).bind fun y459 => (if (a0.size : Int) > 3000 then (some (y459, 0, 1)) else (spec_Tokens.l0 k a0 y459 (([] : List (S54))) 0))) = some (r1, r2, r3) := h
  clear h
  obtain ⟨y459, hy459⟩ : ∃ y_ : List (S54), y_ = (([] : List (S54))) := ⟨_, rfl⟩
  replace H : (if (a0.size : Int) > 3000 then (some (y459, 0, 1)) else (spec_Tokens.l0 k a0 y459 (([] : List (S54))) 0)) = some (r1, r2, r3) := by first | (rw [hy459]; with_reducible exact H) | (have H2_ := (Option.bind_some _ _).symm.trans H; rw [hy459]; with_reducible exact H2_) | (have H2_ := (Option.bind_some _ _).symm.trans H; with_reducible exact H2_) | with_reducible exact H | (rw [hy459]; exact H) | exact H
  have Ny459 := Aside0.mk hy459
  clear hy459
  by_cases c2 : (a0.size : Int) > 3000
  · as_aux_lemma =>
    rw [if_pos c2] at H
    have c2b0 : decide (3000 < (a0.size : Int)) = true := decide_eq_true c2
    have c2b1 : decide (3000 < a0.size) = true := decide_eq_true (by omega)
    clear c2
    simp only [Option.some.injEq, Prod.mk.injEq] at H
    obtain ⟨rfl, rfl, rfl⟩ := H
    go_enter Tryd.func50, Tryd.ntmps50
    go_wp2_with (first | ((with_reducible refine gate_dst (N := 14) rfl ?_); (try (refine gate_guard (by rfl) ?_; dsimp only)); refine Kd.R_lit k54 _ 54 ?hg (N := 14) ?hd (xs := ([] : List (S54))) (inner := []) (ok := fun _ => True) (okp := fun _ => True) ?hr ?hp (fun _ hk => hk) trivial (Below.refl _ _) (Nat.le_refl _) (by simp) ?_; (case hd => rfl); (case hg => rfl); (case hr => first | (go_simp; done) | (go_simp; rfl)); (case hp => exact (Reps.none _ _)); intro v460 w3 ho4 hb hg_ hnew_; clear hg_ hnew_; (first | rw [← Ny459.out] at ho4 | (simp only [Int.reduceToNat] at ho4; rw [← Ny459.out] at ho4)); have n0_ := Aside0.mk (Kd.R_lower ho4 (below_size (by repeat (first | (with_reducible first | exact HB.out | apply below_alloc | apply pw_below_drewN | apply below_drew1) | exact HB.out)))); have n1_ := Aside0.mk (below_step (by repeat (first | (with_reducible first | exact HB.out | apply below_alloc | apply pw_below_drewN | apply below_drew1) | exact HB.out)) hb); clear HB; have HO461 := n0_; have HB := n1_; clear n0_ n1_; clear hb ho4))
    go_ret3
    exact ⟨_, by first | rfl | (simp [errW_none, errW_some] <;> rfl) | (simp [*, errW_none, errW_some] <;> rfl), by (with_reducible repeat (first | apply Kd.R_alloc | apply Kd.R_drewN | apply Kd.R_drew)); exact HO461.out, by repeat (first | (with_reducible first | exact HB.out | apply below_alloc | apply pw_below_drewN | apply below_drew1) | exact HB.out)⟩
  · as_aux_lemma =>
    rw [if_neg c2] at H
    have c2b0 : decide (3000 < (a0.size : Int)) = false := decide_eq_false c2
    have c2b1 : decide (3000 < a0.size) = false := decide_eq_false (by omega)
    clear c2
    obtain ⟨y462, hy462⟩ : ∃ y_ : List (S54), y_ = (([] : List (S54))) := ⟨_, rfl⟩
    replace H : (spec_Tokens.l0 k a0 y459 y462 0) = some (r1, r2, r3) := by first | (rw [hy462]; with_reducible exact H) | (have H2_ := (Option.bind_some _ _).symm.trans H; rw [hy462]; with_reducible exact H2_) | (have H2_ := (Option.bind_some _ _).symm.trans H; with_reducible exact H2_) | with_reducible exact H | (rw [hy462]; exact H) | exact H
    have Ny462 := Aside0.mk hy462
    clear hy462
    have H' := Aside0.mk H
    clear H
    go_enter Tryd.func50, Tryd.ntmps50
    go_wp2_with (first | ((with_reducible refine gate_dst (N := 14) rfl ?_); (try (refine gate_guard (by rfl) ?_; dsimp only)); refine Kd.R_lit k54 _ 54 ?hg (N := 14) ?hd (xs := ([] : List (S54))) (inner := []) (ok := fun _ => True) (okp := fun _ => True) ?hr ?hp (fun _ hk => hk) trivial (Below.refl _ _) (Nat.le_refl _) (by simp) ?_; (case hd => rfl); (case hg => rfl); (case hr => first | (go_simp; done) | (go_simp; rfl)); (case hp => exact (Reps.none _ _)); intro v460 w5 ho6 hb hg_ hnew_; clear hg_ hnew_; (first | rw [← Ny459.out] at ho6 | (simp only [Int.reduceToNat] at ho6; rw [← Ny459.out] at ho6)); have n0_ := Aside0.mk (Kd.R_lower ho6 (below_size (by repeat (first | (with_reducible first | exact HB.out | apply below_alloc | apply pw_below_drewN | apply below_drew1) | exact HB.out)))); have n1_ := Aside0.mk (below_step (by repeat (first | (with_reducible first | exact HB.out | apply below_alloc | apply pw_below_drewN | apply below_drew1) | exact HB.out)) hb); clear HB; have HO461 := n0_; have HB := n1_; clear n0_ n1_; clear hb ho6) | ((with_reducible refine gate_dst (N := 19) rfl ?_); (try (refine gate_guard (by rfl) ?_; dsimp only)); refine Kd.R_lit k54 _ 54 ?hg (N := 19) ?hd (xs := ([] : List (S54))) (inner := []) (ok := fun _ => True) (okp := fun _ => True) ?hr ?hp (fun _ hk => hk) trivial (Below.refl _ _) (Nat.le_refl _) (by simp) ?_; (case hd => rfl); (case hg => rfl); (case hr => first | (go_simp; done) | (go_simp; rfl)); (case hp => exact (Reps.none _ _)); intro v463 w7 ho8 hb hg_ hnew_; clear hg_ hnew_; (first | rw [← Ny462.out] at ho8 | (simp only [Int.reduceToNat] at ho8; rw [← Ny462.out] at ho8)); have n0_ := Aside0.mk (Kd.R_elder' (by (with_reducible repeat (first | apply Kd.R_alloc | apply Kd.R_drewN | apply Kd.R_drew)); exact HO461.out) (Kd.R_base ho8) hb); have n1_ := Aside0.mk (Kd.R_lower (Kd.R_new' ho8 (Kd.R_lt (by (with_reducible repeat (first | apply Kd.R_alloc | apply Kd.R_drewN | apply Kd.R_drew)); exact HO461.out))) (below_size (by repeat (first | (with_reducible first | exact HB.out | apply below_alloc | apply pw_below_drewN | apply below_drew1) | exact HB.out)))); have n2_ := Aside0.mk (below_step (by repeat (first | (with_reducible first | exact HB.out | apply below_alloc | apply pw_below_drewN | apply below_drew1) | exact HB.out)) hb); clear HO461; clear HB; have HO461 := n0_; have HO464 := n1_; have HB := n2_; clear n0_ n1_ n2_; clear hb ho8))
    go_loopg [6, 7] k (fun kq v6 v7 w' => ∃ (x6_1 : List (S54)) (x7_1 : Int), v7 = .int .i64 x7_1 ∧ Aside0 (spec_Tokens.l0 kq a0 y459 x6_1 x7_1 = some (r1, r2, r3)) ∧ Aside0 (kq ≤ k) ∧ Aside0 (Kd.R k54 54 w' w.heap.size (fun k_ => some k_ ≠ (v6 : Value).ownBlock) v460 y459) ∧ Aside0 (Kd.R k54 54 w' w.heap.size (fun k_ => some k_ ≠ (v460 : Value).ownBlock) v6 x6_1) ∧ Aside0 (Below w.heap.size w w'))
    case atStart => exact ⟨(y462), (0), (by first | rfl | (simp; done) | (simp [*]; done)), H', ⟨Nat.le_refl _⟩, ⟨by (with_reducible repeat (first | apply Kd.R_alloc | apply Kd.R_drewN | apply Kd.R_drew)); exact Kd.R_mono HO461.out (fun _ hk => hk.2)⟩, ⟨by (with_reducible repeat (first | apply Kd.R_alloc | apply Kd.R_drewN | apply Kd.R_drew)); exact Kd.R_mono HO464.out (fun _ hk => hk.2)⟩, ⟨by repeat (first | (with_reducible first | exact HB.out | apply below_alloc | apply pw_below_drewN | apply below_drew1) | exact HB.out)⟩⟩
    case round =>
      clear H'
      try clear c2
      try clear c2b0
      try clear c2b1
      try clear p2
      try clear c5
      obtain ⟨x6_1, x7_1, rfl, HA, HK1, HO_5, HO_6, HB⟩ := hrel
      cases gk with
      | zero => exact absurd HA.out (by simp [spec_Tokens.l0])
      | succ k1 =>
        have H := HA.out
        clear HA
        simp only [spec_Tokens.l0] at H
        by_cases c9 : x7_1 < (a0.size : Int)
        · as_aux_lemma =>
          rw [if_pos c9] at H
          have c9b0 : decide (x7_1 < (a0.size : Int)) = true := decide_eq_true c9
          clear c9
          by_cases c10 : 0 ≤ x7_1
          · as_aux_lemma =>
            rw [if_pos c10] at H
            have c10b0 : decide (0 ≤ x7_1) = true := decide_eq_true c10
            clear c10
            have HC12 := Aside0.mk H
            clear H
            have p11 : 0 ≤ (x7_1 : Int) := of_decide_eq_true (by first | (with_reducible assumption) | assumption)
            have q11 : x7_1 < (a0.size : Int) := of_decide_eq_true (by first | (with_reducible assumption) | assumption)
            have hx11 := bt_at a0 x7_1
            replace p11 := eq_true p11
            replace q11 := eq_true q11
            go_upto_region 15 with (first | ((with_reducible refine gate_dst (N := 9) rfl ?_); (try (refine gate_guard (by rfl) ?_; dsimp only)); refine box_event ?hg (N := 9) ?hd (cs := #[.int .i64 0, .string (⟨#[]⟩ : ByteArray), .int .i64 0]) (t := 54) ?hr ?_; (case hd => rfl); (case hg => rfl); (case hr => first | (go_simp; done) | (go_simp; rfl)); intro gb465 hg w13 hbox hb; have n0_ := Aside0.mk (Kd.R_below (Kd.R_elderB (by (with_reducible repeat (first | apply Kd.R_alloc | apply Kd.R_drewN | apply Kd.R_drew)); exact HO_5.out) gb465 (Nat.le_of_eq hg.symm)) hb); have n1_ := Aside0.mk (Kd.R_below (Kd.R_elderB (by (with_reducible repeat (first | apply Kd.R_alloc | apply Kd.R_drewN | apply Kd.R_drew)); exact HO_6.out) gb465 (Nat.le_of_eq hg.symm)) hb); have n2_ := Aside0.mk (below_step (by repeat (first | (with_reducible first | exact HB.out | apply below_alloc | apply pw_below_drewN | apply below_drew1) | exact HB.out)) hb); have n3_ := Aside0.mk (hbox); have n4_ := Aside0.mk ((by rw [hg]; exact (below_size (by repeat (first | (with_reducible first | exact HB.out | apply below_alloc | apply pw_below_drewN | apply below_drew1) | exact HB.out))) : w.heap.size ≤ gb465)); have n5_ := Aside0.mk ((by rw [hg]; exact (below_size (by repeat (first | (with_reducible first | exact HB.out | apply below_alloc | apply pw_below_drewN | apply below_drew1) | exact HB.out))) : w.heap.size ≤ gb465)); clear HO_5; clear HO_6; clear HB; have HO_5 := n0_; have HO_6 := n1_; have HB := n2_; have BK465 := n3_; have GW465 := n4_; have GE465 := n5_; clear n0_ n1_ n2_ n3_ n4_ n5_; clear hb hbox hg; have hcz14_0 : w13.cell? ⟨gb465, 0, none⟩ = some (.int .i64 0) := (blk_cell BK465.out 0).trans rfl; have hcz14_1 : w13.cell? ⟨gb465, 1, none⟩ = some (.string (⟨#[]⟩ : ByteArray)) := (blk_cell BK465.out 1).trans rfl; have hcz14_2 : w13.cell? ⟨gb465, 2, none⟩ = some (.int .i64 0) := (blk_cell BK465.out 2).trans rfl; have hfz14_0 := blk_frozen BK465.out 0; have hfz14_1 := blk_frozen BK465.out 1; have hfz14_2 := blk_frozen BK465.out 2))
            (try simp only [Act.put, List.setIfInBounds_toArray, List.set_cons_zero, List.set_cons_succ])
            go_cut [44] (fun v44 wc => ∃ (kq : Nat) (x44_11 : Bool), v44 = .bool x44_11 ∧ Aside0 (spec_Tokens.j1 kq a0 y459 x6_1 x7_1 (bt a0 x7_1) (wrap64 (x7_1 + 1)) x44_11 0 (⟨#[]⟩ : ByteArray) x7_1 = some (r1, r2, r3)) ∧ Aside0 (kq ≤ k1) ∧ Aside0 (Kd.R k54 54 wc w.heap.size (fun k_ => some k_ ≠ (u6 : Value).ownBlock ∧ k_ ≠ gb465) v460 y459) ∧ Aside0 (Kd.R k54 54 wc w.heap.size (fun k_ => some k_ ≠ (v460 : Value).ownBlock ∧ k_ ≠ gb465) u6 x6_1) ∧ Aside0 (wc.heap[gb465]? = some (.cells #[.int .i64 0, .string (⟨#[]⟩ : ByteArray), .int .i64 x7_1] 54 (0, 0))) ∧ Aside0 (Below w.heap.size w wc))
            case first =>
              have H := HC12.out
              clear HC12
              by_cases c15 : (bt a0 x7_1) = 32
              · as_aux_lemma =>
                rw [if_pos c15] at H
                have c15b0 : ((bt a0 x7_1) == 32) = true := beq_iff_eq.mpr c15
                have c15b1 : ((bt a0 x7_1) != 32) = false := bne_eq_false_iff_eq.mpr c15
                clear c15
                (first | rw [c15b0] | (simp only [i64_w, i32_w]; rw [c15b0]) | skip)
                have H' := Aside0.mk H
                clear H
                go_wp2
                go_meet
                case rel => exact ⟨_, (true), (by first | rfl | (simp; done) | (simp [*]; done)), H', ⟨by have := HK1.out; first | omega | exact Nat.le_refl _⟩, ⟨by (with_reducible repeat (first | apply Kd.R_alloc | apply Kd.R_drewN | apply Kd.R_drew)); exact Kd.R_mono (Kd.R_far (p := ⟨gb465, 2, none⟩) (Kd.R_far (p := ⟨gb465, 1, none⟩) (Kd.R_far (p := ⟨gb465, 0, none⟩) (Kd.R_mono HO_5.out (fun k_ hk => (⟨hk, hk.2⟩ : _ ∧ k_ ≠ gb465))) (fun _ hk => hk.2) (.int .i64 0)) (fun _ hk => hk.2) (.string (⟨#[]⟩ : ByteArray))) (fun _ hk => hk.2) (.int .i64 x7_1)) (fun _ hk => ⟨hk.1.1, hk.1.2⟩)⟩, ⟨by (with_reducible repeat (first | apply Kd.R_alloc | apply Kd.R_drewN | apply Kd.R_drew)); exact Kd.R_mono (Kd.R_far (p := ⟨gb465, 2, none⟩) (Kd.R_far (p := ⟨gb465, 1, none⟩) (Kd.R_far (p := ⟨gb465, 0, none⟩) (Kd.R_mono HO_6.out (fun k_ hk => (⟨hk, hk.2⟩ : _ ∧ k_ ≠ gb465))) (fun _ hk => hk.2) (.int .i64 0)) (fun _ hk => hk.2) (.string (⟨#[]⟩ : ByteArray))) (fun _ hk => hk.2) (.int .i64 x7_1)) (fun _ hk => ⟨hk.1.1, hk.1.2⟩)⟩, ⟨by (with_reducible repeat (first | refine blk_drewN ?_ _ | refine blk_drew ?_ | refine blk_alloc ?_ _)); refine blk_put (cs := #[.int .i64 0, .string (⟨#[]⟩ : ByteArray), .int .i64 0]) ?_ 2 _ rfl; (with_reducible repeat (first | refine blk_drewN ?_ _ | refine blk_drew ?_ | refine blk_alloc ?_ _)); refine blk_put (cs := #[.int .i64 0, .string (⟨#[]⟩ : ByteArray), .int .i64 0]) ?_ 1 _ rfl; (with_reducible repeat (first | refine blk_drewN ?_ _ | refine blk_drew ?_ | refine blk_alloc ?_ _)); refine blk_put (cs := #[.int .i64 0, .string (⟨#[]⟩ : ByteArray), .int .i64 0]) ?_ 0 _ rfl; (with_reducible repeat (first | refine blk_drewN ?_ _ | refine blk_drew ?_ | refine blk_alloc ?_ _)); exact BK465.out⟩, ⟨by repeat (first | (with_reducible first | exact HB.out | apply below_alloc | apply pw_below_drewN | apply below_drew1 | refine below_set ?_ GE465.out) | exact HB.out)⟩⟩
              · as_aux_lemma =>
                rw [if_neg c15] at H
                have c15b0 : ((bt a0 x7_1) == 32) = false := beq_eq_false_iff_ne.mpr c15
                have c15b1 : ((bt a0 x7_1) != 32) = true := bne_iff_ne.mpr c15
                (first | rw [c15b0] | (simp only [i64_w, i32_w]; rw [c15b0]) | skip)
                by_cases c16 : (bt a0 x7_1) = 9
                · as_aux_lemma =>
                  rw [if_pos c16] at H
                  have c16b0 : ((bt a0 x7_1) == 9) = true := beq_iff_eq.mpr c16
                  have c16b1 : ((bt a0 x7_1) != 9) = false := bne_eq_false_iff_eq.mpr c16
                  clear c16
                  have H' := Aside0.mk H
                  clear H
                  go_wp2
                  go_meet
                  case rel => exact ⟨_, (true), (by first | rfl | (simp; done) | (simp [*]; done)), H', ⟨by have := HK1.out; first | omega | exact Nat.le_refl _⟩, ⟨by (with_reducible repeat (first | apply Kd.R_alloc | apply Kd.R_drewN | apply Kd.R_drew)); exact Kd.R_mono (Kd.R_far (p := ⟨gb465, 2, none⟩) (Kd.R_far (p := ⟨gb465, 1, none⟩) (Kd.R_far (p := ⟨gb465, 0, none⟩) (Kd.R_mono HO_5.out (fun k_ hk => (⟨hk, hk.2⟩ : _ ∧ k_ ≠ gb465))) (fun _ hk => hk.2) (.int .i64 0)) (fun _ hk => hk.2) (.string (⟨#[]⟩ : ByteArray))) (fun _ hk => hk.2) (.int .i64 x7_1)) (fun _ hk => ⟨hk.1.1, hk.1.2⟩)⟩, ⟨by (with_reducible repeat (first | apply Kd.R_alloc | apply Kd.R_drewN | apply Kd.R_drew)); exact Kd.R_mono (Kd.R_far (p := ⟨gb465, 2, none⟩) (Kd.R_far (p := ⟨gb465, 1, none⟩) (Kd.R_far (p := ⟨gb465, 0, none⟩) (Kd.R_mono HO_6.out (fun k_ hk => (⟨hk, hk.2⟩ : _ ∧ k_ ≠ gb465))) (fun _ hk => hk.2) (.int .i64 0)) (fun _ hk => hk.2) (.string (⟨#[]⟩ : ByteArray))) (fun _ hk => hk.2) (.int .i64 x7_1)) (fun _ hk => ⟨hk.1.1, hk.1.2⟩)⟩, ⟨by (with_reducible repeat (first | refine blk_drewN ?_ _ | refine blk_drew ?_ | refine blk_alloc ?_ _)); refine blk_put (cs := #[.int .i64 0, .string (⟨#[]⟩ : ByteArray), .int .i64 0]) ?_ 2 _ rfl; (with_reducible repeat (first | refine blk_drewN ?_ _ | refine blk_drew ?_ | refine blk_alloc ?_ _)); refine blk_put (cs := #[.int .i64 0, .string (⟨#[]⟩ : ByteArray), .int .i64 0]) ?_ 1 _ rfl; (with_reducible repeat (first | refine blk_drewN ?_ _ | refine blk_drew ?_ | refine blk_alloc ?_ _)); refine blk_put (cs := #[.int .i64 0, .string (⟨#[]⟩ : ByteArray), .int .i64 0]) ?_ 0 _ rfl; (with_reducible repeat (first | refine blk_drewN ?_ _ | refine blk_drew ?_ | refine blk_alloc ?_ _)); exact BK465.out⟩, ⟨by repeat (first | (with_reducible first | exact HB.out | apply below_alloc | apply pw_below_drewN | apply below_drew1 | refine below_set ?_ GE465.out) | exact HB.out)⟩⟩
                · as_aux_lemma =>
                  rw [if_neg c16] at H
                  have c16b0 : ((bt a0 x7_1) == 9) = false := beq_eq_false_iff_ne.mpr c16
                  have c16b1 : ((bt a0 x7_1) != 9) = true := bne_iff_ne.mpr c16
                  by_cases c17 : (bt a0 x7_1) = 10
                  · as_aux_lemma =>
                    rw [if_pos c17] at H
                    have c17b0 : ((bt a0 x7_1) == 10) = true := beq_iff_eq.mpr c17
                    have c17b1 : ((bt a0 x7_1) != 10) = false := bne_eq_false_iff_eq.mpr c17
                    clear c17
                    have H' := Aside0.mk H
                    clear H
                    go_wp2
                    go_meet
                    case rel => exact ⟨_, (true), (by first | rfl | (simp; done) | (simp [*]; done)), H', ⟨by have := HK1.out; first | omega | exact Nat.le_refl _⟩, ⟨by (with_reducible repeat (first | apply Kd.R_alloc | apply Kd.R_drewN | apply Kd.R_drew)); exact Kd.R_mono (Kd.R_far (p := ⟨gb465, 2, none⟩) (Kd.R_far (p := ⟨gb465, 1, none⟩) (Kd.R_far (p := ⟨gb465, 0, none⟩) (Kd.R_mono HO_5.out (fun k_ hk => (⟨hk, hk.2⟩ : _ ∧ k_ ≠ gb465))) (fun _ hk => hk.2) (.int .i64 0)) (fun _ hk => hk.2) (.string (⟨#[]⟩ : ByteArray))) (fun _ hk => hk.2) (.int .i64 x7_1)) (fun _ hk => ⟨hk.1.1, hk.1.2⟩)⟩, ⟨by (with_reducible repeat (first | apply Kd.R_alloc | apply Kd.R_drewN | apply Kd.R_drew)); exact Kd.R_mono (Kd.R_far (p := ⟨gb465, 2, none⟩) (Kd.R_far (p := ⟨gb465, 1, none⟩) (Kd.R_far (p := ⟨gb465, 0, none⟩) (Kd.R_mono HO_6.out (fun k_ hk => (⟨hk, hk.2⟩ : _ ∧ k_ ≠ gb465))) (fun _ hk => hk.2) (.int .i64 0)) (fun _ hk => hk.2) (.string (⟨#[]⟩ : ByteArray))) (fun _ hk => hk.2) (.int .i64 x7_1)) (fun _ hk => ⟨hk.1.1, hk.1.2⟩)⟩, ⟨by (with_reducible repeat (first | refine blk_drewN ?_ _ | refine blk_drew ?_ | refine blk_alloc ?_ _)); refine blk_put (cs := #[.int .i64 0, .string (⟨#[]⟩ : ByteArray), .int .i64 0]) ?_ 2 _ rfl; (with_reducible repeat (first | refine blk_drewN ?_ _ | refine blk_drew ?_ | refine blk_alloc ?_ _)); refine blk_put (cs := #[.int .i64 0, .string (⟨#[]⟩ : ByteArray), .int .i64 0]) ?_ 1 _ rfl; (with_reducible repeat (first | refine blk_drewN ?_ _ | refine blk_drew ?_ | refine blk_alloc ?_ _)); refine blk_put (cs := #[.int .i64 0, .string (⟨#[]⟩ : ByteArray), .int .i64 0]) ?_ 0 _ rfl; (with_reducible repeat (first | refine blk_drewN ?_ _ | refine blk_drew ?_ | refine blk_alloc ?_ _)); exact BK465.out⟩, ⟨by repeat (first | (with_reducible first | exact HB.out | apply below_alloc | apply pw_below_drewN | apply below_drew1 | refine below_set ?_ GE465.out) | exact HB.out)⟩⟩
                  · as_aux_lemma =>
                    rw [if_neg c17] at H
                    have c17b0 : ((bt a0 x7_1) == 10) = false := beq_eq_false_iff_ne.mpr c17
                    have c17b1 : ((bt a0 x7_1) != 10) = true := bne_iff_ne.mpr c17
                    have H' := Aside0.mk H
                    clear H
                    go_wp2
                    go_meet
                    case rel => exact ⟨_, (((bt a0 x7_1) == 13)), (by first | rfl | (simp; done) | (simp [*]; done)), H', ⟨by have := HK1.out; first | omega | exact Nat.le_refl _⟩, ⟨by (with_reducible repeat (first | apply Kd.R_alloc | apply Kd.R_drewN | apply Kd.R_drew)); exact Kd.R_mono (Kd.R_far (p := ⟨gb465, 2, none⟩) (Kd.R_far (p := ⟨gb465, 1, none⟩) (Kd.R_far (p := ⟨gb465, 0, none⟩) (Kd.R_mono HO_5.out (fun k_ hk => (⟨hk, hk.2⟩ : _ ∧ k_ ≠ gb465))) (fun _ hk => hk.2) (.int .i64 0)) (fun _ hk => hk.2) (.string (⟨#[]⟩ : ByteArray))) (fun _ hk => hk.2) (.int .i64 x7_1)) (fun _ hk => ⟨hk.1.1, hk.1.2⟩)⟩, ⟨by (with_reducible repeat (first | apply Kd.R_alloc | apply Kd.R_drewN | apply Kd.R_drew)); exact Kd.R_mono (Kd.R_far (p := ⟨gb465, 2, none⟩) (Kd.R_far (p := ⟨gb465, 1, none⟩) (Kd.R_far (p := ⟨gb465, 0, none⟩) (Kd.R_mono HO_6.out (fun k_ hk => (⟨hk, hk.2⟩ : _ ∧ k_ ≠ gb465))) (fun _ hk => hk.2) (.int .i64 0)) (fun _ hk => hk.2) (.string (⟨#[]⟩ : ByteArray))) (fun _ hk => hk.2) (.int .i64 x7_1)) (fun _ hk => ⟨hk.1.1, hk.1.2⟩)⟩, ⟨by (with_reducible repeat (first | refine blk_drewN ?_ _ | refine blk_drew ?_ | refine blk_alloc ?_ _)); refine blk_put (cs := #[.int .i64 0, .string (⟨#[]⟩ : ByteArray), .int .i64 0]) ?_ 2 _ rfl; (with_reducible repeat (first | refine blk_drewN ?_ _ | refine blk_drew ?_ | refine blk_alloc ?_ _)); refine blk_put (cs := #[.int .i64 0, .string (⟨#[]⟩ : ByteArray), .int .i64 0]) ?_ 1 _ rfl; (with_reducible repeat (first | refine blk_drewN ?_ _ | refine blk_drew ?_ | refine blk_alloc ?_ _)); refine blk_put (cs := #[.int .i64 0, .string (⟨#[]⟩ : ByteArray), .int .i64 0]) ?_ 0 _ rfl; (with_reducible repeat (first | refine blk_drewN ?_ _ | refine blk_drew ?_ | refine blk_alloc ?_ _)); exact BK465.out⟩, ⟨by repeat (first | (with_reducible first | exact HB.out | apply below_alloc | apply pw_below_drewN | apply below_drew1 | refine below_set ?_ GE465.out) | exact HB.out)⟩⟩
            case rest =>
              clear HC12
              try clear c1
              try clear p1
              try clear q1
              try clear hx1
              try clear c2
              try clear c2b0
              try clear c2b1
              try clear p2
              try clear c5
              try clear p6
              try clear c9
              try clear c9b0
              try clear c10
              try clear c10b0
              try clear p11
              try clear q11
              try clear hx11
              try clear c15
              try clear c15b0
              try clear c15b1
              try clear c16
              try clear c16b0
              try clear c16b1
              try clear c17
              try clear c17b0
              try clear c17b1
              try clear hcz14_0
              try clear hcz14_1
              try clear hcz14_2
              try clear hfz14_0
              try clear hfz14_1
              try clear hfz14_2
              try clear p11
              try clear p2
              try clear q11
              obtain ⟨kq, x44_11, rfl, HA, HJ11, HO_5, HO_6, BK465, HB⟩ := hcut
              cases kq with
              | zero => exact absurd HA.out (by simp [spec_Tokens.j1])
              | succ kj11 =>
                have H := HA.out
                clear HA
                simp only [spec_Tokens.j1] at H
                by_cases c18 : x44_11 = true
                · subst c18
                  have H1 : (spec_Tokens.l0 kj11 a0 y459 x6_1 (wrap64 (x7_1 + 1))) = some (r1, r2, r3) := by rw [if_pos rfl] at H; exact H
                  clear H
                  have H := H1
                  clear H1
                  have H' := Aside0.mk H
                  clear H
                  go_wp2
                  go_roundg kj11
                  case measure => have := HK1.out; have := HJ11.out; omega
                  case rel => exact ⟨(x6_1), (wrap64 (x7_1 + 1)), (by first | rfl | (simp; done) | (simp [*]; done)), H', ⟨by have := HK1.out; have := HJ11.out; omega⟩, ⟨by (with_reducible repeat (first | apply Kd.R_alloc | apply Kd.R_drewN | apply Kd.R_drew)); exact Kd.R_mono HO_5.out (fun _ hk => hk.1)⟩, ⟨by (with_reducible repeat (first | apply Kd.R_alloc | apply Kd.R_drewN | apply Kd.R_drew)); exact Kd.R_mono HO_6.out (fun _ hk => hk.1)⟩, ⟨by repeat (first | (with_reducible first | exact HB.out | apply below_alloc | apply pw_below_drewN | apply below_drew1 | refine below_set ?_ GE465.out) | exact HB.out)⟩⟩
                · replace c18 := Bool.eq_false_iff.mpr c18
                  subst c18
                  have H1 : (if (bt a0 x7_1) = 47 then (if (wrap64 (x7_1 + 1)) < (a0.size : Int) then (if 0 ≤ (wrap64 (x7_1 + 1)) then (spec_Tokens.j2 kj11 a0 y459 x6_1 x7_1 (bt a0 x7_1) (wrap64 (x7_1 + 1)) ((bt a0 (wrap64 (x7_1 + 1))) == 47) 0 (⟨#[]⟩ : ByteArray) x7_1) else (none)) else (spec_Tokens.j2 kj11 a0 y459 x6_1 x7_1 (bt a0 x7_1) (wrap64 (x7_1 + 1)) false 0 (⟨#[]⟩ : ByteArray) x7_1)) else (spec_Tokens.j2 kj11 a0 y459 x6_1 x7_1 (bt a0 x7_1) (wrap64 (x7_1 + 1)) false 0 (⟨#[]⟩ : ByteArray) x7_1)) = some (r1, r2, r3) := by rw [if_neg (show ¬ (false = true) by decide)] at H; exact H
                  clear H
                  have H := H1
                  clear H1
                  have HC19 := Aside0.mk H
                  clear H
                  go_upto_region 17 with (fail)
                  go_cut [61] (fun v61 wc => ∃ (kq : Nat) (x61_18 : Bool), v61 = .bool x61_18 ∧ Aside0 (spec_Tokens.j2 kq a0 y459 x6_1 x7_1 (bt a0 x7_1) (wrap64 (x7_1 + 1)) x61_18 0 (⟨#[]⟩ : ByteArray) x7_1 = some (r1, r2, r3)) ∧ Aside0 (kq ≤ kj11) ∧ Aside0 (Kd.R k54 54 wc w.heap.size (fun k_ => some k_ ≠ (u6 : Value).ownBlock ∧ k_ ≠ gb465) v460 y459) ∧ Aside0 (Kd.R k54 54 wc w.heap.size (fun k_ => some k_ ≠ (v460 : Value).ownBlock ∧ k_ ≠ gb465) u6 x6_1) ∧ Aside0 (wc.heap[gb465]? = some (.cells #[.int .i64 0, .string (⟨#[]⟩ : ByteArray), .int .i64 x7_1] 54 (0, 0))) ∧ Aside0 (Below w.heap.size w wc))
                  case first =>
                    have H := HC19.out
                    clear HC19
                    by_cases c20 : (bt a0 x7_1) = 47
                    · as_aux_lemma =>
                      rw [if_pos c20] at H
                      have c20b0 : ((bt a0 x7_1) == 47) = true := beq_iff_eq.mpr c20
                      have c20b1 : ((bt a0 x7_1) != 47) = false := bne_eq_false_iff_eq.mpr c20
                      clear c20
                      (first | rw [c20b0] | (simp only [i64_w, i32_w]; rw [c20b0]) | skip)
                      by_cases c21 : (wrap64 (x7_1 + 1)) < (a0.size : Int)
                      · as_aux_lemma =>
                        rw [if_pos c21] at H
                        have c21b0 : decide ((wrap64 (x7_1 + 1)) < (a0.size : Int)) = true := decide_eq_true c21
                        clear c21
                        obtain ⟨ji22, hji22⟩ : ∃ j_ : Int, (wrap64 (x7_1 + 1)) = j_ := ⟨_, rfl⟩
                        replace H : (if 0 ≤ (ji22) then (spec_Tokens.j2 kj11 a0 y459 x6_1 x7_1 (bt a0 x7_1) (ji22) ((bt a0 (ji22)) == 47) 0 (⟨#[]⟩ : ByteArray) x7_1) else (none)) = some (r1, r2, r3) := by first | (rw [hji22] at H; exact H) | (simp only [hji22] at H ⊢; exact H)
                        (try rw [hji22] at c21b0)
                        have hji22w : (IntKind.i64.wrap (x7_1 + 1)) = ji22 := (i64_w _).trans hji22
                        by_cases c23 : 0 ≤ (ji22)
                        · as_aux_lemma =>
                          rw [if_pos c23] at H
                          have c23b0 : decide (0 ≤ (ji22)) = true := decide_eq_true c23
                          clear c23
                          have H' := Aside0.mk H
                          clear H
                          have p24 : 0 ≤ ((ji22) : Int) := of_decide_eq_true (by first | (with_reducible assumption) | assumption)
                          have q24 : (ji22) < (a0.size : Int) := of_decide_eq_true (by first | (with_reducible assumption) | assumption)
                          have hx24 := bt_at a0 (ji22)
                          replace p24 := eq_true p24
                          replace q24 := eq_true q24
                          go_wp2
                          go_meet
                          case rel => exact ⟨_, (((bt a0 (ji22)) == 47)), (by first | rfl | (simp; done) | (simp only [← hji22] <;> (first | rfl | simp)) | (simp [*]; done)), (by first | exact H' | (have h_ := H'; simp only [← hji22] at h_ ⊢; exact h_)), ⟨by have := HK1.out; have := HJ11.out; first | omega | exact Nat.le_refl _⟩, ⟨by (with_reducible repeat (first | apply Kd.R_alloc | apply Kd.R_drewN | apply Kd.R_drew)); exact HO_5.out⟩, ⟨by (with_reducible repeat (first | apply Kd.R_alloc | apply Kd.R_drewN | apply Kd.R_drew)); exact HO_6.out⟩, ⟨by (with_reducible repeat (first | refine blk_drewN ?_ _ | refine blk_drew ?_ | refine blk_alloc ?_ _)); exact BK465.out⟩, ⟨by repeat (first | (with_reducible first | exact HB.out | apply below_alloc | apply pw_below_drewN | apply below_drew1 | refine below_set ?_ GE465.out) | exact HB.out)⟩⟩
                        · as_aux_lemma =>
                          rw [if_neg c23] at H
                          exact absurd H (by simp)
                      · as_aux_lemma =>
                        rw [if_neg c21] at H
                        have c21b0 : decide ((wrap64 (x7_1 + 1)) < (a0.size : Int)) = false := decide_eq_false c21
                        clear c21
                        have H' := Aside0.mk H
                        clear H
                        go_wp2
                        go_meet
                        case rel => exact ⟨_, (false), (by first | rfl | (simp; done) | (simp [*]; done)), H', ⟨by have := HK1.out; have := HJ11.out; first | omega | exact Nat.le_refl _⟩, ⟨by (with_reducible repeat (first | apply Kd.R_alloc | apply Kd.R_drewN | apply Kd.R_drew)); exact HO_5.out⟩, ⟨by (with_reducible repeat (first | apply Kd.R_alloc | apply Kd.R_drewN | apply Kd.R_drew)); exact HO_6.out⟩, ⟨by (with_reducible repeat (first | refine blk_drewN ?_ _ | refine blk_drew ?_ | refine blk_alloc ?_ _)); exact BK465.out⟩, ⟨by repeat (first | (with_reducible first | exact HB.out | apply below_alloc | apply pw_below_drewN | apply below_drew1 | refine below_set ?_ GE465.out) | exact HB.out)⟩⟩
                    · as_aux_lemma =>
                      rw [if_neg c20] at H
                      have c20b0 : ((bt a0 x7_1) == 47) = false := beq_eq_false_iff_ne.mpr c20
                      have c20b1 : ((bt a0 x7_1) != 47) = true := bne_iff_ne.mpr c20
                      (first | rw [c20b0] | (simp only [i64_w, i32_w]; rw [c20b0]) | skip)
                      have H' := Aside0.mk H
                      clear H
                      go_wp2
                      go_meet
                      case rel => exact ⟨_, (false), (by first | rfl | (simp; done) | (simp [*]; done)), H', ⟨by have := HK1.out; have := HJ11.out; first | omega | exact Nat.le_refl _⟩, ⟨by (with_reducible repeat (first | apply Kd.R_alloc | apply Kd.R_drewN | apply Kd.R_drew)); exact HO_5.out⟩, ⟨by (with_reducible repeat (first | apply Kd.R_alloc | apply Kd.R_drewN | apply Kd.R_drew)); exact HO_6.out⟩, ⟨by (with_reducible repeat (first | refine blk_drewN ?_ _ | refine blk_drew ?_ | refine blk_alloc ?_ _)); exact BK465.out⟩, ⟨by repeat (first | (with_reducible first | exact HB.out | apply below_alloc | apply pw_below_drewN | apply below_drew1 | refine below_set ?_ GE465.out) | exact HB.out)⟩⟩
                  case rest =>
                    clear HC19
                    try clear c1
                    try clear p1
                    try clear q1
                    try clear hx1
                    try clear c2
                    try clear c2b0
                    try clear c2b1
                    try clear p2
                    try clear q2
                    try clear hx2
                    try clear c5
                    try clear p6
                    try clear c9
                    try clear c9b0
                    try clear c10
                    try clear c10b0
                    try clear p11
                    try clear q11
                    try clear hx11
                    try clear c15
                    try clear c15b0
                    try clear c15b1
                    try clear c16
                    try clear c16b0
                    try clear c16b1
                    try clear c17
                    try clear c17b0
                    try clear c17b1
                    try clear c18
                    try clear c20
                    try clear c20b0
                    try clear c20b1
                    try clear c21
                    try clear c21b0
                    try clear c23
                    try clear c23b0
                    try clear p24
                    try clear q24
                    try clear hx24
                    try clear hcz14_0
                    try clear hcz14_1
                    try clear hcz14_2
                    try clear hfz14_0
                    try clear hfz14_1
                    try clear hfz14_2
                    try clear p1
                    try clear p11
                    try clear p2
                    try clear p24
                    try clear p6
                    try clear q1
                    try clear q11
                    try clear q24
                    obtain ⟨kq, x61_18, rfl, HA, HJ18, HO_5, HO_6, BK465, HB⟩ := hcut
                    cases kq with
                    | zero => exact absurd HA.out (by simp [spec_Tokens.j2])
                    | succ kj18 =>
                      have H := HA.out
                      clear HA
                      simp only [spec_Tokens.j2] at H
                      by_cases c25 : x61_18 = true
                      · subst c25
                        have H1 : (spec_Tokens.l1 kj18 a0 y459 x6_1 x7_1) = some (r1, r2, r3) := by rw [if_pos rfl] at H; exact H
                        clear H
                        have H := H1
                        clear H1
                        have H' := Aside0.mk H
                        clear H
                        go_wp2
                        go_loopg [7] kj18 (fun kq v7 w' => ∃ (x7_4 : Int), v7 = .int .i64 x7_4 ∧ Aside0 (spec_Tokens.l1 kq a0 y459 x6_1 x7_4 = some (r1, r2, r3)) ∧ Aside0 (kq ≤ kj18) ∧ Aside0 (Kd.R k54 54 w' w.heap.size (fun k_ => some k_ ≠ (u6 : Value).ownBlock ∧ k_ ≠ gb465) v460 y459) ∧ Aside0 (Kd.R k54 54 w' w.heap.size (fun k_ => some k_ ≠ (v460 : Value).ownBlock ∧ k_ ≠ gb465) u6 x6_1) ∧ Aside0 (w'.heap[gb465]? = some (.cells #[.int .i64 0, .string (⟨#[]⟩ : ByteArray), .int .i64 x7_1] 54 (0, 0))) ∧ Aside0 (Below w.heap.size w w'))
                        case atStart => exact ⟨(x7_1), (by first | rfl | (simp; done) | (simp [*]; done)), H', ⟨Nat.le_refl _⟩, ⟨by (with_reducible repeat (first | apply Kd.R_alloc | apply Kd.R_drewN | apply Kd.R_drew)); exact HO_5.out⟩, ⟨by (with_reducible repeat (first | apply Kd.R_alloc | apply Kd.R_drewN | apply Kd.R_drew)); exact HO_6.out⟩, ⟨by (with_reducible repeat (first | refine blk_drewN ?_ _ | refine blk_drew ?_ | refine blk_alloc ?_ _)); exact BK465.out⟩, ⟨by repeat (first | (with_reducible first | exact HB.out | apply below_alloc | apply pw_below_drewN | apply below_drew1 | refine below_set ?_ GE465.out) | exact HB.out)⟩⟩
                        case round =>
                          clear H'
                          try clear c1
                          try clear p1
                          try clear q1
                          try clear hx1
                          try clear c2
                          try clear c2b0
                          try clear c2b1
                          try clear p2
                          try clear q2
                          try clear hx2
                          try clear c5
                          try clear p6
                          try clear c9
                          try clear c9b0
                          try clear c10
                          try clear c10b0
                          try clear p11
                          try clear q11
                          try clear hx11
                          try clear c15
                          try clear c15b0
                          try clear c15b1
                          try clear c16
                          try clear c16b0
                          try clear c16b1
                          try clear c17
                          try clear c17b0
                          try clear c17b1
                          try clear c18
                          try clear c20
                          try clear c20b0
                          try clear c20b1
                          try clear c21
                          try clear c21b0
                          try clear c23
                          try clear c23b0
                          try clear p24
                          try clear q24
                          try clear hx24
                          try clear c25
                          try clear hcz14_0
                          try clear hcz14_1
                          try clear hcz14_2
                          try clear hfz14_0
                          try clear hfz14_1
                          try clear hfz14_2
                          try clear p1
                          try clear p11
                          try clear p2
                          try clear p24
                          try clear p6
                          try clear q1
                          try clear q11
                          try clear q2
                          try clear q24
                          obtain ⟨x7_4, rfl, HA, HK4, HO_5, HO_6, BK465, HB⟩ := hrel
                          cases gk with
                          | zero => exact absurd HA.out (by simp [spec_Tokens.l1])
                          | succ k4 =>
                            have H := HA.out
                            clear HA
                            simp only [spec_Tokens.l1] at H
                            by_cases c26 : x7_4 < (a0.size : Int)
                            · as_aux_lemma =>
                              rw [if_pos c26] at H
                              have c26b0 : decide (x7_4 < (a0.size : Int)) = true := decide_eq_true c26
                              clear c26
                              by_cases c27 : 0 ≤ x7_4
                              · as_aux_lemma =>
                                rw [if_pos c27] at H
                                have c27b0 : decide (0 ≤ x7_4) = true := decide_eq_true c27
                                clear c27
                                by_cases c29 : (bt a0 x7_4) = 10
                                · as_aux_lemma =>
                                  rw [if_pos c29] at H
                                  have c29b0 : ((bt a0 x7_4) == 10) = true := beq_iff_eq.mpr c29
                                  have c29b1 : ((bt a0 x7_4) != 10) = false := bne_eq_false_iff_eq.mpr c29
                                  clear c29
                                  have H' := Aside0.mk H
                                  clear H
                                  have p28 : 0 ≤ (x7_4 : Int) := of_decide_eq_true (by first | (with_reducible assumption) | assumption)
                                  have q28 : x7_4 < (a0.size : Int) := of_decide_eq_true (by first | (with_reducible assumption) | assumption)
                                  have hx28 := bt_at a0 x7_4
                                  replace p28 := eq_true p28
                                  replace q28 := eq_true q28
                                  go_wp2
                                  go_roundg k4
                                  case measure => have := HK1.out; have := HJ11.out; have := HJ18.out; have := HK4.out; omega
                                  case rel => exact ⟨(x6_1), (x7_4), (by first | rfl | (simp; done) | (simp [*]; done)), H', ⟨by have := HK1.out; have := HJ11.out; have := HJ18.out; have := HK4.out; omega⟩, ⟨by (with_reducible repeat (first | apply Kd.R_alloc | apply Kd.R_drewN | apply Kd.R_drew)); exact Kd.R_mono HO_5.out (fun _ hk => hk.1)⟩, ⟨by (with_reducible repeat (first | apply Kd.R_alloc | apply Kd.R_drewN | apply Kd.R_drew)); exact Kd.R_mono HO_6.out (fun _ hk => hk.1)⟩, ⟨by repeat (first | (with_reducible first | exact HB.out | apply below_alloc | apply pw_below_drewN | apply below_drew1 | refine below_set ?_ GE465.out) | exact HB.out)⟩⟩
                                · as_aux_lemma =>
                                  rw [if_neg c29] at H
                                  have c29b0 : ((bt a0 x7_4) == 10) = false := beq_eq_false_iff_ne.mpr c29
                                  have c29b1 : ((bt a0 x7_4) != 10) = true := bne_iff_ne.mpr c29
                                  have H' := Aside0.mk H
                                  clear H
                                  have p28 : 0 ≤ (x7_4 : Int) := of_decide_eq_true (by first | (with_reducible assumption) | assumption)
                                  have q28 : x7_4 < (a0.size : Int) := of_decide_eq_true (by first | (with_reducible assumption) | assumption)
                                  have hx28 := bt_at a0 x7_4
                                  replace p28 := eq_true p28
                                  replace q28 := eq_true q28
                                  go_wp2
                                  go_roundg k4
                                  case measure => have := HK1.out; have := HJ11.out; have := HJ18.out; have := HK4.out; omega
                                  case rel => exact ⟨(wrap64 (x7_4 + 1)), (by first | rfl | (simp; done) | (simp [*]; done)), H', ⟨by have := HK1.out; have := HJ11.out; have := HJ18.out; have := HK4.out; omega⟩, ⟨by (with_reducible repeat (first | apply Kd.R_alloc | apply Kd.R_drewN | apply Kd.R_drew)); exact HO_5.out⟩, ⟨by (with_reducible repeat (first | apply Kd.R_alloc | apply Kd.R_drewN | apply Kd.R_drew)); exact HO_6.out⟩, ⟨by (with_reducible repeat (first | refine blk_drewN ?_ _ | refine blk_drew ?_ | refine blk_alloc ?_ _)); exact BK465.out⟩, ⟨by repeat (first | (with_reducible first | exact HB.out | apply below_alloc | apply pw_below_drewN | apply below_drew1 | refine below_set ?_ GE465.out) | exact HB.out)⟩⟩
                              · as_aux_lemma =>
                                rw [if_neg c27] at H
                                exact absurd H (by simp)
                            · as_aux_lemma =>
                              rw [if_neg c26] at H
                              have c26b0 : decide (x7_4 < (a0.size : Int)) = false := decide_eq_false c26
                              clear c26
                              have H' := Aside0.mk H
                              clear H
                              go_wp2
                              go_roundg k4
                              case measure => have := HK1.out; have := HJ11.out; have := HJ18.out; have := HK4.out; omega
                              case rel => exact ⟨(x6_1), (x7_4), (by first | rfl | (simp; done) | (simp [*]; done)), H', ⟨by have := HK1.out; have := HJ11.out; have := HJ18.out; have := HK4.out; omega⟩, ⟨by (with_reducible repeat (first | apply Kd.R_alloc | apply Kd.R_drewN | apply Kd.R_drew)); exact Kd.R_mono HO_5.out (fun _ hk => hk.1)⟩, ⟨by (with_reducible repeat (first | apply Kd.R_alloc | apply Kd.R_drewN | apply Kd.R_drew)); exact Kd.R_mono HO_6.out (fun _ hk => hk.1)⟩, ⟨by repeat (first | (with_reducible first | exact HB.out | apply below_alloc | apply pw_below_drewN | apply below_drew1 | refine below_set ?_ GE465.out) | exact HB.out)⟩⟩
                      · replace c25 := Bool.eq_false_iff.mpr c25
                        subst c25
                        have H1 : ((spec_l01Small.f (bt a0 x7_1)).bind fun t466 => (if t466 = true then (spec_Tokens.j4 kj18 a0 y459 x6_1 x7_1 (bt a0 x7_1) (wrap64 (x7_1 + 1)) true 0 (⟨#[]⟩ : ByteArray) x7_1) else ((spec_l01Big.f (bt a0 x7_1)).bind fun t467 => (spec_Tokens.j4 kj18 a0 y459 x6_1 x7_1 (bt a0 x7_1) (wrap64 (x7_1 + 1)) t467 0 (⟨#[]⟩ : ByteArray) x7_1)))) = some (r1, r2, r3) := by rw [if_neg (show ¬ (false = true) by decide)] at H; exact H
                        clear H
                        have H := H1
                        clear H1
                        have HC30 := Aside0.mk H
                        clear H
                        go_upto_region 20 with (fail)
                        go_cut [90] (fun v90 wc => ∃ (kq : Nat) (x90_29 : Bool), v90 = .bool x90_29 ∧ Aside0 (spec_Tokens.j4 kq a0 y459 x6_1 x7_1 (bt a0 x7_1) (wrap64 (x7_1 + 1)) x90_29 0 (⟨#[]⟩ : ByteArray) x7_1 = some (r1, r2, r3)) ∧ Aside0 (kq ≤ kj18) ∧ Aside0 (Kd.R k54 54 wc w.heap.size (fun k_ => some k_ ≠ (u6 : Value).ownBlock ∧ k_ ≠ gb465) v460 y459) ∧ Aside0 (Kd.R k54 54 wc w.heap.size (fun k_ => some k_ ≠ (v460 : Value).ownBlock ∧ k_ ≠ gb465) u6 x6_1) ∧ Aside0 (wc.heap[gb465]? = some (.cells #[.int .i64 0, .string (⟨#[]⟩ : ByteArray), .int .i64 x7_1] 54 (0, 0))) ∧ Aside0 (Below w.heap.size w wc))
                        case first =>
                          have H := HC30.out
                          clear HC30
                          replace H := Option.bind_eq_some_iff.mp H
                          obtain ⟨t466, A310, H⟩ := H
                          replace H : (if t466 = true then (spec_Tokens.j4 kj18 a0 y459 x6_1 x7_1 (bt a0 x7_1) (wrap64 (x7_1 + 1)) true 0 (⟨#[]⟩ : ByteArray) x7_1) else ((spec_l01Big.f (bt a0 x7_1)).bind fun t467 => (spec_Tokens.j4 kj18 a0 y459 x6_1 x7_1 (bt a0 x7_1) (wrap64 (x7_1 + 1)) t467 0 (⟨#[]⟩ : ByteArray) x7_1))) = some (r1, r2, r3) := H
                          have A31 := Aside0.mk A310
                          clear A310
                          by_cases c32 : t466 = true
                          · subst c32
                            have H1 : (spec_Tokens.j4 kj18 a0 y459 x6_1 x7_1 (bt a0 x7_1) (wrap64 (x7_1 + 1)) true 0 (⟨#[]⟩ : ByteArray) x7_1) = some (r1, r2, r3) := by rw [if_pos rfl] at H; exact H
                            clear H
                            have H := H1
                            clear H1
                            have H' := Aside0.mk H
                            clear H
                            go_wp2_with (first | ((with_reducible refine gate_callee (f := 85) rfl ?_); refine goesL_ (some 92) rfl rfl Tryd.func85 (by kernel_rfl) rfl #[.int .u8 (bt a0 x7_1)] rfl (by (try simp only [List.map_toArray, List.map_cons, List.map_nil]); first | done | rfl | (simp only [List.length_drop, List.length_take]; rfl)) ?_; (with_reducible refine (spec_l01Small.calls (bt a0 x7_1) true _ A31.out).mono ?_); rintro e w' ⟨rfl, ⟨nd, rfl⟩⟩; refine ⟨_, rfl, ?_⟩))
                            go_meet
                            case rel => exact ⟨_, (true), (by first | rfl | (simp; done) | (simp [*]; done)), H', ⟨by have := HK1.out; have := HJ11.out; have := HJ18.out; first | omega | exact Nat.le_refl _⟩, ⟨by (with_reducible repeat (first | apply Kd.R_alloc | apply Kd.R_drewN | apply Kd.R_drew)); exact HO_5.out⟩, ⟨by (with_reducible repeat (first | apply Kd.R_alloc | apply Kd.R_drewN | apply Kd.R_drew)); exact HO_6.out⟩, ⟨by (with_reducible repeat (first | refine blk_drewN ?_ _ | refine blk_drew ?_ | refine blk_alloc ?_ _)); exact BK465.out⟩, ⟨by repeat (first | (with_reducible first | exact HB.out | apply below_alloc | apply pw_below_drewN | apply below_drew1 | refine below_set ?_ GE465.out) | exact HB.out)⟩⟩
                          · replace c32 := Bool.eq_false_iff.mpr c32
                            subst c32
                            have H1 : ((spec_l01Big.f (bt a0 x7_1)).bind fun t467 => (spec_Tokens.j4 kj18 a0 y459 x6_1 x7_1 (bt a0 x7_1) (wrap64 (x7_1 + 1)) t467 0 (⟨#[]⟩ : ByteArray) x7_1)) = some (r1, r2, r3) := by rw [if_neg (show ¬ (false = true) by decide)] at H; exact H
                            clear H
                            have H := H1
                            clear H1
                            replace H := Option.bind_eq_some_iff.mp H
                            obtain ⟨t467, A330, H⟩ := H
                            replace H : (spec_Tokens.j4 kj18 a0 y459 x6_1 x7_1 (bt a0 x7_1) (wrap64 (x7_1 + 1)) t467 0 (⟨#[]⟩ : ByteArray) x7_1) = some (r1, r2, r3) := H
                            have A33 := Aside0.mk A330
                            clear A330
                            have H' := Aside0.mk H
                            clear H
                            go_wp2_with (first | ((with_reducible refine gate_callee (f := 85) rfl ?_); refine goesL_ (some 92) rfl rfl Tryd.func85 (by kernel_rfl) rfl #[.int .u8 (bt a0 x7_1)] rfl (by (try simp only [List.map_toArray, List.map_cons, List.map_nil]); first | done | rfl | (simp only [List.length_drop, List.length_take]; rfl)) ?_; (with_reducible refine (spec_l01Small.calls (bt a0 x7_1) false _ A31.out).mono ?_); rintro e w' ⟨rfl, ⟨nd, rfl⟩⟩; refine ⟨_, rfl, ?_⟩) | (go_at_call 86; (with_reducible refine (spec_l01Big.calls (bt a0 x7_1) t467 _ A33.out).mono ?_); rintro e w' ⟨rfl, ⟨nd, rfl⟩⟩))
                            go_meet
                            case rel => exact ⟨_, (t467), (by first | rfl | (simp; done) | (simp [*]; done)), H', ⟨by have := HK1.out; have := HJ11.out; have := HJ18.out; first | omega | exact Nat.le_refl _⟩, ⟨by (with_reducible repeat (first | apply Kd.R_alloc | apply Kd.R_drewN | apply Kd.R_drew)); exact HO_5.out⟩, ⟨by (with_reducible repeat (first | apply Kd.R_alloc | apply Kd.R_drewN | apply Kd.R_drew)); exact HO_6.out⟩, ⟨by (with_reducible repeat (first | refine blk_drewN ?_ _ | refine blk_drew ?_ | refine blk_alloc ?_ _)); exact BK465.out⟩, ⟨by repeat (first | (with_reducible first | exact HB.out | apply below_alloc | apply pw_below_drewN | apply below_drew1 | refine below_set ?_ GE465.out) | exact HB.out)⟩⟩
                        case rest =>
                          clear HC30
                          try clear c1
                          try clear p1
                          try clear q1
                          try clear hx1
                          try clear c2
                          try clear c2b0
                          try clear c2b1
                          try clear p2
                          try clear q2
                          try clear hx2
                          try clear c3
                          try clear c5
                          try clear p6
                          try clear c8
                          try clear c9
                          try clear c9b0
                          try clear c10
                          try clear c10b0
                          try clear p11
                          try clear q11
                          try clear hx11
                          try clear c15
                          try clear c15b0
                          try clear c15b1
                          try clear c16
                          try clear c16b0
                          try clear c16b1
                          try clear c17
                          try clear c17b0
                          try clear c17b1
                          try clear c18
                          try clear c20
                          try clear c20b0
                          try clear c20b1
                          try clear c21
                          try clear c21b0
                          try clear c23
                          try clear c23b0
                          try clear p24
                          try clear q24
                          try clear hx24
                          try clear c25
                          try clear c26
                          try clear c26b0
                          try clear c27
                          try clear c27b0
                          try clear p28
                          try clear q28
                          try clear hx28
                          try clear c29
                          try clear c29b0
                          try clear c29b1
                          try clear c32
                          try clear hcz14_0
                          try clear hcz14_1
                          try clear hcz14_2
                          try clear hfz14_0
                          try clear hfz14_1
                          try clear hfz14_2
                          try clear p1
                          try clear p11
                          try clear p2
                          try clear p24
                          try clear p28
                          try clear p6
                          try clear q1
                          try clear q11
                          try clear q2
                          try clear q24
                          try clear q28
                          obtain ⟨kq, x90_29, rfl, HA, HJ29, HO_5, HO_6, BK465, HB⟩ := hcut
                          cases kq with
                          | zero => exact absurd HA.out (by simp [spec_Tokens.j4])
                          | succ kj29 =>
                            have H := HA.out
                            clear HA
                            simp only [spec_Tokens.j4] at H
                            by_cases c34 : x90_29 = true
                            · subst c34
                              have H1 : (spec_Tokens.l2 kj29 a0 y459 x6_1 x7_1 (bt a0 x7_1) (wrap64 (x7_1 + 1)) 0 (⟨#[]⟩ : ByteArray) x7_1) = some (r1, r2, r3) := by rw [if_pos rfl] at H; exact H
                              clear H
                              have H := H1
                              clear H1
                              have HC35 := Aside0.mk H
                              clear H
                              go_upto_block 5 with (fail)
                              go_cut [10] (fun v10 wc => ∃ (kq : Nat) (x10_34 : Int), v10 = .int .i64 x10_34 ∧ Aside0 (spec_Tokens.j6 kq a0 y459 x6_1 x7_1 (bt a0 x7_1) x10_34 0 (⟨#[]⟩ : ByteArray) x7_1 = some (r1, r2, r3)) ∧ Aside0 (kq ≤ kj29) ∧ Aside0 (Kd.R k54 54 wc w.heap.size (fun k_ => some k_ ≠ (u6 : Value).ownBlock ∧ k_ ≠ gb465) v460 y459) ∧ Aside0 (Kd.R k54 54 wc w.heap.size (fun k_ => some k_ ≠ (v460 : Value).ownBlock ∧ k_ ≠ gb465) u6 x6_1) ∧ Aside0 (wc.heap[gb465]? = some (.cells #[.int .i64 0, .string (⟨#[]⟩ : ByteArray), .int .i64 x7_1] 54 (0, 0))) ∧ Aside0 (Below w.heap.size w wc))
                              case first =>
                                have H := HC35.out
                                clear HC35
                                have H' := Aside0.mk H
                                clear H
                                go_wp2
                                go_loopg [10] kj29 (fun kq v10 w' => ∃ (x10_5 : Int), v10 = .int .i64 x10_5 ∧ Aside0 (spec_Tokens.l2 kq a0 y459 x6_1 x7_1 (bt a0 x7_1) x10_5 0 (⟨#[]⟩ : ByteArray) x7_1 = some (r1, r2, r3)) ∧ Aside0 (kq ≤ kj29) ∧ Aside0 (Kd.R k54 54 w' w.heap.size (fun k_ => some k_ ≠ (u6 : Value).ownBlock ∧ k_ ≠ gb465) v460 y459) ∧ Aside0 (Kd.R k54 54 w' w.heap.size (fun k_ => some k_ ≠ (v460 : Value).ownBlock ∧ k_ ≠ gb465) u6 x6_1) ∧ Aside0 (w'.heap[gb465]? = some (.cells #[.int .i64 0, .string (⟨#[]⟩ : ByteArray), .int .i64 x7_1] 54 (0, 0))) ∧ Aside0 (Below w.heap.size w w'))
                                case atStart => exact ⟨((wrap64 (x7_1 + 1))), (by first | rfl | (simp; done) | (simp [*]; done)), H', ⟨Nat.le_refl _⟩, ⟨by (with_reducible repeat (first | apply Kd.R_alloc | apply Kd.R_drewN | apply Kd.R_drew)); exact HO_5.out⟩, ⟨by (with_reducible repeat (first | apply Kd.R_alloc | apply Kd.R_drewN | apply Kd.R_drew)); exact HO_6.out⟩, ⟨by (with_reducible repeat (first | refine blk_drewN ?_ _ | refine blk_drew ?_ | refine blk_alloc ?_ _)); exact BK465.out⟩, ⟨by repeat (first | (with_reducible first | exact HB.out | apply below_alloc | apply pw_below_drewN | apply below_drew1 | refine below_set ?_ GE465.out) | exact HB.out)⟩⟩
                                case round =>
                                  clear H'
                                  try clear c1
                                  try clear p1
                                  try clear q1
                                  try clear hx1
                                  try clear c2
                                  try clear c2b0
                                  try clear c2b1
                                  try clear p2
                                  try clear q2
                                  try clear hx2
                                  try clear c3
                                  try clear c5
                                  try clear p6
                                  try clear c8
                                  try clear c9
                                  try clear c9b0
                                  try clear c10
                                  try clear c10b0
                                  try clear p11
                                  try clear q11
                                  try clear hx11
                                  try clear c15
                                  try clear c15b0
                                  try clear c15b1
                                  try clear c16
                                  try clear c16b0
                                  try clear c16b1
                                  try clear c17
                                  try clear c17b0
                                  try clear c17b1
                                  try clear c18
                                  try clear c20
                                  try clear c20b0
                                  try clear c20b1
                                  try clear c21
                                  try clear c21b0
                                  try clear c23
                                  try clear c23b0
                                  try clear p24
                                  try clear q24
                                  try clear hx24
                                  try clear c25
                                  try clear c26
                                  try clear c26b0
                                  try clear c27
                                  try clear c27b0
                                  try clear p28
                                  try clear q28
                                  try clear hx28
                                  try clear c29
                                  try clear c29b0
                                  try clear c29b1
                                  try clear c32
                                  try clear c34
                                  try clear hcz14_0
                                  try clear hcz14_1
                                  try clear hcz14_2
                                  try clear hfz14_0
                                  try clear hfz14_1
                                  try clear hfz14_2
                                  try clear p1
                                  try clear p11
                                  try clear p2
                                  try clear p24
                                  try clear p28
                                  try clear p6
                                  try clear q1
                                  try clear q11
                                  try clear q2
                                  try clear q24
                                  try clear q28
                                  obtain ⟨x10_5, rfl, HA, HK5, HO_5, HO_6, BK465, HB⟩ := hrel
                                  cases gk with
                                  | zero => exact absurd HA.out (by simp [spec_Tokens.l2])
                                  | succ k5 =>
                                    have H := HA.out
                                    clear HA
                                    simp only [spec_Tokens.l2] at H
                                    by_cases c36 : x10_5 < (a0.size : Int)
                                    · as_aux_lemma =>
                                      rw [if_pos c36] at H
                                      have c36b0 : decide (x10_5 < (a0.size : Int)) = true := decide_eq_true c36
                                      clear c36
                                      (first | rw [c36b0] | (simp only [i64_w, i32_w]; rw [c36b0]) | skip)
                                      by_cases c37 : 0 ≤ x10_5
                                      · as_aux_lemma =>
                                        rw [if_pos c37] at H
                                        have c37b0 : decide (0 ≤ x10_5) = true := decide_eq_true c37
                                        clear c37
                                        replace H := Option.bind_eq_some_iff.mp H
                                        obtain ⟨t468, A390, H⟩ := H
                                        replace H : (if t468 = true then (spec_Tokens.l2 k5 a0 y459 x6_1 x7_1 (bt a0 x7_1) (wrap64 (x10_5 + 1)) 0 (⟨#[]⟩ : ByteArray) x7_1) else (spec_Tokens.j6 k5 a0 y459 x6_1 x7_1 (bt a0 x7_1) x10_5 0 (⟨#[]⟩ : ByteArray) x7_1)) = some (r1, r2, r3) := H
                                        have A39 := Aside0.mk A390
                                        clear A390
                                        by_cases c40 : t468 = true
                                        · subst c40
                                          have H1 : (spec_Tokens.l2 k5 a0 y459 x6_1 x7_1 (bt a0 x7_1) (wrap64 (x10_5 + 1)) 0 (⟨#[]⟩ : ByteArray) x7_1) = some (r1, r2, r3) := by rw [if_pos rfl] at H; exact H
                                          clear H
                                          have H := H1
                                          clear H1
                                          have H' := Aside0.mk H
                                          clear H
                                          have p38 : 0 ≤ (x10_5 : Int) := of_decide_eq_true (by first | (with_reducible assumption) | assumption)
                                          have q38 : x10_5 < (a0.size : Int) := of_decide_eq_true (by first | (with_reducible assumption) | assumption)
                                          have hx38 := bt_at a0 x10_5
                                          replace p38 := eq_true p38
                                          replace q38 := eq_true q38
                                          go_wp2_with (first | (go_at_call 87; (with_reducible refine (spec_l01Letter.calls (bt a0 x10_5) true _ A39.out).mono ?_); rintro e w' ⟨rfl, ⟨nd, rfl⟩⟩))
                                          go_roundg k5
                                          case measure => have := HK1.out; have := HJ11.out; have := HJ18.out; have := HJ29.out; have := HK5.out; omega
                                          case rel => exact ⟨(wrap64 (x10_5 + 1)), (by first | rfl | (simp; done) | (simp [*]; done)), H', ⟨by have := HK1.out; have := HJ11.out; have := HJ18.out; have := HJ29.out; have := HK5.out; omega⟩, ⟨by (with_reducible repeat (first | apply Kd.R_alloc | apply Kd.R_drewN | apply Kd.R_drew)); exact HO_5.out⟩, ⟨by (with_reducible repeat (first | apply Kd.R_alloc | apply Kd.R_drewN | apply Kd.R_drew)); exact HO_6.out⟩, ⟨by (with_reducible repeat (first | refine blk_drewN ?_ _ | refine blk_drew ?_ | refine blk_alloc ?_ _)); exact BK465.out⟩, ⟨by repeat (first | (with_reducible first | exact HB.out | apply below_alloc | apply pw_below_drewN | apply below_drew1 | refine below_set ?_ GE465.out) | exact HB.out)⟩⟩
                                        · replace c40 := Bool.eq_false_iff.mpr c40
                                          subst c40
                                          have H1 : (spec_Tokens.j6 k5 a0 y459 x6_1 x7_1 (bt a0 x7_1) x10_5 0 (⟨#[]⟩ : ByteArray) x7_1) = some (r1, r2, r3) := by rw [if_neg (show ¬ (false = true) by decide)] at H; exact H
                                          clear H
                                          have H := H1
                                          clear H1
                                          have H' := Aside0.mk H
                                          clear H
                                          have p38 : 0 ≤ (x10_5 : Int) := of_decide_eq_true (by first | (with_reducible assumption) | assumption)
                                          have q38 : x10_5 < (a0.size : Int) := of_decide_eq_true (by first | (with_reducible assumption) | assumption)
                                          have hx38 := bt_at a0 x10_5
                                          replace p38 := eq_true p38
                                          replace q38 := eq_true q38
                                          go_wp2_with (first | (go_at_call 87; (with_reducible refine (spec_l01Letter.calls (bt a0 x10_5) false _ A39.out).mono ?_); rintro e w' ⟨rfl, ⟨nd, rfl⟩⟩))
                                          go_meet
                                          case rel => exact ⟨_, (x10_5), (by first | rfl | (simp; done) | (simp [*]; done)), H', ⟨by have := HK1.out; have := HJ11.out; have := HJ18.out; have := HJ29.out; have := HK5.out; first | omega | exact Nat.le_refl _⟩, ⟨by (with_reducible repeat (first | apply Kd.R_alloc | apply Kd.R_drewN | apply Kd.R_drew)); exact HO_5.out⟩, ⟨by (with_reducible repeat (first | apply Kd.R_alloc | apply Kd.R_drewN | apply Kd.R_drew)); exact HO_6.out⟩, ⟨by (with_reducible repeat (first | refine blk_drewN ?_ _ | refine blk_drew ?_ | refine blk_alloc ?_ _)); exact BK465.out⟩, ⟨by repeat (first | (with_reducible first | exact HB.out | apply below_alloc | apply pw_below_drewN | apply below_drew1 | refine below_set ?_ GE465.out) | exact HB.out)⟩⟩
                                      · as_aux_lemma =>
                                        rw [if_neg c37] at H
                                        exact absurd H (by simp)
                                    · as_aux_lemma =>
                                      rw [if_neg c36] at H
                                      have c36b0 : decide (x10_5 < (a0.size : Int)) = false := decide_eq_false c36
                                      clear c36
                                      (first | rw [c36b0] | (simp only [i64_w, i32_w]; rw [c36b0]) | skip)
                                      have H' := Aside0.mk H
                                      clear H
                                      go_wp2
                                      go_meet
                                      case rel => exact ⟨_, (x10_5), (by first | rfl | (simp; done) | (simp [*]; done)), H', ⟨by have := HK1.out; have := HJ11.out; have := HJ18.out; have := HJ29.out; have := HK5.out; first | omega | exact Nat.le_refl _⟩, ⟨by (with_reducible repeat (first | apply Kd.R_alloc | apply Kd.R_drewN | apply Kd.R_drew)); exact HO_5.out⟩, ⟨by (with_reducible repeat (first | apply Kd.R_alloc | apply Kd.R_drewN | apply Kd.R_drew)); exact HO_6.out⟩, ⟨by (with_reducible repeat (first | refine blk_drewN ?_ _ | refine blk_drew ?_ | refine blk_alloc ?_ _)); exact BK465.out⟩, ⟨by repeat (first | (with_reducible first | exact HB.out | apply below_alloc | apply pw_below_drewN | apply below_drew1 | refine below_set ?_ GE465.out) | exact HB.out)⟩⟩
                              case rest =>
                                clear HC35
                                try clear c1
                                try clear p1
                                try clear q1
                                try clear hx1
                                try clear c2
                                try clear c2b0
                                try clear c2b1
                                try clear p2
                                try clear q2
                                try clear hx2
                                try clear c3
                                try clear p3
                                try clear q3
                                try clear hx3
                                try clear c4
                                try clear c5
                                try clear p6
                                try clear c8
                                try clear c9
                                try clear c9b0
                                try clear c10
                                try clear c10b0
                                try clear p11
                                try clear q11
                                try clear hx11
                                try clear c15
                                try clear c15b0
                                try clear c15b1
                                try clear c16
                                try clear c16b0
                                try clear c16b1
                                try clear c17
                                try clear c17b0
                                try clear c17b1
                                try clear c18
                                try clear c20
                                try clear c20b0
                                try clear c20b1
                                try clear c21
                                try clear c21b0
                                try clear c23
                                try clear c23b0
                                try clear p24
                                try clear q24
                                try clear hx24
                                try clear c25
                                try clear c26
                                try clear c26b0
                                try clear c27
                                try clear c27b0
                                try clear p28
                                try clear q28
                                try clear hx28
                                try clear c29
                                try clear c29b0
                                try clear c29b1
                                try clear c32
                                try clear c34
                                try clear c36
                                try clear c36b0
                                try clear c37
                                try clear c37b0
                                try clear p38
                                try clear q38
                                try clear hx38
                                try clear c40
                                try clear hcz14_0
                                try clear hcz14_1
                                try clear hcz14_2
                                try clear hfz14_0
                                try clear hfz14_1
                                try clear hfz14_2
                                try clear p1
                                try clear p11
                                try clear p2
                                try clear p24
                                try clear p28
                                try clear p38
                                try clear p6
                                try clear q1
                                try clear q11
                                try clear q2
                                try clear q24
                                try clear q28
                                try clear q38
                                obtain ⟨kq, x10_34, rfl, HA, HJ34, HO_5, HO_6, BK465, HB⟩ := hcut
                                cases kq with
                                | zero => exact absurd HA.out (by simp [spec_Tokens.j6])
                                | succ kj34 =>
                                  have H := HA.out
                                  clear HA
                                  simp only [spec_Tokens.j6] at H
                                  by_cases c41 : (wrap64 (x10_34 - x7_1)) > 20
                                  · as_aux_lemma =>
                                    rw [if_pos c41] at H
                                    have c41b0 : decide (20 < (wrap64 (x10_34 - x7_1))) = true := decide_eq_true c41
                                    clear c41
                                    simp only [Option.some.injEq, Prod.mk.injEq] at H
                                    obtain ⟨rfl, rfl, rfl⟩ := H
                                    go_wp2
                                    go_ret3
                                    exact ⟨_, by first | rfl | (simp [errW_none, errW_some] <;> rfl) | (simp [*, errW_none, errW_some] <;> rfl), by (with_reducible repeat (first | apply Kd.R_alloc | apply Kd.R_drewN | apply Kd.R_drew)); exact Kd.R_mono HO_5.out (fun _ hk => trivial), by repeat (first | (with_reducible first | exact HB.out | apply below_alloc | apply pw_below_drewN | apply below_drew1 | refine below_set ?_ GE465.out) | exact HB.out)⟩
                                  · as_aux_lemma =>
                                    rw [if_neg c41] at H
                                    have c41b0 : decide (20 < (wrap64 (x10_34 - x7_1))) = false := decide_eq_false c41
                                    clear c41
                                    replace H := Option.bind_eq_some_iff.mp H
                                    obtain ⟨t469, A420, H⟩ := H
                                    replace H : (if t469 = true then (if 0 ≤ x7_1 then (if x7_1 ≤ x10_34 then (if x10_34 ≤ (a0.size : Int) then (if x6_1.length < 4398046511104 then (spec_Tokens.l0 kj34 a0 y459 (x6_1 ++ [(⟨2, a0.extract (x7_1 : Int).toNat (x10_34 : Int).toNat, x7_1⟩ : S54)]) x10_34) else (none)) else (none)) else (none)) else (none)) else (if 0 ≤ x7_1 then (if x7_1 ≤ x10_34 then (if x10_34 ≤ (a0.size : Int) then (if x6_1.length < 4398046511104 then (spec_Tokens.l0 kj34 a0 y459 (x6_1 ++ [(⟨1, a0.extract (x7_1 : Int).toNat (x10_34 : Int).toNat, x7_1⟩ : S54)]) x10_34) else (none)) else (none)) else (none)) else (none))) = some (r1, r2, r3) := H
                                    have A42 := Aside0.mk A420
                                    clear A420
                                    by_cases c43 : t469 = true
                                    · subst c43
                                      have H1 : (if 0 ≤ x7_1 then (if x7_1 ≤ x10_34 then (if x10_34 ≤ (a0.size : Int) then (if x6_1.length < 4398046511104 then (spec_Tokens.l0 kj34 a0 y459 (x6_1 ++ [(⟨2, a0.extract (x7_1 : Int).toNat (x10_34 : Int).toNat, x7_1⟩ : S54)]) x10_34) else (none)) else (none)) else (none)) else (none)) = some (r1, r2, r3) := by rw [if_pos rfl] at H; exact H
                                      clear H
                                      have H := H1
                                      clear H1
                                      by_cases c44 : 0 ≤ x7_1
                                      · as_aux_lemma =>
                                        rw [if_pos c44] at H
                                        have c44b0 := eq_true c44
                                        have c44b1 : decide (0 ≤ x7_1) = true := decide_eq_true c44
                                        clear c44
                                        by_cases c45 : x7_1 ≤ x10_34
                                        · as_aux_lemma =>
                                          rw [if_pos c45] at H
                                          have c45b0 := eq_true c45
                                          have c45b1 : decide (x7_1 ≤ x10_34) = true := decide_eq_true c45
                                          clear c45
                                          by_cases c46 : x10_34 ≤ (a0.size : Int)
                                          · as_aux_lemma =>
                                            rw [if_pos c46] at H
                                            have c46b0 := eq_true c46
                                            have c46b1 : decide (x10_34 ≤ (a0.size : Int)) = true := decide_eq_true c46
                                            clear c46
                                            by_cases c47 : x6_1.length < 4398046511104
                                            · as_aux_lemma =>
                                              rw [if_pos c47] at H
                                              have LMc47 := Aside0.mk c47
                                              clear c47
                                              obtain ⟨y470, hy470⟩ : ∃ y_ : List (S54), y_ = (x6_1 ++ [(⟨2, a0.extract (x7_1 : Int).toNat (x10_34 : Int).toNat, x7_1⟩ : S54)]) := ⟨_, rfl⟩
                                              replace H : (spec_Tokens.l0 kj34 a0 y459 y470 x10_34) = some (r1, r2, r3) := by first | (rw [hy470]; with_reducible exact H) | (have H2_ := (Option.bind_some _ _).symm.trans H; rw [hy470]; with_reducible exact H2_) | (have H2_ := (Option.bind_some _ _).symm.trans H; with_reducible exact H2_) | with_reducible exact H | (rw [hy470]; exact H) | exact H
                                              have Ny470 := Aside0.mk hy470
                                              clear hy470
                                              have H' := Aside0.mk H
                                              clear H
                                              have hcz48_0 : wc.cell? ⟨gb465, 0, none⟩ = some (.int .i64 0) := (blk_cell BK465.out 0).trans rfl
                                              have hcz48_1 : wc.cell? ⟨gb465, 1, none⟩ = some (.string (⟨#[]⟩ : ByteArray)) := (blk_cell BK465.out 1).trans rfl
                                              have hcz48_2 : wc.cell? ⟨gb465, 2, none⟩ = some (.int .i64 x7_1) := (blk_cell BK465.out 2).trans rfl
                                              have hfz48_0 := blk_frozen BK465.out 0
                                              have hfz48_1 := blk_frozen BK465.out 1
                                              have hfz48_2 := blk_frozen BK465.out 2
                                              go_wp2_with (first | ((with_reducible refine gate_callee (f := 86) rfl ?_); refine goesL_ (some 117) rfl rfl Tryd.func86 (by kernel_rfl) rfl #[.int .u8 (bt a0 x7_1)] rfl (by (try simp only [List.map_toArray, List.map_cons, List.map_nil]); first | done | rfl | (simp only [List.length_drop, List.length_take]; rfl)) ?_; (with_reducible refine (spec_l01Big.calls (bt a0 x7_1) true _ A42.out).mono ?_); rintro e w' ⟨rfl, ⟨nd, rfl⟩⟩; refine ⟨_, rfl, ?_⟩) | ((with_reducible refine gate_builtin (b := .append) (xs := #[.tmp 185, .tmp 187]) rfl ?_); (try (refine gate_guard (by rfl) ?_; dsimp only)); at_builtin; refine Kd.R_append k54 (w0 := w) w.heap.size rfl (.tmp 185) (.tmp 187) 50 54 (.agg #[(.int .i64 0), (.string ⟨#[]⟩), (.int .i64 0)]) 32 rfl Tryd.underlying50 info54 rfl (by decide) (by omega) u6 x6_1 (⟨2, a0.extract (x7_1 : Int).toNat (x10_34 : Int).toNat, x7_1⟩ : S54) [.int .i64 2, .string (a0.extract (x7_1 : Int).toNat (x10_34 : Int).toNat), .int .i64 x7_1] (fun k_ => some k_ ≠ (v460 : Value).ownBlock ∧ k_ ≠ gb465) (fun _ => False) rfl (by first | (go_simp; done) | (go_simp; rfl)) ?aP (fun _ hk => hk.elim) ?aF ?aO ?aB ?aS ?aL ?_; (case aP => exact k54_mkM _ _ _ (⟨2, a0.extract (x7_1 : Int).toNat (x10_34 : Int).toNat, x7_1⟩ : S54)); (case aB => exact (by repeat (first | (with_reducible first | exact HB.out | apply below_alloc | apply pw_below_drewN | apply below_drew1 | refine below_set ?_ GE465.out) | exact HB.out))); (case aF => exact (fun k_ hk => ⟨Kd.fresh' (Kd.R_lt (by (with_reducible repeat (first | apply Kd.R_alloc | apply Kd.R_drewN | apply Kd.R_drew)); exact (Kd.R_mono (Kd.R_far (p := ⟨gb465, 1, none⟩) (Kd.R_far (p := ⟨gb465, 0, none⟩) (Kd.R_far (p := ⟨gb465, 0, none⟩) (Kd.R_mono HO_5.out (fun k_ hk => (⟨hk, hk.2⟩ : _ ∧ k_ ≠ gb465))) (fun _ hk => hk.2) (.int .i64 1)) (fun _ hk => hk.2) (.int .i64 2)) (fun _ hk => hk.2) (.string (a0.extract (x7_1 : Int).toNat (x10_34 : Int).toNat))) (fun _ h_ => h_.1)))) k_ hk, Kd.freshB (g := gb465) (o := .cells #[.int .i64 2, .string (a0.extract (x7_1 : Int).toNat (x10_34 : Int).toNat), .int .i64 x7_1] 54 (0, 0)) (by (with_reducible repeat (first | refine blk_drewN ?_ _ | refine blk_drew ?_ | refine blk_alloc ?_ _)); refine blk_put (cs := #[.int .i64 2, .string (⟨#[]⟩ : ByteArray), .int .i64 x7_1]) ?_ 1 _ rfl; (with_reducible repeat (first | refine blk_drewN ?_ _ | refine blk_drew ?_ | refine blk_alloc ?_ _)); refine blk_put (cs := #[.int .i64 1, .string (⟨#[]⟩ : ByteArray), .int .i64 x7_1]) ?_ 0 _ rfl; (with_reducible repeat (first | refine blk_drewN ?_ _ | refine blk_drew ?_ | refine blk_alloc ?_ _)); refine blk_put (cs := #[.int .i64 0, .string (⟨#[]⟩ : ByteArray), .int .i64 x7_1]) ?_ 0 _ rfl; (with_reducible repeat (first | refine blk_drewN ?_ _ | refine blk_drew ?_ | refine blk_alloc ?_ _)); exact BK465.out) k_ hk⟩)); (case aO => exact (by (with_reducible repeat (first | apply Kd.R_alloc | apply Kd.R_drewN | apply Kd.R_drew)); exact Kd.R_mono (Kd.R_far (p := ⟨gb465, 1, none⟩) (Kd.R_far (p := ⟨gb465, 0, none⟩) (Kd.R_far (p := ⟨gb465, 0, none⟩) (Kd.R_mono HO_6.out (fun k_ hk => (⟨hk, hk.2⟩ : _ ∧ k_ ≠ gb465))) (fun _ hk => hk.2) (.int .i64 1)) (fun _ hk => hk.2) (.int .i64 2)) (fun _ hk => hk.2) (.string (a0.extract (x7_1 : Int).toNat (x10_34 : Int).toNat))) (fun _ hk => ⟨hk.1.1, hk.1.2⟩))); (case aS => exact (below_size (by repeat (first | (with_reducible first | exact HB.out | apply below_alloc | apply pw_below_drewN | apply below_drew1 | refine below_set ?_ GE465.out) | exact HB.out)))); (case aL => have := LMc47.out; omega); intro v471 w49 ho hb hg hat; rw [← Ny470.out] at ho; have n0_ := Aside0.mk (Kd.R_after (ok := (fun k_ => k_ ≠ gb465)) (by (with_reducible repeat (first | apply Kd.R_alloc | apply Kd.R_drewN | apply Kd.R_drew)); exact Kd.R_mono (Kd.R_far (p := ⟨gb465, 1, none⟩) (Kd.R_far (p := ⟨gb465, 0, none⟩) (Kd.R_far (p := ⟨gb465, 0, none⟩) (Kd.R_mono HO_5.out (fun k_ hk => (⟨hk, hk.2⟩ : _ ∧ k_ ≠ gb465))) (fun _ hk => hk.2) (.int .i64 1)) (fun _ hk => hk.2) (.int .i64 2)) (fun _ hk => hk.2) (.string (a0.extract (x7_1 : Int).toNat (x10_34 : Int).toNat))) (fun _ hk => ⟨hk.1.2, hk.1.1⟩)) hg hat); have n1_ := Aside0.mk (blk_grown (g := gb465) (o := .cells #[.int .i64 2, .string (a0.extract (x7_1 : Int).toNat (x10_34 : Int).toNat), .int .i64 x7_1] 54 (0, 0)) (by (with_reducible repeat (first | refine blk_drewN ?_ _ | refine blk_drew ?_ | refine blk_alloc ?_ _)); refine blk_put (cs := #[.int .i64 2, .string (⟨#[]⟩ : ByteArray), .int .i64 x7_1]) ?_ 1 _ rfl; (with_reducible repeat (first | refine blk_drewN ?_ _ | refine blk_drew ?_ | refine blk_alloc ?_ _)); refine blk_put (cs := #[.int .i64 1, .string (⟨#[]⟩ : ByteArray), .int .i64 x7_1]) ?_ 0 _ rfl; (with_reducible repeat (first | refine blk_drewN ?_ _ | refine blk_drew ?_ | refine blk_alloc ?_ _)); refine blk_put (cs := #[.int .i64 0, .string (⟨#[]⟩ : ByteArray), .int .i64 x7_1]) ?_ 0 _ rfl; (with_reducible repeat (first | refine blk_drewN ?_ _ | refine blk_drew ?_ | refine blk_alloc ?_ _)); exact BK465.out) hg (Kd.R_away HO_6.out (fun _ hk => hk.2))); have n2_ := Aside0.mk (hb); have n3_ := Aside0.mk (ho); clear HO_5; clear BK465; clear HB; clear HO_6; have HO_5 := n0_; have BK465 := n1_; have HB := n2_; have HO472 := n3_; clear n0_ n1_ n2_ n3_; clear ho hb hg hat))
                                              go_roundg kj34
                                              case measure => have := HK1.out; have := HJ11.out; have := HJ18.out; have := HJ29.out; have := HJ34.out; omega
                                              case rel => exact ⟨(y470), (x10_34), (by first | rfl | (simp; done) | (simp [*]; done)), H', ⟨by have := HK1.out; have := HJ11.out; have := HJ18.out; have := HJ29.out; have := HJ34.out; omega⟩, ⟨by (with_reducible repeat (first | apply Kd.R_alloc | apply Kd.R_drewN | apply Kd.R_drew)); exact Kd.R_mono HO_5.out (fun _ hk => hk.2)⟩, ⟨by (with_reducible repeat (first | apply Kd.R_alloc | apply Kd.R_drewN | apply Kd.R_drew)); exact Kd.R_mono HO472.out (fun _ hk => hk.1)⟩, ⟨by repeat (first | (with_reducible first | exact HB.out | apply below_alloc | apply pw_below_drewN | apply below_drew1 | refine below_set ?_ GE465.out) | exact HB.out)⟩⟩
                                            · as_aux_lemma =>
                                              rw [if_neg c47] at H
                                              exact absurd H (by simp)
                                          · as_aux_lemma =>
                                            rw [if_neg c46] at H
                                            exact absurd H (by simp)
                                        · as_aux_lemma =>
                                          rw [if_neg c45] at H
                                          exact absurd H (by simp)
                                      · as_aux_lemma =>
                                        rw [if_neg c44] at H
                                        exact absurd H (by simp)
                                    · replace c43 := Bool.eq_false_iff.mpr c43
                                      subst c43
                                      have H1 : (if 0 ≤ x7_1 then (if x7_1 ≤ x10_34 then (if x10_34 ≤ (a0.size : Int) then (if x6_1.length < 4398046511104 then (spec_Tokens.l0 kj34 a0 y459 (x6_1 ++ [(⟨1, a0.extract (x7_1 : Int).toNat (x10_34 : Int).toNat, x7_1⟩ : S54)]) x10_34) else (none)) else (none)) else (none)) else (none)) = some (r1, r2, r3) := by rw [if_neg (show ¬ (false = true) by decide)] at H; exact H
                                      clear H
                                      have H := H1
                                      clear H1
                                      by_cases c50 : 0 ≤ x7_1
                                      · as_aux_lemma =>
                                        rw [if_pos c50] at H
                                        have c50b0 := eq_true c50
                                        have c50b1 : decide (0 ≤ x7_1) = true := decide_eq_true c50
                                        clear c50
                                        by_cases c51 : x7_1 ≤ x10_34
                                        · as_aux_lemma =>
                                          rw [if_pos c51] at H
                                          have c51b0 := eq_true c51
                                          have c51b1 : decide (x7_1 ≤ x10_34) = true := decide_eq_true c51
                                          clear c51
                                          by_cases c52 : x10_34 ≤ (a0.size : Int)
                                          · as_aux_lemma =>
                                            rw [if_pos c52] at H
                                            have c52b0 := eq_true c52
                                            have c52b1 : decide (x10_34 ≤ (a0.size : Int)) = true := decide_eq_true c52
                                            clear c52
                                            by_cases c53 : x6_1.length < 4398046511104
                                            · as_aux_lemma =>
                                              rw [if_pos c53] at H
                                              have LMc53 := Aside0.mk c53
                                              clear c53
                                              obtain ⟨y473, hy473⟩ : ∃ y_ : List (S54), y_ = (x6_1 ++ [(⟨1, a0.extract (x7_1 : Int).toNat (x10_34 : Int).toNat, x7_1⟩ : S54)]) := ⟨_, rfl⟩
                                              replace H : (spec_Tokens.l0 kj34 a0 y459 y473 x10_34) = some (r1, r2, r3) := by first | (rw [hy473]; with_reducible exact H) | (have H2_ := (Option.bind_some _ _).symm.trans H; rw [hy473]; with_reducible exact H2_) | (have H2_ := (Option.bind_some _ _).symm.trans H; with_reducible exact H2_) | with_reducible exact H | (rw [hy473]; exact H) | exact H
                                              have Ny473 := Aside0.mk hy473
                                              clear hy473
                                              have H' := Aside0.mk H
                                              clear H
                                              have hcz54_0 : wc.cell? ⟨gb465, 0, none⟩ = some (.int .i64 0) := (blk_cell BK465.out 0).trans rfl
                                              have hcz54_1 : wc.cell? ⟨gb465, 1, none⟩ = some (.string (⟨#[]⟩ : ByteArray)) := (blk_cell BK465.out 1).trans rfl
                                              have hcz54_2 : wc.cell? ⟨gb465, 2, none⟩ = some (.int .i64 x7_1) := (blk_cell BK465.out 2).trans rfl
                                              have hfz54_0 := blk_frozen BK465.out 0
                                              have hfz54_1 := blk_frozen BK465.out 1
                                              have hfz54_2 := blk_frozen BK465.out 2
                                              go_wp2_with (first | ((with_reducible refine gate_callee (f := 86) rfl ?_); refine goesL_ (some 117) rfl rfl Tryd.func86 (by kernel_rfl) rfl #[.int .u8 (bt a0 x7_1)] rfl (by (try simp only [List.map_toArray, List.map_cons, List.map_nil]); first | done | rfl | (simp only [List.length_drop, List.length_take]; rfl)) ?_; (with_reducible refine (spec_l01Big.calls (bt a0 x7_1) false _ A42.out).mono ?_); rintro e w' ⟨rfl, ⟨nd, rfl⟩⟩; refine ⟨_, rfl, ?_⟩) | ((with_reducible refine gate_builtin (b := .append) (xs := #[.tmp 185, .tmp 187]) rfl ?_); (try (refine gate_guard (by rfl) ?_; dsimp only)); at_builtin; refine Kd.R_append k54 (w0 := w) w.heap.size rfl (.tmp 185) (.tmp 187) 50 54 (.agg #[(.int .i64 0), (.string ⟨#[]⟩), (.int .i64 0)]) 32 rfl Tryd.underlying50 info54 rfl (by decide) (by omega) u6 x6_1 (⟨1, a0.extract (x7_1 : Int).toNat (x10_34 : Int).toNat, x7_1⟩ : S54) [.int .i64 1, .string (a0.extract (x7_1 : Int).toNat (x10_34 : Int).toNat), .int .i64 x7_1] (fun k_ => some k_ ≠ (v460 : Value).ownBlock ∧ k_ ≠ gb465) (fun _ => False) rfl (by first | (go_simp; done) | (go_simp; rfl)) ?aP (fun _ hk => hk.elim) ?aF ?aO ?aB ?aS ?aL ?_; (case aP => exact k54_mkM _ _ _ (⟨1, a0.extract (x7_1 : Int).toNat (x10_34 : Int).toNat, x7_1⟩ : S54)); (case aB => exact (by repeat (first | (with_reducible first | exact HB.out | apply below_alloc | apply pw_below_drewN | apply below_drew1 | refine below_set ?_ GE465.out) | exact HB.out))); (case aF => exact (fun k_ hk => ⟨Kd.fresh' (Kd.R_lt (by (with_reducible repeat (first | apply Kd.R_alloc | apply Kd.R_drewN | apply Kd.R_drew)); exact (Kd.R_mono (Kd.R_far (p := ⟨gb465, 1, none⟩) (Kd.R_far (p := ⟨gb465, 0, none⟩) (Kd.R_mono HO_5.out (fun k_ hk => (⟨hk, hk.2⟩ : _ ∧ k_ ≠ gb465))) (fun _ hk => hk.2) (.int .i64 1)) (fun _ hk => hk.2) (.string (a0.extract (x7_1 : Int).toNat (x10_34 : Int).toNat))) (fun _ h_ => h_.1)))) k_ hk, Kd.freshB (g := gb465) (o := .cells #[.int .i64 1, .string (a0.extract (x7_1 : Int).toNat (x10_34 : Int).toNat), .int .i64 x7_1] 54 (0, 0)) (by (with_reducible repeat (first | refine blk_drewN ?_ _ | refine blk_drew ?_ | refine blk_alloc ?_ _)); refine blk_put (cs := #[.int .i64 1, .string (⟨#[]⟩ : ByteArray), .int .i64 x7_1]) ?_ 1 _ rfl; (with_reducible repeat (first | refine blk_drewN ?_ _ | refine blk_drew ?_ | refine blk_alloc ?_ _)); refine blk_put (cs := #[.int .i64 0, .string (⟨#[]⟩ : ByteArray), .int .i64 x7_1]) ?_ 0 _ rfl; (with_reducible repeat (first | refine blk_drewN ?_ _ | refine blk_drew ?_ | refine blk_alloc ?_ _)); exact BK465.out) k_ hk⟩)); (case aO => exact (by (with_reducible repeat (first | apply Kd.R_alloc | apply Kd.R_drewN | apply Kd.R_drew)); exact Kd.R_mono (Kd.R_far (p := ⟨gb465, 1, none⟩) (Kd.R_far (p := ⟨gb465, 0, none⟩) (Kd.R_mono HO_6.out (fun k_ hk => (⟨hk, hk.2⟩ : _ ∧ k_ ≠ gb465))) (fun _ hk => hk.2) (.int .i64 1)) (fun _ hk => hk.2) (.string (a0.extract (x7_1 : Int).toNat (x10_34 : Int).toNat))) (fun _ hk => ⟨hk.1.1, hk.1.2⟩))); (case aS => exact (below_size (by repeat (first | (with_reducible first | exact HB.out | apply below_alloc | apply pw_below_drewN | apply below_drew1 | refine below_set ?_ GE465.out) | exact HB.out)))); (case aL => have := LMc53.out; omega); intro v474 w55 ho hb hg hat; rw [← Ny473.out] at ho; have n0_ := Aside0.mk (Kd.R_after (ok := (fun k_ => k_ ≠ gb465)) (by (with_reducible repeat (first | apply Kd.R_alloc | apply Kd.R_drewN | apply Kd.R_drew)); exact Kd.R_mono (Kd.R_far (p := ⟨gb465, 1, none⟩) (Kd.R_far (p := ⟨gb465, 0, none⟩) (Kd.R_mono HO_5.out (fun k_ hk => (⟨hk, hk.2⟩ : _ ∧ k_ ≠ gb465))) (fun _ hk => hk.2) (.int .i64 1)) (fun _ hk => hk.2) (.string (a0.extract (x7_1 : Int).toNat (x10_34 : Int).toNat))) (fun _ hk => ⟨hk.1.2, hk.1.1⟩)) hg hat); have n1_ := Aside0.mk (blk_grown (g := gb465) (o := .cells #[.int .i64 1, .string (a0.extract (x7_1 : Int).toNat (x10_34 : Int).toNat), .int .i64 x7_1] 54 (0, 0)) (by (with_reducible repeat (first | refine blk_drewN ?_ _ | refine blk_drew ?_ | refine blk_alloc ?_ _)); refine blk_put (cs := #[.int .i64 1, .string (⟨#[]⟩ : ByteArray), .int .i64 x7_1]) ?_ 1 _ rfl; (with_reducible repeat (first | refine blk_drewN ?_ _ | refine blk_drew ?_ | refine blk_alloc ?_ _)); refine blk_put (cs := #[.int .i64 0, .string (⟨#[]⟩ : ByteArray), .int .i64 x7_1]) ?_ 0 _ rfl; (with_reducible repeat (first | refine blk_drewN ?_ _ | refine blk_drew ?_ | refine blk_alloc ?_ _)); exact BK465.out) hg (Kd.R_away HO_6.out (fun _ hk => hk.2))); have n2_ := Aside0.mk (hb); have n3_ := Aside0.mk (ho); clear HO_5; clear BK465; clear HB; clear HO_6; have HO_5 := n0_; have BK465 := n1_; have HB := n2_; have HO475 := n3_; clear n0_ n1_ n2_ n3_; clear ho hb hg hat))
                                              go_roundg kj34
                                              case measure => have := HK1.out; have := HJ11.out; have := HJ18.out; have := HJ29.out; have := HJ34.out; omega
                                              case rel => exact ⟨(y473), (x10_34), (by first | rfl | (simp; done) | (simp [*]; done)), H', ⟨by have := HK1.out; have := HJ11.out; have := HJ18.out; have := HJ29.out; have := HJ34.out; omega⟩, ⟨by (with_reducible repeat (first | apply Kd.R_alloc | apply Kd.R_drewN | apply Kd.R_drew)); exact Kd.R_mono HO_5.out (fun _ hk => hk.2)⟩, ⟨by (with_reducible repeat (first | apply Kd.R_alloc | apply Kd.R_drewN | apply Kd.R_drew)); exact Kd.R_mono HO475.out (fun _ hk => hk.1)⟩, ⟨by repeat (first | (with_reducible first | exact HB.out | apply below_alloc | apply pw_below_drewN | apply below_drew1 | refine below_set ?_ GE465.out) | exact HB.out)⟩⟩
                                            · as_aux_lemma =>
                                              rw [if_neg c53] at H
                                              exact absurd H (by simp)
                                          · as_aux_lemma =>
                                            rw [if_neg c52] at H
                                            exact absurd H (by simp)
                                        · as_aux_lemma =>
                                          rw [if_neg c51] at H
                                          exact absurd H (by simp)
                                      · as_aux_lemma =>
                                        rw [if_neg c50] at H
                                        exact absurd H (by simp)
                            · replace c34 := Bool.eq_false_iff.mpr c34
                              subst c34
                              have H1 : ((spec_l01Digit.f (bt a0 x7_1)).bind fun t476 => (if t476 = true then (spec_Tokens.l3 kj29 a0 y459 x6_1 x7_1 (wrap64 (x7_1 + 1)) 0 (⟨#[]⟩ : ByteArray) x7_1) else (if (bt a0 x7_1) = 34 then (spec_Tokens.l4 kj29 a0 y459 x6_1 x7_1 (wrap64 (x7_1 + 1)) 0 (⟨#[]⟩ : ByteArray) x7_1) else (if 0 ≤ x7_1 then (if x7_1 ≤ (a0.size : Int) then ((spec_l03Sign.f kj29 (a0.extract (x7_1 : Int).toNat a0.size)).bind fun t496 => (if t496.toList = ([] : List UInt8) then (some (y459, x7_1, 2)) else (if x7_1 ≤ (wrap64 (x7_1 + (t496.size : Int))) then (if (wrap64 (x7_1 + (t496.size : Int))) ≤ (a0.size : Int) then (if x6_1.length < 4398046511104 then (spec_Tokens.l0 kj29 a0 y459 (x6_1 ++ [(⟨5, a0.extract (x7_1 : Int).toNat ((wrap64 (x7_1 + (t496.size : Int))) : Int).toNat, x7_1⟩ : S54)]) (wrap64 (x7_1 + (t496.size : Int)))) else (none)) else (none)) else (none)))) else (none)) else (none))))) = some (r1, r2, r3) := by rw [if_neg (show ¬ (false = true) by decide)] at H; exact H
                              clear H
                              have H := H1
                              clear H1
                              replace H := Option.bind_eq_some_iff.mp H
                              obtain ⟨t476, A560, H⟩ := H
                              replace H : (if t476 = true then (spec_Tokens.l3 kj29 a0 y459 x6_1 x7_1 (wrap64 (x7_1 + 1)) 0 (⟨#[]⟩ : ByteArray) x7_1) else (if (bt a0 x7_1) = 34 then (spec_Tokens.l4 kj29 a0 y459 x6_1 x7_1 (wrap64 (x7_1 + 1)) 0 (⟨#[]⟩ : ByteArray) x7_1) else (if 0 ≤ x7_1 then (if x7_1 ≤ (a0.size : Int) then ((spec_l03Sign.f kj29 (a0.extract (x7_1 : Int).toNat a0.size)).bind fun t496 => (if t496.toList = ([] : List UInt8) then (some (y459, x7_1, 2)) else (if x7_1 ≤ (wrap64 (x7_1 + (t496.size : Int))) then (if (wrap64 (x7_1 + (t496.size : Int))) ≤ (a0.size : Int) then (if x6_1.length < 4398046511104 then (spec_Tokens.l0 kj29 a0 y459 (x6_1 ++ [(⟨5, a0.extract (x7_1 : Int).toNat ((wrap64 (x7_1 + (t496.size : Int))) : Int).toNat, x7_1⟩ : S54)]) (wrap64 (x7_1 + (t496.size : Int)))) else (none)) else (none)) else (none)))) else (none)) else (none)))) = some (r1, r2, r3) := H
                              have A56 := Aside0.mk A560
                              clear A560
                              by_cases c57 : t476 = true
                              · subst c57
                                have H1 : (spec_Tokens.l3 kj29 a0 y459 x6_1 x7_1 (wrap64 (x7_1 + 1)) 0 (⟨#[]⟩ : ByteArray) x7_1) = some (r1, r2, r3) := by rw [if_pos rfl] at H; exact H
                                clear H
                                have H := H1
                                clear H1
                                have H' := Aside0.mk H
                                clear H
                                go_wp2_with (first | ((with_reducible refine gate_callee (f := 88) rfl ?_); refine goesL_ (some 121) rfl rfl Tryd.func88 (by kernel_rfl) rfl #[.int .u8 (bt a0 x7_1)] rfl (by (try simp only [List.map_toArray, List.map_cons, List.map_nil]); first | done | rfl | (simp only [List.length_drop, List.length_take]; rfl)) ?_; (with_reducible refine (spec_l01Digit.calls (bt a0 x7_1) true _ A56.out).mono ?_); rintro e w' ⟨rfl, ⟨nd, rfl⟩⟩; refine ⟨_, rfl, ?_⟩))
                                go_loopg [10] kj29 (fun kq v10 w' => ∃ (x10_5 : Int), v10 = .int .i64 x10_5 ∧ Aside0 (spec_Tokens.l3 kq a0 y459 x6_1 x7_1 x10_5 0 (⟨#[]⟩ : ByteArray) x7_1 = some (r1, r2, r3)) ∧ Aside0 (kq ≤ kj29) ∧ Aside0 (Kd.R k54 54 w' w.heap.size (fun k_ => some k_ ≠ (u6 : Value).ownBlock ∧ k_ ≠ gb465) v460 y459) ∧ Aside0 (Kd.R k54 54 w' w.heap.size (fun k_ => some k_ ≠ (v460 : Value).ownBlock ∧ k_ ≠ gb465) u6 x6_1) ∧ Aside0 (w'.heap[gb465]? = some (.cells #[.int .i64 0, .string (⟨#[]⟩ : ByteArray), .int .i64 x7_1] 54 (0, 0))) ∧ Aside0 (Below w.heap.size w w'))
                                case atStart => exact ⟨((wrap64 (x7_1 + 1))), (by first | rfl | (simp; done) | (simp [*]; done)), H', ⟨Nat.le_refl _⟩, ⟨by (with_reducible repeat (first | apply Kd.R_alloc | apply Kd.R_drewN | apply Kd.R_drew)); exact HO_5.out⟩, ⟨by (with_reducible repeat (first | apply Kd.R_alloc | apply Kd.R_drewN | apply Kd.R_drew)); exact HO_6.out⟩, ⟨by (with_reducible repeat (first | refine blk_drewN ?_ _ | refine blk_drew ?_ | refine blk_alloc ?_ _)); exact BK465.out⟩, ⟨by repeat (first | (with_reducible first | exact HB.out | apply below_alloc | apply pw_below_drewN | apply below_drew1 | refine below_set ?_ GE465.out) | exact HB.out)⟩⟩
                                case round =>
                                  clear H'
                                  try clear c1
                                  try clear p1
                                  try clear q1
                                  try clear hx1
                                  try clear c2
                                  try clear c2b0
                                  try clear c2b1
                                  try clear p2
                                  try clear q2
                                  try clear hx2
                                  try clear c3
                                  try clear p3
                                  try clear q3
                                  try clear hx3
                                  try clear c4
                                  try clear c5
                                  try clear p6
                                  try clear c8
                                  try clear c9
                                  try clear c9b0
                                  try clear c10
                                  try clear c10b0
                                  try clear p11
                                  try clear q11
                                  try clear hx11
                                  try clear c15
                                  try clear c15b0
                                  try clear c15b1
                                  try clear c16
                                  try clear c16b0
                                  try clear c16b1
                                  try clear c17
                                  try clear c17b0
                                  try clear c17b1
                                  try clear c18
                                  try clear c20
                                  try clear c20b0
                                  try clear c20b1
                                  try clear c21
                                  try clear c21b0
                                  try clear c23
                                  try clear c23b0
                                  try clear p24
                                  try clear q24
                                  try clear hx24
                                  try clear c25
                                  try clear c26
                                  try clear c26b0
                                  try clear c27
                                  try clear c27b0
                                  try clear p28
                                  try clear q28
                                  try clear hx28
                                  try clear c29
                                  try clear c29b0
                                  try clear c29b1
                                  try clear c32
                                  try clear c34
                                  try clear c36
                                  try clear c36b0
                                  try clear c37
                                  try clear c37b0
                                  try clear p38
                                  try clear q38
                                  try clear hx38
                                  try clear c40
                                  try clear c41
                                  try clear c41b0
                                  try clear c43
                                  try clear c44
                                  try clear c44b0
                                  try clear c44b1
                                  try clear c45
                                  try clear c45b0
                                  try clear c45b1
                                  try clear c46
                                  try clear c46b0
                                  try clear c46b1
                                  try clear c47
                                  try clear c50
                                  try clear c50b0
                                  try clear c50b1
                                  try clear c51
                                  try clear c51b0
                                  try clear c51b1
                                  try clear c52
                                  try clear c52b0
                                  try clear c52b1
                                  try clear c53
                                  try clear c57
                                  try clear hcz14_0
                                  try clear hcz14_1
                                  try clear hcz14_2
                                  try clear hcz48_0
                                  try clear hcz48_1
                                  try clear hcz48_2
                                  try clear hcz54_0
                                  try clear hcz54_1
                                  try clear hcz54_2
                                  try clear hfz14_0
                                  try clear hfz14_1
                                  try clear hfz14_2
                                  try clear hfz48_0
                                  try clear hfz48_1
                                  try clear hfz48_2
                                  try clear hfz54_0
                                  try clear hfz54_1
                                  try clear hfz54_2
                                  try clear p1
                                  try clear p11
                                  try clear p2
                                  try clear p24
                                  try clear p28
                                  try clear p3
                                  try clear p38
                                  try clear p6
                                  try clear q1
                                  try clear q11
                                  try clear q2
                                  try clear q24
                                  try clear q28
                                  try clear q3
                                  try clear q38
                                  obtain ⟨x10_5, rfl, HA, HK5, HO_5, HO_6, BK465, HB⟩ := hrel
                                  cases gk with
                                  | zero => exact absurd HA.out (by simp [spec_Tokens.l3])
                                  | succ k5 =>
                                    have H := HA.out
                                    clear HA
                                    simp only [spec_Tokens.l3] at H
                                    by_cases c58 : x10_5 < (a0.size : Int)
                                    · as_aux_lemma =>
                                      rw [if_pos c58] at H
                                      have c58b0 : decide (x10_5 < (a0.size : Int)) = true := decide_eq_true c58
                                      clear c58
                                      by_cases c59 : 0 ≤ x10_5
                                      · as_aux_lemma =>
                                        rw [if_pos c59] at H
                                        have c59b0 : decide (0 ≤ x10_5) = true := decide_eq_true c59
                                        clear c59
                                        replace H := Option.bind_eq_some_iff.mp H
                                        obtain ⟨t477, A610, H⟩ := H
                                        replace H : (if t477 = true then (spec_Tokens.l3 k5 a0 y459 x6_1 x7_1 (wrap64 (x10_5 + 1)) 0 (⟨#[]⟩ : ByteArray) x7_1) else (if 0 ≤ x7_1 then (if x7_1 ≤ x10_5 then (if x10_5 ≤ (a0.size : Int) then ((spec_l01Number.f k5 (a0.extract (x7_1 : Int).toNat (x10_5 : Int).toNat)).bind fun bt478 => (if bt478.2 = true then (if x6_1.length < 4398046511104 then (spec_Tokens.l0 k5 a0 y459 (x6_1 ++ [(⟨3, a0.extract (x7_1 : Int).toNat (x10_5 : Int).toNat, x7_1⟩ : S54)]) x10_5) else (none)) else (some (y459, x7_1, 4)))) else (none)) else (none)) else (none))) = some (r1, r2, r3) := H
                                        have A61 := Aside0.mk A610
                                        clear A610
                                        by_cases c62 : t477 = true
                                        · subst c62
                                          have H1 : (spec_Tokens.l3 k5 a0 y459 x6_1 x7_1 (wrap64 (x10_5 + 1)) 0 (⟨#[]⟩ : ByteArray) x7_1) = some (r1, r2, r3) := by rw [if_pos rfl] at H; exact H
                                          clear H
                                          have H := H1
                                          clear H1
                                          have H' := Aside0.mk H
                                          clear H
                                          have p60 : 0 ≤ (x10_5 : Int) := of_decide_eq_true (by first | (with_reducible assumption) | assumption)
                                          have q60 : x10_5 < (a0.size : Int) := of_decide_eq_true (by first | (with_reducible assumption) | assumption)
                                          have hx60 := bt_at a0 x10_5
                                          replace p60 := eq_true p60
                                          replace q60 := eq_true q60
                                          go_wp2_with (first | (go_at_call 88; (with_reducible refine (spec_l01Digit.calls (bt a0 x10_5) true _ A61.out).mono ?_); rintro e w' ⟨rfl, ⟨nd, rfl⟩⟩))
                                          go_roundg k5
                                          case measure => have := HK1.out; have := HJ11.out; have := HJ18.out; have := HJ29.out; have := HK5.out; omega
                                          case rel => exact ⟨(wrap64 (x10_5 + 1)), (by first | rfl | (simp; done) | (simp [*]; done)), H', ⟨by have := HK1.out; have := HJ11.out; have := HJ18.out; have := HJ29.out; have := HK5.out; omega⟩, ⟨by (with_reducible repeat (first | apply Kd.R_alloc | apply Kd.R_drewN | apply Kd.R_drew)); exact HO_5.out⟩, ⟨by (with_reducible repeat (first | apply Kd.R_alloc | apply Kd.R_drewN | apply Kd.R_drew)); exact HO_6.out⟩, ⟨by (with_reducible repeat (first | refine blk_drewN ?_ _ | refine blk_drew ?_ | refine blk_alloc ?_ _)); exact BK465.out⟩, ⟨by repeat (first | (with_reducible first | exact HB.out | apply below_alloc | apply pw_below_drewN | apply below_drew1 | refine below_set ?_ GE465.out) | exact HB.out)⟩⟩
                                        · replace c62 := Bool.eq_false_iff.mpr c62
                                          subst c62
                                          have H1 : (if 0 ≤ x7_1 then (if x7_1 ≤ x10_5 then (if x10_5 ≤ (a0.size : Int) then ((spec_l01Number.f k5 (a0.extract (x7_1 : Int).toNat (x10_5 : Int).toNat)).bind fun bt478 => (if bt478.2 = true then (if x6_1.length < 4398046511104 then (spec_Tokens.l0 k5 a0 y459 (x6_1 ++ [(⟨3, a0.extract (x7_1 : Int).toNat (x10_5 : Int).toNat, x7_1⟩ : S54)]) x10_5) else (none)) else (some (y459, x7_1, 4)))) else (none)) else (none)) else (none)) = some (r1, r2, r3) := by rw [if_neg (show ¬ (false = true) by decide)] at H; exact H
                                          clear H
                                          have H := H1
                                          clear H1
                                          by_cases c63 : 0 ≤ x7_1
                                          · as_aux_lemma =>
                                            rw [if_pos c63] at H
                                            have c63b0 := eq_true c63
                                            have c63b1 : decide (0 ≤ x7_1) = true := decide_eq_true c63
                                            clear c63
                                            by_cases c64 : x7_1 ≤ x10_5
                                            · as_aux_lemma =>
                                              rw [if_pos c64] at H
                                              have c64b0 := eq_true c64
                                              have c64b1 : decide (x7_1 ≤ x10_5) = true := decide_eq_true c64
                                              clear c64
                                              by_cases c65 : x10_5 ≤ (a0.size : Int)
                                              · as_aux_lemma =>
                                                rw [if_pos c65] at H
                                                have c65b0 := eq_true c65
                                                have c65b1 : decide (x10_5 ≤ (a0.size : Int)) = true := decide_eq_true c65
                                                clear c65
                                                replace H := Option.bind_eq_some_iff.mp H
                                                obtain ⟨⟨t478, t479⟩, A660, H⟩ := H
                                                replace H : (if t479 = true then (if x6_1.length < 4398046511104 then (spec_Tokens.l0 k5 a0 y459 (x6_1 ++ [(⟨3, a0.extract (x7_1 : Int).toNat (x10_5 : Int).toNat, x7_1⟩ : S54)]) x10_5) else (none)) else (some (y459, x7_1, 4))) = some (r1, r2, r3) := H
                                                have A66 := Aside0.mk A660
                                                clear A660
                                                by_cases c67 : t479 = true
                                                · subst c67
                                                  have H1 : (if x6_1.length < 4398046511104 then (spec_Tokens.l0 k5 a0 y459 (x6_1 ++ [(⟨3, a0.extract (x7_1 : Int).toNat (x10_5 : Int).toNat, x7_1⟩ : S54)]) x10_5) else (none)) = some (r1, r2, r3) := by rw [if_pos rfl] at H; exact H
                                                  clear H
                                                  have H := H1
                                                  clear H1
                                                  have c68b0 := eq_true (of_decide_eq_true (by first | (with_reducible assumption) | assumption) : 0 ≤ x7_1)
                                                  have c69b0 := eq_true (of_decide_eq_true (by first | (with_reducible assumption) | assumption) : x7_1 ≤ x10_5)
                                                  have c70b0 := eq_true (of_decide_eq_true (by first | (with_reducible assumption) | assumption) : x10_5 ≤ (a0.size : Int))
                                                  by_cases c71 : x6_1.length < 4398046511104
                                                  · as_aux_lemma =>
                                                    rw [if_pos c71] at H
                                                    have LMc71 := Aside0.mk c71
                                                    clear c71
                                                    obtain ⟨y480, hy480⟩ : ∃ y_ : List (S54), y_ = (x6_1 ++ [(⟨3, a0.extract (x7_1 : Int).toNat (x10_5 : Int).toNat, x7_1⟩ : S54)]) := ⟨_, rfl⟩
                                                    replace H : (spec_Tokens.l0 k5 a0 y459 y480 x10_5) = some (r1, r2, r3) := by first | (rw [hy480]; with_reducible exact H) | (have H2_ := (Option.bind_some _ _).symm.trans H; rw [hy480]; with_reducible exact H2_) | (have H2_ := (Option.bind_some _ _).symm.trans H; with_reducible exact H2_) | with_reducible exact H | (rw [hy480]; exact H) | exact H
                                                    have Ny480 := Aside0.mk hy480
                                                    clear hy480
                                                    have H' := Aside0.mk H
                                                    clear H
                                                    have p60 : 0 ≤ (x10_5 : Int) := of_decide_eq_true (by first | (with_reducible assumption) | assumption)
                                                    have q60 : x10_5 < (a0.size : Int) := of_decide_eq_true (by first | (with_reducible assumption) | assumption)
                                                    have hx60 := bt_at a0 x10_5
                                                    replace p60 := eq_true p60
                                                    replace q60 := eq_true q60
                                                    go_wp2_with (first | (go_at_call 88; (with_reducible refine (spec_l01Digit.calls (bt a0 x10_5) false _ A61.out).mono ?_); rintro e w' ⟨rfl, ⟨nd, rfl⟩⟩; (try (rw [drewN_self wr]; generalize hq_ : World.drewN wr _ = wr; have n0_ : Aside0 (Kd.R k54 54 wr w.heap.size (fun k_ => some k_ ≠ (u6 : Value).ownBlock ∧ k_ ≠ gb465) v460 y459) := ⟨by rw [← hq_]; exact (by (with_reducible repeat (first | apply Kd.R_alloc | apply Kd.R_drewN | apply Kd.R_drew)); exact HO_5.out)⟩; have n1_ : Aside0 (Kd.R k54 54 wr w.heap.size (fun k_ => some k_ ≠ (v460 : Value).ownBlock ∧ k_ ≠ gb465) u6 x6_1) := ⟨by rw [← hq_]; exact (by (with_reducible repeat (first | apply Kd.R_alloc | apply Kd.R_drewN | apply Kd.R_drew)); exact HO_6.out)⟩; have n2_ : Aside0 (wr.heap[gb465]? = some (.cells #[.int .i64 0, .string (⟨#[]⟩ : ByteArray), .int .i64 x7_1] 54 (0, 0))) := ⟨by rw [← hq_]; exact (by (with_reducible repeat (first | refine blk_drewN ?_ _ | refine blk_drew ?_ | refine blk_alloc ?_ _)); exact BK465.out)⟩; have n3_ : Aside0 (Below w.heap.size w wr) := ⟨by rw [← hq_]; exact (by repeat (first | (with_reducible first | exact HB.out | apply below_alloc | apply pw_below_drewN | apply below_drew1 | refine below_set ?_ GE465.out) | exact HB.out))⟩; clear HO_5 HO_6 BK465 HB hq_; have HO_5 := n0_; have HO_6 := n1_; have BK465 := n2_; have HB := n3_; clear n0_ n1_ n2_ n3_))) | ((with_reducible refine gate_callee (f := 73) rfl ?_); refine goesL_ (some 139) rfl rfl Tryd.func73 (by kernel_rfl) rfl #[.string (a0.extract (x7_1 : Int).toNat (x10_5 : Int).toNat)] rfl (by (try simp only [List.map_toArray, List.map_cons, List.map_nil]); first | done | rfl | (simp only [List.length_drop, List.length_take]; rfl)) ?_; (with_reducible refine (spec_l01Number.calls k5 (a0.extract (x7_1 : Int).toNat (x10_5 : Int).toNat) t478 true _ A66.out).mono ?_); rintro e w72 ⟨rfl, hb⟩; refine ⟨_, rfl, ?_⟩; have n0_ := Aside0.mk (Kd.R_below (by (with_reducible repeat (first | apply Kd.R_alloc | apply Kd.R_drewN | apply Kd.R_drew)); exact HO_5.out) hb); have n1_ := Aside0.mk (Kd.R_below (by (with_reducible repeat (first | apply Kd.R_alloc | apply Kd.R_drewN | apply Kd.R_drew)); exact HO_6.out) hb); have n2_ := Aside0.mk (blk_below (g := gb465) (o := .cells #[.int .i64 0, .string (⟨#[]⟩ : ByteArray), .int .i64 x7_1] 54 (0, 0)) (by (with_reducible repeat (first | refine blk_drewN ?_ _ | refine blk_drew ?_ | refine blk_alloc ?_ _)); exact BK465.out) hb); have n3_ := Aside0.mk (below_step (by repeat (first | (with_reducible first | exact HB.out | apply below_alloc | apply pw_below_drewN | apply below_drew1 | refine below_set ?_ GE465.out) | exact HB.out)) hb); clear HO_5; clear HO_6; clear BK465; clear HB; have HO_5 := n0_; have HO_6 := n1_; have BK465 := n2_; have HB := n3_; clear n0_ n1_ n2_ n3_; (try clear hb); (try clear hb2); (try clear hk); (try clear hi); have hcz73_0 : w72.cell? ⟨gb465, 0, none⟩ = some (.int .i64 0) := (blk_cell BK465.out 0).trans rfl; have hcz73_1 : w72.cell? ⟨gb465, 1, none⟩ = some (.string (⟨#[]⟩ : ByteArray)) := (blk_cell BK465.out 1).trans rfl; have hcz73_2 : w72.cell? ⟨gb465, 2, none⟩ = some (.int .i64 x7_1) := (blk_cell BK465.out 2).trans rfl; have hfz73_0 := blk_frozen BK465.out 0; have hfz73_1 := blk_frozen BK465.out 1; have hfz73_2 := blk_frozen BK465.out 2) | ((with_reducible refine gate_builtin (b := .append) (xs := #[.tmp 185, .tmp 187]) rfl ?_); (try (refine gate_guard (by rfl) ?_; dsimp only)); at_builtin; refine Kd.R_append k54 (w0 := w) w.heap.size rfl (.tmp 185) (.tmp 187) 50 54 (.agg #[(.int .i64 0), (.string ⟨#[]⟩), (.int .i64 0)]) 32 rfl Tryd.underlying50 info54 rfl (by decide) (by omega) u6 x6_1 (⟨3, a0.extract (x7_1 : Int).toNat (x10_5 : Int).toNat, x7_1⟩ : S54) [.int .i64 3, .string (a0.extract (x7_1 : Int).toNat (x10_5 : Int).toNat), .int .i64 x7_1] (fun k_ => some k_ ≠ (v460 : Value).ownBlock ∧ k_ ≠ gb465) (fun _ => False) rfl (by first | (go_simp; done) | (go_simp; rfl)) ?aP (fun _ hk => hk.elim) ?aF ?aO ?aB ?aS ?aL ?_; (case aP => exact k54_mkM _ _ _ (⟨3, a0.extract (x7_1 : Int).toNat (x10_5 : Int).toNat, x7_1⟩ : S54)); (case aB => exact (by repeat (first | (with_reducible first | exact HB.out | apply below_alloc | apply pw_below_drewN | apply below_drew1 | refine below_set ?_ GE465.out) | exact HB.out))); (case aF => exact (fun k_ hk => ⟨Kd.fresh' (Kd.R_lt (by (with_reducible repeat (first | apply Kd.R_alloc | apply Kd.R_drewN | apply Kd.R_drew)); exact (Kd.R_mono (Kd.R_far (p := ⟨gb465, 1, none⟩) (Kd.R_far (p := ⟨gb465, 0, none⟩) (Kd.R_mono HO_5.out (fun k_ hk => (⟨hk, hk.2⟩ : _ ∧ k_ ≠ gb465))) (fun _ hk => hk.2) (.int .i64 3)) (fun _ hk => hk.2) (.string (a0.extract (x7_1 : Int).toNat (x10_5 : Int).toNat))) (fun _ h_ => h_.1)))) k_ hk, Kd.freshB (g := gb465) (o := .cells #[.int .i64 3, .string (a0.extract (x7_1 : Int).toNat (x10_5 : Int).toNat), .int .i64 x7_1] 54 (0, 0)) (by (with_reducible repeat (first | refine blk_drewN ?_ _ | refine blk_drew ?_ | refine blk_alloc ?_ _)); refine blk_put (cs := #[.int .i64 3, .string (⟨#[]⟩ : ByteArray), .int .i64 x7_1]) ?_ 1 _ rfl; (with_reducible repeat (first | refine blk_drewN ?_ _ | refine blk_drew ?_ | refine blk_alloc ?_ _)); refine blk_put (cs := #[.int .i64 0, .string (⟨#[]⟩ : ByteArray), .int .i64 x7_1]) ?_ 0 _ rfl; (with_reducible repeat (first | refine blk_drewN ?_ _ | refine blk_drew ?_ | refine blk_alloc ?_ _)); exact BK465.out) k_ hk⟩)); (case aO => exact (by (with_reducible repeat (first | apply Kd.R_alloc | apply Kd.R_drewN | apply Kd.R_drew)); exact Kd.R_mono (Kd.R_far (p := ⟨gb465, 1, none⟩) (Kd.R_far (p := ⟨gb465, 0, none⟩) (Kd.R_mono HO_6.out (fun k_ hk => (⟨hk, hk.2⟩ : _ ∧ k_ ≠ gb465))) (fun _ hk => hk.2) (.int .i64 3)) (fun _ hk => hk.2) (.string (a0.extract (x7_1 : Int).toNat (x10_5 : Int).toNat))) (fun _ hk => ⟨hk.1.1, hk.1.2⟩))); (case aS => exact (below_size (by repeat (first | (with_reducible first | exact HB.out | apply below_alloc | apply pw_below_drewN | apply below_drew1 | refine below_set ?_ GE465.out) | exact HB.out)))); (case aL => have := LMc71.out; omega); intro v481 w74 ho hb hg hat; rw [← Ny480.out] at ho; have n0_ := Aside0.mk (Kd.R_after (ok := (fun k_ => k_ ≠ gb465)) (by (with_reducible repeat (first | apply Kd.R_alloc | apply Kd.R_drewN | apply Kd.R_drew)); exact Kd.R_mono (Kd.R_far (p := ⟨gb465, 1, none⟩) (Kd.R_far (p := ⟨gb465, 0, none⟩) (Kd.R_mono HO_5.out (fun k_ hk => (⟨hk, hk.2⟩ : _ ∧ k_ ≠ gb465))) (fun _ hk => hk.2) (.int .i64 3)) (fun _ hk => hk.2) (.string (a0.extract (x7_1 : Int).toNat (x10_5 : Int).toNat))) (fun _ hk => ⟨hk.1.2, hk.1.1⟩)) hg hat); have n1_ := Aside0.mk (blk_grown (g := gb465) (o := .cells #[.int .i64 3, .string (a0.extract (x7_1 : Int).toNat (x10_5 : Int).toNat), .int .i64 x7_1] 54 (0, 0)) (by (with_reducible repeat (first | refine blk_drewN ?_ _ | refine blk_drew ?_ | refine blk_alloc ?_ _)); refine blk_put (cs := #[.int .i64 3, .string (⟨#[]⟩ : ByteArray), .int .i64 x7_1]) ?_ 1 _ rfl; (with_reducible repeat (first | refine blk_drewN ?_ _ | refine blk_drew ?_ | refine blk_alloc ?_ _)); refine blk_put (cs := #[.int .i64 0, .string (⟨#[]⟩ : ByteArray), .int .i64 x7_1]) ?_ 0 _ rfl; (with_reducible repeat (first | refine blk_drewN ?_ _ | refine blk_drew ?_ | refine blk_alloc ?_ _)); exact BK465.out) hg (Kd.R_away HO_6.out (fun _ hk => hk.2))); have n2_ := Aside0.mk (hb); have n3_ := Aside0.mk (ho); clear HO_5; clear BK465; clear HB; clear HO_6; have HO_5 := n0_; have BK465 := n1_; have HB := n2_; have HO482 := n3_; clear n0_ n1_ n2_ n3_; clear ho hb hg hat))
                                                    go_roundg k5
                                                    case measure => have := HK1.out; have := HJ11.out; have := HJ18.out; have := HJ29.out; have := HK5.out; omega
                                                    case rel => exact ⟨(y480), (x10_5), (by first | rfl | (simp; done) | (simp [*]; done)), H', ⟨by have := HK1.out; have := HJ11.out; have := HJ18.out; have := HJ29.out; have := HK5.out; omega⟩, ⟨by (with_reducible repeat (first | apply Kd.R_alloc | apply Kd.R_drewN | apply Kd.R_drew)); exact Kd.R_mono HO_5.out (fun _ hk => hk.2)⟩, ⟨by (with_reducible repeat (first | apply Kd.R_alloc | apply Kd.R_drewN | apply Kd.R_drew)); exact Kd.R_mono HO482.out (fun _ hk => hk.1)⟩, ⟨by repeat (first | (with_reducible first | exact HB.out | apply below_alloc | apply pw_below_drewN | apply below_drew1 | refine below_set ?_ GE465.out) | exact HB.out)⟩⟩
                                                  · as_aux_lemma =>
                                                    rw [if_neg c71] at H
                                                    exact absurd H (by simp)
                                                · replace c67 := Bool.eq_false_iff.mpr c67
                                                  subst c67
                                                  have H1 : (some (y459, x7_1, 4)) = some (r1, r2, r3) := by rw [if_neg (show ¬ (false = true) by decide)] at H; exact H
                                                  clear H
                                                  have H := H1
                                                  clear H1
                                                  simp only [Option.some.injEq, Prod.mk.injEq] at H
                                                  obtain ⟨rfl, rfl, rfl⟩ := H
                                                  have p60 : 0 ≤ (x10_5 : Int) := of_decide_eq_true (by first | (with_reducible assumption) | assumption)
                                                  have q60 : x10_5 < (a0.size : Int) := of_decide_eq_true (by first | (with_reducible assumption) | assumption)
                                                  have hx60 := bt_at a0 x10_5
                                                  replace p60 := eq_true p60
                                                  replace q60 := eq_true q60
                                                  go_wp2_with (first | (go_at_call 88; (with_reducible refine (spec_l01Digit.calls (bt a0 x10_5) false _ A61.out).mono ?_); rintro e w' ⟨rfl, ⟨nd, rfl⟩⟩) | ((with_reducible refine gate_callee (f := 73) rfl ?_); refine goesL_ (some 139) rfl rfl Tryd.func73 (by kernel_rfl) rfl #[.string (a0.extract (x7_1 : Int).toNat (x10_5 : Int).toNat)] rfl (by (try simp only [List.map_toArray, List.map_cons, List.map_nil]); first | done | rfl | (simp only [List.length_drop, List.length_take]; rfl)) ?_; (with_reducible refine (spec_l01Number.calls k5 (a0.extract (x7_1 : Int).toNat (x10_5 : Int).toNat) t478 false _ A66.out).mono ?_); rintro e w75 ⟨rfl, hb⟩; refine ⟨_, rfl, ?_⟩; have n0_ := Aside0.mk (Kd.R_below (by (with_reducible repeat (first | apply Kd.R_alloc | apply Kd.R_drewN | apply Kd.R_drew)); exact HO_5.out) hb); have n1_ := Aside0.mk (Kd.R_below (by (with_reducible repeat (first | apply Kd.R_alloc | apply Kd.R_drewN | apply Kd.R_drew)); exact HO_6.out) hb); have n2_ := Aside0.mk (blk_below (g := gb465) (o := .cells #[.int .i64 0, .string (⟨#[]⟩ : ByteArray), .int .i64 x7_1] 54 (0, 0)) (by (with_reducible repeat (first | refine blk_drewN ?_ _ | refine blk_drew ?_ | refine blk_alloc ?_ _)); exact BK465.out) hb); have n3_ := Aside0.mk (below_step (by repeat (first | (with_reducible first | exact HB.out | apply below_alloc | apply pw_below_drewN | apply below_drew1 | refine below_set ?_ GE465.out) | exact HB.out)) hb); clear HO_5; clear HO_6; clear BK465; clear HB; have HO_5 := n0_; have HO_6 := n1_; have BK465 := n2_; have HB := n3_; clear n0_ n1_ n2_ n3_; (try clear hb); (try clear hb2); (try clear hk); (try clear hi)))
                                                  go_ret3
                                                  exact ⟨_, by first | rfl | (simp [errW_none, errW_some] <;> rfl) | (simp [*, errW_none, errW_some] <;> rfl), by (with_reducible repeat (first | apply Kd.R_alloc | apply Kd.R_drewN | apply Kd.R_drew)); exact Kd.R_mono HO_5.out (fun _ hk => trivial), by repeat (first | (with_reducible first | exact HB.out | apply below_alloc | apply pw_below_drewN | apply below_drew1 | refine below_set ?_ GE465.out) | exact HB.out)⟩
                                              · as_aux_lemma =>
                                                rw [if_neg c65] at H
                                                exact absurd H (by simp)
                                            · as_aux_lemma =>
                                              rw [if_neg c64] at H
                                              exact absurd H (by simp)
                                          · as_aux_lemma =>
                                            rw [if_neg c63] at H
                                            exact absurd H (by simp)
                                      · as_aux_lemma =>
                                        rw [if_neg c59] at H
                                        exact absurd H (by simp)
                                    · as_aux_lemma =>
                                      rw [if_neg c58] at H
                                      have c58b0 : decide (x10_5 < (a0.size : Int)) = false := decide_eq_false c58
                                      clear c58
                                      by_cases c76 : 0 ≤ x7_1
                                      · as_aux_lemma =>
                                        rw [if_pos c76] at H
                                        have c76b0 := eq_true c76
                                        have c76b1 : decide (0 ≤ x7_1) = true := decide_eq_true c76
                                        clear c76
                                        by_cases c77 : x7_1 ≤ x10_5
                                        · as_aux_lemma =>
                                          rw [if_pos c77] at H
                                          have c77b0 := eq_true c77
                                          have c77b1 : decide (x7_1 ≤ x10_5) = true := decide_eq_true c77
                                          clear c77
                                          by_cases c78 : x10_5 ≤ (a0.size : Int)
                                          · as_aux_lemma =>
                                            rw [if_pos c78] at H
                                            have c78b0 := eq_true c78
                                            have c78b1 : decide (x10_5 ≤ (a0.size : Int)) = true := decide_eq_true c78
                                            clear c78
                                            replace H := Option.bind_eq_some_iff.mp H
                                            obtain ⟨⟨t483, t484⟩, A790, H⟩ := H
                                            replace H : (if t484 = true then (if x6_1.length < 4398046511104 then (spec_Tokens.l0 k5 a0 y459 (x6_1 ++ [(⟨3, a0.extract (x7_1 : Int).toNat (x10_5 : Int).toNat, x7_1⟩ : S54)]) x10_5) else (none)) else (some (y459, x7_1, 4))) = some (r1, r2, r3) := H
                                            have A79 := Aside0.mk A790
                                            clear A790
                                            by_cases c80 : t484 = true
                                            · subst c80
                                              have H1 : (if x6_1.length < 4398046511104 then (spec_Tokens.l0 k5 a0 y459 (x6_1 ++ [(⟨3, a0.extract (x7_1 : Int).toNat (x10_5 : Int).toNat, x7_1⟩ : S54)]) x10_5) else (none)) = some (r1, r2, r3) := by rw [if_pos rfl] at H; exact H
                                              clear H
                                              have H := H1
                                              clear H1
                                              have c81b0 := eq_true (of_decide_eq_true (by first | (with_reducible assumption) | assumption) : 0 ≤ x7_1)
                                              have c82b0 := eq_true (of_decide_eq_true (by first | (with_reducible assumption) | assumption) : x7_1 ≤ x10_5)
                                              have c83b0 := eq_true (of_decide_eq_true (by first | (with_reducible assumption) | assumption) : x10_5 ≤ (a0.size : Int))
                                              by_cases c84 : x6_1.length < 4398046511104
                                              · as_aux_lemma =>
                                                rw [if_pos c84] at H
                                                have LMc84 := Aside0.mk c84
                                                clear c84
                                                obtain ⟨y485, hy485⟩ : ∃ y_ : List (S54), y_ = (x6_1 ++ [(⟨3, a0.extract (x7_1 : Int).toNat (x10_5 : Int).toNat, x7_1⟩ : S54)]) := ⟨_, rfl⟩
                                                replace H : (spec_Tokens.l0 k5 a0 y459 y485 x10_5) = some (r1, r2, r3) := by first | (rw [hy485]; with_reducible exact H) | (have H2_ := (Option.bind_some _ _).symm.trans H; rw [hy485]; with_reducible exact H2_) | (have H2_ := (Option.bind_some _ _).symm.trans H; with_reducible exact H2_) | with_reducible exact H | (rw [hy485]; exact H) | exact H
                                                have Ny485 := Aside0.mk hy485
                                                clear hy485
                                                have H' := Aside0.mk H
                                                clear H
                                                go_wp2_with (first | ((with_reducible refine gate_callee (f := 73) rfl ?_); refine goesL_ (some 139) rfl rfl Tryd.func73 (by kernel_rfl) rfl #[.string (a0.extract (x7_1 : Int).toNat (x10_5 : Int).toNat)] rfl (by (try simp only [List.map_toArray, List.map_cons, List.map_nil]); first | done | rfl | (simp only [List.length_drop, List.length_take]; rfl)) ?_; (with_reducible refine (spec_l01Number.calls k5 (a0.extract (x7_1 : Int).toNat (x10_5 : Int).toNat) t483 true _ A79.out).mono ?_); rintro e w85 ⟨rfl, hb⟩; refine ⟨_, rfl, ?_⟩; have n0_ := Aside0.mk (Kd.R_below (by (with_reducible repeat (first | apply Kd.R_alloc | apply Kd.R_drewN | apply Kd.R_drew)); exact HO_5.out) hb); have n1_ := Aside0.mk (Kd.R_below (by (with_reducible repeat (first | apply Kd.R_alloc | apply Kd.R_drewN | apply Kd.R_drew)); exact HO_6.out) hb); have n2_ := Aside0.mk (blk_below (g := gb465) (o := .cells #[.int .i64 0, .string (⟨#[]⟩ : ByteArray), .int .i64 x7_1] 54 (0, 0)) (by (with_reducible repeat (first | refine blk_drewN ?_ _ | refine blk_drew ?_ | refine blk_alloc ?_ _)); exact BK465.out) hb); have n3_ := Aside0.mk (below_step (by repeat (first | (with_reducible first | exact HB.out | apply below_alloc | apply pw_below_drewN | apply below_drew1 | refine below_set ?_ GE465.out) | exact HB.out)) hb); clear HO_5; clear HO_6; clear BK465; clear HB; have HO_5 := n0_; have HO_6 := n1_; have BK465 := n2_; have HB := n3_; clear n0_ n1_ n2_ n3_; (try clear hb); (try clear hb2); (try clear hk); (try clear hi); have hcz86_0 : w85.cell? ⟨gb465, 0, none⟩ = some (.int .i64 0) := (blk_cell BK465.out 0).trans rfl; have hcz86_1 : w85.cell? ⟨gb465, 1, none⟩ = some (.string (⟨#[]⟩ : ByteArray)) := (blk_cell BK465.out 1).trans rfl; have hcz86_2 : w85.cell? ⟨gb465, 2, none⟩ = some (.int .i64 x7_1) := (blk_cell BK465.out 2).trans rfl; have hfz86_0 := blk_frozen BK465.out 0; have hfz86_1 := blk_frozen BK465.out 1; have hfz86_2 := blk_frozen BK465.out 2) | ((with_reducible refine gate_builtin (b := .append) (xs := #[.tmp 185, .tmp 187]) rfl ?_); (try (refine gate_guard (by rfl) ?_; dsimp only)); at_builtin; refine Kd.R_append k54 (w0 := w) w.heap.size rfl (.tmp 185) (.tmp 187) 50 54 (.agg #[(.int .i64 0), (.string ⟨#[]⟩), (.int .i64 0)]) 32 rfl Tryd.underlying50 info54 rfl (by decide) (by omega) u6 x6_1 (⟨3, a0.extract (x7_1 : Int).toNat (x10_5 : Int).toNat, x7_1⟩ : S54) [.int .i64 3, .string (a0.extract (x7_1 : Int).toNat (x10_5 : Int).toNat), .int .i64 x7_1] (fun k_ => some k_ ≠ (v460 : Value).ownBlock ∧ k_ ≠ gb465) (fun _ => False) rfl (by first | (go_simp; done) | (go_simp; rfl)) ?aP (fun _ hk => hk.elim) ?aF ?aO ?aB ?aS ?aL ?_; (case aP => exact k54_mkM _ _ _ (⟨3, a0.extract (x7_1 : Int).toNat (x10_5 : Int).toNat, x7_1⟩ : S54)); (case aB => exact (by repeat (first | (with_reducible first | exact HB.out | apply below_alloc | apply pw_below_drewN | apply below_drew1 | refine below_set ?_ GE465.out) | exact HB.out))); (case aF => exact (fun k_ hk => ⟨Kd.fresh' (Kd.R_lt (by (with_reducible repeat (first | apply Kd.R_alloc | apply Kd.R_drewN | apply Kd.R_drew)); exact (Kd.R_mono (Kd.R_far (p := ⟨gb465, 1, none⟩) (Kd.R_far (p := ⟨gb465, 0, none⟩) (Kd.R_mono HO_5.out (fun k_ hk => (⟨hk, hk.2⟩ : _ ∧ k_ ≠ gb465))) (fun _ hk => hk.2) (.int .i64 3)) (fun _ hk => hk.2) (.string (a0.extract (x7_1 : Int).toNat (x10_5 : Int).toNat))) (fun _ h_ => h_.1)))) k_ hk, Kd.freshB (g := gb465) (o := .cells #[.int .i64 3, .string (a0.extract (x7_1 : Int).toNat (x10_5 : Int).toNat), .int .i64 x7_1] 54 (0, 0)) (by (with_reducible repeat (first | refine blk_drewN ?_ _ | refine blk_drew ?_ | refine blk_alloc ?_ _)); refine blk_put (cs := #[.int .i64 3, .string (⟨#[]⟩ : ByteArray), .int .i64 x7_1]) ?_ 1 _ rfl; (with_reducible repeat (first | refine blk_drewN ?_ _ | refine blk_drew ?_ | refine blk_alloc ?_ _)); refine blk_put (cs := #[.int .i64 0, .string (⟨#[]⟩ : ByteArray), .int .i64 x7_1]) ?_ 0 _ rfl; (with_reducible repeat (first | refine blk_drewN ?_ _ | refine blk_drew ?_ | refine blk_alloc ?_ _)); exact BK465.out) k_ hk⟩)); (case aO => exact (by (with_reducible repeat (first | apply Kd.R_alloc | apply Kd.R_drewN | apply Kd.R_drew)); exact Kd.R_mono (Kd.R_far (p := ⟨gb465, 1, none⟩) (Kd.R_far (p := ⟨gb465, 0, none⟩) (Kd.R_mono HO_6.out (fun k_ hk => (⟨hk, hk.2⟩ : _ ∧ k_ ≠ gb465))) (fun _ hk => hk.2) (.int .i64 3)) (fun _ hk => hk.2) (.string (a0.extract (x7_1 : Int).toNat (x10_5 : Int).toNat))) (fun _ hk => ⟨hk.1.1, hk.1.2⟩))); (case aS => exact (below_size (by repeat (first | (with_reducible first | exact HB.out | apply below_alloc | apply pw_below_drewN | apply below_drew1 | refine below_set ?_ GE465.out) | exact HB.out)))); (case aL => have := LMc84.out; omega); intro v486 w87 ho hb hg hat; rw [← Ny485.out] at ho; have n0_ := Aside0.mk (Kd.R_after (ok := (fun k_ => k_ ≠ gb465)) (by (with_reducible repeat (first | apply Kd.R_alloc | apply Kd.R_drewN | apply Kd.R_drew)); exact Kd.R_mono (Kd.R_far (p := ⟨gb465, 1, none⟩) (Kd.R_far (p := ⟨gb465, 0, none⟩) (Kd.R_mono HO_5.out (fun k_ hk => (⟨hk, hk.2⟩ : _ ∧ k_ ≠ gb465))) (fun _ hk => hk.2) (.int .i64 3)) (fun _ hk => hk.2) (.string (a0.extract (x7_1 : Int).toNat (x10_5 : Int).toNat))) (fun _ hk => ⟨hk.1.2, hk.1.1⟩)) hg hat); have n1_ := Aside0.mk (blk_grown (g := gb465) (o := .cells #[.int .i64 3, .string (a0.extract (x7_1 : Int).toNat (x10_5 : Int).toNat), .int .i64 x7_1] 54 (0, 0)) (by (with_reducible repeat (first | refine blk_drewN ?_ _ | refine blk_drew ?_ | refine blk_alloc ?_ _)); refine blk_put (cs := #[.int .i64 3, .string (⟨#[]⟩ : ByteArray), .int .i64 x7_1]) ?_ 1 _ rfl; (with_reducible repeat (first | refine blk_drewN ?_ _ | refine blk_drew ?_ | refine blk_alloc ?_ _)); refine blk_put (cs := #[.int .i64 0, .string (⟨#[]⟩ : ByteArray), .int .i64 x7_1]) ?_ 0 _ rfl; (with_reducible repeat (first | refine blk_drewN ?_ _ | refine blk_drew ?_ | refine blk_alloc ?_ _)); exact BK465.out) hg (Kd.R_away HO_6.out (fun _ hk => hk.2))); have n2_ := Aside0.mk (hb); have n3_ := Aside0.mk (ho); clear HO_5; clear BK465; clear HB; clear HO_6; have HO_5 := n0_; have BK465 := n1_; have HB := n2_; have HO487 := n3_; clear n0_ n1_ n2_ n3_; clear ho hb hg hat))
                                                go_roundg k5
                                                case measure => have := HK1.out; have := HJ11.out; have := HJ18.out; have := HJ29.out; have := HK5.out; omega
                                                case rel => exact ⟨(y485), (x10_5), (by first | rfl | (simp; done) | (simp [*]; done)), H', ⟨by have := HK1.out; have := HJ11.out; have := HJ18.out; have := HJ29.out; have := HK5.out; omega⟩, ⟨by (with_reducible repeat (first | apply Kd.R_alloc | apply Kd.R_drewN | apply Kd.R_drew)); exact Kd.R_mono HO_5.out (fun _ hk => hk.2)⟩, ⟨by (with_reducible repeat (first | apply Kd.R_alloc | apply Kd.R_drewN | apply Kd.R_drew)); exact Kd.R_mono HO487.out (fun _ hk => hk.1)⟩, ⟨by repeat (first | (with_reducible first | exact HB.out | apply below_alloc | apply pw_below_drewN | apply below_drew1 | refine below_set ?_ GE465.out) | exact HB.out)⟩⟩
                                              · as_aux_lemma =>
                                                rw [if_neg c84] at H
                                                exact absurd H (by simp)
                                            · replace c80 := Bool.eq_false_iff.mpr c80
                                              subst c80
                                              have H1 : (some (y459, x7_1, 4)) = some (r1, r2, r3) := by rw [if_neg (show ¬ (false = true) by decide)] at H; exact H
                                              clear H
                                              have H := H1
                                              clear H1
                                              simp only [Option.some.injEq, Prod.mk.injEq] at H
                                              obtain ⟨rfl, rfl, rfl⟩ := H
                                              go_wp2_with (first | ((with_reducible refine gate_callee (f := 73) rfl ?_); refine goesL_ (some 139) rfl rfl Tryd.func73 (by kernel_rfl) rfl #[.string (a0.extract (x7_1 : Int).toNat (x10_5 : Int).toNat)] rfl (by (try simp only [List.map_toArray, List.map_cons, List.map_nil]); first | done | rfl | (simp only [List.length_drop, List.length_take]; rfl)) ?_; (with_reducible refine (spec_l01Number.calls k5 (a0.extract (x7_1 : Int).toNat (x10_5 : Int).toNat) t483 false _ A79.out).mono ?_); rintro e w88 ⟨rfl, hb⟩; refine ⟨_, rfl, ?_⟩; have n0_ := Aside0.mk (Kd.R_below (by (with_reducible repeat (first | apply Kd.R_alloc | apply Kd.R_drewN | apply Kd.R_drew)); exact HO_5.out) hb); have n1_ := Aside0.mk (Kd.R_below (by (with_reducible repeat (first | apply Kd.R_alloc | apply Kd.R_drewN | apply Kd.R_drew)); exact HO_6.out) hb); have n2_ := Aside0.mk (blk_below (g := gb465) (o := .cells #[.int .i64 0, .string (⟨#[]⟩ : ByteArray), .int .i64 x7_1] 54 (0, 0)) (by (with_reducible repeat (first | refine blk_drewN ?_ _ | refine blk_drew ?_ | refine blk_alloc ?_ _)); exact BK465.out) hb); have n3_ := Aside0.mk (below_step (by repeat (first | (with_reducible first | exact HB.out | apply below_alloc | apply pw_below_drewN | apply below_drew1 | refine below_set ?_ GE465.out) | exact HB.out)) hb); clear HO_5; clear HO_6; clear BK465; clear HB; have HO_5 := n0_; have HO_6 := n1_; have BK465 := n2_; have HB := n3_; clear n0_ n1_ n2_ n3_; (try clear hb); (try clear hb2); (try clear hk); (try clear hi)))
                                              go_ret3
                                              exact ⟨_, by first | rfl | (simp [errW_none, errW_some] <;> rfl) | (simp [*, errW_none, errW_some] <;> rfl), by (with_reducible repeat (first | apply Kd.R_alloc | apply Kd.R_drewN | apply Kd.R_drew)); exact Kd.R_mono HO_5.out (fun _ hk => trivial), by repeat (first | (with_reducible first | exact HB.out | apply below_alloc | apply pw_below_drewN | apply below_drew1 | refine below_set ?_ GE465.out) | exact HB.out)⟩
                                          · as_aux_lemma =>
                                            rw [if_neg c78] at H
                                            exact absurd H (by simp)
                                        · as_aux_lemma =>
                                          rw [if_neg c77] at H
                                          exact absurd H (by simp)
                                      · as_aux_lemma =>
                                        rw [if_neg c76] at H
                                        exact absurd H (by simp)
                              · replace c57 := Bool.eq_false_iff.mpr c57
                                subst c57
                                have H1 : (if (bt a0 x7_1) = 34 then (spec_Tokens.l4 kj29 a0 y459 x6_1 x7_1 (wrap64 (x7_1 + 1)) 0 (⟨#[]⟩ : ByteArray) x7_1) else (if 0 ≤ x7_1 then (if x7_1 ≤ (a0.size : Int) then ((spec_l03Sign.f kj29 (a0.extract (x7_1 : Int).toNat a0.size)).bind fun t496 => (if t496.toList = ([] : List UInt8) then (some (y459, x7_1, 2)) else (if x7_1 ≤ (wrap64 (x7_1 + (t496.size : Int))) then (if (wrap64 (x7_1 + (t496.size : Int))) ≤ (a0.size : Int) then (if x6_1.length < 4398046511104 then (spec_Tokens.l0 kj29 a0 y459 (x6_1 ++ [(⟨5, a0.extract (x7_1 : Int).toNat ((wrap64 (x7_1 + (t496.size : Int))) : Int).toNat, x7_1⟩ : S54)]) (wrap64 (x7_1 + (t496.size : Int)))) else (none)) else (none)) else (none)))) else (none)) else (none))) = some (r1, r2, r3) := by rw [if_neg (show ¬ (false = true) by decide)] at H; exact H
                                clear H
                                have H := H1
                                clear H1
                                by_cases c89 : (bt a0 x7_1) = 34
                                · as_aux_lemma =>
                                  rw [if_pos c89] at H
                                  have c89b0 : ((bt a0 x7_1) == 34) = true := beq_iff_eq.mpr c89
                                  have c89b1 : ((bt a0 x7_1) != 34) = false := bne_eq_false_iff_eq.mpr c89
                                  clear c89
                                  have H' := Aside0.mk H
                                  clear H
                                  go_wp2_with (first | ((with_reducible refine gate_callee (f := 88) rfl ?_); refine goesL_ (some 121) rfl rfl Tryd.func88 (by kernel_rfl) rfl #[.int .u8 (bt a0 x7_1)] rfl (by (try simp only [List.map_toArray, List.map_cons, List.map_nil]); first | done | rfl | (simp only [List.length_drop, List.length_take]; rfl)) ?_; (with_reducible refine (spec_l01Digit.calls (bt a0 x7_1) false _ A56.out).mono ?_); rintro e w' ⟨rfl, ⟨nd, rfl⟩⟩; refine ⟨_, rfl, ?_⟩))
                                  go_loopg [10] kj29 (fun kq v10 w' => ∃ (x10_5 : Int), v10 = .int .i64 x10_5 ∧ Aside0 (spec_Tokens.l4 kq a0 y459 x6_1 x7_1 x10_5 0 (⟨#[]⟩ : ByteArray) x7_1 = some (r1, r2, r3)) ∧ Aside0 (kq ≤ kj29) ∧ Aside0 (Kd.R k54 54 w' w.heap.size (fun k_ => some k_ ≠ (u6 : Value).ownBlock ∧ k_ ≠ gb465) v460 y459) ∧ Aside0 (Kd.R k54 54 w' w.heap.size (fun k_ => some k_ ≠ (v460 : Value).ownBlock ∧ k_ ≠ gb465) u6 x6_1) ∧ Aside0 (w'.heap[gb465]? = some (.cells #[.int .i64 0, .string (⟨#[]⟩ : ByteArray), .int .i64 x7_1] 54 (0, 0))) ∧ Aside0 (Below w.heap.size w w'))
                                  case atStart => exact ⟨((wrap64 (x7_1 + 1))), (by first | rfl | (simp; done) | (simp [*]; done)), H', ⟨Nat.le_refl _⟩, ⟨by (with_reducible repeat (first | apply Kd.R_alloc | apply Kd.R_drewN | apply Kd.R_drew)); exact HO_5.out⟩, ⟨by (with_reducible repeat (first | apply Kd.R_alloc | apply Kd.R_drewN | apply Kd.R_drew)); exact HO_6.out⟩, ⟨by (with_reducible repeat (first | refine blk_drewN ?_ _ | refine blk_drew ?_ | refine blk_alloc ?_ _)); exact BK465.out⟩, ⟨by repeat (first | (with_reducible first | exact HB.out | apply below_alloc | apply pw_below_drewN | apply below_drew1 | refine below_set ?_ GE465.out) | exact HB.out)⟩⟩
                                  case round =>
                                    clear H'
                                    try clear c1
                                    try clear p1
                                    try clear q1
                                    try clear hx1
                                    try clear c2
                                    try clear c2b0
                                    try clear c2b1
                                    try clear p2
                                    try clear q2
                                    try clear hx2
                                    try clear c3
                                    try clear p3
                                    try clear q3
                                    try clear hx3
                                    try clear c4
                                    try clear c5
                                    try clear c6
                                    try clear p6
                                    try clear q6
                                    try clear hx6
                                    try clear c7
                                    try clear c8
                                    try clear c9
                                    try clear c9b0
                                    try clear c10
                                    try clear c10b0
                                    try clear p11
                                    try clear q11
                                    try clear hx11
                                    try clear c15
                                    try clear c15b0
                                    try clear c15b1
                                    try clear c16
                                    try clear c16b0
                                    try clear c16b1
                                    try clear c17
                                    try clear c17b0
                                    try clear c17b1
                                    try clear c18
                                    try clear c20
                                    try clear c20b0
                                    try clear c20b1
                                    try clear c21
                                    try clear c21b0
                                    try clear c23
                                    try clear c23b0
                                    try clear p24
                                    try clear q24
                                    try clear hx24
                                    try clear c25
                                    try clear c26
                                    try clear c26b0
                                    try clear c27
                                    try clear c27b0
                                    try clear p28
                                    try clear q28
                                    try clear hx28
                                    try clear c29
                                    try clear c29b0
                                    try clear c29b1
                                    try clear c32
                                    try clear c34
                                    try clear c36
                                    try clear c36b0
                                    try clear c37
                                    try clear c37b0
                                    try clear p38
                                    try clear q38
                                    try clear hx38
                                    try clear c40
                                    try clear c41
                                    try clear c41b0
                                    try clear c43
                                    try clear c44
                                    try clear c44b0
                                    try clear c44b1
                                    try clear c45
                                    try clear c45b0
                                    try clear c45b1
                                    try clear c46
                                    try clear c46b0
                                    try clear c46b1
                                    try clear c47
                                    try clear c50
                                    try clear c50b0
                                    try clear c50b1
                                    try clear c51
                                    try clear c51b0
                                    try clear c51b1
                                    try clear c52
                                    try clear c52b0
                                    try clear c52b1
                                    try clear c53
                                    try clear c57
                                    try clear c58
                                    try clear c58b0
                                    try clear c59
                                    try clear c59b0
                                    try clear p60
                                    try clear q60
                                    try clear hx60
                                    try clear c62
                                    try clear c63
                                    try clear c63b0
                                    try clear c63b1
                                    try clear c64
                                    try clear c64b0
                                    try clear c64b1
                                    try clear p64
                                    try clear c65
                                    try clear c65b0
                                    try clear c65b1
                                    try clear c67
                                    try clear c68
                                    try clear c68b0
                                    try clear c69
                                    try clear c69b0
                                    try clear c70
                                    try clear c70b0
                                    try clear c71
                                    try clear c73
                                    try clear c76
                                    try clear c76b0
                                    try clear c76b1
                                    try clear c77
                                    try clear c77b0
                                    try clear c77b1
                                    try clear c78
                                    try clear c78b0
                                    try clear c78b1
                                    try clear c80
                                    try clear c81
                                    try clear c81b0
                                    try clear c82
                                    try clear c82b0
                                    try clear c83
                                    try clear c83b0
                                    try clear c84
                                    try clear c86
                                    try clear c88
                                    try clear c89
                                    try clear c89b0
                                    try clear c89b1
                                    try clear hcz14_0
                                    try clear hcz14_1
                                    try clear hcz14_2
                                    try clear hcz48_0
                                    try clear hcz48_1
                                    try clear hcz48_2
                                    try clear hcz54_0
                                    try clear hcz54_1
                                    try clear hcz54_2
                                    try clear hcz73_0
                                    try clear hcz73_1
                                    try clear hcz73_2
                                    try clear hcz86_0
                                    try clear hcz86_1
                                    try clear hcz86_2
                                    try clear hfz14_0
                                    try clear hfz14_1
                                    try clear hfz14_2
                                    try clear hfz48_0
                                    try clear hfz48_1
                                    try clear hfz48_2
                                    try clear hfz54_0
                                    try clear hfz54_1
                                    try clear hfz54_2
                                    try clear hfz73_0
                                    try clear hfz73_1
                                    try clear hfz73_2
                                    try clear hfz86_0
                                    try clear hfz86_1
                                    try clear hfz86_2
                                    try clear p1
                                    try clear p11
                                    try clear p2
                                    try clear p24
                                    try clear p28
                                    try clear p3
                                    try clear p38
                                    try clear p6
                                    try clear p60
                                    try clear q1
                                    try clear q11
                                    try clear q2
                                    try clear q24
                                    try clear q28
                                    try clear q3
                                    try clear q38
                                    try clear q60
                                    obtain ⟨x10_5, rfl, HA, HK5, HO_5, HO_6, BK465, HB⟩ := hrel
                                    cases gk with
                                    | zero => exact absurd HA.out (by simp [spec_Tokens.l4])
                                    | succ k5 =>
                                      have H := HA.out
                                      clear HA
                                      simp only [spec_Tokens.l4] at H
                                      by_cases c90 : x10_5 < (a0.size : Int)
                                      · as_aux_lemma =>
                                        rw [if_pos c90] at H
                                        have c90b0 : decide (x10_5 < (a0.size : Int)) = true := decide_eq_true c90
                                        clear c90
                                        by_cases c91 : 0 ≤ x10_5
                                        · as_aux_lemma =>
                                          rw [if_pos c91] at H
                                          have c91b0 : decide (0 ≤ x10_5) = true := decide_eq_true c91
                                          clear c91
                                          by_cases c93 : (bt a0 x10_5) = 34
                                          · as_aux_lemma =>
                                            rw [if_pos c93] at H
                                            have c93b0 : ((bt a0 x10_5) == 34) = true := beq_iff_eq.mpr c93
                                            have c93b1 : ((bt a0 x10_5) != 34) = false := bne_eq_false_iff_eq.mpr c93
                                            clear c93
                                            by_cases c94 : x10_5 = (a0.size : Int)
                                            · as_aux_lemma =>
                                              rw [if_pos c94] at H
                                              have c94b0 : (x10_5 == (a0.size : Int)) = true := beq_iff_eq.mpr c94
                                              have c94b1 : (x10_5 != (a0.size : Int)) = false := bne_eq_false_iff_eq.mpr c94
                                              clear c94
                                              simp only [Option.some.injEq, Prod.mk.injEq] at H
                                              obtain ⟨rfl, rfl, rfl⟩ := H
                                              have p92 : 0 ≤ (x10_5 : Int) := of_decide_eq_true (by first | (with_reducible assumption) | assumption)
                                              have q92 : x10_5 < (a0.size : Int) := of_decide_eq_true (by first | (with_reducible assumption) | assumption)
                                              have hx92 := bt_at a0 x10_5
                                              replace p92 := eq_true p92
                                              replace q92 := eq_true q92
                                              go_wp2
                                              go_ret3
                                              exact ⟨_, by first | rfl | (simp [errW_none, errW_some] <;> rfl) | (simp [*, errW_none, errW_some] <;> rfl), by (with_reducible repeat (first | apply Kd.R_alloc | apply Kd.R_drewN | apply Kd.R_drew)); exact Kd.R_mono HO_5.out (fun _ hk => trivial), by repeat (first | (with_reducible first | exact HB.out | apply below_alloc | apply pw_below_drewN | apply below_drew1 | refine below_set ?_ GE465.out) | exact HB.out)⟩
                                            · as_aux_lemma =>
                                              rw [if_neg c94] at H
                                              have c94b0 : (x10_5 == (a0.size : Int)) = false := beq_eq_false_iff_ne.mpr c94
                                              have c94b1 : (x10_5 != (a0.size : Int)) = true := bne_iff_ne.mpr c94
                                              by_cases c95 : 0 ≤ x7_1
                                              · as_aux_lemma =>
                                                rw [if_pos c95] at H
                                                have c95b0 := eq_true c95
                                                have c95b1 : decide (0 ≤ x7_1) = true := decide_eq_true c95
                                                clear c95
                                                by_cases c96 : x7_1 ≤ (wrap64 (x10_5 + 1))
                                                · as_aux_lemma =>
                                                  rw [if_pos c96] at H
                                                  have c96b0 := eq_true c96
                                                  have c96b1 : decide (x7_1 ≤ (wrap64 (x10_5 + 1))) = true := decide_eq_true c96
                                                  by_cases c97 : (wrap64 (x10_5 + 1)) ≤ (a0.size : Int)
                                                  · as_aux_lemma =>
                                                    rw [if_pos c97] at H
                                                    have c97b0 := eq_true c97
                                                    have c97b1 : decide ((wrap64 (x10_5 + 1)) ≤ (a0.size : Int)) = true := decide_eq_true c97
                                                    replace H := Option.bind_eq_some_iff.mp H
                                                    obtain ⟨t488, A980, H⟩ := H
                                                    replace H : (if t488 = 2 then (if x6_1.length < 4398046511104 then (spec_Tokens.l0 k5 a0 y459 (x6_1 ++ [(⟨4, a0.extract (x7_1 : Int).toNat ((wrap64 (x10_5 + 1)) : Int).toNat, x7_1⟩ : S54)]) (wrap64 (x10_5 + 1))) else (none)) else (some (y459, x7_1, 3))) = some (r1, r2, r3) := H
                                                    have A98 := Aside0.mk A980
                                                    clear A980
                                                    by_cases c99 : t488 = 2
                                                    · as_aux_lemma =>
                                                      rw [if_pos c99] at H
                                                      have c99b0 : (t488 == 2) = true := beq_iff_eq.mpr c99
                                                      have c99b1 : (t488 != 2) = false := bne_eq_false_iff_eq.mpr c99
                                                      clear c99
                                                      have c100b0 := eq_true (of_decide_eq_true (by first | (with_reducible assumption) | assumption) : 0 ≤ x7_1)
                                                      have c101b0 := eq_true (of_decide_eq_true (by first | (with_reducible assumption) | assumption) : x7_1 ≤ (wrap64 (x10_5 + 1)))
                                                      have c102b0 := eq_true (of_decide_eq_true (by first | (with_reducible assumption) | assumption) : (wrap64 (x10_5 + 1)) ≤ (a0.size : Int))
                                                      by_cases c103 : x6_1.length < 4398046511104
                                                      · as_aux_lemma =>
                                                        rw [if_pos c103] at H
                                                        have LMc103 := Aside0.mk c103
                                                        clear c103
                                                        obtain ⟨y489, hy489⟩ : ∃ y_ : List (S54), y_ = (x6_1 ++ [(⟨4, a0.extract (x7_1 : Int).toNat ((wrap64 (x10_5 + 1)) : Int).toNat, x7_1⟩ : S54)]) := ⟨_, rfl⟩
                                                        replace H : (spec_Tokens.l0 k5 a0 y459 y489 (wrap64 (x10_5 + 1))) = some (r1, r2, r3) := by first | (rw [hy489]; with_reducible exact H) | (have H2_ := (Option.bind_some _ _).symm.trans H; rw [hy489]; with_reducible exact H2_) | (have H2_ := (Option.bind_some _ _).symm.trans H; with_reducible exact H2_) | with_reducible exact H | (rw [hy489]; exact H) | exact H
                                                        have Ny489 := Aside0.mk hy489
                                                        clear hy489
                                                        have H' := Aside0.mk H
                                                        clear H
                                                        have p92 : 0 ≤ (x10_5 : Int) := of_decide_eq_true (by first | (with_reducible assumption) | assumption)
                                                        have q92 : x10_5 < (a0.size : Int) := of_decide_eq_true (by first | (with_reducible assumption) | assumption)
                                                        have hx92 := bt_at a0 x10_5
                                                        replace p92 := eq_true p92
                                                        replace q92 := eq_true q92
                                                        go_wp2_with (first | (go_at_call 29; (with_reducible refine (spec_TermKind.calls k5 (a0.extract (x7_1 : Int).toNat ((wrap64 (x10_5 + 1)) : Int).toNat) t488 _ A98.out).mono ?_); rintro e w104 ⟨rfl, hb⟩; have n0_ := Aside0.mk (Kd.R_below (by (with_reducible repeat (first | apply Kd.R_alloc | apply Kd.R_drewN | apply Kd.R_drew)); exact HO_5.out) hb); have n1_ := Aside0.mk (Kd.R_below (by (with_reducible repeat (first | apply Kd.R_alloc | apply Kd.R_drewN | apply Kd.R_drew)); exact HO_6.out) hb); have n2_ := Aside0.mk (blk_below (g := gb465) (o := .cells #[.int .i64 0, .string (⟨#[]⟩ : ByteArray), .int .i64 x7_1] 54 (0, 0)) (by (with_reducible repeat (first | refine blk_drewN ?_ _ | refine blk_drew ?_ | refine blk_alloc ?_ _)); exact BK465.out) hb); have n3_ := Aside0.mk (below_step (by repeat (first | (with_reducible first | exact HB.out | apply below_alloc | apply pw_below_drewN | apply below_drew1 | refine below_set ?_ GE465.out) | exact HB.out)) hb); clear HO_5; clear HO_6; clear BK465; clear HB; have HO_5 := n0_; have HO_6 := n1_; have BK465 := n2_; have HB := n3_; clear n0_ n1_ n2_ n3_; (try clear hb); (try clear hb2); (try clear hk); (try clear hi); have hcz105_0 : w104.cell? ⟨gb465, 0, none⟩ = some (.int .i64 0) := (blk_cell BK465.out 0).trans rfl; have hcz105_1 : w104.cell? ⟨gb465, 1, none⟩ = some (.string (⟨#[]⟩ : ByteArray)) := (blk_cell BK465.out 1).trans rfl; have hcz105_2 : w104.cell? ⟨gb465, 2, none⟩ = some (.int .i64 x7_1) := (blk_cell BK465.out 2).trans rfl; have hfz105_0 := blk_frozen BK465.out 0; have hfz105_1 := blk_frozen BK465.out 1; have hfz105_2 := blk_frozen BK465.out 2) | ((with_reducible refine gate_builtin (b := .append) (xs := #[.tmp 185, .tmp 187]) rfl ?_); (try (refine gate_guard (by rfl) ?_; dsimp only)); at_builtin; refine Kd.R_append k54 (w0 := w) w.heap.size rfl (.tmp 185) (.tmp 187) 50 54 (.agg #[(.int .i64 0), (.string ⟨#[]⟩), (.int .i64 0)]) 32 rfl Tryd.underlying50 info54 rfl (by decide) (by omega) u6 x6_1 (⟨4, a0.extract (x7_1 : Int).toNat ((wrap64 (x10_5 + 1)) : Int).toNat, x7_1⟩ : S54) [.int .i64 4, .string (a0.extract (x7_1 : Int).toNat ((wrap64 (x10_5 + 1)) : Int).toNat), .int .i64 x7_1] (fun k_ => some k_ ≠ (v460 : Value).ownBlock ∧ k_ ≠ gb465) (fun _ => False) rfl (by first | (go_simp; done) | (go_simp; rfl)) ?aP (fun _ hk => hk.elim) ?aF ?aO ?aB ?aS ?aL ?_; (case aP => exact k54_mkM _ _ _ (⟨4, a0.extract (x7_1 : Int).toNat ((wrap64 (x10_5 + 1)) : Int).toNat, x7_1⟩ : S54)); (case aB => exact (by repeat (first | (with_reducible first | exact HB.out | apply below_alloc | apply pw_below_drewN | apply below_drew1 | refine below_set ?_ GE465.out) | exact HB.out))); (case aF => exact (fun k_ hk => ⟨Kd.fresh' (Kd.R_lt (by (with_reducible repeat (first | apply Kd.R_alloc | apply Kd.R_drewN | apply Kd.R_drew)); exact (Kd.R_mono (Kd.R_far (p := ⟨gb465, 1, none⟩) (Kd.R_far (p := ⟨gb465, 0, none⟩) (Kd.R_mono HO_5.out (fun k_ hk => (⟨hk, hk.2⟩ : _ ∧ k_ ≠ gb465))) (fun _ hk => hk.2) (.int .i64 4)) (fun _ hk => hk.2) (.string (a0.extract (x7_1 : Int).toNat ((wrap64 (x10_5 + 1)) : Int).toNat))) (fun _ h_ => h_.1)))) k_ hk, Kd.freshB (g := gb465) (o := .cells #[.int .i64 4, .string (a0.extract (x7_1 : Int).toNat ((wrap64 (x10_5 + 1)) : Int).toNat), .int .i64 x7_1] 54 (0, 0)) (by (with_reducible repeat (first | refine blk_drewN ?_ _ | refine blk_drew ?_ | refine blk_alloc ?_ _)); refine blk_put (cs := #[.int .i64 4, .string (⟨#[]⟩ : ByteArray), .int .i64 x7_1]) ?_ 1 _ rfl; (with_reducible repeat (first | refine blk_drewN ?_ _ | refine blk_drew ?_ | refine blk_alloc ?_ _)); refine blk_put (cs := #[.int .i64 0, .string (⟨#[]⟩ : ByteArray), .int .i64 x7_1]) ?_ 0 _ rfl; (with_reducible repeat (first | refine blk_drewN ?_ _ | refine blk_drew ?_ | refine blk_alloc ?_ _)); exact BK465.out) k_ hk⟩)); (case aO => exact (by (with_reducible repeat (first | apply Kd.R_alloc | apply Kd.R_drewN | apply Kd.R_drew)); exact Kd.R_mono (Kd.R_far (p := ⟨gb465, 1, none⟩) (Kd.R_far (p := ⟨gb465, 0, none⟩) (Kd.R_mono HO_6.out (fun k_ hk => (⟨hk, hk.2⟩ : _ ∧ k_ ≠ gb465))) (fun _ hk => hk.2) (.int .i64 4)) (fun _ hk => hk.2) (.string (a0.extract (x7_1 : Int).toNat ((wrap64 (x10_5 + 1)) : Int).toNat))) (fun _ hk => ⟨hk.1.1, hk.1.2⟩))); (case aS => exact (below_size (by repeat (first | (with_reducible first | exact HB.out | apply below_alloc | apply pw_below_drewN | apply below_drew1 | refine below_set ?_ GE465.out) | exact HB.out)))); (case aL => have := LMc103.out; omega); intro v490 w106 ho hb hg hat; rw [← Ny489.out] at ho; have n0_ := Aside0.mk (Kd.R_after (ok := (fun k_ => k_ ≠ gb465)) (by (with_reducible repeat (first | apply Kd.R_alloc | apply Kd.R_drewN | apply Kd.R_drew)); exact Kd.R_mono (Kd.R_far (p := ⟨gb465, 1, none⟩) (Kd.R_far (p := ⟨gb465, 0, none⟩) (Kd.R_mono HO_5.out (fun k_ hk => (⟨hk, hk.2⟩ : _ ∧ k_ ≠ gb465))) (fun _ hk => hk.2) (.int .i64 4)) (fun _ hk => hk.2) (.string (a0.extract (x7_1 : Int).toNat ((wrap64 (x10_5 + 1)) : Int).toNat))) (fun _ hk => ⟨hk.1.2, hk.1.1⟩)) hg hat); have n1_ := Aside0.mk (blk_grown (g := gb465) (o := .cells #[.int .i64 4, .string (a0.extract (x7_1 : Int).toNat ((wrap64 (x10_5 + 1)) : Int).toNat), .int .i64 x7_1] 54 (0, 0)) (by (with_reducible repeat (first | refine blk_drewN ?_ _ | refine blk_drew ?_ | refine blk_alloc ?_ _)); refine blk_put (cs := #[.int .i64 4, .string (⟨#[]⟩ : ByteArray), .int .i64 x7_1]) ?_ 1 _ rfl; (with_reducible repeat (first | refine blk_drewN ?_ _ | refine blk_drew ?_ | refine blk_alloc ?_ _)); refine blk_put (cs := #[.int .i64 0, .string (⟨#[]⟩ : ByteArray), .int .i64 x7_1]) ?_ 0 _ rfl; (with_reducible repeat (first | refine blk_drewN ?_ _ | refine blk_drew ?_ | refine blk_alloc ?_ _)); exact BK465.out) hg (Kd.R_away HO_6.out (fun _ hk => hk.2))); have n2_ := Aside0.mk (hb); have n3_ := Aside0.mk (ho); clear HO_5; clear BK465; clear HB; clear HO_6; have HO_5 := n0_; have BK465 := n1_; have HB := n2_; have HO491 := n3_; clear n0_ n1_ n2_ n3_; clear ho hb hg hat))
                                                        go_roundg k5
                                                        case measure => have := HK1.out; have := HJ11.out; have := HJ18.out; have := HJ29.out; have := HK5.out; omega
                                                        case rel => exact ⟨(y489), (wrap64 (x10_5 + 1)), (by first | rfl | (simp; done) | (simp [*]; done)), H', ⟨by have := HK1.out; have := HJ11.out; have := HJ18.out; have := HJ29.out; have := HK5.out; omega⟩, ⟨by (with_reducible repeat (first | apply Kd.R_alloc | apply Kd.R_drewN | apply Kd.R_drew)); exact Kd.R_mono HO_5.out (fun _ hk => hk.2)⟩, ⟨by (with_reducible repeat (first | apply Kd.R_alloc | apply Kd.R_drewN | apply Kd.R_drew)); exact Kd.R_mono HO491.out (fun _ hk => hk.1)⟩, ⟨by repeat (first | (with_reducible first | exact HB.out | apply below_alloc | apply pw_below_drewN | apply below_drew1 | refine below_set ?_ GE465.out) | exact HB.out)⟩⟩
                                                      · as_aux_lemma =>
                                                        rw [if_neg c103] at H
                                                        exact absurd H (by simp)
                                                    · as_aux_lemma =>
                                                      rw [if_neg c99] at H
                                                      have c99b0 : (t488 == 2) = false := beq_eq_false_iff_ne.mpr c99
                                                      have c99b1 : (t488 != 2) = true := bne_iff_ne.mpr c99
                                                      simp only [Option.some.injEq, Prod.mk.injEq] at H
                                                      obtain ⟨rfl, rfl, rfl⟩ := H
                                                      have p92 : 0 ≤ (x10_5 : Int) := of_decide_eq_true (by first | (with_reducible assumption) | assumption)
                                                      have q92 : x10_5 < (a0.size : Int) := of_decide_eq_true (by first | (with_reducible assumption) | assumption)
                                                      have hx92 := bt_at a0 x10_5
                                                      replace p92 := eq_true p92
                                                      replace q92 := eq_true q92
                                                      go_wp2_with (first | (go_at_call 29; (with_reducible refine (spec_TermKind.calls k5 (a0.extract (x7_1 : Int).toNat ((wrap64 (x10_5 + 1)) : Int).toNat) t488 _ A98.out).mono ?_); rintro e w107 ⟨rfl, hb⟩; have n0_ := Aside0.mk (Kd.R_below (by (with_reducible repeat (first | apply Kd.R_alloc | apply Kd.R_drewN | apply Kd.R_drew)); exact HO_5.out) hb); have n1_ := Aside0.mk (Kd.R_below (by (with_reducible repeat (first | apply Kd.R_alloc | apply Kd.R_drewN | apply Kd.R_drew)); exact HO_6.out) hb); have n2_ := Aside0.mk (blk_below (g := gb465) (o := .cells #[.int .i64 0, .string (⟨#[]⟩ : ByteArray), .int .i64 x7_1] 54 (0, 0)) (by (with_reducible repeat (first | refine blk_drewN ?_ _ | refine blk_drew ?_ | refine blk_alloc ?_ _)); exact BK465.out) hb); have n3_ := Aside0.mk (below_step (by repeat (first | (with_reducible first | exact HB.out | apply below_alloc | apply pw_below_drewN | apply below_drew1 | refine below_set ?_ GE465.out) | exact HB.out)) hb); clear HO_5; clear HO_6; clear BK465; clear HB; have HO_5 := n0_; have HO_6 := n1_; have BK465 := n2_; have HB := n3_; clear n0_ n1_ n2_ n3_; (try clear hb); (try clear hb2); (try clear hk); (try clear hi)))
                                                      go_ret3
                                                      exact ⟨_, by first | rfl | (simp [errW_none, errW_some] <;> rfl) | (simp [*, errW_none, errW_some] <;> rfl), by (with_reducible repeat (first | apply Kd.R_alloc | apply Kd.R_drewN | apply Kd.R_drew)); exact Kd.R_mono HO_5.out (fun _ hk => trivial), by repeat (first | (with_reducible first | exact HB.out | apply below_alloc | apply pw_below_drewN | apply below_drew1 | refine below_set ?_ GE465.out) | exact HB.out)⟩
                                                  · as_aux_lemma =>
                                                    rw [if_neg c97] at H
                                                    exact absurd H (by simp)
                                                · as_aux_lemma =>
                                                  rw [if_neg c96] at H
                                                  exact absurd H (by simp)
                                              · as_aux_lemma =>
                                                rw [if_neg c95] at H
                                                exact absurd H (by simp)
                                          · as_aux_lemma =>
                                            rw [if_neg c93] at H
                                            have c93b0 : ((bt a0 x10_5) == 34) = false := beq_eq_false_iff_ne.mpr c93
                                            have c93b1 : ((bt a0 x10_5) != 34) = true := bne_iff_ne.mpr c93
                                            have H' := Aside0.mk H
                                            clear H
                                            have p92 : 0 ≤ (x10_5 : Int) := of_decide_eq_true (by first | (with_reducible assumption) | assumption)
                                            have q92 : x10_5 < (a0.size : Int) := of_decide_eq_true (by first | (with_reducible assumption) | assumption)
                                            have hx92 := bt_at a0 x10_5
                                            replace p92 := eq_true p92
                                            replace q92 := eq_true q92
                                            go_wp2
                                            go_roundg k5
                                            case measure => have := HK1.out; have := HJ11.out; have := HJ18.out; have := HJ29.out; have := HK5.out; omega
                                            case rel => exact ⟨(wrap64 (x10_5 + 1)), (by first | rfl | (simp; done) | (simp [*]; done)), H', ⟨by have := HK1.out; have := HJ11.out; have := HJ18.out; have := HJ29.out; have := HK5.out; omega⟩, ⟨by (with_reducible repeat (first | apply Kd.R_alloc | apply Kd.R_drewN | apply Kd.R_drew)); exact HO_5.out⟩, ⟨by (with_reducible repeat (first | apply Kd.R_alloc | apply Kd.R_drewN | apply Kd.R_drew)); exact HO_6.out⟩, ⟨by (with_reducible repeat (first | refine blk_drewN ?_ _ | refine blk_drew ?_ | refine blk_alloc ?_ _)); exact BK465.out⟩, ⟨by repeat (first | (with_reducible first | exact HB.out | apply below_alloc | apply pw_below_drewN | apply below_drew1 | refine below_set ?_ GE465.out) | exact HB.out)⟩⟩
                                        · as_aux_lemma =>
                                          rw [if_neg c91] at H
                                          exact absurd H (by simp)
                                      · as_aux_lemma =>
                                        rw [if_neg c90] at H
                                        have c90b0 : decide (x10_5 < (a0.size : Int)) = false := decide_eq_false c90
                                        clear c90
                                        by_cases c108 : x10_5 = (a0.size : Int)
                                        · as_aux_lemma =>
                                          rw [if_pos c108] at H
                                          have c108b0 : (x10_5 == (a0.size : Int)) = true := beq_iff_eq.mpr c108
                                          have c108b1 : (x10_5 != (a0.size : Int)) = false := bne_eq_false_iff_eq.mpr c108
                                          clear c108
                                          simp only [Option.some.injEq, Prod.mk.injEq] at H
                                          obtain ⟨rfl, rfl, rfl⟩ := H
                                          go_wp2
                                          go_ret3
                                          exact ⟨_, by first | rfl | (simp [errW_none, errW_some] <;> rfl) | (simp [*, errW_none, errW_some] <;> rfl), by (with_reducible repeat (first | apply Kd.R_alloc | apply Kd.R_drewN | apply Kd.R_drew)); exact Kd.R_mono HO_5.out (fun _ hk => trivial), by repeat (first | (with_reducible first | exact HB.out | apply below_alloc | apply pw_below_drewN | apply below_drew1 | refine below_set ?_ GE465.out) | exact HB.out)⟩
                                        · as_aux_lemma =>
                                          rw [if_neg c108] at H
                                          have c108b0 : (x10_5 == (a0.size : Int)) = false := beq_eq_false_iff_ne.mpr c108
                                          have c108b1 : (x10_5 != (a0.size : Int)) = true := bne_iff_ne.mpr c108
                                          by_cases c109 : 0 ≤ x7_1
                                          · as_aux_lemma =>
                                            rw [if_pos c109] at H
                                            have c109b0 := eq_true c109
                                            have c109b1 : decide (0 ≤ x7_1) = true := decide_eq_true c109
                                            clear c109
                                            by_cases c110 : x7_1 ≤ (wrap64 (x10_5 + 1))
                                            · as_aux_lemma =>
                                              rw [if_pos c110] at H
                                              have c110b0 := eq_true c110
                                              have c110b1 : decide (x7_1 ≤ (wrap64 (x10_5 + 1))) = true := decide_eq_true c110
                                              by_cases c111 : (wrap64 (x10_5 + 1)) ≤ (a0.size : Int)
                                              · as_aux_lemma =>
                                                rw [if_pos c111] at H
                                                have c111b0 := eq_true c111
                                                have c111b1 : decide ((wrap64 (x10_5 + 1)) ≤ (a0.size : Int)) = true := decide_eq_true c111
                                                replace H := Option.bind_eq_some_iff.mp H
                                                obtain ⟨t492, A1120, H⟩ := H
                                                replace H : (if t492 = 2 then (if x6_1.length < 4398046511104 then (spec_Tokens.l0 k5 a0 y459 (x6_1 ++ [(⟨4, a0.extract (x7_1 : Int).toNat ((wrap64 (x10_5 + 1)) : Int).toNat, x7_1⟩ : S54)]) (wrap64 (x10_5 + 1))) else (none)) else (some (y459, x7_1, 3))) = some (r1, r2, r3) := H
                                                have A112 := Aside0.mk A1120
                                                clear A1120
                                                by_cases c113 : t492 = 2
                                                · as_aux_lemma =>
                                                  rw [if_pos c113] at H
                                                  have c113b0 : (t492 == 2) = true := beq_iff_eq.mpr c113
                                                  have c113b1 : (t492 != 2) = false := bne_eq_false_iff_eq.mpr c113
                                                  clear c113
                                                  have c114b0 := eq_true (of_decide_eq_true (by first | (with_reducible assumption) | assumption) : 0 ≤ x7_1)
                                                  have c115b0 := eq_true (of_decide_eq_true (by first | (with_reducible assumption) | assumption) : x7_1 ≤ (wrap64 (x10_5 + 1)))
                                                  have c116b0 := eq_true (of_decide_eq_true (by first | (with_reducible assumption) | assumption) : (wrap64 (x10_5 + 1)) ≤ (a0.size : Int))
                                                  by_cases c117 : x6_1.length < 4398046511104
                                                  · as_aux_lemma =>
                                                    rw [if_pos c117] at H
                                                    have LMc117 := Aside0.mk c117
                                                    clear c117
                                                    obtain ⟨y493, hy493⟩ : ∃ y_ : List (S54), y_ = (x6_1 ++ [(⟨4, a0.extract (x7_1 : Int).toNat ((wrap64 (x10_5 + 1)) : Int).toNat, x7_1⟩ : S54)]) := ⟨_, rfl⟩
                                                    replace H : (spec_Tokens.l0 k5 a0 y459 y493 (wrap64 (x10_5 + 1))) = some (r1, r2, r3) := by first | (rw [hy493]; with_reducible exact H) | (have H2_ := (Option.bind_some _ _).symm.trans H; rw [hy493]; with_reducible exact H2_) | (have H2_ := (Option.bind_some _ _).symm.trans H; with_reducible exact H2_) | with_reducible exact H | (rw [hy493]; exact H) | exact H
                                                    have Ny493 := Aside0.mk hy493
                                                    clear hy493
                                                    have H' := Aside0.mk H
                                                    clear H
                                                    go_wp2_with (first | (go_at_call 29; (with_reducible refine (spec_TermKind.calls k5 (a0.extract (x7_1 : Int).toNat ((wrap64 (x10_5 + 1)) : Int).toNat) t492 _ A112.out).mono ?_); rintro e w118 ⟨rfl, hb⟩; have n0_ := Aside0.mk (Kd.R_below (by (with_reducible repeat (first | apply Kd.R_alloc | apply Kd.R_drewN | apply Kd.R_drew)); exact HO_5.out) hb); have n1_ := Aside0.mk (Kd.R_below (by (with_reducible repeat (first | apply Kd.R_alloc | apply Kd.R_drewN | apply Kd.R_drew)); exact HO_6.out) hb); have n2_ := Aside0.mk (blk_below (g := gb465) (o := .cells #[.int .i64 0, .string (⟨#[]⟩ : ByteArray), .int .i64 x7_1] 54 (0, 0)) (by (with_reducible repeat (first | refine blk_drewN ?_ _ | refine blk_drew ?_ | refine blk_alloc ?_ _)); exact BK465.out) hb); have n3_ := Aside0.mk (below_step (by repeat (first | (with_reducible first | exact HB.out | apply below_alloc | apply pw_below_drewN | apply below_drew1 | refine below_set ?_ GE465.out) | exact HB.out)) hb); clear HO_5; clear HO_6; clear BK465; clear HB; have HO_5 := n0_; have HO_6 := n1_; have BK465 := n2_; have HB := n3_; clear n0_ n1_ n2_ n3_; (try clear hb); (try clear hb2); (try clear hk); (try clear hi); have hcz119_0 : w118.cell? ⟨gb465, 0, none⟩ = some (.int .i64 0) := (blk_cell BK465.out 0).trans rfl; have hcz119_1 : w118.cell? ⟨gb465, 1, none⟩ = some (.string (⟨#[]⟩ : ByteArray)) := (blk_cell BK465.out 1).trans rfl; have hcz119_2 : w118.cell? ⟨gb465, 2, none⟩ = some (.int .i64 x7_1) := (blk_cell BK465.out 2).trans rfl; have hfz119_0 := blk_frozen BK465.out 0; have hfz119_1 := blk_frozen BK465.out 1; have hfz119_2 := blk_frozen BK465.out 2) | ((with_reducible refine gate_builtin (b := .append) (xs := #[.tmp 185, .tmp 187]) rfl ?_); (try (refine gate_guard (by rfl) ?_; dsimp only)); at_builtin; refine Kd.R_append k54 (w0 := w) w.heap.size rfl (.tmp 185) (.tmp 187) 50 54 (.agg #[(.int .i64 0), (.string ⟨#[]⟩), (.int .i64 0)]) 32 rfl Tryd.underlying50 info54 rfl (by decide) (by omega) u6 x6_1 (⟨4, a0.extract (x7_1 : Int).toNat ((wrap64 (x10_5 + 1)) : Int).toNat, x7_1⟩ : S54) [.int .i64 4, .string (a0.extract (x7_1 : Int).toNat ((wrap64 (x10_5 + 1)) : Int).toNat), .int .i64 x7_1] (fun k_ => some k_ ≠ (v460 : Value).ownBlock ∧ k_ ≠ gb465) (fun _ => False) rfl (by first | (go_simp; done) | (go_simp; rfl)) ?aP (fun _ hk => hk.elim) ?aF ?aO ?aB ?aS ?aL ?_; (case aP => exact k54_mkM _ _ _ (⟨4, a0.extract (x7_1 : Int).toNat ((wrap64 (x10_5 + 1)) : Int).toNat, x7_1⟩ : S54)); (case aB => exact (by repeat (first | (with_reducible first | exact HB.out | apply below_alloc | apply pw_below_drewN | apply below_drew1 | refine below_set ?_ GE465.out) | exact HB.out))); (case aF => exact (fun k_ hk => ⟨Kd.fresh' (Kd.R_lt (by (with_reducible repeat (first | apply Kd.R_alloc | apply Kd.R_drewN | apply Kd.R_drew)); exact (Kd.R_mono (Kd.R_far (p := ⟨gb465, 1, none⟩) (Kd.R_far (p := ⟨gb465, 0, none⟩) (Kd.R_mono HO_5.out (fun k_ hk => (⟨hk, hk.2⟩ : _ ∧ k_ ≠ gb465))) (fun _ hk => hk.2) (.int .i64 4)) (fun _ hk => hk.2) (.string (a0.extract (x7_1 : Int).toNat ((wrap64 (x10_5 + 1)) : Int).toNat))) (fun _ h_ => h_.1)))) k_ hk, Kd.freshB (g := gb465) (o := .cells #[.int .i64 4, .string (a0.extract (x7_1 : Int).toNat ((wrap64 (x10_5 + 1)) : Int).toNat), .int .i64 x7_1] 54 (0, 0)) (by (with_reducible repeat (first | refine blk_drewN ?_ _ | refine blk_drew ?_ | refine blk_alloc ?_ _)); refine blk_put (cs := #[.int .i64 4, .string (⟨#[]⟩ : ByteArray), .int .i64 x7_1]) ?_ 1 _ rfl; (with_reducible repeat (first | refine blk_drewN ?_ _ | refine blk_drew ?_ | refine blk_alloc ?_ _)); refine blk_put (cs := #[.int .i64 0, .string (⟨#[]⟩ : ByteArray), .int .i64 x7_1]) ?_ 0 _ rfl; (with_reducible repeat (first | refine blk_drewN ?_ _ | refine blk_drew ?_ | refine blk_alloc ?_ _)); exact BK465.out) k_ hk⟩)); (case aO => exact (by (with_reducible repeat (first | apply Kd.R_alloc | apply Kd.R_drewN | apply Kd.R_drew)); exact Kd.R_mono (Kd.R_far (p := ⟨gb465, 1, none⟩) (Kd.R_far (p := ⟨gb465, 0, none⟩) (Kd.R_mono HO_6.out (fun k_ hk => (⟨hk, hk.2⟩ : _ ∧ k_ ≠ gb465))) (fun _ hk => hk.2) (.int .i64 4)) (fun _ hk => hk.2) (.string (a0.extract (x7_1 : Int).toNat ((wrap64 (x10_5 + 1)) : Int).toNat))) (fun _ hk => ⟨hk.1.1, hk.1.2⟩))); (case aS => exact (below_size (by repeat (first | (with_reducible first | exact HB.out | apply below_alloc | apply pw_below_drewN | apply below_drew1 | refine below_set ?_ GE465.out) | exact HB.out)))); (case aL => have := LMc117.out; omega); intro v494 w120 ho hb hg hat; rw [← Ny493.out] at ho; have n0_ := Aside0.mk (Kd.R_after (ok := (fun k_ => k_ ≠ gb465)) (by (with_reducible repeat (first | apply Kd.R_alloc | apply Kd.R_drewN | apply Kd.R_drew)); exact Kd.R_mono (Kd.R_far (p := ⟨gb465, 1, none⟩) (Kd.R_far (p := ⟨gb465, 0, none⟩) (Kd.R_mono HO_5.out (fun k_ hk => (⟨hk, hk.2⟩ : _ ∧ k_ ≠ gb465))) (fun _ hk => hk.2) (.int .i64 4)) (fun _ hk => hk.2) (.string (a0.extract (x7_1 : Int).toNat ((wrap64 (x10_5 + 1)) : Int).toNat))) (fun _ hk => ⟨hk.1.2, hk.1.1⟩)) hg hat); have n1_ := Aside0.mk (blk_grown (g := gb465) (o := .cells #[.int .i64 4, .string (a0.extract (x7_1 : Int).toNat ((wrap64 (x10_5 + 1)) : Int).toNat), .int .i64 x7_1] 54 (0, 0)) (by (with_reducible repeat (first | refine blk_drewN ?_ _ | refine blk_drew ?_ | refine blk_alloc ?_ _)); refine blk_put (cs := #[.int .i64 4, .string (⟨#[]⟩ : ByteArray), .int .i64 x7_1]) ?_ 1 _ rfl; (with_reducible repeat (first | refine blk_drewN ?_ _ | refine blk_drew ?_ | refine blk_alloc ?_ _)); refine blk_put (cs := #[.int .i64 0, .string (⟨#[]⟩ : ByteArray), .int .i64 x7_1]) ?_ 0 _ rfl; (with_reducible repeat (first | refine blk_drewN ?_ _ | refine blk_drew ?_ | refine blk_alloc ?_ _)); exact BK465.out) hg (Kd.R_away HO_6.out (fun _ hk => hk.2))); have n2_ := Aside0.mk (hb); have n3_ := Aside0.mk (ho); clear HO_5; clear BK465; clear HB; clear HO_6; have HO_5 := n0_; have BK465 := n1_; have HB := n2_; have HO495 := n3_; clear n0_ n1_ n2_ n3_; clear ho hb hg hat))
                                                    go_roundg k5
                                                    case measure => have := HK1.out; have := HJ11.out; have := HJ18.out; have := HJ29.out; have := HK5.out; omega
                                                    case rel => exact ⟨(y493), (wrap64 (x10_5 + 1)), (by first | rfl | (simp; done) | (simp [*]; done)), H', ⟨by have := HK1.out; have := HJ11.out; have := HJ18.out; have := HJ29.out; have := HK5.out; omega⟩, ⟨by (with_reducible repeat (first | apply Kd.R_alloc | apply Kd.R_drewN | apply Kd.R_drew)); exact Kd.R_mono HO_5.out (fun _ hk => hk.2)⟩, ⟨by (with_reducible repeat (first | apply Kd.R_alloc | apply Kd.R_drewN | apply Kd.R_drew)); exact Kd.R_mono HO495.out (fun _ hk => hk.1)⟩, ⟨by repeat (first | (with_reducible first | exact HB.out | apply below_alloc | apply pw_below_drewN | apply below_drew1 | refine below_set ?_ GE465.out) | exact HB.out)⟩⟩
                                                  · as_aux_lemma =>
                                                    rw [if_neg c117] at H
                                                    exact absurd H (by simp)
                                                · as_aux_lemma =>
                                                  rw [if_neg c113] at H
                                                  have c113b0 : (t492 == 2) = false := beq_eq_false_iff_ne.mpr c113
                                                  have c113b1 : (t492 != 2) = true := bne_iff_ne.mpr c113
                                                  simp only [Option.some.injEq, Prod.mk.injEq] at H
                                                  obtain ⟨rfl, rfl, rfl⟩ := H
                                                  go_wp2_with (first | (go_at_call 29; (with_reducible refine (spec_TermKind.calls k5 (a0.extract (x7_1 : Int).toNat ((wrap64 (x10_5 + 1)) : Int).toNat) t492 _ A112.out).mono ?_); rintro e w121 ⟨rfl, hb⟩; have n0_ := Aside0.mk (Kd.R_below (by (with_reducible repeat (first | apply Kd.R_alloc | apply Kd.R_drewN | apply Kd.R_drew)); exact HO_5.out) hb); have n1_ := Aside0.mk (Kd.R_below (by (with_reducible repeat (first | apply Kd.R_alloc | apply Kd.R_drewN | apply Kd.R_drew)); exact HO_6.out) hb); have n2_ := Aside0.mk (blk_below (g := gb465) (o := .cells #[.int .i64 0, .string (⟨#[]⟩ : ByteArray), .int .i64 x7_1] 54 (0, 0)) (by (with_reducible repeat (first | refine blk_drewN ?_ _ | refine blk_drew ?_ | refine blk_alloc ?_ _)); exact BK465.out) hb); have n3_ := Aside0.mk (below_step (by repeat (first | (with_reducible first | exact HB.out | apply below_alloc | apply pw_below_drewN | apply below_drew1 | refine below_set ?_ GE465.out) | exact HB.out)) hb); clear HO_5; clear HO_6; clear BK465; clear HB; have HO_5 := n0_; have HO_6 := n1_; have BK465 := n2_; have HB := n3_; clear n0_ n1_ n2_ n3_; (try clear hb); (try clear hb2); (try clear hk); (try clear hi)))
                                                  go_ret3
                                                  exact ⟨_, by first | rfl | (simp [errW_none, errW_some] <;> rfl) | (simp [*, errW_none, errW_some] <;> rfl), by (with_reducible repeat (first | apply Kd.R_alloc | apply Kd.R_drewN | apply Kd.R_drew)); exact Kd.R_mono HO_5.out (fun _ hk => trivial), by repeat (first | (with_reducible first | exact HB.out | apply below_alloc | apply pw_below_drewN | apply below_drew1 | refine below_set ?_ GE465.out) | exact HB.out)⟩
                                              · as_aux_lemma =>
                                                rw [if_neg c111] at H
                                                exact absurd H (by simp)
                                            · as_aux_lemma =>
                                              rw [if_neg c110] at H
                                              exact absurd H (by simp)
                                          · as_aux_lemma =>
                                            rw [if_neg c109] at H
                                            exact absurd H (by simp)
                                · as_aux_lemma =>
                                  rw [if_neg c89] at H
                                  have c89b0 : ((bt a0 x7_1) == 34) = false := beq_eq_false_iff_ne.mpr c89
                                  have c89b1 : ((bt a0 x7_1) != 34) = true := bne_iff_ne.mpr c89
                                  by_cases c122 : 0 ≤ x7_1
                                  · as_aux_lemma =>
                                    rw [if_pos c122] at H
                                    have c122b0 := eq_true c122
                                    have c122b1 : decide (0 ≤ x7_1) = true := decide_eq_true c122
                                    clear c122
                                    by_cases c123 : x7_1 ≤ (a0.size : Int)
                                    · as_aux_lemma =>
                                      rw [if_pos c123] at H
                                      have c123b0 := eq_true c123
                                      have c123b1 : decide (x7_1 ≤ (a0.size : Int)) = true := decide_eq_true c123
                                      clear c123
                                      replace H := Option.bind_eq_some_iff.mp H
                                      obtain ⟨t496, A1240, H⟩ := H
                                      replace H : (if t496.toList = ([] : List UInt8) then (some (y459, x7_1, 2)) else (if x7_1 ≤ (wrap64 (x7_1 + (t496.size : Int))) then (if (wrap64 (x7_1 + (t496.size : Int))) ≤ (a0.size : Int) then (if x6_1.length < 4398046511104 then (spec_Tokens.l0 kj29 a0 y459 (x6_1 ++ [(⟨5, a0.extract (x7_1 : Int).toNat ((wrap64 (x7_1 + (t496.size : Int))) : Int).toNat, x7_1⟩ : S54)]) (wrap64 (x7_1 + (t496.size : Int)))) else (none)) else (none)) else (none))) = some (r1, r2, r3) := H
                                      have A124 := Aside0.mk A1240
                                      clear A1240
                                      by_cases c125 : t496.toList = ([] : List UInt8)
                                      · as_aux_lemma =>
                                        rw [if_pos c125] at H
                                        have c125b0 : (t496.toList == ([] : List UInt8)) = true := beq_iff_eq.mpr c125
                                        have c125b1 : (t496.toList != ([] : List UInt8)) = false := bne_eq_false_iff_eq.mpr c125
                                        clear c125
                                        simp only [Option.some.injEq, Prod.mk.injEq] at H
                                        obtain ⟨rfl, rfl, rfl⟩ := H
                                        go_wp2_with (first | ((with_reducible refine gate_callee (f := 88) rfl ?_); refine goesL_ (some 121) rfl rfl Tryd.func88 (by kernel_rfl) rfl #[.int .u8 (bt a0 x7_1)] rfl (by (try simp only [List.map_toArray, List.map_cons, List.map_nil]); first | done | rfl | (simp only [List.length_drop, List.length_take]; rfl)) ?_; (with_reducible refine (spec_l01Digit.calls (bt a0 x7_1) false _ A56.out).mono ?_); rintro e w' ⟨rfl, ⟨nd, rfl⟩⟩; refine ⟨_, rfl, ?_⟩) | ((with_reducible refine gate_callee (f := 89) rfl ?_); refine goesL_ (some 34) rfl rfl Tryd.func89 (by kernel_rfl) rfl #[.string (a0.extract (x7_1 : Int).toNat a0.size)] rfl (by (try simp only [List.map_toArray, List.map_cons, List.map_nil]); first | done | rfl | (simp only [List.length_drop, List.length_take]; rfl)) ?_; (with_reducible refine (spec_l03Sign.calls kj29 (a0.extract (x7_1 : Int).toNat a0.size) t496 _ A124.out).mono ?_); rintro e w' ⟨rfl, ⟨nd, rfl⟩⟩; refine ⟨_, rfl, ?_⟩))
                                        go_ret3
                                        exact ⟨_, by first | rfl | (simp [errW_none, errW_some] <;> rfl) | (simp [*, errW_none, errW_some] <;> rfl), by (with_reducible repeat (first | apply Kd.R_alloc | apply Kd.R_drewN | apply Kd.R_drew)); exact Kd.R_mono HO_5.out (fun _ hk => trivial), by repeat (first | (with_reducible first | exact HB.out | apply below_alloc | apply pw_below_drewN | apply below_drew1 | refine below_set ?_ GE465.out) | exact HB.out)⟩
                                      · as_aux_lemma =>
                                        rw [if_neg c125] at H
                                        have c125b0 : (t496.toList == ([] : List UInt8)) = false := beq_eq_false_iff_ne.mpr c125
                                        have c125b1 : (t496.toList != ([] : List UInt8)) = true := bne_iff_ne.mpr c125
                                        have c126b0 := eq_true (of_decide_eq_true (by first | (with_reducible assumption) | assumption) : 0 ≤ x7_1)
                                        by_cases c127 : x7_1 ≤ (wrap64 (x7_1 + (t496.size : Int)))
                                        · as_aux_lemma =>
                                          rw [if_pos c127] at H
                                          have c127b0 := eq_true c127
                                          have c127b1 : decide (x7_1 ≤ (wrap64 (x7_1 + (t496.size : Int)))) = true := decide_eq_true c127
                                          by_cases c128 : (wrap64 (x7_1 + (t496.size : Int))) ≤ (a0.size : Int)
                                          · as_aux_lemma =>
                                            rw [if_pos c128] at H
                                            have c128b0 := eq_true c128
                                            have c128b1 : decide ((wrap64 (x7_1 + (t496.size : Int))) ≤ (a0.size : Int)) = true := decide_eq_true c128
                                            by_cases c129 : x6_1.length < 4398046511104
                                            · as_aux_lemma =>
                                              rw [if_pos c129] at H
                                              have LMc129 := Aside0.mk c129
                                              clear c129
                                              obtain ⟨y497, hy497⟩ : ∃ y_ : List (S54), y_ = (x6_1 ++ [(⟨5, a0.extract (x7_1 : Int).toNat ((wrap64 (x7_1 + (t496.size : Int))) : Int).toNat, x7_1⟩ : S54)]) := ⟨_, rfl⟩
                                              replace H : (spec_Tokens.l0 kj29 a0 y459 y497 (wrap64 (x7_1 + (t496.size : Int)))) = some (r1, r2, r3) := by first | (rw [hy497]; with_reducible exact H) | (have H2_ := (Option.bind_some _ _).symm.trans H; rw [hy497]; with_reducible exact H2_) | (have H2_ := (Option.bind_some _ _).symm.trans H; with_reducible exact H2_) | with_reducible exact H | (rw [hy497]; exact H) | exact H
                                              have Ny497 := Aside0.mk hy497
                                              clear hy497
                                              have H' := Aside0.mk H
                                              clear H
                                              go_wp2_with (first | ((with_reducible refine gate_callee (f := 88) rfl ?_); refine goesL_ (some 121) rfl rfl Tryd.func88 (by kernel_rfl) rfl #[.int .u8 (bt a0 x7_1)] rfl (by (try simp only [List.map_toArray, List.map_cons, List.map_nil]); first | done | rfl | (simp only [List.length_drop, List.length_take]; rfl)) ?_; (with_reducible refine (spec_l01Digit.calls (bt a0 x7_1) false _ A56.out).mono ?_); rintro e w' ⟨rfl, ⟨nd, rfl⟩⟩; refine ⟨_, rfl, ?_⟩; (try (rw [drewN_self wc]; generalize hq_ : World.drewN wc _ = wc; have n0_ : Aside0 (Kd.R k54 54 wc w.heap.size (fun k_ => some k_ ≠ (u6 : Value).ownBlock ∧ k_ ≠ gb465) v460 y459) := ⟨by rw [← hq_]; exact (by (with_reducible repeat (first | apply Kd.R_alloc | apply Kd.R_drewN | apply Kd.R_drew)); exact HO_5.out)⟩; have n1_ : Aside0 (Kd.R k54 54 wc w.heap.size (fun k_ => some k_ ≠ (v460 : Value).ownBlock ∧ k_ ≠ gb465) u6 x6_1) := ⟨by rw [← hq_]; exact (by (with_reducible repeat (first | apply Kd.R_alloc | apply Kd.R_drewN | apply Kd.R_drew)); exact HO_6.out)⟩; have n2_ : Aside0 (wc.heap[gb465]? = some (.cells #[.int .i64 0, .string (⟨#[]⟩ : ByteArray), .int .i64 x7_1] 54 (0, 0))) := ⟨by rw [← hq_]; exact (by (with_reducible repeat (first | refine blk_drewN ?_ _ | refine blk_drew ?_ | refine blk_alloc ?_ _)); exact BK465.out)⟩; have n3_ : Aside0 (Below w.heap.size w wc) := ⟨by rw [← hq_]; exact (by repeat (first | (with_reducible first | exact HB.out | apply below_alloc | apply pw_below_drewN | apply below_drew1 | refine below_set ?_ GE465.out) | exact HB.out))⟩; clear HO_5 HO_6 BK465 HB hq_; have HO_5 := n0_; have HO_6 := n1_; have BK465 := n2_; have HB := n3_; clear n0_ n1_ n2_ n3_))) | ((with_reducible refine gate_callee (f := 89) rfl ?_); refine goesL_ (some 34) rfl rfl Tryd.func89 (by kernel_rfl) rfl #[.string (a0.extract (x7_1 : Int).toNat a0.size)] rfl (by (try simp only [List.map_toArray, List.map_cons, List.map_nil]); first | done | rfl | (simp only [List.length_drop, List.length_take]; rfl)) ?_; (with_reducible refine (spec_l03Sign.calls kj29 (a0.extract (x7_1 : Int).toNat a0.size) t496 _ A124.out).mono ?_); rintro e w' ⟨rfl, ⟨nd, rfl⟩⟩; refine ⟨_, rfl, ?_⟩; (try (rw [drewN_self wc]; generalize hq_ : World.drewN wc _ = wc; have n0_ : Aside0 (Kd.R k54 54 wc w.heap.size (fun k_ => some k_ ≠ (u6 : Value).ownBlock ∧ k_ ≠ gb465) v460 y459) := ⟨by rw [← hq_]; exact (by (with_reducible repeat (first | apply Kd.R_alloc | apply Kd.R_drewN | apply Kd.R_drew)); exact HO_5.out)⟩; have n1_ : Aside0 (Kd.R k54 54 wc w.heap.size (fun k_ => some k_ ≠ (v460 : Value).ownBlock ∧ k_ ≠ gb465) u6 x6_1) := ⟨by rw [← hq_]; exact (by (with_reducible repeat (first | apply Kd.R_alloc | apply Kd.R_drewN | apply Kd.R_drew)); exact HO_6.out)⟩; have n2_ : Aside0 (wc.heap[gb465]? = some (.cells #[.int .i64 0, .string (⟨#[]⟩ : ByteArray), .int .i64 x7_1] 54 (0, 0))) := ⟨by rw [← hq_]; exact (by (with_reducible repeat (first | refine blk_drewN ?_ _ | refine blk_drew ?_ | refine blk_alloc ?_ _)); exact BK465.out)⟩; have n3_ : Aside0 (Below w.heap.size w wc) := ⟨by rw [← hq_]; exact (by repeat (first | (with_reducible first | exact HB.out | apply below_alloc | apply pw_below_drewN | apply below_drew1 | refine below_set ?_ GE465.out) | exact HB.out))⟩; clear HO_5 HO_6 BK465 HB hq_; have HO_5 := n0_; have HO_6 := n1_; have BK465 := n2_; have HB := n3_; clear n0_ n1_ n2_ n3_)); have hcz130_0 : wc.cell? ⟨gb465, 0, none⟩ = some (.int .i64 0) := (blk_cell BK465.out 0).trans rfl; have hcz130_1 : wc.cell? ⟨gb465, 1, none⟩ = some (.string (⟨#[]⟩ : ByteArray)) := (blk_cell BK465.out 1).trans rfl; have hcz130_2 : wc.cell? ⟨gb465, 2, none⟩ = some (.int .i64 x7_1) := (blk_cell BK465.out 2).trans rfl; have hfz130_0 := blk_frozen BK465.out 0; have hfz130_1 := blk_frozen BK465.out 1; have hfz130_2 := blk_frozen BK465.out 2) | ((with_reducible refine gate_builtin (b := .append) (xs := #[.tmp 185, .tmp 187]) rfl ?_); (try (refine gate_guard (by rfl) ?_; dsimp only)); at_builtin; refine Kd.R_append k54 (w0 := w) w.heap.size rfl (.tmp 185) (.tmp 187) 50 54 (.agg #[(.int .i64 0), (.string ⟨#[]⟩), (.int .i64 0)]) 32 rfl Tryd.underlying50 info54 rfl (by decide) (by omega) u6 x6_1 (⟨5, a0.extract (x7_1 : Int).toNat ((wrap64 (x7_1 + (t496.size : Int))) : Int).toNat, x7_1⟩ : S54) [.int .i64 5, .string (a0.extract (x7_1 : Int).toNat ((wrap64 (x7_1 + (t496.size : Int))) : Int).toNat), .int .i64 x7_1] (fun k_ => some k_ ≠ (v460 : Value).ownBlock ∧ k_ ≠ gb465) (fun _ => False) rfl (by first | (go_simp; done) | (go_simp; rfl)) ?aP (fun _ hk => hk.elim) ?aF ?aO ?aB ?aS ?aL ?_; (case aP => exact k54_mkM _ _ _ (⟨5, a0.extract (x7_1 : Int).toNat ((wrap64 (x7_1 + (t496.size : Int))) : Int).toNat, x7_1⟩ : S54)); (case aB => exact (by repeat (first | (with_reducible first | exact HB.out | apply below_alloc | apply pw_below_drewN | apply below_drew1 | refine below_set ?_ GE465.out) | exact HB.out))); (case aF => exact (fun k_ hk => ⟨Kd.fresh' (Kd.R_lt (by (with_reducible repeat (first | apply Kd.R_alloc | apply Kd.R_drewN | apply Kd.R_drew)); exact (Kd.R_mono (Kd.R_far (p := ⟨gb465, 1, none⟩) (Kd.R_far (p := ⟨gb465, 0, none⟩) (Kd.R_mono HO_5.out (fun k_ hk => (⟨hk, hk.2⟩ : _ ∧ k_ ≠ gb465))) (fun _ hk => hk.2) (.int .i64 5)) (fun _ hk => hk.2) (.string (a0.extract (x7_1 : Int).toNat ((wrap64 (x7_1 + (t496.size : Int))) : Int).toNat))) (fun _ h_ => h_.1)))) k_ hk, Kd.freshB (g := gb465) (o := .cells #[.int .i64 5, .string (a0.extract (x7_1 : Int).toNat ((wrap64 (x7_1 + (t496.size : Int))) : Int).toNat), .int .i64 x7_1] 54 (0, 0)) (by (with_reducible repeat (first | refine blk_drewN ?_ _ | refine blk_drew ?_ | refine blk_alloc ?_ _)); refine blk_put (cs := #[.int .i64 5, .string (⟨#[]⟩ : ByteArray), .int .i64 x7_1]) ?_ 1 _ rfl; (with_reducible repeat (first | refine blk_drewN ?_ _ | refine blk_drew ?_ | refine blk_alloc ?_ _)); refine blk_put (cs := #[.int .i64 0, .string (⟨#[]⟩ : ByteArray), .int .i64 x7_1]) ?_ 0 _ rfl; (with_reducible repeat (first | refine blk_drewN ?_ _ | refine blk_drew ?_ | refine blk_alloc ?_ _)); exact BK465.out) k_ hk⟩)); (case aO => exact (by (with_reducible repeat (first | apply Kd.R_alloc | apply Kd.R_drewN | apply Kd.R_drew)); exact Kd.R_mono (Kd.R_far (p := ⟨gb465, 1, none⟩) (Kd.R_far (p := ⟨gb465, 0, none⟩) (Kd.R_mono HO_6.out (fun k_ hk => (⟨hk, hk.2⟩ : _ ∧ k_ ≠ gb465))) (fun _ hk => hk.2) (.int .i64 5)) (fun _ hk => hk.2) (.string (a0.extract (x7_1 : Int).toNat ((wrap64 (x7_1 + (t496.size : Int))) : Int).toNat))) (fun _ hk => ⟨hk.1.1, hk.1.2⟩))); (case aS => exact (below_size (by repeat (first | (with_reducible first | exact HB.out | apply below_alloc | apply pw_below_drewN | apply below_drew1 | refine below_set ?_ GE465.out) | exact HB.out)))); (case aL => have := LMc129.out; omega); intro v498 w131 ho hb hg hat; rw [← Ny497.out] at ho; have n0_ := Aside0.mk (Kd.R_after (ok := (fun k_ => k_ ≠ gb465)) (by (with_reducible repeat (first | apply Kd.R_alloc | apply Kd.R_drewN | apply Kd.R_drew)); exact Kd.R_mono (Kd.R_far (p := ⟨gb465, 1, none⟩) (Kd.R_far (p := ⟨gb465, 0, none⟩) (Kd.R_mono HO_5.out (fun k_ hk => (⟨hk, hk.2⟩ : _ ∧ k_ ≠ gb465))) (fun _ hk => hk.2) (.int .i64 5)) (fun _ hk => hk.2) (.string (a0.extract (x7_1 : Int).toNat ((wrap64 (x7_1 + (t496.size : Int))) : Int).toNat))) (fun _ hk => ⟨hk.1.2, hk.1.1⟩)) hg hat); have n1_ := Aside0.mk (blk_grown (g := gb465) (o := .cells #[.int .i64 5, .string (a0.extract (x7_1 : Int).toNat ((wrap64 (x7_1 + (t496.size : Int))) : Int).toNat), .int .i64 x7_1] 54 (0, 0)) (by (with_reducible repeat (first | refine blk_drewN ?_ _ | refine blk_drew ?_ | refine blk_alloc ?_ _)); refine blk_put (cs := #[.int .i64 5, .string (⟨#[]⟩ : ByteArray), .int .i64 x7_1]) ?_ 1 _ rfl; (with_reducible repeat (first | refine blk_drewN ?_ _ | refine blk_drew ?_ | refine blk_alloc ?_ _)); refine blk_put (cs := #[.int .i64 0, .string (⟨#[]⟩ : ByteArray), .int .i64 x7_1]) ?_ 0 _ rfl; (with_reducible repeat (first | refine blk_drewN ?_ _ | refine blk_drew ?_ | refine blk_alloc ?_ _)); exact BK465.out) hg (Kd.R_away HO_6.out (fun _ hk => hk.2))); have n2_ := Aside0.mk (hb); have n3_ := Aside0.mk (ho); clear HO_5; clear BK465; clear HB; clear HO_6; have HO_5 := n0_; have BK465 := n1_; have HB := n2_; have HO499 := n3_; clear n0_ n1_ n2_ n3_; clear ho hb hg hat))
                                              go_roundg kj29
                                              case measure => have := HK1.out; have := HJ11.out; have := HJ18.out; have := HJ29.out; omega
                                              case rel => exact ⟨(y497), (wrap64 (x7_1 + (t496.size : Int))), (by first | rfl | (simp; done) | (simp [*]; done)), H', ⟨by have := HK1.out; have := HJ11.out; have := HJ18.out; have := HJ29.out; omega⟩, ⟨by (with_reducible repeat (first | apply Kd.R_alloc | apply Kd.R_drewN | apply Kd.R_drew)); exact Kd.R_mono HO_5.out (fun _ hk => hk.2)⟩, ⟨by (with_reducible repeat (first | apply Kd.R_alloc | apply Kd.R_drewN | apply Kd.R_drew)); exact Kd.R_mono HO499.out (fun _ hk => hk.1)⟩, ⟨by repeat (first | (with_reducible first | exact HB.out | apply below_alloc | apply pw_below_drewN | apply below_drew1 | refine below_set ?_ GE465.out) | exact HB.out)⟩⟩
                                            · as_aux_lemma =>
                                              rw [if_neg c129] at H
                                              exact absurd H (by simp)
                                          · as_aux_lemma =>
                                            rw [if_neg c128] at H
                                            exact absurd H (by simp)
                                        · as_aux_lemma =>
                                          rw [if_neg c127] at H
                                          exact absurd H (by simp)
                                    · as_aux_lemma =>
                                      rw [if_neg c123] at H
                                      exact absurd H (by simp)
                                  · as_aux_lemma =>
                                    rw [if_neg c122] at H
                                    exact absurd H (by simp)
          · as_aux_lemma =>
            rw [if_neg c10] at H
            exact absurd H (by simp)
        · as_aux_lemma =>
          rw [if_neg c9] at H
          have c9b0 : decide (x7_1 < (a0.size : Int)) = false := decide_eq_false c9
          clear c9
          simp only [Option.some.injEq, Prod.mk.injEq] at H
          obtain ⟨rfl, rfl, rfl⟩ := H
          go_wp2
          go_ret3
          exact ⟨_, by first | rfl | (simp [errW_none, errW_some] <;> rfl) | (simp [*, errW_none, errW_some] <;> rfl), by (with_reducible repeat (first | apply Kd.R_alloc | apply Kd.R_drewN | apply Kd.R_drew)); exact Kd.R_mono HO_6.out (fun _ hk => trivial), by repeat (first | (with_reducible first | exact HB.out | apply below_alloc | apply pw_below_drewN | apply below_drew1) | exact HB.out)⟩
end Go.Proofs.YtebadckdihgklaaDoor.Pb
end
section
namespace Go.Proofs.YtebadckdihgklaaDoor.Pb
open Go.RowKit Go.Proofs.YtebadckdihgklaaDoorW.PrintWords Go.Proofs.YtebadckdihgklaaDoorW.PrintLast Go.Proofs.YtebadckdihgklaaDoorW.PrintMore
attribute [local go_sem] max2_int min2_int max_two min_two max_three min_three max_four min_four   -- for this text's walks alone
set_option linter.unusedVariables false
set_option linter.unusedSimpArgs false
def laws_eqTok.f (a0_0 : Int) (a0_1 : ByteArray) (a0_2 : Int) (a1_0 : Int) (a1_1 : ByteArray) (a1_2 : Int) : Option (Bool) := if a0_0 = a1_0 then (if a0_1.toList = a1_1.toList then (if a0_2 = a1_2 then (some true) else (some false)) else (some false)) else (some false)
set_option maxHeartbeats 8000000 in
set_option maxRecDepth 100000 in
theorem laws_eqTok.calls (a0_0 : Int) (a0_1 : ByteArray) (a0_2 : Int) (a1_0 : Int) (a1_1 : ByteArray) (a1_2 : Int) (r : Bool) (w : World) (h : laws_eqTok.f a0_0 a0_1 a0_2 a1_0 a1_1 a1_2 = some r) :
    Calls Tryd.prog 90 #[.agg #[.int .i64 a0_0, .string a0_1, .int .i64 a0_2], .agg #[.int .i64 a1_0, .string a1_1, .int .i64 a1_2]] w fun e w' => e = .returned (.bool r) ∧ Below w.heap.size w w' := by
  have hu54 := Tryd.underlying54
  have HB := Aside0.mk (Below.refl w.heap.size w)
  have H : (if a0_0 = a1_0 then (if a0_1.toList = a1_1.toList then (if a0_2 = a1_2 then (some true) else (some false)) else (some false)) else (some false)) = some r := h
  clear h
  by_cases c3 : a0_0 = a1_0
  · rw [if_pos c3] at H
    have c3b0 : (a0_0 == a1_0) = true := beq_iff_eq.mpr c3
    have c3b1 : (a0_0 != a1_0) = false := bne_eq_false_iff_eq.mpr c3
    clear c3
    by_cases c4 : a0_1.toList = a1_1.toList
    · rw [if_pos c4] at H
      have c4b0 : (a0_1.toList == a1_1.toList) = true := beq_iff_eq.mpr c4
      have c4b1 : (a0_1.toList != a1_1.toList) = false := bne_eq_false_iff_eq.mpr c4
      clear c4
      by_cases c5 : a0_2 = a1_2
      · rw [if_pos c5] at H
        have c5b0 : (a0_2 == a1_2) = true := beq_iff_eq.mpr c5
        have c5b1 : (a0_2 != a1_2) = false := bne_eq_false_iff_eq.mpr c5
        clear c5
        obtain rfl := Option.some.inj H
        go_enter Tryd.func90, Tryd.ntmps90
        go_wp2_with (first | ((with_reducible refine gate_dst (N := 2) rfl ?_); refine box_event ?hg (N := 2) ?hd (cs := #[.int .i64 a0_0, .string a0_1, .int .i64 a0_2]) (t := 54) ?hr ?_; (case hd => rfl); (case hg => rfl); (case hr => first | (go_simp; done) | (go_simp; rfl)); intro gb514 hg w6 hbox hb; have n0_ := Aside0.mk (below_step (by repeat (first | (with_reducible first | exact HB.out | apply below_alloc | apply pw_below_drewN | apply below_drew1) | exact HB.out)) hb); have n1_ := Aside0.mk (hbox); have n2_ := Aside0.mk ((by rw [hg]; exact (below_size (by repeat (first | (with_reducible first | exact HB.out | apply below_alloc | apply pw_below_drewN | apply below_drew1) | exact HB.out))) : w.heap.size ≤ gb514)); have n3_ := Aside0.mk ((by rw [hg]; exact (below_size (by repeat (first | (with_reducible first | exact HB.out | apply below_alloc | apply pw_below_drewN | apply below_drew1) | exact HB.out))) : w.heap.size ≤ gb514)); clear HB; have HB := n0_; have BK514 := n1_; have GW514 := n2_; have GE514 := n3_; clear n0_ n1_ n2_ n3_; clear hb hbox hg) | ((with_reducible refine gate_dst (N := 3) rfl ?_); refine box_event ?hg (N := 3) ?hd (cs := #[.int .i64 a1_0, .string a1_1, .int .i64 a1_2]) (t := 54) ?hr ?_; (case hd => rfl); (case hg => rfl); (case hr => first | (go_simp; done) | (go_simp; rfl)); intro gb515 hg w7 hbox hb; have n0_ := Aside0.mk (blk_below (g := gb514) (o := .cells #[.int .i64 a0_0, .string a0_1, .int .i64 a0_2] 54 (0, 0)) (by (with_reducible repeat (first | refine blk_drewN ?_ _ | refine blk_drew ?_ | refine blk_alloc ?_ _)); exact BK514.out) hb); have n1_ := Aside0.mk (below_step (by repeat (first | (with_reducible first | exact HB.out | apply below_alloc | apply pw_below_drewN | apply below_drew1 | refine below_set ?_ GE514.out) | exact HB.out)) hb); have n2_ := Aside0.mk (hbox); have n3_ := Aside0.mk ((by rw [hg]; exact (below_size (by repeat (first | (with_reducible first | exact HB.out | apply below_alloc | apply pw_below_drewN | apply below_drew1 | refine below_set ?_ GE514.out) | exact HB.out))) : w.heap.size ≤ gb515)); have n4_ := Aside0.mk ((by rw [hg]; exact (below_size (by repeat (first | (with_reducible first | exact HB.out | apply below_alloc | apply pw_below_drewN | apply below_drew1 | refine below_set ?_ GE514.out) | exact HB.out))) : w.heap.size ≤ gb515)); have n5_ := Aside0.mk ((by rw [hg]; exact Nat.ne_of_lt (blk_lt (g := gb514) (o := .cells #[.int .i64 a0_0, .string a0_1, .int .i64 a0_2] 54 (0, 0)) (by (with_reducible repeat (first | refine blk_drewN ?_ _ | refine blk_drew ?_ | refine blk_alloc ?_ _)); exact BK514.out)) : gb514 ≠ gb515)); have n6_ := Aside0.mk ((by rw [hg]; exact Nat.ne_of_gt (blk_lt (g := gb514) (o := .cells #[.int .i64 a0_0, .string a0_1, .int .i64 a0_2] 54 (0, 0)) (by (with_reducible repeat (first | refine blk_drewN ?_ _ | refine blk_drew ?_ | refine blk_alloc ?_ _)); exact BK514.out)) : gb515 ≠ gb514)); clear BK514; clear HB; have BK514 := n0_; have HB := n1_; have BK515 := n2_; have GW515 := n3_; have GE515 := n4_; have NB514_515 := n5_; have NB515_514 := n6_; clear n0_ n1_ n2_ n3_ n4_ n5_ n6_; clear hb hbox hg; have hnb8 := NB514_515.out; have hnc8 := NB515_514.out; have hcz9_0 : w7.cell? ⟨gb514, 0, none⟩ = some (.int .i64 a0_0) := (blk_cell BK514.out 0).trans rfl; have hcz9_1 : w7.cell? ⟨gb514, 1, none⟩ = some (.string a0_1) := (blk_cell BK514.out 1).trans rfl; have hcz9_2 : w7.cell? ⟨gb514, 2, none⟩ = some (.int .i64 a0_2) := (blk_cell BK514.out 2).trans rfl; have hfz9_0 := blk_frozen BK514.out 0; have hfz9_1 := blk_frozen BK514.out 1; have hfz9_2 := blk_frozen BK514.out 2; have hcz10_0 : w7.cell? ⟨gb515, 0, none⟩ = some (.int .i64 a1_0) := (blk_cell BK515.out 0).trans rfl; have hcz10_1 : w7.cell? ⟨gb515, 1, none⟩ = some (.string a1_1) := (blk_cell BK515.out 1).trans rfl; have hcz10_2 : w7.cell? ⟨gb515, 2, none⟩ = some (.int .i64 a1_2) := (blk_cell BK515.out 2).trans rfl; have hfz10_0 := blk_frozen BK515.out 0; have hfz10_1 := blk_frozen BK515.out 1; have hfz10_2 := blk_frozen BK515.out 2))
        go_ret
        exact ⟨by first | rfl | (simp [errW_none, errW_some] <;> rfl) | (simp [*, errW_none, errW_some] <;> rfl), by repeat (first | (with_reducible first | exact HB.out | apply below_alloc | apply pw_below_drewN | apply below_drew1 | refine below_set ?_ GE514.out | refine below_set ?_ GE515.out) | exact HB.out)⟩
      · rw [if_neg c5] at H
        have c5b0 : (a0_2 == a1_2) = false := beq_eq_false_iff_ne.mpr c5
        have c5b1 : (a0_2 != a1_2) = true := bne_iff_ne.mpr c5
        obtain rfl := Option.some.inj H
        go_enter Tryd.func90, Tryd.ntmps90
        go_wp2_with (first | ((with_reducible refine gate_dst (N := 2) rfl ?_); refine box_event ?hg (N := 2) ?hd (cs := #[.int .i64 a0_0, .string a0_1, .int .i64 a0_2]) (t := 54) ?hr ?_; (case hd => rfl); (case hg => rfl); (case hr => first | (go_simp; done) | (go_simp; rfl)); intro gb514 hg w11 hbox hb; have n0_ := Aside0.mk (below_step (by repeat (first | (with_reducible first | exact HB.out | apply below_alloc | apply pw_below_drewN | apply below_drew1) | exact HB.out)) hb); have n1_ := Aside0.mk (hbox); have n2_ := Aside0.mk ((by rw [hg]; exact (below_size (by repeat (first | (with_reducible first | exact HB.out | apply below_alloc | apply pw_below_drewN | apply below_drew1) | exact HB.out))) : w.heap.size ≤ gb514)); have n3_ := Aside0.mk ((by rw [hg]; exact (below_size (by repeat (first | (with_reducible first | exact HB.out | apply below_alloc | apply pw_below_drewN | apply below_drew1) | exact HB.out))) : w.heap.size ≤ gb514)); clear HB; have HB := n0_; have BK514 := n1_; have GW514 := n2_; have GE514 := n3_; clear n0_ n1_ n2_ n3_; clear hb hbox hg) | ((with_reducible refine gate_dst (N := 3) rfl ?_); refine box_event ?hg (N := 3) ?hd (cs := #[.int .i64 a1_0, .string a1_1, .int .i64 a1_2]) (t := 54) ?hr ?_; (case hd => rfl); (case hg => rfl); (case hr => first | (go_simp; done) | (go_simp; rfl)); intro gb515 hg w12 hbox hb; have n0_ := Aside0.mk (blk_below (g := gb514) (o := .cells #[.int .i64 a0_0, .string a0_1, .int .i64 a0_2] 54 (0, 0)) (by (with_reducible repeat (first | refine blk_drewN ?_ _ | refine blk_drew ?_ | refine blk_alloc ?_ _)); exact BK514.out) hb); have n1_ := Aside0.mk (below_step (by repeat (first | (with_reducible first | exact HB.out | apply below_alloc | apply pw_below_drewN | apply below_drew1 | refine below_set ?_ GE514.out) | exact HB.out)) hb); have n2_ := Aside0.mk (hbox); have n3_ := Aside0.mk ((by rw [hg]; exact (below_size (by repeat (first | (with_reducible first | exact HB.out | apply below_alloc | apply pw_below_drewN | apply below_drew1 | refine below_set ?_ GE514.out) | exact HB.out))) : w.heap.size ≤ gb515)); have n4_ := Aside0.mk ((by rw [hg]; exact (below_size (by repeat (first | (with_reducible first | exact HB.out | apply below_alloc | apply pw_below_drewN | apply below_drew1 | refine below_set ?_ GE514.out) | exact HB.out))) : w.heap.size ≤ gb515)); have n5_ := Aside0.mk ((by rw [hg]; exact Nat.ne_of_lt (blk_lt (g := gb514) (o := .cells #[.int .i64 a0_0, .string a0_1, .int .i64 a0_2] 54 (0, 0)) (by (with_reducible repeat (first | refine blk_drewN ?_ _ | refine blk_drew ?_ | refine blk_alloc ?_ _)); exact BK514.out)) : gb514 ≠ gb515)); have n6_ := Aside0.mk ((by rw [hg]; exact Nat.ne_of_gt (blk_lt (g := gb514) (o := .cells #[.int .i64 a0_0, .string a0_1, .int .i64 a0_2] 54 (0, 0)) (by (with_reducible repeat (first | refine blk_drewN ?_ _ | refine blk_drew ?_ | refine blk_alloc ?_ _)); exact BK514.out)) : gb515 ≠ gb514)); clear BK514; clear HB; have BK514 := n0_; have HB := n1_; have BK515 := n2_; have GW515 := n3_; have GE515 := n4_; have NB514_515 := n5_; have NB515_514 := n6_; clear n0_ n1_ n2_ n3_ n4_ n5_ n6_; clear hb hbox hg; have hnb13 := NB514_515.out; have hnc13 := NB515_514.out; have hcz14_0 : w12.cell? ⟨gb514, 0, none⟩ = some (.int .i64 a0_0) := (blk_cell BK514.out 0).trans rfl; have hcz14_1 : w12.cell? ⟨gb514, 1, none⟩ = some (.string a0_1) := (blk_cell BK514.out 1).trans rfl; have hcz14_2 : w12.cell? ⟨gb514, 2, none⟩ = some (.int .i64 a0_2) := (blk_cell BK514.out 2).trans rfl; have hfz14_0 := blk_frozen BK514.out 0; have hfz14_1 := blk_frozen BK514.out 1; have hfz14_2 := blk_frozen BK514.out 2; have hcz15_0 : w12.cell? ⟨gb515, 0, none⟩ = some (.int .i64 a1_0) := (blk_cell BK515.out 0).trans rfl; have hcz15_1 : w12.cell? ⟨gb515, 1, none⟩ = some (.string a1_1) := (blk_cell BK515.out 1).trans rfl; have hcz15_2 : w12.cell? ⟨gb515, 2, none⟩ = some (.int .i64 a1_2) := (blk_cell BK515.out 2).trans rfl; have hfz15_0 := blk_frozen BK515.out 0; have hfz15_1 := blk_frozen BK515.out 1; have hfz15_2 := blk_frozen BK515.out 2))
        go_ret
        exact ⟨by first | rfl | (simp [errW_none, errW_some] <;> rfl) | (simp [*, errW_none, errW_some] <;> rfl), by repeat (first | (with_reducible first | exact HB.out | apply below_alloc | apply pw_below_drewN | apply below_drew1 | refine below_set ?_ GE514.out | refine below_set ?_ GE515.out) | exact HB.out)⟩
    · rw [if_neg c4] at H
      have c4b0 : (a0_1.toList == a1_1.toList) = false := beq_eq_false_iff_ne.mpr c4
      have c4b1 : (a0_1.toList != a1_1.toList) = true := bne_iff_ne.mpr c4
      obtain rfl := Option.some.inj H
      go_enter Tryd.func90, Tryd.ntmps90
      go_wp2_with (first | ((with_reducible refine gate_dst (N := 2) rfl ?_); refine box_event ?hg (N := 2) ?hd (cs := #[.int .i64 a0_0, .string a0_1, .int .i64 a0_2]) (t := 54) ?hr ?_; (case hd => rfl); (case hg => rfl); (case hr => first | (go_simp; done) | (go_simp; rfl)); intro gb514 hg w16 hbox hb; have n0_ := Aside0.mk (below_step (by repeat (first | (with_reducible first | exact HB.out | apply below_alloc | apply pw_below_drewN | apply below_drew1) | exact HB.out)) hb); have n1_ := Aside0.mk (hbox); have n2_ := Aside0.mk ((by rw [hg]; exact (below_size (by repeat (first | (with_reducible first | exact HB.out | apply below_alloc | apply pw_below_drewN | apply below_drew1) | exact HB.out))) : w.heap.size ≤ gb514)); have n3_ := Aside0.mk ((by rw [hg]; exact (below_size (by repeat (first | (with_reducible first | exact HB.out | apply below_alloc | apply pw_below_drewN | apply below_drew1) | exact HB.out))) : w.heap.size ≤ gb514)); clear HB; have HB := n0_; have BK514 := n1_; have GW514 := n2_; have GE514 := n3_; clear n0_ n1_ n2_ n3_; clear hb hbox hg) | ((with_reducible refine gate_dst (N := 3) rfl ?_); refine box_event ?hg (N := 3) ?hd (cs := #[.int .i64 a1_0, .string a1_1, .int .i64 a1_2]) (t := 54) ?hr ?_; (case hd => rfl); (case hg => rfl); (case hr => first | (go_simp; done) | (go_simp; rfl)); intro gb515 hg w17 hbox hb; have n0_ := Aside0.mk (blk_below (g := gb514) (o := .cells #[.int .i64 a0_0, .string a0_1, .int .i64 a0_2] 54 (0, 0)) (by (with_reducible repeat (first | refine blk_drewN ?_ _ | refine blk_drew ?_ | refine blk_alloc ?_ _)); exact BK514.out) hb); have n1_ := Aside0.mk (below_step (by repeat (first | (with_reducible first | exact HB.out | apply below_alloc | apply pw_below_drewN | apply below_drew1 | refine below_set ?_ GE514.out) | exact HB.out)) hb); have n2_ := Aside0.mk (hbox); have n3_ := Aside0.mk ((by rw [hg]; exact (below_size (by repeat (first | (with_reducible first | exact HB.out | apply below_alloc | apply pw_below_drewN | apply below_drew1 | refine below_set ?_ GE514.out) | exact HB.out))) : w.heap.size ≤ gb515)); have n4_ := Aside0.mk ((by rw [hg]; exact (below_size (by repeat (first | (with_reducible first | exact HB.out | apply below_alloc | apply pw_below_drewN | apply below_drew1 | refine below_set ?_ GE514.out) | exact HB.out))) : w.heap.size ≤ gb515)); have n5_ := Aside0.mk ((by rw [hg]; exact Nat.ne_of_lt (blk_lt (g := gb514) (o := .cells #[.int .i64 a0_0, .string a0_1, .int .i64 a0_2] 54 (0, 0)) (by (with_reducible repeat (first | refine blk_drewN ?_ _ | refine blk_drew ?_ | refine blk_alloc ?_ _)); exact BK514.out)) : gb514 ≠ gb515)); have n6_ := Aside0.mk ((by rw [hg]; exact Nat.ne_of_gt (blk_lt (g := gb514) (o := .cells #[.int .i64 a0_0, .string a0_1, .int .i64 a0_2] 54 (0, 0)) (by (with_reducible repeat (first | refine blk_drewN ?_ _ | refine blk_drew ?_ | refine blk_alloc ?_ _)); exact BK514.out)) : gb515 ≠ gb514)); clear BK514; clear HB; have BK514 := n0_; have HB := n1_; have BK515 := n2_; have GW515 := n3_; have GE515 := n4_; have NB514_515 := n5_; have NB515_514 := n6_; clear n0_ n1_ n2_ n3_ n4_ n5_ n6_; clear hb hbox hg; have hnb18 := NB514_515.out; have hnc18 := NB515_514.out; have hcz19_0 : w17.cell? ⟨gb514, 0, none⟩ = some (.int .i64 a0_0) := (blk_cell BK514.out 0).trans rfl; have hcz19_1 : w17.cell? ⟨gb514, 1, none⟩ = some (.string a0_1) := (blk_cell BK514.out 1).trans rfl; have hcz19_2 : w17.cell? ⟨gb514, 2, none⟩ = some (.int .i64 a0_2) := (blk_cell BK514.out 2).trans rfl; have hfz19_0 := blk_frozen BK514.out 0; have hfz19_1 := blk_frozen BK514.out 1; have hfz19_2 := blk_frozen BK514.out 2; have hcz20_0 : w17.cell? ⟨gb515, 0, none⟩ = some (.int .i64 a1_0) := (blk_cell BK515.out 0).trans rfl; have hcz20_1 : w17.cell? ⟨gb515, 1, none⟩ = some (.string a1_1) := (blk_cell BK515.out 1).trans rfl; have hcz20_2 : w17.cell? ⟨gb515, 2, none⟩ = some (.int .i64 a1_2) := (blk_cell BK515.out 2).trans rfl; have hfz20_0 := blk_frozen BK515.out 0; have hfz20_1 := blk_frozen BK515.out 1; have hfz20_2 := blk_frozen BK515.out 2))
      go_ret
      exact ⟨by first | rfl | (simp [errW_none, errW_some] <;> rfl) | (simp [*, errW_none, errW_some] <;> rfl), by repeat (first | (with_reducible first | exact HB.out | apply below_alloc | apply pw_below_drewN | apply below_drew1 | refine below_set ?_ GE514.out | refine below_set ?_ GE515.out) | exact HB.out)⟩
  · rw [if_neg c3] at H
    have c3b0 : (a0_0 == a1_0) = false := beq_eq_false_iff_ne.mpr c3
    have c3b1 : (a0_0 != a1_0) = true := bne_iff_ne.mpr c3
    obtain rfl := Option.some.inj H
    go_enter Tryd.func90, Tryd.ntmps90
    go_wp2_with (first | ((with_reducible refine gate_dst (N := 2) rfl ?_); refine box_event ?hg (N := 2) ?hd (cs := #[.int .i64 a0_0, .string a0_1, .int .i64 a0_2]) (t := 54) ?hr ?_; (case hd => rfl); (case hg => rfl); (case hr => first | (go_simp; done) | (go_simp; rfl)); intro gb514 hg w21 hbox hb; have n0_ := Aside0.mk (below_step (by repeat (first | (with_reducible first | exact HB.out | apply below_alloc | apply pw_below_drewN | apply below_drew1) | exact HB.out)) hb); have n1_ := Aside0.mk (hbox); have n2_ := Aside0.mk ((by rw [hg]; exact (below_size (by repeat (first | (with_reducible first | exact HB.out | apply below_alloc | apply pw_below_drewN | apply below_drew1) | exact HB.out))) : w.heap.size ≤ gb514)); have n3_ := Aside0.mk ((by rw [hg]; exact (below_size (by repeat (first | (with_reducible first | exact HB.out | apply below_alloc | apply pw_below_drewN | apply below_drew1) | exact HB.out))) : w.heap.size ≤ gb514)); clear HB; have HB := n0_; have BK514 := n1_; have GW514 := n2_; have GE514 := n3_; clear n0_ n1_ n2_ n3_; clear hb hbox hg) | ((with_reducible refine gate_dst (N := 3) rfl ?_); refine box_event ?hg (N := 3) ?hd (cs := #[.int .i64 a1_0, .string a1_1, .int .i64 a1_2]) (t := 54) ?hr ?_; (case hd => rfl); (case hg => rfl); (case hr => first | (go_simp; done) | (go_simp; rfl)); intro gb515 hg w22 hbox hb; have n0_ := Aside0.mk (blk_below (g := gb514) (o := .cells #[.int .i64 a0_0, .string a0_1, .int .i64 a0_2] 54 (0, 0)) (by (with_reducible repeat (first | refine blk_drewN ?_ _ | refine blk_drew ?_ | refine blk_alloc ?_ _)); exact BK514.out) hb); have n1_ := Aside0.mk (below_step (by repeat (first | (with_reducible first | exact HB.out | apply below_alloc | apply pw_below_drewN | apply below_drew1 | refine below_set ?_ GE514.out) | exact HB.out)) hb); have n2_ := Aside0.mk (hbox); have n3_ := Aside0.mk ((by rw [hg]; exact (below_size (by repeat (first | (with_reducible first | exact HB.out | apply below_alloc | apply pw_below_drewN | apply below_drew1 | refine below_set ?_ GE514.out) | exact HB.out))) : w.heap.size ≤ gb515)); have n4_ := Aside0.mk ((by rw [hg]; exact (below_size (by repeat (first | (with_reducible first | exact HB.out | apply below_alloc | apply pw_below_drewN | apply below_drew1 | refine below_set ?_ GE514.out) | exact HB.out))) : w.heap.size ≤ gb515)); have n5_ := Aside0.mk ((by rw [hg]; exact Nat.ne_of_lt (blk_lt (g := gb514) (o := .cells #[.int .i64 a0_0, .string a0_1, .int .i64 a0_2] 54 (0, 0)) (by (with_reducible repeat (first | refine blk_drewN ?_ _ | refine blk_drew ?_ | refine blk_alloc ?_ _)); exact BK514.out)) : gb514 ≠ gb515)); have n6_ := Aside0.mk ((by rw [hg]; exact Nat.ne_of_gt (blk_lt (g := gb514) (o := .cells #[.int .i64 a0_0, .string a0_1, .int .i64 a0_2] 54 (0, 0)) (by (with_reducible repeat (first | refine blk_drewN ?_ _ | refine blk_drew ?_ | refine blk_alloc ?_ _)); exact BK514.out)) : gb515 ≠ gb514)); clear BK514; clear HB; have BK514 := n0_; have HB := n1_; have BK515 := n2_; have GW515 := n3_; have GE515 := n4_; have NB514_515 := n5_; have NB515_514 := n6_; clear n0_ n1_ n2_ n3_ n4_ n5_ n6_; clear hb hbox hg; have hnb23 := NB514_515.out; have hnc23 := NB515_514.out; have hcz24_0 : w22.cell? ⟨gb514, 0, none⟩ = some (.int .i64 a0_0) := (blk_cell BK514.out 0).trans rfl; have hcz24_1 : w22.cell? ⟨gb514, 1, none⟩ = some (.string a0_1) := (blk_cell BK514.out 1).trans rfl; have hcz24_2 : w22.cell? ⟨gb514, 2, none⟩ = some (.int .i64 a0_2) := (blk_cell BK514.out 2).trans rfl; have hfz24_0 := blk_frozen BK514.out 0; have hfz24_1 := blk_frozen BK514.out 1; have hfz24_2 := blk_frozen BK514.out 2; have hcz25_0 : w22.cell? ⟨gb515, 0, none⟩ = some (.int .i64 a1_0) := (blk_cell BK515.out 0).trans rfl; have hcz25_1 : w22.cell? ⟨gb515, 1, none⟩ = some (.string a1_1) := (blk_cell BK515.out 1).trans rfl; have hcz25_2 : w22.cell? ⟨gb515, 2, none⟩ = some (.int .i64 a1_2) := (blk_cell BK515.out 2).trans rfl; have hfz25_0 := blk_frozen BK515.out 0; have hfz25_1 := blk_frozen BK515.out 1; have hfz25_2 := blk_frozen BK515.out 2))
    go_ret
    exact ⟨by first | rfl | (simp [errW_none, errW_some] <;> rfl) | (simp [*, errW_none, errW_some] <;> rfl), by repeat (first | (with_reducible first | exact HB.out | apply below_alloc | apply pw_below_drewN | apply below_drew1 | refine below_set ?_ GE514.out | refine below_set ?_ GE515.out) | exact HB.out)⟩
end Go.Proofs.YtebadckdihgklaaDoor.Pb
end

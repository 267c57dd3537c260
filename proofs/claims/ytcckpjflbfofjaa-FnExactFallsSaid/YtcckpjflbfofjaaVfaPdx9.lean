-- Cut by prune.py, a program of this session, out of the texts of this claim: Lean checks it.
import Derived.Test.YtcckpjflbfofjaaVfaQComp
import Derived.Test.YtcckpjflbfofjaaVfaPdx0
import Derived.Test.YtcckpjflbfofjaaVfaPdx4
import Derived.Test.YtcckpjflbfofjaaVfaPdx6
section
namespace Go.Proofs.Ytcckpjflbfofjaa.Pd
open Go.RowKit Go.Proofs.YtcckpjflbfofjaaW.PrintWords Go.Proofs.YtcckpjflbfofjaaW.PrintLast Go.Proofs.YtcckpjflbfofjaaW.PrintMore
attribute [local go_sem] max2_int min2_int max_two min_two max_three min_three max_four min_four   -- for this text's walks alone
set_option linter.unusedVariables false
set_option linter.unusedSimpArgs false
attribute [local go_sem high] eqA53
def impl_Arc_59.l0 : Nat → List (S53) → List (S53) → Int → Int → Option (Bool)
 | 0,_,_,_,_ => none
 | k + 1,x0,x1,x12,x13 => if x13 < x12 then (if 0 ≤ x13 then (if x13 < (x0.length : Int) then (if x13 < (x1.length : Int) then (if (!(((y19 x0 x13).f0) == ((y19 x1 x13).f0)) || (!(((y19 x0 x13).f1) == ((y19 x1 x13).f1)) || (!(((y19 x0 x13).f2) == ((y19 x1 x13).f2))))) = true then (some false) else (impl_Arc_59.l0 k x0 x1 x12 (wrap64 (x13 + 1)))) else (none)) else (none)) else (none)) else (some true)
def impl_Arc_59.f (k : Nat) (l0 : List (S53)) (l1 : List (S53)) : Option (Bool) := if (l0.length : Int) = (l1.length : Int) then (impl_Arc_59.l0 k l0 l1 (l0.length : Int) 0) else (some false)
set_option maxHeartbeats 8000000 in
set_option maxRecDepth 100000 in
theorem impl_Arc_59.calls (k : Nat) (A0 : Option Addr) (c0 : Nat) (l0 : List (S53)) (A1 : Option Addr) (c1 : Nat) (l1 : List (S53)) (r : Bool) (w : World) (hr0 : Kd.C k53 w A0 l0.length l0) (hc0 : l0.length ≤ c0) (hr1 : Kd.C k53 w A1 l1.length l1) (hc1 : l1.length ≤ c1) (h : impl_Arc_59.f k l0 l1 = some r) :
  Calls Try.prog 59 #[.slice A0 l0.length c0,.slice A1 l1.length c1] w fun e w' => e = .returned (.bool r) ∧ Drawn0 w w' := by
 have hu53 := Try.underlying53
 have HR0 := y0.mk hr0
 have HC0 := y0.mk hc0
 clear hr0 hc0
 have HR1 := y0.mk hr1
 have HC1 := y0.mk hc1
 clear hr1 hc1
 have H : (if (l0.length : Int) = (l1.length : Int) then (impl_Arc_59.l0 k l0 l1 (l0.length : Int) 0) else (some false)) = some r := h
 clear h
 by_cases c3 : (l0.length : Int) = (l1.length : Int)
 ·rw [if_pos c3] at H
  have c3b0 : ((l0.length : Int) == (l1.length : Int)) = true := beq_iff_eq.mpr c3
  have c3b1 : ((l0.length : Int) != (l1.length : Int)) = false := bne_eq_false_iff_eq.mpr c3
  have c3b2 : (l0.length == l1.length) = true := by first | simpa using c3 | (simp at c3 ⊢; omega)
  clear c3
  have H' := y0.mk H
  clear H
  go_enter Try.func59,Try.ntmps59
  go_wp2
  repeat (go_quiet (fail); try go_wp2)
  go_loopg [13] k (fun kq v13 w' => ∃ (x13_1 : Int),v13 = .int .i64 x13_1 ∧ y0 (impl_Arc_59.l0 kq l0 l1 (l0.length : Int) x13_1 = some r) ∧ y0 (kq ≤ k) ∧ Drawn0 w w')
  case atStart => exact ⟨(0),qy2,H',⟨Nat.le_refl _⟩,by repeat (first | exact Drawn0.refl _ | apply Drawn0.step)⟩
  case round =>
   clear H'
   (try clear c3b0 c3b1 c3b2)
   obtain ⟨x13_1,rfl,HA,HK1,⟨m1,rfl⟩⟩ := hrel
   cases gk with
   | zero => exact absurd HA.out (by simp [impl_Arc_59.l0])
   | succ k1 =>
    have H := HA.out
    clear HA
    simp only [impl_Arc_59.l0] at H
    by_cases c4 : x13_1 < (l0.length : Int)
    ·rw [if_pos c4] at H
     have c4b0 := decide_eq_true c4
     clear c4
     obtain ⟨c5,H⟩ := qo H
     have c5b0 : decide (0 ≤ x13_1) = true := decide_eq_true c5
     clear c5
     obtain ⟨c6,H⟩ := qo H
     have c6b0 : decide (x13_1 < (l0.length : Int)) = true := decide_eq_true c6
     clear c6
     obtain ⟨c7,H⟩ := qo H
     have c7b0 : decide (x13_1 < (l1.length : Int)) = true := decide_eq_true c7
     clear c7
     by_cases c8 : (!(((y19 l0 x13_1).f0) == ((y19 l1 x13_1).f0)) || (!(((y19 l0 x13_1).f1) == ((y19 l1 x13_1).f1)) || (!(((y19 l0 x13_1).f2) == ((y19 l1 x13_1).f2))))) = true
     ·rw [if_pos c8] at H
      have c8b0 : (!(((y19 l0 x13_1).f0) == ((y19 l1 x13_1).f0)) || (!(((y19 l0 x13_1).f1) == ((y19 l1 x13_1).f1)) || (!(((y19 l0 x13_1).f2) == ((y19 l1 x13_1).f2))))) = true := c8
      clear c8
      obtain rfl := Option.some.inj H
      have p185 : 0 ≤ (x13_1 : Int) := of_decide_eq_true qy1
      have q185 : x13_1 < (l0.length : Int) := of_decide_eq_true qy1
      obtain ⟨ad185,e185,hx185_0,hx185_1,hx185_2⟩ := at_T53 HR0.out x13_1 p185 q185
      cases e185
      replace p185 := eq_true p185
      replace q185 := eq_true q185
      have p186 : 0 ≤ (x13_1 : Int) := of_decide_eq_true qy1
      have q186 : x13_1 < (l1.length : Int) := of_decide_eq_true qy1
      obtain ⟨ad186,e186,hx186_0,hx186_1,hx186_2⟩ := at_T53 HR1.out x13_1 p186 q186
      cases e186
      replace p186 := eq_true p186
      replace q186 := eq_true q186
      go_wp2
      repeat (go_quiet (fail); try go_wp2)
      go_ret
      exact ⟨by first | rfl | (simp; done) | (simp [*]; done),by repeat (first | exact Drawn0.refl _ | apply Drawn0.step)⟩
     ·rw [if_neg c8] at H
      have c8b0 : (!(((y19 l0 x13_1).f0) == ((y19 l1 x13_1).f0)) || (!(((y19 l0 x13_1).f1) == ((y19 l1 x13_1).f1)) || (!(((y19 l0 x13_1).f2) == ((y19 l1 x13_1).f2))))) = false := by simpa using c8
      clear c8
      have H' := y0.mk H
      clear H
      have p185 : 0 ≤ (x13_1 : Int) := of_decide_eq_true qy1
      have q185 : x13_1 < (l0.length : Int) := of_decide_eq_true qy1
      obtain ⟨ad185,e185,hx185_0,hx185_1,hx185_2⟩ := at_T53 HR0.out x13_1 p185 q185
      cases e185
      replace p185 := eq_true p185
      replace q185 := eq_true q185
      have p186 : 0 ≤ (x13_1 : Int) := of_decide_eq_true qy1
      have q186 : x13_1 < (l1.length : Int) := of_decide_eq_true qy1
      obtain ⟨ad186,e186,hx186_0,hx186_1,hx186_2⟩ := at_T53 HR1.out x13_1 p186 q186
      cases e186
      replace p186 := eq_true p186
      replace q186 := eq_true q186
      go_wp2
      repeat (go_quiet (fail); try go_wp2)
      go_roundg k1
      case measure => have := HK1.out; omega
      exact ⟨(wrap64 (x13_1 + 1)),qy2,H',⟨by have := HK1.out; omega⟩,by repeat (first | exact Drawn0.refl _ | apply Drawn0.step)⟩
    ·rw [if_neg c4] at H
     have c4b0 := decide_eq_false c4
     clear c4
     obtain rfl := Option.some.inj H
     go_wp2
     repeat (go_quiet (fail); try go_wp2)
     go_ret
     exact ⟨by first | rfl | (simp; done) | (simp [*]; done),by repeat (first | exact Drawn0.refl _ | apply Drawn0.step)⟩
 ·rw [if_neg c3] at H
  have c3b0 : ((l0.length : Int) == (l1.length : Int)) = false := beq_eq_false_iff_ne.mpr c3
  have c3b1 : ((l0.length : Int) != (l1.length : Int)) = true := bne_iff_ne.mpr c3
  have c3b2 : (l0.length == l1.length) = false := by first | simpa using c3 | (simp at c3 ⊢; omega)
  obtain rfl := Option.some.inj H
  go_enter Try.func59,Try.ntmps59
  go_wp2
  repeat (go_quiet (fail); try go_wp2)
  go_ret
  exact ⟨by first | rfl | (simp; done) | (simp [*]; done),by repeat (first | exact Drawn0.refl _ | apply Drawn0.step)⟩
def impl_sameGraph.f (k : Nat) (a0_0 : Int) (a0_1 : Int) (l0_2 : List (S53)) (a1_0 : Int) (a1_1 : Int) (l1_2 : List (S53)) : Option (Bool) := if a0_0 = a1_0 then (if a0_1 = a1_1 then ((impl_Arc_59.f k l0_2 l1_2).bind fun t189 => (some t189)) else (some false)) else (some false)
set_option maxHeartbeats 8000000 in
set_option maxRecDepth 100000 in
theorem impl_sameGraph.calls (k : Nat) (a0_0 : Int) (a0_1 : Int) (A0_2 : Option Addr) (c0_2 : Nat) (l0_2 : List (S53)) (a1_0 : Int) (a1_1 : Int) (A1_2 : Option Addr) (c1_2 : Nat) (l1_2 : List (S53)) (r : Bool) (w : World) (hr0_2 : Kd.C k53 w A0_2 l0_2.length l0_2) (hc0_2 : l0_2.length ≤ c0_2) (hr1_2 : Kd.C k53 w A1_2 l1_2.length l1_2) (hc1_2 : l1_2.length ≤ c1_2) (h : impl_sameGraph.f k a0_0 a0_1 l0_2 a1_0 a1_1 l1_2 = some r) :
  Calls Try.prog 46 #[.agg #[.int .i64 a0_0,.int .i64 a0_1,.slice A0_2 l0_2.length c0_2],.agg #[.int .i64 a1_0,.int .i64 a1_1,.slice A1_2 l1_2.length c1_2]] w fun e w' => e = .returned (.bool r) ∧ Below w.heap.size w w' := by
 have hu28 := Try.underlying28
 have HR0_2 := y0.mk hr0_2
 have HC0_2 := y0.mk hc0_2
 clear hr0_2 hc0_2
 have HR1_2 := y0.mk hr1_2
 have HC1_2 := y0.mk hc1_2
 clear hr1_2 hc1_2
 have HB := y0.mk (Below.refl w.heap.size w)
 have H : (if a0_0 = a1_0 then (if a0_1 = a1_1 then ((impl_Arc_59.f k l0_2 l1_2).bind fun t189 => (some t189)) else (some false)) else (some false)) = some r := h
 clear h
 by_cases c3 : a0_0 = a1_0
 ·rw [if_pos c3] at H
  have c3b0 : (a0_0 == a1_0) = true := beq_iff_eq.mpr c3
  have c3b1 : (a0_0 != a1_0) = false := bne_eq_false_iff_eq.mpr c3
  clear c3
  by_cases c4 : a0_1 = a1_1
  ·rw [if_pos c4] at H
   have c4b0 : (a0_1 == a1_1) = true := beq_iff_eq.mpr c4
   have c4b1 : (a0_1 != a1_1) = false := bne_eq_false_iff_eq.mpr c4
   clear c4
   obtain ⟨t189,A5,H⟩ := qB H
   obtain rfl := Option.some.inj H
   go_enter Try.func46,Try.ntmps46
   go_wp2_with (first | ((with_reducible refine y15 (N := 2) rfl ?_); refine qe 2 #[.int .i64 a0_0,.int .i64 a0_1,.slice A0_2 l0_2.length c0_2] 28 ?_; intro gb187 hg w6 hbox hb; have BK187 := y0.mk (hbox); have GW187 := y0.mk (qg (w := w) hg); have GE187 := y0.mk (qg (w := w) hg); replace HB := y0.mk (y4 qb hb); clear hb hbox hg) | ((with_reducible refine y15 (N := 3) rfl ?_); refine qe 3 #[.int .i64 a1_0,.int .i64 a1_1,.slice A1_2 l1_2.length c1_2] 28 ?_; intro gb188 hg w7 hbox hb; have BK188 := y0.mk (hbox); have GW188 := y0.mk (qg (w := w) hg); have GE188 := y0.mk (qg (w := w) hg); replace HB := y0.mk (y4 qb hb); have NB187_188 := y0.mk (qn BK187.out hg); have NB188_187 := y0.mk (qm BK187.out hg); replace BK187 := y0.mk (qK BK187.out hb); clear hb hbox hg; have hnb8 := NB187_188.out; have hnc8 := NB188_187.out; obtain ⟨hcz9_0,hcz9_1,hcz9_2,hfz9_0,hfz9_1,hfz9_2⟩ := qz3 BK187.out; obtain ⟨hcz10_0,hcz10_1,hcz10_2,hfz10_0,hfz10_1,hfz10_2⟩ := qz3 BK188.out) | (go_at_call 59; (with_reducible refine (impl_Arc_59.calls k _ _ l0_2 _ _ l1_2 t189 _ (qc (Kd.C_below HR0_2.out HB.out)) HC0_2.out (qc (Kd.C_below HR1_2.out HB.out)) HC1_2.out A5.out).mono ?_); rintro e w' ⟨rfl,⟨nd,rfl⟩⟩))
   go_ret
   exact ⟨by first | rfl | (simp [y13,y14] <;> rfl) | (simp [*,y13,y14] <;> rfl),qb⟩
  ·rw [if_neg c4] at H
   have c4b0 : (a0_1 == a1_1) = false := beq_eq_false_iff_ne.mpr c4
   have c4b1 : (a0_1 != a1_1) = true := bne_iff_ne.mpr c4
   obtain rfl := Option.some.inj H
   go_enter Try.func46,Try.ntmps46
   go_wp2_with (first | ((with_reducible refine y15 (N := 2) rfl ?_); refine qe 2 #[.int .i64 a0_0,.int .i64 a0_1,.slice A0_2 l0_2.length c0_2] 28 ?_; intro gb187 hg w11 hbox hb; have BK187 := y0.mk (hbox); have GW187 := y0.mk (qg (w := w) hg); have GE187 := y0.mk (qg (w := w) hg); replace HB := y0.mk (y4 qb hb); clear hb hbox hg) | ((with_reducible refine y15 (N := 3) rfl ?_); refine qe 3 #[.int .i64 a1_0,.int .i64 a1_1,.slice A1_2 l1_2.length c1_2] 28 ?_; intro gb188 hg w12 hbox hb; have BK188 := y0.mk (hbox); have GW188 := y0.mk (qg (w := w) hg); have GE188 := y0.mk (qg (w := w) hg); replace HB := y0.mk (y4 qb hb); have NB187_188 := y0.mk (qn BK187.out hg); have NB188_187 := y0.mk (qm BK187.out hg); replace BK187 := y0.mk (qK BK187.out hb); clear hb hbox hg; have hnb13 := NB187_188.out; have hnc13 := NB188_187.out; obtain ⟨hcz14_0,hcz14_1,hcz14_2,hfz14_0,hfz14_1,hfz14_2⟩ := qz3 BK187.out; obtain ⟨hcz15_0,hcz15_1,hcz15_2,hfz15_0,hfz15_1,hfz15_2⟩ := qz3 BK188.out))
   go_ret
   exact ⟨by first | rfl | (simp [y13,y14] <;> rfl) | (simp [*,y13,y14] <;> rfl),qb⟩
 ·rw [if_neg c3] at H
  have c3b0 : (a0_0 == a1_0) = false := beq_eq_false_iff_ne.mpr c3
  have c3b1 : (a0_0 != a1_0) = true := bne_iff_ne.mpr c3
  obtain rfl := Option.some.inj H
  go_enter Try.func46,Try.ntmps46
  go_wp2_with (first | ((with_reducible refine y15 (N := 2) rfl ?_); refine qe 2 #[.int .i64 a0_0,.int .i64 a0_1,.slice A0_2 l0_2.length c0_2] 28 ?_; intro gb187 hg w16 hbox hb; have BK187 := y0.mk (hbox); have GW187 := y0.mk (qg (w := w) hg); have GE187 := y0.mk (qg (w := w) hg); replace HB := y0.mk (y4 qb hb); clear hb hbox hg) | ((with_reducible refine y15 (N := 3) rfl ?_); refine qe 3 #[.int .i64 a1_0,.int .i64 a1_1,.slice A1_2 l1_2.length c1_2] 28 ?_; intro gb188 hg w17 hbox hb; have BK188 := y0.mk (hbox); have GW188 := y0.mk (qg (w := w) hg); have GE188 := y0.mk (qg (w := w) hg); replace HB := y0.mk (y4 qb hb); have NB187_188 := y0.mk (qn BK187.out hg); have NB188_187 := y0.mk (qm BK187.out hg); replace BK187 := y0.mk (qK BK187.out hb); clear hb hbox hg; have hnb18 := NB187_188.out; have hnc18 := NB188_187.out; obtain ⟨hcz19_0,hcz19_1,hcz19_2,hfz19_0,hfz19_1,hfz19_2⟩ := qz3 BK187.out; obtain ⟨hcz20_0,hcz20_1,hcz20_2,hfz20_0,hfz20_1,hfz20_2⟩ := qz3 BK188.out))
  go_ret
  exact ⟨by first | rfl | (simp [y13,y14] <;> rfl) | (simp [*,y13,y14] <;> rfl),qb⟩
def impl_falls_1.f (a0_0 : Int) (a0_1 : Int) (a0_2 : Bool) : Option (Bool) := if a0_2 = true then (some (a0_0 == a0_1)) else (some false)
set_option maxHeartbeats 8000000 in
set_option maxRecDepth 100000 in
theorem impl_falls_1.calls (a0_0 : Int) (a0_1 : Int) (a0_2 : Bool) (r : Bool) (w : World) (h : impl_falls_1.f a0_0 a0_1 a0_2 = some r) :
  Calls Try.prog 48 #[.agg #[.int .i64 a0_0,.int .i64 a0_1,.bool a0_2]] w fun e w' => e = .returned (.bool r) ∧ Below w.heap.size w w' := by
 have hu53 := Try.underlying53
 have HB := y0.mk (Below.refl w.heap.size w)
 have H : (if a0_2 = true then (some (a0_0 == a0_1)) else (some false)) = some r := h
 clear h
 by_cases c2 : a0_2 = true
 ·subst c2
  replace H := qT H
  obtain rfl := Option.some.inj H
  go_enter Try.func48,Try.ntmps48
  go_wp2_with (first | ((with_reducible refine y15 (N := 1) rfl ?_); refine qe 1 #[.int .i64 a0_0,.int .i64 a0_1,.bool true] 53 ?_; intro gb190 hg w3 hbox hb; have BK190 := y0.mk (hbox); have GW190 := y0.mk (qg (w := w) hg); have GE190 := y0.mk (qg (w := w) hg); replace HB := y0.mk (y4 qb hb); clear hb hbox hg; obtain ⟨hcz4_0,hcz4_1,hcz4_2,hfz4_0,hfz4_1,hfz4_2⟩ := qz3 BK190.out))
  go_ret
  exact ⟨by first | rfl | (simp [y13,y14] <;> rfl) | (simp [*,y13,y14] <;> rfl),qb⟩
 ·replace c2 := Bool.eq_false_iff.mpr c2
  subst c2
  replace H := qF H
  obtain rfl := Option.some.inj H
  go_enter Try.func48,Try.ntmps48
  go_wp2_with (first | ((with_reducible refine y15 (N := 1) rfl ?_); refine qe 1 #[.int .i64 a0_0,.int .i64 a0_1,.bool false] 53 ?_; intro gb190 hg w5 hbox hb; have BK190 := y0.mk (hbox); have GW190 := y0.mk (qg (w := w) hg); have GE190 := y0.mk (qg (w := w) hg); replace HB := y0.mk (y4 qb hb); clear hb hbox hg; obtain ⟨hcz6_0,hcz6_1,hcz6_2,hfz6_0,hfz6_1,hfz6_2⟩ := qz3 BK190.out))
  go_ret
  exact ⟨by first | rfl | (simp [y13,y14] <;> rfl) | (simp [*,y13,y14] <;> rfl),qb⟩
def impl_Arc_impl_falls_1_60.l0 : Nat → List (S53) → Int → Int → Option (Int)
 | 0,_,_,_ => none
 | k + 1,x0,x7,x8 => if x8 < x7 then (if 0 ≤ x8 then (if x8 < (x0.length : Int) then ((impl_falls_1.f ((y19 x0 x8).f0) ((y19 x0 x8).f1) ((y19 x0 x8).f2)).bind fun t192 => (if t192 = true then (some x8) else (impl_Arc_impl_falls_1_60.l0 k x0 x7 (wrap64 (x8 + 1))))) else (none)) else (none)) else (some (-1))
def impl_Arc_impl_falls_1_60.f (k : Nat) (l0 : List (S53))  : Option (Int) := impl_Arc_impl_falls_1_60.l0 k l0 (l0.length : Int) 0
set_option maxHeartbeats 8000000 in
set_option maxRecDepth 100000 in
theorem impl_Arc_impl_falls_1_60.calls (k : Nat) (A0 : Option Addr) (c0 : Nat) (l0 : List (S53))  (r : Int) (w : World) (hr0 : Kd.C k53 w A0 l0.length l0) (hc0 : l0.length ≤ c0) (h : impl_Arc_impl_falls_1_60.f k l0 = some r) :
  Calls Try.prog 60 #[.slice A0 l0.length c0,.func (.func 48) #[] #[]] w fun e w' => e = .returned (.int .i64 r) ∧ Below w.heap.size w w' := by
 have hu53 := Try.underlying53
 have HR0 := y0.mk hr0
 have HC0 := y0.mk hc0
 clear hr0 hc0
 have HB := y0.mk (Below.refl w.heap.size w)
 have H : (impl_Arc_impl_falls_1_60.l0 k l0 (l0.length : Int) 0) = some r := h
 clear h
 have H' := y0.mk H
 clear H
 go_enter Try.func60,Try.ntmps60
 go_wp2
 go_loopg [8] k (fun kq v8 w' => ∃ (x8_1 : Int),v8 = .int .i64 x8_1 ∧ y0 (impl_Arc_impl_falls_1_60.l0 kq l0 (l0.length : Int) x8_1 = some r) ∧ y0 (kq ≤ k) ∧ y0 (Below w.heap.size w w'))
 case atStart => exact ⟨(0),qy2,H',⟨Nat.le_refl _⟩,⟨qb⟩⟩
 case round =>
  clear H'
  obtain ⟨x8_1,rfl,HA,HK1,HB⟩ := hrel
  cases gk with
  | zero => exact absurd HA.out (by simp [impl_Arc_impl_falls_1_60.l0])
  | succ k1 =>
   have H := HA.out
   clear HA
   simp only [impl_Arc_impl_falls_1_60.l0] at H
   by_cases c3 : x8_1 < (l0.length : Int)
   ·rw [if_pos c3] at H
    have c3b0 := decide_eq_true c3
    clear c3
    obtain ⟨c4,H⟩ := qo H
    have c4b0 : decide (0 ≤ x8_1) = true := decide_eq_true c4
    clear c4
    obtain ⟨c5,H⟩ := qo H
    have c5b0 : decide (x8_1 < (l0.length : Int)) = true := decide_eq_true c5
    clear c5
    obtain ⟨t192,A6,H⟩ := qB H
    by_cases c7 : t192 = true
    ·subst c7
     replace H := qT H
     obtain rfl := Option.some.inj H
     have p191 : 0 ≤ (x8_1 : Int) := of_decide_eq_true qy1
     have q191 : x8_1 < (l0.length : Int) := of_decide_eq_true qy1
     obtain ⟨ad191,e191,hx191_0,hx191_1,hx191_2⟩ := at_T53 HR0.out x8_1 p191 q191
     cases e191
     replace hx191_0 := (HB.out.cell (World.block_lt_of_cell? w _ hx191_0)).trans hx191_0
     replace hx191_1 := (HB.out.cell (World.block_lt_of_cell? w _ hx191_1)).trans hx191_1
     replace hx191_2 := (HB.out.cell (World.block_lt_of_cell? w _ hx191_2)).trans hx191_2
     replace p191 := eq_true p191
     replace q191 := eq_true q191
     go_wp2_with (first | (go_at_call 48; (with_reducible refine (impl_falls_1.calls ((y19 l0 x8_1).f0) ((y19 l0 x8_1).f1) ((y19 l0 x8_1).f2) true _ A6.out).mono ?_); rintro e w8 ⟨rfl,hb⟩; replace HB := y0.mk (y4 qb hb); (try clear hb); (try clear hb2); (try clear hk); (try clear hi)))
     go_ret
     exact ⟨by first | rfl | (simp [y13,y14] <;> rfl) | (simp [*,y13,y14] <;> rfl),qb⟩
    ·replace c7 := Bool.eq_false_iff.mpr c7
     subst c7
     replace H := qF H
     have H' := y0.mk H
     clear H
     have p191 : 0 ≤ (x8_1 : Int) := of_decide_eq_true qy1
     have q191 : x8_1 < (l0.length : Int) := of_decide_eq_true qy1
     obtain ⟨ad191,e191,hx191_0,hx191_1,hx191_2⟩ := at_T53 HR0.out x8_1 p191 q191
     cases e191
     replace hx191_0 := (HB.out.cell (World.block_lt_of_cell? w _ hx191_0)).trans hx191_0
     replace hx191_1 := (HB.out.cell (World.block_lt_of_cell? w _ hx191_1)).trans hx191_1
     replace hx191_2 := (HB.out.cell (World.block_lt_of_cell? w _ hx191_2)).trans hx191_2
     replace p191 := eq_true p191
     replace q191 := eq_true q191
     go_wp2_with (first | (go_at_call 48; (with_reducible refine (impl_falls_1.calls ((y19 l0 x8_1).f0) ((y19 l0 x8_1).f1) ((y19 l0 x8_1).f2) false _ A6.out).mono ?_); rintro e w9 ⟨rfl,hb⟩; replace HB := y0.mk (y4 qb hb); (try clear hb); (try clear hb2); (try clear hk); (try clear hi)))
     go_roundg k1
     case measure => have := HK1.out; omega
     exact ⟨(wrap64 (x8_1 + 1)),qy2,H',⟨by have := HK1.out; omega⟩,⟨qb⟩⟩
   ·rw [if_neg c3] at H
    have c3b0 := decide_eq_false c3
    clear c3
    obtain rfl := Option.some.inj H
    go_wp2
    go_ret
    exact ⟨by first | rfl | (simp [y13,y14] <;> rfl) | (simp [*,y13,y14] <;> rfl),qb⟩
def impl_Arc_impl_falls_1.f (k : Nat) (l0 : List (S53))  : Option (Bool) := (impl_Arc_impl_falls_1_60.f k l0).bind fun t193 => (some (decide (t193 ≥ 0)))
set_option maxHeartbeats 8000000 in
set_option maxRecDepth 100000 in
theorem impl_Arc_impl_falls_1.calls (k : Nat) (A0 : Option Addr) (c0 : Nat) (l0 : List (S53))  (r : Bool) (w : World) (hr0 : Kd.C k53 w A0 l0.length l0) (hc0 : l0.length ≤ c0) (h : impl_Arc_impl_falls_1.f k l0 = some r) :
  Calls Try.prog 47 #[.slice A0 l0.length c0,.func (.func 48) #[] #[]] w fun e w' => e = .returned (.bool r) ∧ Below w.heap.size w w' := by
 have HR0 := y0.mk hr0
 have HC0 := y0.mk hc0
 clear hr0 hc0
 have HB := y0.mk (Below.refl w.heap.size w)
 have H : ((impl_Arc_impl_falls_1_60.f k l0).bind fun t193 => (some (decide (t193 ≥ 0)))) = some r := h
 clear h
 obtain ⟨t193,A3,H⟩ := qB H
 obtain rfl := Option.some.inj H
 go_enter Try.func47,Try.ntmps47
 go_wp2_with (first | ((with_reducible refine gate_callee (f := 60) rfl ?_); refine goesL_ (some 7) rfl rfl Try.func60 (by kernel_rfl) rfl #[.slice A0 l0.length c0,.func (.func 48) #[] #[]] rfl qy0 ?_; (with_reducible refine (impl_Arc_impl_falls_1_60.calls k _ _ l0  t193 _ (qc HR0.out) HC0.out A3.out).mono ?_); rintro e w4 ⟨rfl,hb⟩; refine ⟨_,rfl, ?_⟩; replace HB := y0.mk (y4 qb hb); (try clear hb); (try clear hb2); (try clear hk); (try clear hi)))
 go_ret
 exact ⟨by first | rfl | (simp [y13,y14] <;> rfl) | (simp [*,y13,y14] <;> rfl),qb⟩
end Go.Proofs.Ytcckpjflbfofjaa.Pd
end
section
namespace Go.Proofs.Ytcckpjflbfofjaa.Pd
open Go.RowKit Go.Proofs.YtcckpjflbfofjaaW.PrintWords Go.Proofs.YtcckpjflbfofjaaW.PrintLast Go.Proofs.YtcckpjflbfofjaaW.PrintMore
attribute [local go_sem] max2_int min2_int max_two min_two max_three min_three max_four min_four   -- for this text's walks alone
set_option linter.unusedVariables false
set_option linter.unusedSimpArgs false
def impl_falls.f (k : Nat) (a0_0 : Int) (a0_1 : Int) (l0_2 : List (S53)) : Option (Bool) := if a0_0 = a0_1 then ((impl_compose.f a0_0 a0_1 l0_2 a0_0 a0_1 l0_2).bind fun bt195 => ((impl_sameGraph.f k bt195.1 bt195.2.1 bt195.2.2 a0_0 a0_1 l0_2).bind fun t200 => (if t200 = true then ((impl_Arc_impl_falls_1.f k l0_2).bind fun t201 => (some t201)) else (some true)))) else (some true)
def impl_falls.T1 : Bool × List (List Nat × List Nat) := (true,[([],[]),([0],[0]),([],[]),([2],[2]),([1,3],[1,3]),([4],[4]),([5],[5]),([5],[5]),([6,7,5,5],[5,6,7]),([5],[5]),([8,9,8,5],[5,8,9]),([10,5],[5,10]),([5,11],[5,11])])
def impl_falls.B1 : List Nat := [0,1,0,4,15,31,63,63,255,63,1023,2047,4095]
theorem impl_falls.tab1 : rtab .any (opsOf Try.f35 1) = impl_falls.T1 := by kernel_rfl
theorem impl_falls.bits1 : waitsOk impl_falls.T1.2 impl_falls.B1 = true := by kernel_rfl
set_option maxHeartbeats 8000000 in
set_option maxRecDepth 100000 in
theorem impl_falls.calls (k : Nat) (a0_0 : Int) (a0_1 : Int) (A0_2 : Option Addr) (c0_2 : Nat) (l0_2 : List (S53)) (r : Bool) (w : World) (hr0_2 : Kd.C k53 w A0_2 l0_2.length l0_2) (hc0_2 : l0_2.length ≤ c0_2) (h : impl_falls.f k a0_0 a0_1 l0_2 = some r) :
  Calls Try.prog 35 #[.agg #[.int .i64 a0_0,.int .i64 a0_1,.slice A0_2 l0_2.length c0_2]] w fun e w' => e = .returned (.bool r) ∧ Below w.heap.size w w' := by
 have hu28 := Try.underlying28
 have HR0_2 := y0.mk hr0_2
 have HC0_2 := y0.mk hc0_2
 clear hr0_2 hc0_2
 have HB := y0.mk (Below.refl w.heap.size w)
 have H : (if a0_0 = a0_1 then ((impl_compose.f a0_0 a0_1 l0_2 a0_0 a0_1 l0_2).bind fun bt195 => ((impl_sameGraph.f k bt195.1 bt195.2.1 bt195.2.2 a0_0 a0_1 l0_2).bind fun t200 => (if t200 = true then ((impl_Arc_impl_falls_1.f k l0_2).bind fun t201 => (some t201)) else (some true)))) else (some true)) = some r := h
 clear h
 by_cases c2 : a0_0 = a0_1
 ·rw [if_pos c2] at H
  have c2b0 : (a0_0 == a0_1) = true := beq_iff_eq.mpr c2
  have c2b1 : (a0_0 != a0_1) = false := bne_eq_false_iff_eq.mpr c2
  clear c2
  obtain ⟨⟨t195,t196,t197⟩,A3,H⟩ := qB H
  replace H : ((impl_sameGraph.f k t195 t196 t197 a0_0 a0_1 l0_2).bind fun t200 => (if t200 = true then ((impl_Arc_impl_falls_1.f k l0_2).bind fun t201 => (some t201)) else (some true))) = some r := H
  obtain ⟨t200,A4,H⟩ := qB H
  by_cases c5 : t200 = true
  ·subst c5
   replace H := qT H
   obtain ⟨t201,A6,H⟩ := qB H
   obtain rfl := Option.some.inj H
   go_enter Try.func35,Try.ntmps35
   try go_wp2_with (first | ((with_reducible refine y15 (N := 1) rfl ?_); refine qe 1 #[.int .i64 a0_0,.int .i64 a0_1,.slice A0_2 l0_2.length c0_2] 28 ?_; intro gb194 hg w7 hbox hb; have BK194 := y0.mk (hbox); have GW194 := y0.mk (qg (w := w) hg); have GE194 := y0.mk (qg (w := w) hg); replace HB := y0.mk (y4 qb hb); clear hb hbox hg))
   replace BK194 := y0.mk (y8 BK194.out)
   replace HB := y0.mk (y2 HB.out)
   refine start_ (n := 13) (S := fun w' => w'.cell? ⟨gb194,0,none⟩ = some (.int .i64 a0_0) ∧ w'.cell? ⟨gb194,1,none⟩ = some (.int .i64 a0_1) ∧ w'.cell? ⟨gb194,2,none⟩ = some (.slice A0_2 l0_2.length c0_2)) (ds := []) (fl_ 13 0) (by kernel_rfl) rfl rfl ⟨(y7 BK194.out 0).trans rfl,(y7 BK194.out 1).trans rfl,(y7 BK194.out 2).trans rfl⟩ (fun hHeld => ?_); refine with_tabW impl_falls.tab1 impl_falls.bits1 (fun HT_ HW_ => ?_)
   generalize w7.drew = w8 at BK194 HB hHeld ⊢
   refine qp 0 3 (fl_ 13 1) ?_
   refine qp 2 5 (fl_ 13 5) ?_
   refine qt 1 4 (fl_ 13 7) hHeld ?_
   refine qt 3 6 (fl_ 13 15) hHeld ?_
   refine qp 4 7 (fl_ 13 31) ?_
   refine qp 5 8 (fl_ 13 63) ?_
   refine qt 6 9 (fl_ 13 127) hHeld ?_
   refine qt 7 10 (fl_ 13 255) hHeld ?_
   refine qt 9 12 (fl_ 13 767) hHeld ?_
   refine one_ (i := 8) (N := some 11) (fl_ 13 1023) rfl rfl (one_of HT_.out (by kernel_rfl)) (by decide) (fun K hK => ?_)
   refine goes_ Try.func30 (by kernel_rfl) rfl #[.agg #[.int .i64 a0_0,.int .i64 a0_1,.slice A0_2 l0_2.length c0_2],.agg #[.int .i64 a0_0,.int .i64 a0_1,.slice A0_2 l0_2.length c0_2]] (by rfl) rfl rfl qy0 ?_
   with_reducible refine (impl_compose.calls a0_0 a0_1 _ _ l0_2 a0_0 a0_1 _ _ l0_2 t195 t196 t197 _ (qc (Kd.C_below HR0_2.out HB.out)) HC0_2.out (qc (Kd.C_below HR0_2.out HB.out)) HC0_2.out A3.out).mono ?_
   rintro e w9 ⟨v198,rfl,ho0,hb⟩
   refine ⟨_,rfl, ?_⟩
   have HO199 := y0.mk (Kd.R_lower ho0 (below_size qb))
   replace BK194 := y0.mk (qK BK194.out hb)
   replace HB := y0.mk (y4 qb hb)
   (try clear hb)
   (try clear hb2)
   (try clear hk)
   (try clear hi)
   (try clear ho0)
   obtain ⟨Ao10,co10,eo10⟩ := Kd.R_slice HO199.out
   (first | subst eo10 | (injection eo10 with f1_ f2_ f3_; have f4_ := f1_.symm; have f5_ := f3_.symm; clear f1_ f2_ f3_; subst f4_; subst f5_))
   refine hK.out _ _ ⟨(y7 BK194.out 0).trans rfl,(y7 BK194.out 1).trans rfl,(y7 BK194.out 2).trans rfl⟩ (fun hHeld => ?_)
   clear hK K
   refine norm_ (a' := ?_) ?_ ?_
   rotate_left
   ·show Act.put _ (some 11) _ = _
    simp only [Act.put,qS_,qZ_,qC_,y17,y16]
    rfl
   refine one_ (i := 10) (N := some 13) (fl_ 13 2047) rfl rfl (one_of HT_.out (by kernel_rfl)) (by decide) (fun K hK => ?_)
   refine goes_ Try.func46 (by kernel_rfl) rfl #[.agg #[.int .i64 t195,.int .i64 t196,.slice Ao10 t197.length co10],.agg #[.int .i64 a0_0,.int .i64 a0_1,.slice A0_2 l0_2.length c0_2]] (by rfl) rfl rfl qy0 ?_
   with_reducible refine (impl_sameGraph.calls k t195 t196 _ _ t197 a0_0 a0_1 _ _ l0_2 true _ (qc ((Kd.R_reads' HO199.out).2.2)) (by exact (Kd.R_reads' HO199.out).2.1) (qc (Kd.C_below HR0_2.out HB.out)) HC0_2.out A4.out).mono ?_
   rintro e w11 ⟨rfl,hb⟩
   refine ⟨_,rfl, ?_⟩
   replace HO199 := y0.mk (Kd.R_below (qR HO199.out) hb)
   replace BK194 := y0.mk (qK BK194.out hb)
   replace HB := y0.mk (y4 qb hb)
   (try clear hb)
   (try clear hb2)
   (try clear hk)
   (try clear hi)
   refine hK.out _ _ ⟨(y7 BK194.out 0).trans rfl,(y7 BK194.out 1).trans rfl,(y7 BK194.out 2).trans rfl⟩ (fun hHeld => ?_)
   clear hK K
   refine norm_ (a' := ?_) ?_ ?_
   rotate_left
   ·show Act.put _ (some 13) _ = _
    simp only [Act.put,qS_,qZ_,qC_,y17,y16]
    rfl
   refine qp 11 14 (fl_ 13 4095) ?_
   refine qp 12 15 (fl_ 13 8191) ?_
   refine done_ (done_of HT_.out (by kernel_rfl)) ?_
   obtain ⟨hcz12_0,hcz12_1,hcz12_2,hfz12_0,hfz12_1,hfz12_2⟩ := qz3 BK194.out
   try go_wp2_with (first | ((with_reducible refine gate_callee (f := 47) rfl ?_); refine goesL_ (some 18) rfl rfl Try.func47 (by kernel_rfl) rfl #[.slice A0_2 l0_2.length c0_2,.func (.func 48) #[] #[]] rfl qy0 ?_; (with_reducible refine (impl_Arc_impl_falls_1.calls k _ _ l0_2  t201 _ (qc (Kd.C_below HR0_2.out HB.out)) HC0_2.out A6.out).mono ?_); rintro e w13 ⟨rfl,hb⟩; refine ⟨_,rfl, ?_⟩; replace HO199 := y0.mk (Kd.R_below (qR HO199.out) hb); replace BK194 := y0.mk (qK BK194.out hb); replace HB := y0.mk (y4 qb hb); (try clear hb); (try clear hb2); (try clear hk); (try clear hi)))
   go_ret
   exact ⟨by first | rfl | (simp [y13,y14] <;> rfl) | (simp [*,y13,y14] <;> rfl),qb⟩
  ·replace c5 := Bool.eq_false_iff.mpr c5
   subst c5
   replace H := qF H
   obtain rfl := Option.some.inj H
   go_enter Try.func35,Try.ntmps35
   try go_wp2_with (first | ((with_reducible refine y15 (N := 1) rfl ?_); refine qe 1 #[.int .i64 a0_0,.int .i64 a0_1,.slice A0_2 l0_2.length c0_2] 28 ?_; intro gb194 hg w14 hbox hb; have BK194 := y0.mk (hbox); have GW194 := y0.mk (qg (w := w) hg); have GE194 := y0.mk (qg (w := w) hg); replace HB := y0.mk (y4 qb hb); clear hb hbox hg))
   replace BK194 := y0.mk (y8 BK194.out)
   replace HB := y0.mk (y2 HB.out)
   refine start_ (n := 13) (S := fun w' => w'.cell? ⟨gb194,0,none⟩ = some (.int .i64 a0_0) ∧ w'.cell? ⟨gb194,1,none⟩ = some (.int .i64 a0_1) ∧ w'.cell? ⟨gb194,2,none⟩ = some (.slice A0_2 l0_2.length c0_2)) (ds := []) (fl_ 13 0) (by kernel_rfl) rfl rfl ⟨(y7 BK194.out 0).trans rfl,(y7 BK194.out 1).trans rfl,(y7 BK194.out 2).trans rfl⟩ (fun hHeld => ?_); refine with_tabW impl_falls.tab1 impl_falls.bits1 (fun HT_ HW_ => ?_)
   generalize w14.drew = w15 at BK194 HB hHeld ⊢
   refine qp 0 3 (fl_ 13 1) ?_
   refine qp 2 5 (fl_ 13 5) ?_
   refine qt 1 4 (fl_ 13 7) hHeld ?_
   refine qt 3 6 (fl_ 13 15) hHeld ?_
   refine qp 4 7 (fl_ 13 31) ?_
   refine qp 5 8 (fl_ 13 63) ?_
   refine qt 6 9 (fl_ 13 127) hHeld ?_
   refine qt 7 10 (fl_ 13 255) hHeld ?_
   refine qt 9 12 (fl_ 13 767) hHeld ?_
   refine one_ (i := 8) (N := some 11) (fl_ 13 1023) rfl rfl (one_of HT_.out (by kernel_rfl)) (by decide) (fun K hK => ?_)
   refine goes_ Try.func30 (by kernel_rfl) rfl #[.agg #[.int .i64 a0_0,.int .i64 a0_1,.slice A0_2 l0_2.length c0_2],.agg #[.int .i64 a0_0,.int .i64 a0_1,.slice A0_2 l0_2.length c0_2]] (by rfl) rfl rfl qy0 ?_
   with_reducible refine (impl_compose.calls a0_0 a0_1 _ _ l0_2 a0_0 a0_1 _ _ l0_2 t195 t196 t197 _ (qc (Kd.C_below HR0_2.out HB.out)) HC0_2.out (qc (Kd.C_below HR0_2.out HB.out)) HC0_2.out A3.out).mono ?_
   rintro e w16 ⟨v198,rfl,ho0,hb⟩
   refine ⟨_,rfl, ?_⟩
   have HO199 := y0.mk (Kd.R_lower ho0 (below_size qb))
   replace BK194 := y0.mk (qK BK194.out hb)
   replace HB := y0.mk (y4 qb hb)
   (try clear hb)
   (try clear hb2)
   (try clear hk)
   (try clear hi)
   (try clear ho0)
   obtain ⟨Ao17,co17,eo17⟩ := Kd.R_slice HO199.out
   (first | subst eo17 | (injection eo17 with f1_ f2_ f3_; have f4_ := f1_.symm; have f5_ := f3_.symm; clear f1_ f2_ f3_; subst f4_; subst f5_))
   refine hK.out _ _ ⟨(y7 BK194.out 0).trans rfl,(y7 BK194.out 1).trans rfl,(y7 BK194.out 2).trans rfl⟩ (fun hHeld => ?_)
   clear hK K
   refine norm_ (a' := ?_) ?_ ?_
   rotate_left
   ·show Act.put _ (some 11) _ = _
    simp only [Act.put,qS_,qZ_,qC_,y17,y16]
    rfl
   refine one_ (i := 10) (N := some 13) (fl_ 13 2047) rfl rfl (one_of HT_.out (by kernel_rfl)) (by decide) (fun K hK => ?_)
   refine goes_ Try.func46 (by kernel_rfl) rfl #[.agg #[.int .i64 t195,.int .i64 t196,.slice Ao17 t197.length co17],.agg #[.int .i64 a0_0,.int .i64 a0_1,.slice A0_2 l0_2.length c0_2]] (by rfl) rfl rfl qy0 ?_
   with_reducible refine (impl_sameGraph.calls k t195 t196 _ _ t197 a0_0 a0_1 _ _ l0_2 false _ (qc ((Kd.R_reads' HO199.out).2.2)) (by exact (Kd.R_reads' HO199.out).2.1) (qc (Kd.C_below HR0_2.out HB.out)) HC0_2.out A4.out).mono ?_
   rintro e w18 ⟨rfl,hb⟩
   refine ⟨_,rfl, ?_⟩
   replace HO199 := y0.mk (Kd.R_below (qR HO199.out) hb)
   replace BK194 := y0.mk (qK BK194.out hb)
   replace HB := y0.mk (y4 qb hb)
   (try clear hb)
   (try clear hb2)
   (try clear hk)
   (try clear hi)
   refine hK.out _ _ ⟨(y7 BK194.out 0).trans rfl,(y7 BK194.out 1).trans rfl,(y7 BK194.out 2).trans rfl⟩ (fun hHeld => ?_)
   clear hK K
   refine norm_ (a' := ?_) ?_ ?_
   rotate_left
   ·show Act.put _ (some 13) _ = _
    simp only [Act.put,qS_,qZ_,qC_,y17,y16]
    rfl
   refine qp 11 14 (fl_ 13 4095) ?_
   refine qp 12 15 (fl_ 13 8191) ?_
   refine done_ (done_of HT_.out (by kernel_rfl)) ?_
   try go_wp2
   go_ret
   exact ⟨by first | rfl | (simp [y13,y14] <;> rfl) | (simp [*,y13,y14] <;> rfl),qb⟩
 ·rw [if_neg c2] at H
  have c2b0 : (a0_0 == a0_1) = false := beq_eq_false_iff_ne.mpr c2
  have c2b1 : (a0_0 != a0_1) = true := bne_iff_ne.mpr c2
  obtain rfl := Option.some.inj H
  go_enter Try.func35,Try.ntmps35
  try go_wp2_with (first | ((with_reducible refine y15 (N := 1) rfl ?_); refine qe 1 #[.int .i64 a0_0,.int .i64 a0_1,.slice A0_2 l0_2.length c0_2] 28 ?_; intro gb194 hg w19 hbox hb; have BK194 := y0.mk (hbox); have GW194 := y0.mk (qg (w := w) hg); have GE194 := y0.mk (qg (w := w) hg); replace HB := y0.mk (y4 qb hb); clear hb hbox hg))
  replace BK194 := y0.mk (y8 BK194.out)
  replace HB := y0.mk (y2 HB.out)
  refine start_ (n := 13) (S := fun w' => w'.cell? ⟨gb194,0,none⟩ = some (.int .i64 a0_0) ∧ w'.cell? ⟨gb194,1,none⟩ = some (.int .i64 a0_1) ∧ w'.cell? ⟨gb194,2,none⟩ = some (.slice A0_2 l0_2.length c0_2)) (ds := []) (fl_ 13 0) (by kernel_rfl) rfl rfl ⟨(y7 BK194.out 0).trans rfl,(y7 BK194.out 1).trans rfl,(y7 BK194.out 2).trans rfl⟩ (fun hHeld => ?_); refine with_tabW impl_falls.tab1 impl_falls.bits1 (fun HT_ HW_ => ?_)
  generalize w19.drew = w20 at BK194 HB hHeld ⊢
  refine qp 0 3 (fl_ 13 1) ?_
  refine qp 2 5 (fl_ 13 5) ?_
  refine qt 1 4 (fl_ 13 7) hHeld ?_
  refine qt 3 6 (fl_ 13 15) hHeld ?_
  refine qp 4 7 (fl_ 13 31) ?_
  refine qp 5 8 (fl_ 13 63) ?_
  refine pure_ (i := 6) (N := some 9) (v := undef) (a' := ?_) (fl_ 13 127) rfl rfl (any_of HT_.out (by kernel_rfl)) (fun _ _ _ h => h) (Or.inr ⟨by rfl,rfl⟩) ?_ ?_
  rotate_left
  ·simp only [Act.put,qS_,qZ_,qC_,y17,y16]
   rfl
  refine pure_ (i := 7) (N := some 10) (v := undef) (a' := ?_) (fl_ 13 255) rfl rfl (any_of HT_.out (by kernel_rfl)) (fun _ _ _ h => h) (Or.inr ⟨by rfl,rfl⟩) ?_ ?_
  rotate_left
  ·simp only [Act.put,qS_,qZ_,qC_,y17,y16]
   rfl
  refine pure_ (i := 8) (N := some 11) (v := undef) (a' := ?_) (fl_ 13 511) rfl rfl (any_of HT_.out (by kernel_rfl)) (fun _ _ _ h => h) (Or.inr ⟨by rfl,rfl⟩) ?_ ?_
  rotate_left
  ·simp only [Act.put,qS_,qZ_,qC_,y17,y16]
   rfl
  refine pure_ (i := 9) (N := some 12) (v := undef) (a' := ?_) (fl_ 13 1023) rfl rfl (any_of HT_.out (by kernel_rfl)) (fun _ _ _ h => h) (Or.inr ⟨by rfl,rfl⟩) ?_ ?_
  rotate_left
  ·simp only [Act.put,qS_,qZ_,qC_,y17,y16]
   rfl
  refine pure_ (i := 10) (N := some 13) (v := undef) (a' := ?_) (fl_ 13 2047) rfl rfl (any_of HT_.out (by kernel_rfl)) (fun _ _ _ h => h) (Or.inr ⟨by rfl,rfl⟩) ?_ ?_
  rotate_left
  ·simp only [Act.put,qS_,qZ_,qC_,y17,y16]
   rfl
  refine pure_ (i := 11) (N := some 14) (v := undef) (a' := ?_) (fl_ 13 4095) rfl rfl (any_of HT_.out (by kernel_rfl)) (fun _ _ _ h => h) (Or.inr ⟨by rfl,rfl⟩) ?_ ?_
  rotate_left
  ·simp only [Act.put,qS_,qZ_,qC_,y17,y16]
   rfl
  refine qp 12 15 (fl_ 13 8191) ?_
  refine done_ (done_of HT_.out (by kernel_rfl)) ?_
  try go_wp2
  go_ret
  exact ⟨by first | rfl | (simp [y13,y14] <;> rfl) | (simp [*,y13,y14] <;> rfl),qb⟩
def impl_Falls.f (k : Nat) (a0_0 : Int) (a0_1 : Int) (l0_2 : List (S53)) : Option (Bool) := (impl_isGraph.f k a0_0 a0_1 l0_2).bind fun t203 => (if t203 = true then ((impl_falls.f k a0_0 a0_1 l0_2).bind fun t204 => (some t204)) else (some false))
set_option maxHeartbeats 8000000 in
set_option maxRecDepth 100000 in
theorem impl_Falls.calls (k : Nat) (a0_0 : Int) (a0_1 : Int) (A0_2 : Option Addr) (c0_2 : Nat) (l0_2 : List (S53)) (r : Bool) (w : World) (hr0_2 : Kd.C k53 w A0_2 l0_2.length l0_2) (hc0_2 : l0_2.length ≤ c0_2) (h : impl_Falls.f k a0_0 a0_1 l0_2 = some r) :
  Calls Try.prog 15 #[.agg #[.int .i64 a0_0,.int .i64 a0_1,.slice A0_2 l0_2.length c0_2]] w fun e w' => e = .returned (.bool r) ∧ Below w.heap.size w w' := by
 have hu28 := Try.underlying28
 have HR0_2 := y0.mk hr0_2
 have HC0_2 := y0.mk hc0_2
 clear hr0_2 hc0_2
 have HB := y0.mk (Below.refl w.heap.size w)
 have H : ((impl_isGraph.f k a0_0 a0_1 l0_2).bind fun t203 => (if t203 = true then ((impl_falls.f k a0_0 a0_1 l0_2).bind fun t204 => (some t204)) else (some false))) = some r := h
 clear h
 obtain ⟨t203,A2,H⟩ := qB H
 by_cases c3 : t203 = true
 ·subst c3
  replace H := qT H
  obtain ⟨t204,A4,H⟩ := qB H
  obtain rfl := Option.some.inj H
  go_enter Try.func15,Try.ntmps15
  go_wp2_with (first | ((with_reducible refine y15 (N := 1) rfl ?_); refine qe 1 #[.int .i64 a0_0,.int .i64 a0_1,.slice A0_2 l0_2.length c0_2] 28 ?_; intro gb202 hg w5 hbox hb; have BK202 := y0.mk (hbox); have GW202 := y0.mk (qg (w := w) hg); have GE202 := y0.mk (qg (w := w) hg); replace HB := y0.mk (y4 qb hb); clear hb hbox hg; obtain ⟨hcz6_0,hcz6_1,hcz6_2,hfz6_0,hfz6_1,hfz6_2⟩ := qz3 BK202.out) | ((with_reducible refine gate_callee (f := 29) rfl ?_); refine goesL_ (some 4) rfl rfl Try.func29 (by kernel_rfl) rfl #[.agg #[.int .i64 a0_0,.int .i64 a0_1,.slice A0_2 l0_2.length c0_2]] rfl qy0 ?_; (with_reducible refine (impl_isGraph.calls k a0_0 a0_1 _ _ l0_2 true _ (qc (Kd.C_below HR0_2.out HB.out)) HC0_2.out A2.out).mono ?_); rintro e w7 ⟨rfl,hb⟩; refine ⟨_,rfl, ?_⟩; replace BK202 := y0.mk (qK BK202.out hb); replace HB := y0.mk (y4 qb hb); (try clear hb); (try clear hb2); (try clear hk); (try clear hi); obtain ⟨hcz8_0,hcz8_1,hcz8_2,hfz8_0,hfz8_1,hfz8_2⟩ := qz3 BK202.out) | (go_at_call 35; (with_reducible refine (impl_falls.calls k a0_0 a0_1 _ _ l0_2 t204 _ (qc (Kd.C_below HR0_2.out HB.out)) HC0_2.out A4.out).mono ?_); rintro e w9 ⟨rfl,hb⟩; replace BK202 := y0.mk (qK BK202.out hb); replace HB := y0.mk (y4 qb hb); (try clear hb); (try clear hb2); (try clear hk); (try clear hi)))
  go_ret
  exact ⟨by first | rfl | (simp [y13,y14] <;> rfl) | (simp [*,y13,y14] <;> rfl),qb⟩
 ·replace c3 := Bool.eq_false_iff.mpr c3
  subst c3
  replace H := qF H
  obtain rfl := Option.some.inj H
  go_enter Try.func15,Try.ntmps15
  go_wp2_with (first | ((with_reducible refine y15 (N := 1) rfl ?_); refine qe 1 #[.int .i64 a0_0,.int .i64 a0_1,.slice A0_2 l0_2.length c0_2] 28 ?_; intro gb202 hg w10 hbox hb; have BK202 := y0.mk (hbox); have GW202 := y0.mk (qg (w := w) hg); have GE202 := y0.mk (qg (w := w) hg); replace HB := y0.mk (y4 qb hb); clear hb hbox hg; obtain ⟨hcz11_0,hcz11_1,hcz11_2,hfz11_0,hfz11_1,hfz11_2⟩ := qz3 BK202.out) | ((with_reducible refine gate_callee (f := 29) rfl ?_); refine goesL_ (some 4) rfl rfl Try.func29 (by kernel_rfl) rfl #[.agg #[.int .i64 a0_0,.int .i64 a0_1,.slice A0_2 l0_2.length c0_2]] rfl qy0 ?_; (with_reducible refine (impl_isGraph.calls k a0_0 a0_1 _ _ l0_2 false _ (qc (Kd.C_below HR0_2.out HB.out)) HC0_2.out A2.out).mono ?_); rintro e w12 ⟨rfl,hb⟩; refine ⟨_,rfl, ?_⟩; replace BK202 := y0.mk (qK BK202.out hb); replace HB := y0.mk (y4 qb hb); (try clear hb); (try clear hb2); (try clear hk); (try clear hi)))
  go_ret
  exact ⟨by first | rfl | (simp [y13,y14] <;> rfl) | (simp [*,y13,y14] <;> rfl),qb⟩
end Go.Proofs.Ytcckpjflbfofjaa.Pd
end
section
namespace Go.Proofs.Ytcckpjflbfofjaa.Pd
open Go.RowKit Go.Proofs.YtcckpjflbfofjaaW.PrintWords Go.Proofs.YtcckpjflbfofjaaW.PrintLast Go.Proofs.YtcckpjflbfofjaaW.PrintMore
attribute [local go_sem] max2_int min2_int max_two min_two max_three min_three max_four min_four   -- for this text's walks alone
set_option linter.unusedVariables false
set_option linter.unusedSimpArgs false
def laws_FnExactFalls.f (k : Nat) (a0_0 : Int) (a0_1 : Int) (l0_2 : List (S64)) : Option (Bool) := (laws_szGraph.f a0_0 a0_1 l0_2 1048576).bind fun t206 => (if t206 < 0 then (some true) else ((laws_toGraph.f k a0_0 a0_1 l0_2).bind fun bt207 => ((spec_Falls.f k bt207.1 bt207.2.1 bt207.2.2).bind fun t212 => ((laws_toGraph.f k a0_0 a0_1 l0_2).bind fun bt213 => ((impl_Falls.f k bt213.1 bt213.2.1 bt213.2.2).bind fun t219 => (if (t219 != t212) = true then (some false) else ((laws_toGraph.f k a0_0 a0_1 l0_2).bind fun bt220 => ((laws_eqGraph.f k bt213.1 bt213.2.1 bt213.2.2 bt220.1 bt220.2.1 bt220.2.2).bind fun t225 => (if t225 = true then (some true) else (some false))))))))))
set_option maxHeartbeats 8000000 in
set_option maxRecDepth 100000 in
theorem laws_FnExactFalls.calls (k : Nat) (a0_0 : Int) (a0_1 : Int) (A0_2 : Option Addr) (c0_2 : Nat) (l0_2 : List (S64)) (r : Bool) (w : World) (hr0_2 : Kd.C k64 w A0_2 l0_2.length l0_2) (hc0_2 : l0_2.length ≤ c0_2) (h : laws_FnExactFalls.f k a0_0 a0_1 l0_2 = some r) (htrue_ : r = true) :
  Calls Try.prog 4 #[.agg #[.int .i64 a0_0,.int .i64 a0_1,.slice A0_2 l0_2.length c0_2]] w fun e w' => e = .returned (.bool r) ∧ Below w.heap.size w w' := by
 have hu24 := Try.underlying24
 have hu28 := Try.underlying28
 have HR0_2 := y0.mk hr0_2
 have HC0_2 := y0.mk hc0_2
 clear hr0_2 hc0_2
 have HB := y0.mk (Below.refl w.heap.size w)
 have H : ((laws_szGraph.f a0_0 a0_1 l0_2 1048576).bind fun t206 => (if t206 < 0 then (some true) else ((laws_toGraph.f k a0_0 a0_1 l0_2).bind fun bt207 => ((spec_Falls.f k bt207.1 bt207.2.1 bt207.2.2).bind fun t212 => ((laws_toGraph.f k a0_0 a0_1 l0_2).bind fun bt213 => ((impl_Falls.f k bt213.1 bt213.2.1 bt213.2.2).bind fun t219 => (if (t219 != t212) = true then (some false) else ((laws_toGraph.f k a0_0 a0_1 l0_2).bind fun bt220 => ((laws_eqGraph.f k bt213.1 bt213.2.1 bt213.2.2 bt220.1 bt220.2.1 bt220.2.2).bind fun t225 => (if t225 = true then (some true) else (some false))))))))))) = some r := h
 clear h
 obtain ⟨t206,A2,H⟩ := qB H
 by_cases c3 : t206 < 0
 ·rw [if_pos c3] at H
  have c3b0 := decide_eq_true c3
  clear c3
  obtain rfl := Option.some.inj H
  go_enter Try.func4,Try.ntmps4
  go_wp2_with (first | ((with_reducible refine y15 (N := 1) rfl ?_); refine qe 1 #[.int .i64 a0_0,.int .i64 a0_1,.slice A0_2 l0_2.length c0_2] 24 ?_; intro gb205 hg w4 hbox hb; have BK205 := y0.mk (hbox); have GW205 := y0.mk (qg (w := w) hg); have GE205 := y0.mk (qg (w := w) hg); replace HB := y0.mk (y4 qb hb); clear hb hbox hg; obtain ⟨hcz5_0,hcz5_1,hcz5_2,hfz5_0,hfz5_1,hfz5_2⟩ := qz3 BK205.out) | ((with_reducible refine gate_callee (f := 7) rfl ?_); refine goesL_ (some 9) rfl rfl Try.func7 (by kernel_rfl) rfl #[.agg #[.int .i64 a0_0,.int .i64 a0_1,.slice A0_2 l0_2.length c0_2],.int .i64 1048576] rfl qy0 ?_; (with_reducible refine (laws_szGraph.calls a0_0 a0_1 _ _ l0_2 1048576 t206 _ (qc (Kd.C_below HR0_2.out HB.out)) HC0_2.out A2.out).mono ?_); rintro e w6 ⟨rfl,hb⟩; refine ⟨_,rfl, ?_⟩; replace BK205 := y0.mk (qK BK205.out hb); replace HB := y0.mk (y4 qb hb); (try clear hb); (try clear hb2); (try clear hk); (try clear hi)))
  go_ret
  exact ⟨by first | rfl | (simp [y13,y14] <;> rfl) | (simp [*,y13,y14] <;> rfl),qb⟩
 ·rw [if_neg c3] at H
  have c3b0 := decide_eq_false c3
  clear c3
  obtain ⟨⟨t207,t208,t209⟩,A7,H⟩ := qB H
  replace H : ((spec_Falls.f k t207 t208 t209).bind fun t212 => ((laws_toGraph.f k a0_0 a0_1 l0_2).bind fun bt213 => ((impl_Falls.f k bt213.1 bt213.2.1 bt213.2.2).bind fun t219 => (if (t219 != t212) = true then (some false) else ((laws_toGraph.f k a0_0 a0_1 l0_2).bind fun bt220 => ((laws_eqGraph.f k bt213.1 bt213.2.1 bt213.2.2 bt220.1 bt220.2.1 bt220.2.2).bind fun t225 => (if t225 = true then (some true) else (some false)))))))) = some r := H
  obtain ⟨t212,A8,H⟩ := qB H
  obtain ⟨⟨t213,t214,t215⟩,A9,H⟩ := qB H
  replace H : ((impl_Falls.f k t213 t214 t215).bind fun t219 => (if (t219 != t212) = true then (some false) else ((laws_toGraph.f k a0_0 a0_1 l0_2).bind fun bt220 => ((laws_eqGraph.f k t213 t214 t215 bt220.1 bt220.2.1 bt220.2.2).bind fun t225 => (if t225 = true then (some true) else (some false)))))) = some r := H
  obtain ⟨t219,A10,H⟩ := qB H
  by_cases c11 : (t219 != t212) = true
  ·rw [if_pos c11] at H
   have c11b0 : (t219 != t212) = true := c11
   (try (have c11b1 : decide (t219 = t212) = false := by simpa using c11))
   (try (have c11b2 : (t219 == t212) = false := by simpa using c11))
   (try (have c11b3 : ¬ (t219 = t212) := by simpa using c11))
   clear c11
   exact absurd ((Option.some.inj H).trans htrue_) (by decide)
  ·rw [if_neg c11] at H
   have c11b0 : (t219 != t212) = false := by simpa using c11
   (try (have c11b1 : decide (t219 = t212) = true := by simpa using c11))
   (try (have c11b2 : (t219 == t212) = true := by simpa using c11))
   clear c11
   obtain ⟨⟨t220,t221,t222⟩,A26,H⟩ := qB H
   replace H : ((laws_eqGraph.f k t213 t214 t215 t220 t221 t222).bind fun t225 => (if t225 = true then (some true) else (some false))) = some r := H
   obtain ⟨t225,A27,H⟩ := qB H
   by_cases c28 : t225 = true
   ·subst c28
    replace H := qT H
    obtain rfl := Option.some.inj H
    go_enter Try.func4,Try.ntmps4
    try go_wp2_with (first | ((with_reducible refine y15 (N := 1) rfl ?_); refine qe 1 #[.int .i64 a0_0,.int .i64 a0_1,.slice A0_2 l0_2.length c0_2] 24 ?_; intro gb205 hg w29 hbox hb; have BK205 := y0.mk (hbox); have GW205 := y0.mk (qg (w := w) hg); have GE205 := y0.mk (qg (w := w) hg); replace HB := y0.mk (y4 qb hb); clear hb hbox hg; obtain ⟨hcz30_0,hcz30_1,hcz30_2,hfz30_0,hfz30_1,hfz30_2⟩ := qz3 BK205.out) | ((with_reducible refine gate_callee (f := 7) rfl ?_); refine goesL_ (some 9) rfl rfl Try.func7 (by kernel_rfl) rfl #[.agg #[.int .i64 a0_0,.int .i64 a0_1,.slice A0_2 l0_2.length c0_2],.int .i64 1048576] rfl qy0 ?_; (with_reducible refine (laws_szGraph.calls a0_0 a0_1 _ _ l0_2 1048576 t206 _ (qc (Kd.C_below HR0_2.out HB.out)) HC0_2.out A2.out).mono ?_); rintro e w31 ⟨rfl,hb⟩; refine ⟨_,rfl, ?_⟩; replace BK205 := y0.mk (qK BK205.out hb); replace HB := y0.mk (y4 qb hb); (try clear hb); (try clear hb2); (try clear hk); (try clear hi); obtain ⟨hcz32_0,hcz32_1,hcz32_2,hfz32_0,hfz32_1,hfz32_2⟩ := qz3 BK205.out) | ((with_reducible refine gate_callee (f := 9) rfl ?_); refine goesL_ (some 13) rfl rfl Try.func9 (by kernel_rfl) rfl #[.agg #[.int .i64 a0_0,.int .i64 a0_1,.slice A0_2 l0_2.length c0_2]] rfl qy0 ?_; (with_reducible refine (laws_toGraph.calls k a0_0 a0_1 _ _ l0_2 t207 t208 t209 _ (qc (Kd.C_below HR0_2.out HB.out)) HC0_2.out A7.out).mono ?_); rintro e w33 ⟨v210,rfl,ho0,hb⟩; refine ⟨_,rfl, ?_⟩; have HO211 := y0.mk (Kd.R_lower ho0 (below_size qb)); replace BK205 := y0.mk (qK BK205.out hb); replace HB := y0.mk (y4 qb hb); (try clear hb); (try clear hb2); (try clear hk); (try clear hi); (try clear ho0); obtain ⟨Ao34,co34,eo34⟩ := Kd.R_slice HO211.out; subst eo34) | ((with_reducible refine gate_callee (f := 14) rfl ?_); refine goesL_ (some 14) rfl rfl Try.func14 (by kernel_rfl) rfl #[.agg #[.int .i64 t207,.int .i64 t208,.slice Ao34 t209.length co34]] rfl qy0 ?_; (with_reducible refine (spec_Falls.calls k t207 t208 _ _ t209 t212 _ (qc ((Kd.R_reads' HO211.out).2.2)) (by exact (Kd.R_reads' HO211.out).2.1) A8.out).mono ?_); rintro e w35 ⟨rfl,hb⟩; refine ⟨_,rfl, ?_⟩; replace HO211 := y0.mk (Kd.R_below (qR HO211.out) hb); replace BK205 := y0.mk (qK BK205.out hb); replace HB := y0.mk (y4 qb hb); (try clear hb); (try clear hb2); (try clear hk); (try clear hi); obtain ⟨hcz36_0,hcz36_1,hcz36_2,hfz36_0,hfz36_1,hfz36_2⟩ := qz3 BK205.out) | ((with_reducible refine gate_callee (f := 9) rfl ?_); refine goesL_ (some 16) rfl rfl Try.func9 (by kernel_rfl) rfl #[.agg #[.int .i64 a0_0,.int .i64 a0_1,.slice A0_2 l0_2.length c0_2]] rfl qy0 ?_; (with_reducible refine (laws_toGraph.calls k a0_0 a0_1 _ _ l0_2 t213 t214 t215 _ (qc (Kd.C_below HR0_2.out HB.out)) HC0_2.out A9.out).mono ?_); rintro e w37 ⟨v216,rfl,ho0,hb⟩; refine ⟨_,rfl, ?_⟩; have HO217 := y0.mk (Kd.R_lower (Kd.R_new' ho0 (Kd.R_lt (qR HO211.out))) (below_size qb)); replace HO211 := y0.mk (Kd.R_elder' (qR HO211.out) (Kd.R_base ho0) hb); replace BK205 := y0.mk (qK BK205.out hb); replace HB := y0.mk (y4 qb hb); (try clear hb); (try clear hb2); (try clear hk); (try clear hi); (try clear ho0)) | ((with_reducible refine y15 (N := 5) rfl ?_); refine qe 5 #[.int .i64 0,.int .i64 0,.slice none 0 0] 28 ?_; intro gb218 hg w38 hbox hb; replace HO211 := y0.mk (Kd.R_below (qR HO211.out) hb); replace HO217 := y0.mk (Kd.R_below (qR HO217.out) hb); have BK218 := y0.mk (hbox); have GW218 := y0.mk (qg (w := w) hg); have GE218 := y0.mk (qg (w := w) hg); replace HB := y0.mk (y4 qb hb); have NB205_218 := y0.mk (qn BK205.out hg); have NB218_205 := y0.mk (qm BK205.out hg); replace BK205 := y0.mk (qK BK205.out hb); clear hb hbox hg; have hnb39 := NB218_205.out; have hnc39 := NB205_218.out; obtain ⟨hcz40_0,hcz40_1,hcz40_2,hfz40_0,hfz40_1,hfz40_2⟩ := qz3 BK218.out; obtain ⟨Ao41,co41,eo41⟩ := Kd.R_slice HO217.out; subst eo41) | ((with_reducible refine gate_callee (f := 15) rfl ?_); refine goesL_ (some 18) rfl rfl Try.func15 (by kernel_rfl) rfl #[.agg #[.int .i64 t213,.int .i64 t214,.slice Ao41 t215.length co41]] rfl qy0 ?_; (with_reducible refine (impl_Falls.calls k t213 t214 _ _ t215 t219 _ (by refine (Kd.R_reads' (e := 53) (base := w.heap.size) (ok := fun k_ => (True ∧ some k_ ≠ (.slice Ao34 t209.length co34 : Value).ownBlock)) (n := t215.length) (c := co41) ?_).2.2; exact (qR ((Kd.R_mono (Kd.R_far (p := ⟨gb218,2,none⟩) (Kd.R_far (p := ⟨gb218,1,none⟩) (Kd.R_far (p := ⟨gb218,0,none⟩) (Kd.R_types HO217.out BK218.out (by decide)) (fun _ hk => hk.2) (.int .i64 t213)) (fun _ hk => hk.2) (.int .i64 t214)) (fun _ hk => hk.2) (.slice Ao41 t215.length co41)) (fun _ h_ => h_.1))))) (by exact (Kd.R_reads' HO217.out).2.1) A10.out).mono ?_); rintro e w42 ⟨rfl,hb⟩; refine ⟨_,rfl, ?_⟩; replace HO211 := y0.mk (Kd.R_below (qR ((Kd.R_mono (Kd.R_far (p := ⟨gb218,2,none⟩) (Kd.R_far (p := ⟨gb218,1,none⟩) (Kd.R_far (p := ⟨gb218,0,none⟩) (Kd.R_types HO211.out BK218.out (by decide)) (fun _ hk => hk.2) (.int .i64 t213)) (fun _ hk => hk.2) (.int .i64 t214)) (fun _ hk => hk.2) (.slice Ao41 t215.length co41)) (fun _ h_ => h_.1)))) hb); replace HO217 := y0.mk (Kd.R_below (qR ((Kd.R_mono (Kd.R_far (p := ⟨gb218,2,none⟩) (Kd.R_far (p := ⟨gb218,1,none⟩) (Kd.R_far (p := ⟨gb218,0,none⟩) (Kd.R_types HO217.out BK218.out (by decide)) (fun _ hk => hk.2) (.int .i64 t213)) (fun _ hk => hk.2) (.int .i64 t214)) (fun _ hk => hk.2) (.slice Ao41 t215.length co41)) (fun _ h_ => h_.1)))) hb); replace BK205 := y0.mk (y6 (g := gb205) (o := .cells #[.int .i64 a0_0,.int .i64 a0_1,.slice A0_2 l0_2.length c0_2] 24 (0,0)) (by (with_reducible repeat (first | refine y9 ?_ _ | refine y8 ?_ | refine y5 ?_ _)); refine blk_far ?_ NB205_218.out _; (with_reducible repeat (first | refine y9 ?_ _ | refine y8 ?_ | refine y5 ?_ _)); refine blk_far ?_ NB205_218.out _; (with_reducible repeat (first | refine y9 ?_ _ | refine y8 ?_ | refine y5 ?_ _)); refine blk_far ?_ NB205_218.out _; (with_reducible repeat (first | refine y9 ?_ _ | refine y8 ?_ | refine y5 ?_ _)); exact BK205.out) hb); replace BK218 := y0.mk (y6 (g := gb218) (o := .cells #[.int .i64 t213,.int .i64 t214,.slice Ao41 t215.length co41] 28 (0,0)) (by (with_reducible repeat (first | refine y9 ?_ _ | refine y8 ?_ | refine y5 ?_ _)); refine y12 (cs := #[.int .i64 t213,.int .i64 t214,.slice none 0 0]) ?_ 2 _ rfl; (with_reducible repeat (first | refine y9 ?_ _ | refine y8 ?_ | refine y5 ?_ _)); refine y12 (cs := #[.int .i64 t213,.int .i64 0,.slice none 0 0]) ?_ 1 _ rfl; (with_reducible repeat (first | refine y9 ?_ _ | refine y8 ?_ | refine y5 ?_ _)); refine y12 (cs := #[.int .i64 0,.int .i64 0,.slice none 0 0]) ?_ 0 _ rfl; (with_reducible repeat (first | refine y9 ?_ _ | refine y8 ?_ | refine y5 ?_ _)); exact BK218.out) hb); replace HB := y0.mk (y4 qb hb); (try clear hb); (try clear hb2); (try clear hk); (try clear hi)))
    replace HO211 := y0.mk (Kd.R_drew HO211.out)
    replace HO217 := y0.mk (Kd.R_drew HO217.out)
    replace BK205 := y0.mk (y8 BK205.out)
    replace BK218 := y0.mk (y8 BK218.out)
    replace HB := y0.mk (y2 HB.out)
    refine start_ (n := 5) (S := fun w' => w'.cell? ⟨gb218,0,none⟩ = some (.int .i64 t213) ∧ w'.cell? ⟨gb218,1,none⟩ = some (.int .i64 t214) ∧ w'.cell? ⟨gb218,2,none⟩ = some (.slice Ao41 t215.length co41) ∧ w'.cell? ⟨gb205,0,none⟩ = some (.int .i64 a0_0) ∧ w'.cell? ⟨gb205,1,none⟩ = some (.int .i64 a0_1) ∧ w'.cell? ⟨gb205,2,none⟩ = some (.slice A0_2 l0_2.length c0_2)) (ds := []) #[false,false,false,false,false] (by kernel_rfl) rfl rfl ⟨(y7 BK218.out 0).trans rfl,(y7 BK218.out 1).trans rfl,(y7 BK218.out 2).trans rfl,(y7 BK205.out 0).trans rfl,(y7 BK205.out 1).trans rfl,(y7 BK205.out 2).trans rfl⟩ (fun hHeld => ?_)
    generalize w42.drew = w43 at HO211 HO217 BK205 BK218 HB hHeld ⊢
    refine take_ (i := 0) (N := some 22) (v := ?_) (a' := ?_) #[true,false,false,false,false] rfl rfl (by kernel_rfl) (fun _ _ _ h => h) (Or.inl ⟨by rfl, ?_⟩) hHeld ?_ ?_
    rotate_left
    ·rintro w' ⟨s0,s1,s2,s3,s4,s5⟩
     go_simp
     with_reducible rfl
    rotate_left
    ·simp only [Act.put,qS_,qZ_,qC_,y17,y16]
     rfl
    refine take_ (i := 1) (N := some 23) (v := ?_) (a' := ?_) #[true,true,false,false,false] rfl rfl (by kernel_rfl) (fun _ _ _ h => h) (Or.inl ⟨by rfl, ?_⟩) hHeld ?_ ?_
    rotate_left
    ·rintro w' ⟨s0,s1,s2,s3,s4,s5⟩
     go_simp
     with_reducible rfl
    rotate_left
    ·simp only [Act.put,qS_,qZ_,qC_,y17,y16]
     rfl
    refine one_ (i := 2) (N := some 24) #[true,true,true,false,false] rfl rfl (by kernel_rfl) (by decide) (fun K hK => ?_)
    refine goes_ Try.func9 (by kernel_rfl) rfl #[.agg #[.int .i64 a0_0,.int .i64 a0_1,.slice A0_2 l0_2.length c0_2]] (by rfl) rfl rfl qy0 ?_
    with_reducible refine (laws_toGraph.calls k a0_0 a0_1 _ _ l0_2 t220 t221 t222 _ (qc (Kd.C_below HR0_2.out HB.out)) HC0_2.out A26.out).mono ?_
    rintro e w44 ⟨v223,rfl,ho0,hb⟩
    refine ⟨_,rfl, ?_⟩
    have HO224 := y0.mk (Kd.R_lower (Kd.R_new' (Kd.R_new' ho0 (Kd.R_lt (qR HO211.out))) (Kd.R_lt (qR HO217.out))) (below_size qb))
    replace HO211 := y0.mk (Kd.R_elder' (qR HO211.out) (Kd.R_base ho0) hb)
    replace HO217 := y0.mk (Kd.R_elder' (qR HO217.out) (Kd.R_base ho0) hb)
    replace BK205 := y0.mk (qK BK205.out hb)
    replace BK218 := y0.mk (qK BK218.out hb)
    replace HB := y0.mk (y4 qb hb)
    (try clear hb)
    (try clear hb2)
    (try clear hk)
    (try clear hi)
    (try clear ho0)
    obtain ⟨Ao45,co45,eo45⟩ := Kd.R_slice HO224.out
    (first | subst eo45 | (injection eo45 with f1_ f2_ f3_; have f4_ := f1_.symm; have f5_ := f3_.symm; clear f1_ f2_ f3_; subst f4_; subst f5_))
    refine hK.out _ _ ⟨(y7 BK218.out 0).trans rfl,(y7 BK218.out 1).trans rfl,(y7 BK218.out 2).trans rfl,(y7 BK205.out 0).trans rfl,(y7 BK205.out 1).trans rfl,(y7 BK205.out 2).trans rfl⟩ (fun hHeld => ?_)
    clear hK K
    refine norm_ (a' := ?_) ?_ ?_
    rotate_left
    ·show Act.put _ (some 24) _ = _
     simp only [Act.put,qS_,qZ_,qC_,y17,y16]
     rfl
    refine one_ (i := 3) (N := some 25) #[true,true,true,true,false] rfl rfl (by kernel_rfl) (by decide) (fun K hK => ?_)
    refine goes_ Try.func11 (by kernel_rfl) rfl #[.agg #[.int .i64 t213,.int .i64 t214,.slice Ao41 t215.length co41],.agg #[.int .i64 t220,.int .i64 t221,.slice Ao45 t222.length co45]] (by rfl) rfl rfl qy0 ?_
    with_reducible refine (laws_eqGraph.calls k t213 t214 _ _ t215 t220 t221 _ _ t222 true _ (qc ((Kd.R_reads' HO217.out).2.2)) (by exact (Kd.R_reads' HO217.out).2.1) (qc ((Kd.R_reads' HO224.out).2.2)) (by exact (Kd.R_reads' HO224.out).2.1) A27.out rfl).mono ?_
    rintro e w46 ⟨rfl,hb⟩
    refine ⟨_,rfl, ?_⟩
    replace HO211 := y0.mk (Kd.R_below (qR HO211.out) hb)
    replace HO217 := y0.mk (Kd.R_below (qR HO217.out) hb)
    replace HO224 := y0.mk (Kd.R_below (qR HO224.out) hb)
    replace BK205 := y0.mk (qK BK205.out hb)
    replace BK218 := y0.mk (qK BK218.out hb)
    replace HB := y0.mk (y4 qb hb)
    (try clear hb)
    (try clear hb2)
    (try clear hk)
    (try clear hi)
    refine hK.out _ _ ⟨(y7 BK218.out 0).trans rfl,(y7 BK218.out 1).trans rfl,(y7 BK218.out 2).trans rfl,(y7 BK205.out 0).trans rfl,(y7 BK205.out 1).trans rfl,(y7 BK205.out 2).trans rfl⟩ (fun hHeld => ?_)
    clear hK K
    refine norm_ (a' := ?_) ?_ ?_
    rotate_left
    ·show Act.put _ (some 25) _ = _
     simp only [Act.put,qS_,qZ_,qC_,y17,y16]
     rfl
    refine pure_ (i := 4) (N := some 26) (v := ?_) (a' := ?_) #[true,true,true,true,true] rfl rfl (by kernel_rfl) (fun _ _ _ h => h) (Or.inl ⟨by rfl, ?_⟩) ?_ ?_
    rotate_left
    ·intro w'
     go_simp
     with_reducible rfl
    rotate_left
    ·simp only [Act.put,qS_,qZ_,qC_,y17,y16]
     rfl
    refine done_ (by kernel_rfl) ?_
    try go_wp2
    go_ret
    exact ⟨by first | rfl | (simp [y13,y14] <;> rfl) | (simp [*,y13,y14] <;> rfl),qb⟩
   ·replace c28 := Bool.eq_false_iff.mpr c28
    subst c28
    replace H := qF H
    exact absurd ((Option.some.inj H).trans htrue_) (by decide)
/-- THE ONE PURE STATEMENT of laws_FnExactFalls. -/
def laws_FnExactFalls.Pure : Prop := ∀ (x0 : S24),okT24 x0 → ∃ k,laws_FnExactFalls.f k x0.f0 x0.f1 x0.f2 = some true
theorem laws_FnExactFalls.walk (P : laws_FnExactFalls.Pure) (x0 : S24) (A0_2 : Option Addr) (c0_2 : Nat) (w : World) (hr0_2 : Kd.C k64 w A0_2 x0.f2.length x0.f2) (hc0_2 : x0.f2.length ≤ c0_2) (k0 : okT24 x0) :
  Calls Try.prog 4 #[.agg #[.int .i64 x0.f0,.int .i64 x0.f1,.slice A0_2 x0.f2.length c0_2]] w fun e w' => e = .returned (.bool true) ∧ Below w.heap.size w w' := by
 obtain ⟨k,h⟩ := P x0 k0
 refine (laws_FnExactFalls.calls k x0.f0 x0.f1 A0_2 c0_2 x0.f2 true w hr0_2 hc0_2 h rfl).mono ?_
 rintro e w' ⟨rfl,hd⟩
 exact ⟨rfl,hd⟩
end Go.Proofs.Ytcckpjflbfofjaa.Pd
end

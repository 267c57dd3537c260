-- Cut by prune.py, a program of this session, out of the texts of this claim: Lean checks it.
import Derived.Test.YtocmfolajckaeaaGreatDoorVskPex0
import Derived.Test.YtocmfolajckaeaaGreatDoorVskPex10
section
namespace Go.Proofs.YtocmfolajckaeaaGreatDoor.Pe
open Go.RowKit Go.Proofs.YtocmfolajckaeaaGreatDoorW.PrintWords Go.Proofs.YtocmfolajckaeaaGreatDoorW.PrintLast Go.Proofs.YtocmfolajckaeaaGreatDoorW.PrintMore
attribute [local go_sem] max2_int min2_int max_two min_two max_three min_three max_four min_four   -- for this text's walks alone
set_option linter.unusedVariables false
set_option linter.unusedSimpArgs false
def impl_kindOf.f (k : Nat) (a0 : ByteArray) : Option (Int) := (impl_termAt.f k a0).bind fun bt287 => (if (a0.size : Int) > 200 then (some 0) else (if bt287.2 = (a0.size : Int) then (some bt287.1) else (some 0)))
set_option maxHeartbeats 8000000 in
set_option maxRecDepth 100000 in
theorem impl_kindOf.calls (k : Nat) (a0 : ByteArray) (r : Int) (w : World) (hT : Tb w) (h : impl_kindOf.f k a0 = some r) :
  Calls Tryz.prog 73 #[.string a0] w fun e w' => e = .returned (.int .i64 r) ∧ Below w.heap.size w w' := by
 have HT := y0.mk hT
 clear hT
 have HB := y0.mk (Below.refl w.heap.size w)
 have H : ((impl_termAt.f k a0).bind fun bt287 => (if (a0.size : Int) > 200 then (some 0) else (if bt287.2 = (a0.size : Int) then (some bt287.1) else (some 0)))) = some r := h
 clear h
 obtain ⟨⟨t287,t288⟩,A2,H⟩ := qB H
 replace H : (if (a0.size : Int) > 200 then (some 0) else (if t288 = (a0.size : Int) then (some t287) else (some 0))) = some r := H
 by_cases c3 : (a0.size : Int) > 200
 ·rw [if_pos c3] at H
  have c3b0 : decide (200 < (a0.size : Int)) = true := decide_eq_true c3
  have c3b1 : decide (200 < a0.size) = true := decide_eq_true (by omega)
  clear c3
  obtain rfl := Option.some.inj H
  go_enter Tryz.func73,Tryz.ntmps73
  go_wp2_with (first | ((with_reducible refine y14 (f := 86) rfl ?_); refine y16 (some 7) rfl rfl Tryz.func86 (by kernel_rfl) rfl #[.string a0] rfl qy0 ?_; (with_reducible refine (impl_termAt.calls k a0 t287 t288 _ (by exact Tb.below HT.out qb) A2.out).mono ?_); rintro e w4 ⟨rfl,hb⟩; refine ⟨_,rfl, ?_⟩; replace HB := y0.mk (y5 qb hb); (try clear hb); (try clear hb2); (try clear hk); (try clear hi)))
  go_ret
  exact ⟨by first | rfl | (simp [y12,y13] <;> rfl) | (simp [*,y12,y13] <;> rfl),qb⟩
 ·rw [if_neg c3] at H
  have c3b0 : decide (200 < (a0.size : Int)) = false := decide_eq_false c3
  have c3b1 : decide (200 < a0.size) = false := decide_eq_false (by omega)
  clear c3
  by_cases c5 : t288 = (a0.size : Int)
  ·rw [if_pos c5] at H
   have c5b0 : (t288 == (a0.size : Int)) = true := beq_iff_eq.mpr c5
   have c5b1 : (t288 != (a0.size : Int)) = false := bne_eq_false_iff_eq.mpr c5
   clear c5
   obtain rfl := Option.some.inj H
   go_enter Tryz.func73,Tryz.ntmps73
   go_wp2_with (first | ((with_reducible refine y14 (f := 86) rfl ?_); refine y16 (some 7) rfl rfl Tryz.func86 (by kernel_rfl) rfl #[.string a0] rfl qy0 ?_; (with_reducible refine (impl_termAt.calls k a0 t287 t288 _ (by exact Tb.below HT.out qb) A2.out).mono ?_); rintro e w6 ⟨rfl,hb⟩; refine ⟨_,rfl, ?_⟩; replace HB := y0.mk (y5 qb hb); (try clear hb); (try clear hb2); (try clear hk); (try clear hi)))
   go_ret
   exact ⟨by first | rfl | (simp [y12,y13] <;> rfl) | (simp [*,y12,y13] <;> rfl),qb⟩
  ·rw [if_neg c5] at H
   have c5b0 : (t288 == (a0.size : Int)) = false := beq_eq_false_iff_ne.mpr c5
   have c5b1 : (t288 != (a0.size : Int)) = true := bne_iff_ne.mpr c5
   obtain rfl := Option.some.inj H
   go_enter Tryz.func73,Tryz.ntmps73
   go_wp2_with (first | ((with_reducible refine y14 (f := 86) rfl ?_); refine y16 (some 7) rfl rfl Tryz.func86 (by kernel_rfl) rfl #[.string a0] rfl qy0 ?_; (with_reducible refine (impl_termAt.calls k a0 t287 t288 _ (by exact Tb.below HT.out qb) A2.out).mono ?_); rintro e w7 ⟨rfl,hb⟩; refine ⟨_,rfl, ?_⟩; replace HB := y0.mk (y5 qb hb); (try clear hb); (try clear hb2); (try clear hk); (try clear hi)))
   go_ret
   exact ⟨by first | rfl | (simp [y12,y13] <;> rfl) | (simp [*,y12,y13] <;> rfl),qb⟩
def impl_isTuple_1.f (k : Nat) (a0 : ByteArray) : Option (Bool) := (impl_kindOf.f k a0).bind fun t289 => (some (t289 == 0))
set_option maxHeartbeats 8000000 in
set_option maxRecDepth 100000 in
theorem impl_isTuple_1.calls (k : Nat) (a0 : ByteArray) (r : Bool) (w : World) (hT : Tb w) (h : impl_isTuple_1.f k a0 = some r) :
  Calls Tryz.prog 72 #[.string a0] w fun e w' => e = .returned (.bool r) ∧ Below w.heap.size w w' := by
 have HT := y0.mk hT
 clear hT
 have HB := y0.mk (Below.refl w.heap.size w)
 have H : ((impl_kindOf.f k a0).bind fun t289 => (some (t289 == 0))) = some r := h
 clear h
 obtain ⟨t289,A2,H⟩ := qB H
 obtain rfl := Option.some.inj H
 go_enter Tryz.func72,Tryz.ntmps72
 go_wp2_with (first | ((with_reducible refine y14 (f := 73) rfl ?_); refine y16 (some 4) rfl rfl Tryz.func73 (by kernel_rfl) rfl #[.string a0] rfl qy0 ?_; (with_reducible refine (impl_kindOf.calls k a0 t289 _ (by exact Tb.below HT.out qb) A2.out).mono ?_); rintro e w3 ⟨rfl,hb⟩; refine ⟨_,rfl, ?_⟩; replace HB := y0.mk (y5 qb hb); (try clear hb); (try clear hb2); (try clear hk); (try clear hi)))
 go_ret
 exact ⟨by first | rfl | (simp [y12,y13] <;> rfl) | (simp [*,y12,y13] <;> rfl),qb⟩
def z2_.l0 : Nat → List ByteArray → Int → Int → Option (Int)
 | 0,_,_,_ => none
 | k + 1,x0,x7,x8 => if x8 < x7 then (if 0 ≤ x8 then (if x8 < (x0.length : Int) then ((impl_isTuple_1.f k (rdOf ByteArray.empty x0 x8)).bind fun t291 => (if t291 = true then (some x8) else (z2_.l0 k x0 x7 (wrap64 (x8 + 1))))) else (none)) else (none)) else (some (-1))
def z2_.f (k : Nat) (l0 : List ByteArray)  : Option (Int) := z2_.l0 k l0 (l0.length : Int) 0
set_option maxHeartbeats 8000000 in
set_option maxRecDepth 100000 in
theorem z2_.calls (k : Nat) (A0 : Option Addr) (c0 : Nat) (l0 : List ByteArray)  (r : Int) (w : World) (hr0 : Kd.C Kd.string w A0 l0.length l0) (hc0 : l0.length ≤ c0) (hT : Tb w) (h : z2_.f k l0 = some r) :
  Calls Tryz.prog 85 #[.slice A0 l0.length c0,.func (.func 72) #[] #[]] w fun e w' => e = .returned (.int .i64 r) ∧ Below w.heap.size w w' := by
 have HT := y0.mk hT
 clear hT
 have HR0 := y0.mk hr0
 have HC0 := y0.mk hc0
 clear hr0 hc0
 have HB := y0.mk (Below.refl w.heap.size w)
 have H : (z2_.l0 k l0 (l0.length : Int) 0) = some r := h
 clear h
 have H' := y0.mk H
 clear H
 go_enter Tryz.func85,Tryz.ntmps85
 go_wp2
 go_loopg [8] k (fun kq v8 w' => ∃ (x8_1 : Int),v8 = .int .i64 x8_1 ∧ y0 (z2_.l0 kq l0 (l0.length : Int) x8_1 = some r) ∧ y0 (kq ≤ k) ∧ y0 (Below w.heap.size w w'))
 case atStart => exact ⟨(0),qy2,H',⟨Nat.le_refl _⟩,⟨qb⟩⟩
 case round =>
  clear H'
  obtain ⟨x8_1,rfl,HA,HK1,HB⟩ := hrel
  cases gk with
  | zero => exact absurd HA.out (by simp [z2_.l0])
  | succ k1 =>
   have H := HA.out
   clear HA
   simp only [z2_.l0] at H
   by_cases c3 : x8_1 < (l0.length : Int)
   ·rw [if_pos c3] at H
    have c3b0 := decide_eq_true c3
    clear c3
    obtain ⟨c4,H⟩ := qo H
    have c4b0 : decide (0 ≤ x8_1) = true := decide_eq_true c4
    clear c4
    obtain ⟨c5,H⟩ := qo H
    have c5b0 : decide (x8_1 < (l0.length : Int)) = true := decide_eq_true c5
    clear c5
    obtain ⟨t291,A6,H⟩ := qB H
    by_cases c7 : t291 = true
    ·subst c7
     replace H := qT H
     obtain rfl := Option.some.inj H
     have p290 : 0 ≤ (x8_1 : Int) := of_decide_eq_true qy1
     have q290 : x8_1 < (l0.length : Int) := of_decide_eq_true qy1
     obtain ⟨ad290,e290,hx290_0⟩ := Kd.at_string HR0.out x8_1 p290 q290
     cases e290
     replace hx290_0 := (HB.out.cell (World.block_lt_of_cell? w _ hx290_0)).trans hx290_0
     replace p290 := eq_true p290
     replace q290 := eq_true q290
     go_wp2_with (first | (go_at_call 72; (with_reducible refine (impl_isTuple_1.calls k1 (rdOf ByteArray.empty l0 x8_1) true _ (by exact Tb.below HT.out qb) A6.out).mono ?_); rintro e w8 ⟨rfl,hb⟩; replace HB := y0.mk (y5 qb hb); (try clear hb); (try clear hb2); (try clear hk); (try clear hi)))
     go_ret
     exact ⟨by first | rfl | (simp [y12,y13] <;> rfl) | (simp [*,y12,y13] <;> rfl),qb⟩
    ·replace c7 := Bool.eq_false_iff.mpr c7
     subst c7
     replace H := qF H
     have H' := y0.mk H
     clear H
     have p290 : 0 ≤ (x8_1 : Int) := of_decide_eq_true qy1
     have q290 : x8_1 < (l0.length : Int) := of_decide_eq_true qy1
     obtain ⟨ad290,e290,hx290_0⟩ := Kd.at_string HR0.out x8_1 p290 q290
     cases e290
     replace hx290_0 := (HB.out.cell (World.block_lt_of_cell? w _ hx290_0)).trans hx290_0
     replace p290 := eq_true p290
     replace q290 := eq_true q290
     go_wp2_with (first | (go_at_call 72; (with_reducible refine (impl_isTuple_1.calls k1 (rdOf ByteArray.empty l0 x8_1) false _ (by exact Tb.below HT.out qb) A6.out).mono ?_); rintro e w9 ⟨rfl,hb⟩; replace HB := y0.mk (y5 qb hb); (try clear hb); (try clear hb2); (try clear hk); (try clear hi)))
     go_roundg k1
     case measure => have := HK1.out; omega
     exact ⟨(wrap64 (x8_1 + 1)),qy2,H',⟨by have := HK1.out; omega⟩,⟨qb⟩⟩
   ·rw [if_neg c3] at H
    have c3b0 := decide_eq_false c3
    clear c3
    obtain rfl := Option.some.inj H
    go_wp2
    go_ret
    exact ⟨by first | rfl | (simp [y12,y13] <;> rfl) | (simp [*,y12,y13] <;> rfl),qb⟩
def slices_ContainsFunc_string_string_impl_isTuple_1.f (k : Nat) (l0 : List ByteArray)  : Option (Bool) := (z2_.f k l0).bind fun t292 => (some (decide (t292 ≥ 0)))
set_option maxHeartbeats 8000000 in
set_option maxRecDepth 100000 in
theorem slices_ContainsFunc_string_string_impl_isTuple_1.calls (k : Nat) (A0 : Option Addr) (c0 : Nat) (l0 : List ByteArray)  (r : Bool) (w : World) (hr0 : Kd.C Kd.string w A0 l0.length l0) (hc0 : l0.length ≤ c0) (hT : Tb w) (h : slices_ContainsFunc_string_string_impl_isTuple_1.f k l0 = some r) :
  Calls Tryz.prog 71 #[.slice A0 l0.length c0,.func (.func 72) #[] #[]] w fun e w' => e = .returned (.bool r) ∧ Below w.heap.size w w' := by
 have HT := y0.mk hT
 clear hT
 have HR0 := y0.mk hr0
 have HC0 := y0.mk hc0
 clear hr0 hc0
 have HB := y0.mk (Below.refl w.heap.size w)
 have H : ((z2_.f k l0).bind fun t292 => (some (decide (t292 ≥ 0)))) = some r := h
 clear h
 obtain ⟨t292,A3,H⟩ := qB H
 obtain rfl := Option.some.inj H
 go_enter Tryz.func71,Tryz.ntmps71
 go_wp2_with (first | ((with_reducible refine y14 (f := 85) rfl ?_); refine y16 (some 7) rfl rfl Tryz.func85 (by kernel_rfl) rfl #[.slice A0 l0.length c0,.func (.func 72) #[] #[]] rfl qy0 ?_; (with_reducible refine (z2_.calls k _ _ l0  t292 _ (qc HR0.out) HC0.out (by exact Tb.below HT.out qb) A3.out).mono ?_); rintro e w4 ⟨rfl,hb⟩; refine ⟨_,rfl, ?_⟩; replace HB := y0.mk (y5 qb hb); (try clear hb); (try clear hb2); (try clear hk); (try clear hi)))
 go_ret
 exact ⟨by first | rfl | (simp [y12,y13] <;> rfl) | (simp [*,y12,y13] <;> rfl),qb⟩
def impl_isTuple.f (k : Nat) (l0_0 : List ByteArray) : Option (Bool) := if (l0_0.length : Int) ≤ 6 then ((slices_ContainsFunc_string_string_impl_isTuple_1.f k l0_0).bind fun t294 => (some (!t294))) else (some false)
set_option maxHeartbeats 8000000 in
set_option maxRecDepth 100000 in
theorem impl_isTuple.calls (k : Nat) (A0_0 : Option Addr) (c0_0 : Nat) (l0_0 : List ByteArray) (r : Bool) (w : World) (hr0_0 : Kd.C Kd.string w A0_0 l0_0.length l0_0) (hc0_0 : l0_0.length ≤ c0_0) (hT : Tb w) (h : impl_isTuple.f k l0_0 = some r) :
  Calls Tryz.prog 54 #[.agg #[.slice A0_0 l0_0.length c0_0]] w fun e w' => e = .returned (.bool r) ∧ Below w.heap.size w w' := by
 have hu48 := Tryz.underlying48
 have HT := y0.mk hT
 clear hT
 have HR0_0 := y0.mk hr0_0
 have HC0_0 := y0.mk hc0_0
 clear hr0_0 hc0_0
 have HB := y0.mk (Below.refl w.heap.size w)
 have H : (if (l0_0.length : Int) ≤ 6 then ((slices_ContainsFunc_string_string_impl_isTuple_1.f k l0_0).bind fun t294 => (some (!t294))) else (some false)) = some r := h
 clear h
 by_cases c2 : (l0_0.length : Int) ≤ 6
 ·rw [if_pos c2] at H
  have c2b0 := decide_eq_true c2
  have c2b1 : decide (l0_0.length ≤ 6) = true := decide_eq_true (by omega)
  clear c2
  obtain ⟨t294,A3,H⟩ := qB H
  obtain rfl := Option.some.inj H
  go_enter Tryz.func54,Tryz.ntmps54
  go_wp2_with (first | ((with_reducible refine y15 (N := 1) rfl ?_); refine qe 1 #[.slice A0_0 l0_0.length c0_0] 48 ?_; intro gb293 hg w4 hbox hb; have BK293 := y0.mk (hbox); have GW293 := y0.mk (qg (w := w) hg); have GE293 := y0.mk (qg (w := w) hg); replace HB := y0.mk (y5 qb hb); clear hb hbox hg; obtain ⟨hcz5_0,hfz5_0⟩ := qz1 BK293.out) | (go_at_call 71; (with_reducible refine (slices_ContainsFunc_string_string_impl_isTuple_1.calls k _ _ l0_0  t294 _ (qc (Kd.C_below HR0_0.out HB.out)) HC0_0.out (by exact Tb.below HT.out qb) A3.out).mono ?_); rintro e w6 ⟨rfl,hb⟩; replace BK293 := y0.mk (qK BK293.out hb); replace HB := y0.mk (y5 qb hb); (try clear hb); (try clear hb2); (try clear hk); (try clear hi)))
  go_ret
  exact ⟨by first | rfl | (simp [y12,y13] <;> rfl) | (simp [*,y12,y13] <;> rfl),qb⟩
 ·rw [if_neg c2] at H
  have c2b0 := decide_eq_false c2
  have c2b1 : decide (l0_0.length ≤ 6) = false := decide_eq_false (by omega)
  clear c2
  obtain rfl := Option.some.inj H
  go_enter Tryz.func54,Tryz.ntmps54
  go_wp2_with (first | ((with_reducible refine y15 (N := 1) rfl ?_); refine qe 1 #[.slice A0_0 l0_0.length c0_0] 48 ?_; intro gb293 hg w7 hbox hb; have BK293 := y0.mk (hbox); have GW293 := y0.mk (qg (w := w) hg); have GE293 := y0.mk (qg (w := w) hg); replace HB := y0.mk (y5 qb hb); clear hb hbox hg; obtain ⟨hcz8_0,hfz8_0⟩ := qz1 BK293.out))
  go_ret
  exact ⟨by first | rfl | (simp [y12,y13] <;> rfl) | (simp [*,y12,y13] <;> rfl),qb⟩
def cmp_isNaN_int.f (a0 : Int) : Option (Bool) := some (a0 != a0)
set_option maxHeartbeats 8000000 in
set_option maxRecDepth 100000 in
theorem cmp_isNaN_int.calls (a0 : Int) (r : Bool) (w : World) (h : cmp_isNaN_int.f a0 = some r) :
  Calls Tryz.prog 101 #[.int .i64 a0] w fun e w' => e = .returned (.bool r) ∧ y1 w w' := by
 have H : (some (a0 != a0)) = some r := h
 clear h
 obtain rfl := Option.some.inj H
 go_enter Tryz.func101,Tryz.ntmps101
 go_wp2
 go_ret
 exact ⟨by first | rfl | (simp; done) | (simp [*]; done),by repeat (first | exact y1.refl _ | apply y1.step)⟩
def cmp_Compare_int.f (a0 : Int) (a1 : Int) : Option (Int) := (cmp_isNaN_int.f a0).bind fun t295 => ((cmp_isNaN_int.f a1).bind fun t296 => (if t295 = true then (if t296 = true then (some 0) else (some (-1))) else (if t296 = true then (some 1) else (if a0 < a1 then (some (-1)) else (if a0 > a1 then (some 1) else (some 0))))))
set_option maxHeartbeats 8000000 in
set_option maxRecDepth 100000 in
theorem cmp_Compare_int.calls (a0 : Int) (a1 : Int) (r : Int) (w : World) (h : cmp_Compare_int.f a0 a1 = some r) :
  Calls Tryz.prog 87 #[.int .i64 a0,.int .i64 a1] w fun e w' => e = .returned (.int .i64 r) ∧ y1 w w' := by
 have H : ((cmp_isNaN_int.f a0).bind fun t295 => ((cmp_isNaN_int.f a1).bind fun t296 => (if t295 = true then (if t296 = true then (some 0) else (some (-1))) else (if t296 = true then (some 1) else (if a0 < a1 then (some (-1)) else (if a0 > a1 then (some 1) else (some 0))))))) = some r := h
 clear h
 obtain ⟨t295,A3,H⟩ := qB H
 obtain ⟨t296,A4,H⟩ := qB H
 by_cases c5 : t295 = true
 ·subst c5
  replace H := qT H
  by_cases c6 : t296 = true
  ·subst c6
   replace H := qT H
   obtain rfl := Option.some.inj H
   go_enter Tryz.func87,Tryz.ntmps87
   go_wp2_with (first | ((with_reducible refine y14 (f := 101) rfl ?_); refine y16 (some 8) rfl rfl Tryz.func101 (by kernel_rfl) rfl #[.int .i64 a0] rfl qy0 ?_; (with_reducible refine (cmp_isNaN_int.calls a0 true _ A3.out).mono ?_); rintro e w' ⟨rfl,⟨nd,rfl⟩⟩; refine ⟨_,rfl, ?_⟩) | ((with_reducible refine y14 (f := 101) rfl ?_); refine y16 (some 10) rfl rfl Tryz.func101 (by kernel_rfl) rfl #[.int .i64 a1] rfl qy0 ?_; (with_reducible refine (cmp_isNaN_int.calls a1 true _ A4.out).mono ?_); rintro e w' ⟨rfl,⟨nd,rfl⟩⟩; refine ⟨_,rfl, ?_⟩))
   go_ret
   exact ⟨by first | rfl | (simp; done) | (simp [*]; done),by repeat (first | exact y1.refl _ | apply y1.step)⟩
  ·replace c6 := Bool.eq_false_iff.mpr c6
   subst c6
   replace H := qF H
   obtain rfl := Option.some.inj H
   go_enter Tryz.func87,Tryz.ntmps87
   go_wp2_with (first | ((with_reducible refine y14 (f := 101) rfl ?_); refine y16 (some 8) rfl rfl Tryz.func101 (by kernel_rfl) rfl #[.int .i64 a0] rfl qy0 ?_; (with_reducible refine (cmp_isNaN_int.calls a0 true _ A3.out).mono ?_); rintro e w' ⟨rfl,⟨nd,rfl⟩⟩; refine ⟨_,rfl, ?_⟩) | ((with_reducible refine y14 (f := 101) rfl ?_); refine y16 (some 10) rfl rfl Tryz.func101 (by kernel_rfl) rfl #[.int .i64 a1] rfl qy0 ?_; (with_reducible refine (cmp_isNaN_int.calls a1 false _ A4.out).mono ?_); rintro e w' ⟨rfl,⟨nd,rfl⟩⟩; refine ⟨_,rfl, ?_⟩))
   go_ret
   exact ⟨by first | rfl | (simp; done) | (simp [*]; done),by repeat (first | exact y1.refl _ | apply y1.step)⟩
 ·replace c5 := Bool.eq_false_iff.mpr c5
  subst c5
  replace H := qF H
  by_cases c7 : t296 = true
  ·subst c7
   replace H := qT H
   obtain rfl := Option.some.inj H
   go_enter Tryz.func87,Tryz.ntmps87
   go_wp2_with (first | ((with_reducible refine y14 (f := 101) rfl ?_); refine y16 (some 8) rfl rfl Tryz.func101 (by kernel_rfl) rfl #[.int .i64 a0] rfl qy0 ?_; (with_reducible refine (cmp_isNaN_int.calls a0 false _ A3.out).mono ?_); rintro e w' ⟨rfl,⟨nd,rfl⟩⟩; refine ⟨_,rfl, ?_⟩) | ((with_reducible refine y14 (f := 101) rfl ?_); refine y16 (some 10) rfl rfl Tryz.func101 (by kernel_rfl) rfl #[.int .i64 a1] rfl qy0 ?_; (with_reducible refine (cmp_isNaN_int.calls a1 true _ A4.out).mono ?_); rintro e w' ⟨rfl,⟨nd,rfl⟩⟩; refine ⟨_,rfl, ?_⟩))
   go_ret
   exact ⟨by first | rfl | (simp; done) | (simp [*]; done),by repeat (first | exact y1.refl _ | apply y1.step)⟩
  ·replace c7 := Bool.eq_false_iff.mpr c7
   subst c7
   replace H := qF H
   by_cases c8 : a0 < a1
   ·rw [if_pos c8] at H
    have c8b0 := decide_eq_true c8
    clear c8
    obtain rfl := Option.some.inj H
    go_enter Tryz.func87,Tryz.ntmps87
    go_wp2_with (first | ((with_reducible refine y14 (f := 101) rfl ?_); refine y16 (some 8) rfl rfl Tryz.func101 (by kernel_rfl) rfl #[.int .i64 a0] rfl qy0 ?_; (with_reducible refine (cmp_isNaN_int.calls a0 false _ A3.out).mono ?_); rintro e w' ⟨rfl,⟨nd,rfl⟩⟩; refine ⟨_,rfl, ?_⟩) | ((with_reducible refine y14 (f := 101) rfl ?_); refine y16 (some 10) rfl rfl Tryz.func101 (by kernel_rfl) rfl #[.int .i64 a1] rfl qy0 ?_; (with_reducible refine (cmp_isNaN_int.calls a1 false _ A4.out).mono ?_); rintro e w' ⟨rfl,⟨nd,rfl⟩⟩; refine ⟨_,rfl, ?_⟩))
    go_ret
    exact ⟨by first | rfl | (simp; done) | (simp [*]; done),by repeat (first | exact y1.refl _ | apply y1.step)⟩
   ·rw [if_neg c8] at H
    have c8b0 := decide_eq_false c8
    clear c8
    by_cases c9 : a0 > a1
    ·rw [if_pos c9] at H
     have c9b0 : decide (a1 < a0) = true := decide_eq_true c9
     clear c9
     obtain rfl := Option.some.inj H
     go_enter Tryz.func87,Tryz.ntmps87
     go_wp2_with (first | ((with_reducible refine y14 (f := 101) rfl ?_); refine y16 (some 8) rfl rfl Tryz.func101 (by kernel_rfl) rfl #[.int .i64 a0] rfl qy0 ?_; (with_reducible refine (cmp_isNaN_int.calls a0 false _ A3.out).mono ?_); rintro e w' ⟨rfl,⟨nd,rfl⟩⟩; refine ⟨_,rfl, ?_⟩) | ((with_reducible refine y14 (f := 101) rfl ?_); refine y16 (some 10) rfl rfl Tryz.func101 (by kernel_rfl) rfl #[.int .i64 a1] rfl qy0 ?_; (with_reducible refine (cmp_isNaN_int.calls a1 false _ A4.out).mono ?_); rintro e w' ⟨rfl,⟨nd,rfl⟩⟩; refine ⟨_,rfl, ?_⟩))
     go_ret
     exact ⟨by first | rfl | (simp; done) | (simp [*]; done),by repeat (first | exact y1.refl _ | apply y1.step)⟩
    ·rw [if_neg c9] at H
     have c9b0 : decide (a1 < a0) = false := decide_eq_false c9
     clear c9
     obtain rfl := Option.some.inj H
     go_enter Tryz.func87,Tryz.ntmps87
     go_wp2_with (first | ((with_reducible refine y14 (f := 101) rfl ?_); refine y16 (some 8) rfl rfl Tryz.func101 (by kernel_rfl) rfl #[.int .i64 a0] rfl qy0 ?_; (with_reducible refine (cmp_isNaN_int.calls a0 false _ A3.out).mono ?_); rintro e w' ⟨rfl,⟨nd,rfl⟩⟩; refine ⟨_,rfl, ?_⟩) | ((with_reducible refine y14 (f := 101) rfl ?_); refine y16 (some 10) rfl rfl Tryz.func101 (by kernel_rfl) rfl #[.int .i64 a1] rfl qy0 ?_; (with_reducible refine (cmp_isNaN_int.calls a1 false _ A4.out).mono ?_); rintro e w' ⟨rfl,⟨nd,rfl⟩⟩; refine ⟨_,rfl, ?_⟩))
     go_ret
     exact ⟨by first | rfl | (simp; done) | (simp [*]; done),by repeat (first | exact y1.refl _ | apply y1.step)⟩
def impl_numOf.f (a0 : ByteArray) : Option (Int) := (strconv_Atoi.f a0).bind fun bt297 => (some bt297.1)
set_option maxHeartbeats 8000000 in
set_option maxRecDepth 100000 in
theorem impl_numOf.calls (a0 : ByteArray) (r : Int) (w : World) (hT : Tb w) (h : impl_numOf.f a0 = some r) :
  Calls Tryz.prog 88 #[.string a0] w fun e w' => e = .returned (.int .i64 r) ∧ Below w.heap.size w w' := by
 have HT := y0.mk hT
 clear hT
 have HB := y0.mk (Below.refl w.heap.size w)
 have H : ((strconv_Atoi.f a0).bind fun bt297 => (some bt297.1)) = some r := h
 clear h
 obtain ⟨⟨t297,t298⟩,A2,H⟩ := qB H
 replace H : (some t297) = some r := H
 obtain rfl := Option.some.inj H
 go_enter Tryz.func88,Tryz.ntmps88
 go_wp2_with (first | ((with_reducible refine y14 (f := 98) rfl ?_); refine y16 (some 7) rfl rfl Tryz.func98 (by kernel_rfl) rfl #[.string a0] rfl qy0 ?_; (with_reducible refine (strconv_Atoi.calls a0 t297 t298 _ (by exact Tb.below HT.out qb) A2.out).mono ?_); rintro e w3 ⟨ev_,rfl,hev_,hb⟩; refine ⟨_,rfl, ?_⟩; replace HB := y0.mk (y5 qb hb); (try clear hb); (try clear hb2); (try clear hk); (try clear hi); (try simp only [y12,y13])))
 go_ret
 exact ⟨by first | rfl | (simp [y12,y13] <;> rfl) | (simp [*,y12,y13] <;> rfl),qb⟩
def cmp_isNaN_string.f (a0 : ByteArray) : Option (Bool) := some (a0.toList != a0.toList)
set_option maxHeartbeats 8000000 in
set_option maxRecDepth 100000 in
theorem cmp_isNaN_string.calls (a0 : ByteArray) (r : Bool) (w : World) (h : cmp_isNaN_string.f a0 = some r) :
  Calls Tryz.prog 102 #[.string a0] w fun e w' => e = .returned (.bool r) ∧ y1 w w' := by
 have H : (some (a0.toList != a0.toList)) = some r := h
 clear h
 obtain rfl := Option.some.inj H
 go_enter Tryz.func102,Tryz.ntmps102
 go_wp2
 go_ret
 exact ⟨by first | rfl | (simp; done) | (simp [*]; done),by repeat (first | exact y1.refl _ | apply y1.step)⟩
def cmp_Compare_string.f (a0 : ByteArray) (a1 : ByteArray) : Option (Int) := (cmp_isNaN_string.f a0).bind fun t299 => ((cmp_isNaN_string.f a1).bind fun t300 => (if t299 = true then (if t300 = true then (some 0) else (some (-1))) else (if t300 = true then (some 1) else (if (Op.bytesLess a0.toList a1.toList) = true then (some (-1)) else (if (Op.bytesLess a1.toList a0.toList) = true then (some 1) else (some 0))))))
theorem cmp_Compare_string.bl : ∀ x y : List UInt8,(!(Op.bytesLess x y || x == y)) = Op.bytesLess y x
 | [],[] => rfl
 | [],b :: y => rfl
 | a :: x,[] => rfl
 | a :: x,b :: y => by
  have ih := cmp_Compare_string.bl x y
  have e1 : (decide (a < b)) = (decide (a.toNat < b.toNat)) := rfl
  have e2 : (decide (b < a)) = (decide (b.toNat < a.toNat)) := rfl
  rw [Op.bytesLess,Op.bytesLess,e1,e2,← ih]
  by_cases h : a = b
  ·subst h
   simp
  ·have hn : a.toNat ≠ b.toNat := fun h' => h (UInt8.toNat_inj.1 h')
   have h1 : (a == b) = false := by simpa using h
   have h2 : (b == a) = false := by simpa using fun h' => h (Eq.symm h')
   have h3 : ((a :: x) == (b :: y)) = false := by simp [h]
   rw [h1,h2,h3]
   by_cases hl : a.toNat < b.toNat
   ·have : ¬ b.toNat < a.toNat := by omega
    simp [hl,this]
   ·have : b.toNat < a.toNat := by omega
    simp [hl,this]
theorem cmp_Compare_string.gtr (t : TypeId) (a b : ByteArray) : binOp .gtr t (.string a) (.string b) = pure (.bool (Op.bytesLess b.toList a.toList)) := by
 rw [← cmp_Compare_string.bl]
 simp [binOp,Op.stringOp]
attribute [local go_sem] cmp_Compare_string.gtr
set_option maxHeartbeats 8000000 in
set_option maxRecDepth 100000 in
theorem cmp_Compare_string.calls (a0 : ByteArray) (a1 : ByteArray) (r : Int) (w : World) (h : cmp_Compare_string.f a0 a1 = some r) :
  Calls Tryz.prog 89 #[.string a0,.string a1] w fun e w' => e = .returned (.int .i64 r) ∧ y1 w w' := by
 have H : ((cmp_isNaN_string.f a0).bind fun t299 => ((cmp_isNaN_string.f a1).bind fun t300 => (if t299 = true then (if t300 = true then (some 0) else (some (-1))) else (if t300 = true then (some 1) else (if (Op.bytesLess a0.toList a1.toList) = true then (some (-1)) else (if (Op.bytesLess a1.toList a0.toList) = true then (some 1) else (some 0))))))) = some r := h
 clear h
 obtain ⟨t299,A3,H⟩ := qB H
 obtain ⟨t300,A4,H⟩ := qB H
 by_cases c5 : t299 = true
 ·subst c5
  replace H := qT H
  by_cases c6 : t300 = true
  ·subst c6
   replace H := qT H
   obtain rfl := Option.some.inj H
   go_enter Tryz.func89,Tryz.ntmps89
   go_wp2_with (first | ((with_reducible refine y14 (f := 102) rfl ?_); refine y16 (some 8) rfl rfl Tryz.func102 (by kernel_rfl) rfl #[.string a0] rfl qy0 ?_; (with_reducible refine (cmp_isNaN_string.calls a0 true _ A3.out).mono ?_); rintro e w' ⟨rfl,⟨nd,rfl⟩⟩; refine ⟨_,rfl, ?_⟩) | ((with_reducible refine y14 (f := 102) rfl ?_); refine y16 (some 10) rfl rfl Tryz.func102 (by kernel_rfl) rfl #[.string a1] rfl qy0 ?_; (with_reducible refine (cmp_isNaN_string.calls a1 true _ A4.out).mono ?_); rintro e w' ⟨rfl,⟨nd,rfl⟩⟩; refine ⟨_,rfl, ?_⟩))
   go_ret
   exact ⟨by first | rfl | (simp; done) | (simp [*]; done),by repeat (first | exact y1.refl _ | apply y1.step)⟩
  ·replace c6 := Bool.eq_false_iff.mpr c6
   subst c6
   replace H := qF H
   obtain rfl := Option.some.inj H
   go_enter Tryz.func89,Tryz.ntmps89
   go_wp2_with (first | ((with_reducible refine y14 (f := 102) rfl ?_); refine y16 (some 8) rfl rfl Tryz.func102 (by kernel_rfl) rfl #[.string a0] rfl qy0 ?_; (with_reducible refine (cmp_isNaN_string.calls a0 true _ A3.out).mono ?_); rintro e w' ⟨rfl,⟨nd,rfl⟩⟩; refine ⟨_,rfl, ?_⟩) | ((with_reducible refine y14 (f := 102) rfl ?_); refine y16 (some 10) rfl rfl Tryz.func102 (by kernel_rfl) rfl #[.string a1] rfl qy0 ?_; (with_reducible refine (cmp_isNaN_string.calls a1 false _ A4.out).mono ?_); rintro e w' ⟨rfl,⟨nd,rfl⟩⟩; refine ⟨_,rfl, ?_⟩))
   go_ret
   exact ⟨by first | rfl | (simp; done) | (simp [*]; done),by repeat (first | exact y1.refl _ | apply y1.step)⟩
 ·replace c5 := Bool.eq_false_iff.mpr c5
  subst c5
  replace H := qF H
  by_cases c7 : t300 = true
  ·subst c7
   replace H := qT H
   obtain rfl := Option.some.inj H
   go_enter Tryz.func89,Tryz.ntmps89
   go_wp2_with (first | ((with_reducible refine y14 (f := 102) rfl ?_); refine y16 (some 8) rfl rfl Tryz.func102 (by kernel_rfl) rfl #[.string a0] rfl qy0 ?_; (with_reducible refine (cmp_isNaN_string.calls a0 false _ A3.out).mono ?_); rintro e w' ⟨rfl,⟨nd,rfl⟩⟩; refine ⟨_,rfl, ?_⟩) | ((with_reducible refine y14 (f := 102) rfl ?_); refine y16 (some 10) rfl rfl Tryz.func102 (by kernel_rfl) rfl #[.string a1] rfl qy0 ?_; (with_reducible refine (cmp_isNaN_string.calls a1 true _ A4.out).mono ?_); rintro e w' ⟨rfl,⟨nd,rfl⟩⟩; refine ⟨_,rfl, ?_⟩))
   go_ret
   exact ⟨by first | rfl | (simp; done) | (simp [*]; done),by repeat (first | exact y1.refl _ | apply y1.step)⟩
  ·replace c7 := Bool.eq_false_iff.mpr c7
   subst c7
   replace H := qF H
   by_cases c8 : (Op.bytesLess a0.toList a1.toList) = true
   ·rw [if_pos c8] at H
    have c8b0 : (Op.bytesLess a0.toList a1.toList) = true := c8
    clear c8
    obtain rfl := Option.some.inj H
    go_enter Tryz.func89,Tryz.ntmps89
    go_wp2_with (first | ((with_reducible refine y14 (f := 102) rfl ?_); refine y16 (some 8) rfl rfl Tryz.func102 (by kernel_rfl) rfl #[.string a0] rfl qy0 ?_; (with_reducible refine (cmp_isNaN_string.calls a0 false _ A3.out).mono ?_); rintro e w' ⟨rfl,⟨nd,rfl⟩⟩; refine ⟨_,rfl, ?_⟩) | ((with_reducible refine y14 (f := 102) rfl ?_); refine y16 (some 10) rfl rfl Tryz.func102 (by kernel_rfl) rfl #[.string a1] rfl qy0 ?_; (with_reducible refine (cmp_isNaN_string.calls a1 false _ A4.out).mono ?_); rintro e w' ⟨rfl,⟨nd,rfl⟩⟩; refine ⟨_,rfl, ?_⟩))
    go_ret
    exact ⟨by first | rfl | (simp; done) | (simp [*]; done),by repeat (first | exact y1.refl _ | apply y1.step)⟩
   ·rw [if_neg c8] at H
    have c8b0 : (Op.bytesLess a0.toList a1.toList) = false := by simpa using c8
    clear c8
    by_cases c9 : (Op.bytesLess a1.toList a0.toList) = true
    ·rw [if_pos c9] at H
     have c9b0 : (Op.bytesLess a1.toList a0.toList) = true := c9
     clear c9
     obtain rfl := Option.some.inj H
     go_enter Tryz.func89,Tryz.ntmps89
     go_wp2_with (first | ((with_reducible refine y14 (f := 102) rfl ?_); refine y16 (some 8) rfl rfl Tryz.func102 (by kernel_rfl) rfl #[.string a0] rfl qy0 ?_; (with_reducible refine (cmp_isNaN_string.calls a0 false _ A3.out).mono ?_); rintro e w' ⟨rfl,⟨nd,rfl⟩⟩; refine ⟨_,rfl, ?_⟩) | ((with_reducible refine y14 (f := 102) rfl ?_); refine y16 (some 10) rfl rfl Tryz.func102 (by kernel_rfl) rfl #[.string a1] rfl qy0 ?_; (with_reducible refine (cmp_isNaN_string.calls a1 false _ A4.out).mono ?_); rintro e w' ⟨rfl,⟨nd,rfl⟩⟩; refine ⟨_,rfl, ?_⟩))
     go_ret
     exact ⟨by first | rfl | (simp; done) | (simp [*]; done),by repeat (first | exact y1.refl _ | apply y1.step)⟩
    ·rw [if_neg c9] at H
     have c9b0 : (Op.bytesLess a1.toList a0.toList) = false := by simpa using c9
     clear c9
     obtain rfl := Option.some.inj H
     go_enter Tryz.func89,Tryz.ntmps89
     go_wp2_with (first | ((with_reducible refine y14 (f := 102) rfl ?_); refine y16 (some 8) rfl rfl Tryz.func102 (by kernel_rfl) rfl #[.string a0] rfl qy0 ?_; (with_reducible refine (cmp_isNaN_string.calls a0 false _ A3.out).mono ?_); rintro e w' ⟨rfl,⟨nd,rfl⟩⟩; refine ⟨_,rfl, ?_⟩) | ((with_reducible refine y14 (f := 102) rfl ?_); refine y16 (some 10) rfl rfl Tryz.func102 (by kernel_rfl) rfl #[.string a1] rfl qy0 ?_; (with_reducible refine (cmp_isNaN_string.calls a1 false _ A4.out).mono ?_); rintro e w' ⟨rfl,⟨nd,rfl⟩⟩; refine ⟨_,rfl, ?_⟩))
     go_ret
     exact ⟨by first | rfl | (simp; done) | (simp [*]; done),by repeat (first | exact y1.refl _ | apply y1.step)⟩
def strings_Cut.f (a0 a1 : ByteArray) : Option (ByteArray × ByteArray × Bool) := if a0.size < 4294967281 then some (⟨(Lib.cut a0.data.toList a1.data.toList).1.toArray⟩,⟨(Lib.cut a0.data.toList a1.data.toList).2.1.toArray⟩,(Lib.cut a0.data.toList a1.data.toList).2.2) else none
theorem strings_Cut.calls (a0 a1 : ByteArray) (r1 r2 : ByteArray) (r3 : Bool) (w : World) (hT : Tb w) (h : strings_Cut.f a0 a1 = some (r1,r2,r3)) :
  Calls Tryz.prog 111 #[.string a0,.string a1] w fun e w' => e = .returned (.tuple #[.string r1,.string r2,.bool r3]) ∧ y1 w w' := by
 unfold strings_Cut.f at h
 by_cases h0 : a0.size < 4294967281
 ·rw [if_pos h0] at h
  simp only [Option.some.injEq,Prod.mk.injEq] at h
  obtain ⟨rfl,rfl,rfl⟩ := h
  obtain ⟨m,hm⟩ := hT.ml
  refine (Tryz.strings_Cut a0 a1 m w h0 hm).mono ?_
  rintro e w' ⟨rfl,n,rfl⟩
  exact ⟨rfl,⟨⟨n,rfl⟩⟩⟩
 ·rw [if_neg h0] at h
  cases h
def impl_isBigName.f (k : Nat) (a0 : ByteArray) : Option (Bool) := (impl_in.f (a0.size : Int) 1 20).bind fun t301 => (if t301 = true then ((impl_nameLong.f k a0).bind fun t302 => (if t302 = (a0.size : Int) then (if 0 < (a0.size : Int) then (some (decide ((bt a0 0) ≤ 90))) else (none)) else (some false))) else (some false))
set_option maxHeartbeats 8000000 in
set_option maxRecDepth 100000 in
theorem impl_isBigName.calls (k : Nat) (a0 : ByteArray) (r : Bool) (w : World) (h : impl_isBigName.f k a0 = some r) :
  Calls Tryz.prog 112 #[.string a0] w fun e w' => e = .returned (.bool r) ∧ y1 w w' := by
 have H : ((impl_in.f (a0.size : Int) 1 20).bind fun t301 => (if t301 = true then ((impl_nameLong.f k a0).bind fun t302 => (if t302 = (a0.size : Int) then (if 0 < (a0.size : Int) then (some (decide ((bt a0 0) ≤ 90))) else (none)) else (some false))) else (some false))) = some r := h
 clear h
 obtain ⟨t301,A2,H⟩ := qB H
 by_cases c3 : t301 = true
 ·subst c3
  replace H := qT H
  obtain ⟨t302,A4,H⟩ := qB H
  by_cases c5 : t302 = (a0.size : Int)
  ·rw [if_pos c5] at H
   have c5b0 : (t302 == (a0.size : Int)) = true := beq_iff_eq.mpr c5
   have c5b1 : (t302 != (a0.size : Int)) = false := bne_eq_false_iff_eq.mpr c5
   clear c5
   obtain ⟨c6,H⟩ := qo H
   have c6b0 : decide (0 < (a0.size : Int)) = true := decide_eq_true c6
   have c6b1 : decide (0 < a0.size) = true := decide_eq_true (by omega)
   clear c6
   obtain rfl := Option.some.inj H
   go_enter Tryz.func112,Tryz.ntmps112
   go_wp2_with (first | ((with_reducible refine y14 (f := 58) rfl ?_); refine y16 (some 5) rfl rfl Tryz.func58 (by kernel_rfl) rfl #[.int .i64 (a0.size : Int),.int .i64 1,.int .i64 20] rfl qy0 ?_; (with_reducible refine (impl_in.calls (a0.size : Int) 1 20 true _ A2.out).mono ?_); rintro e w' ⟨rfl,⟨nd,rfl⟩⟩; refine ⟨_,rfl, ?_⟩) | (go_at_call 100; (with_reducible refine (impl_nameLong.calls k a0 t302 _ A4.out).mono ?_); rintro e w' ⟨rfl,⟨nd,rfl⟩⟩; have p7 : 0 ≤ (0 : Int) := (by omega); have q7 : 0 < a0.size := qy3; have hx7 : ∀ h : 0 < a0.size,((a0[0]'h).toNat : Int) = bt a0 0 := bt_at a0 0; clear p7; have qi7 : (0 < (a0.size : Int)) = True := eq_true (of_decide_eq_true qy1); replace q7 := eq_true q7))
   go_ret
   exact ⟨by first | rfl | (simp; done) | (simp [*]; done),by repeat (first | exact y1.refl _ | apply y1.step)⟩
  ·rw [if_neg c5] at H
   have c5b0 : (t302 == (a0.size : Int)) = false := beq_eq_false_iff_ne.mpr c5
   have c5b1 : (t302 != (a0.size : Int)) = true := bne_iff_ne.mpr c5
   obtain rfl := Option.some.inj H
   go_enter Tryz.func112,Tryz.ntmps112
   go_wp2_with (first | ((with_reducible refine y14 (f := 58) rfl ?_); refine y16 (some 5) rfl rfl Tryz.func58 (by kernel_rfl) rfl #[.int .i64 (a0.size : Int),.int .i64 1,.int .i64 20] rfl qy0 ?_; (with_reducible refine (impl_in.calls (a0.size : Int) 1 20 true _ A2.out).mono ?_); rintro e w' ⟨rfl,⟨nd,rfl⟩⟩; refine ⟨_,rfl, ?_⟩) | (go_at_call 100; (with_reducible refine (impl_nameLong.calls k a0 t302 _ A4.out).mono ?_); rintro e w' ⟨rfl,⟨nd,rfl⟩⟩))
   go_ret
   exact ⟨by first | rfl | (simp; done) | (simp [*]; done),by repeat (first | exact y1.refl _ | apply y1.step)⟩
 ·replace c3 := Bool.eq_false_iff.mpr c3
  subst c3
  replace H := qF H
  obtain rfl := Option.some.inj H
  go_enter Tryz.func112,Tryz.ntmps112
  go_wp2_with (first | ((with_reducible refine y14 (f := 58) rfl ?_); refine y16 (some 5) rfl rfl Tryz.func58 (by kernel_rfl) rfl #[.int .i64 (a0.size : Int),.int .i64 1,.int .i64 20] rfl qy0 ?_; (with_reducible refine (impl_in.calls (a0.size : Int) 1 20 false _ A2.out).mono ?_); rintro e w' ⟨rfl,⟨nd,rfl⟩⟩; refine ⟨_,rfl, ?_⟩))
  go_ret
  exact ⟨by first | rfl | (simp; done) | (simp [*]; done),by repeat (first | exact y1.refl _ | apply y1.step)⟩
def strings_HasPrefix.f (a0 a1 : ByteArray) : Option Bool := some (Lib.hasPrefix a0.data.toList a1.data.toList)
theorem strings_HasPrefix.calls (a0 a1 : ByteArray) (r : Bool) (w : World) (h : strings_HasPrefix.f a0 a1 = some r) :
  Calls Tryz.prog 113 #[.string a0,.string a1] w fun e w' => e = .returned (.bool r) ∧ y1 w w' := by
 obtain rfl := Option.some.inj h
 refine (Tryz.strings_HasPrefix a0 a1 w).mono ?_
 rintro e w' ⟨rfl,rfl⟩
 exact ⟨rfl,y1.refl _⟩
end Go.Proofs.YtocmfolajckaeaaGreatDoor.Pe
end
section
namespace Go.Proofs.YtocmfolajckaeaaGreatDoor.Pe
open Go.RowKit Go.Proofs.YtocmfolajckaeaaGreatDoorW.PrintWords Go.Proofs.YtocmfolajckaeaaGreatDoorW.PrintLast Go.Proofs.YtocmfolajckaeaaGreatDoorW.PrintMore
attribute [local go_sem] max2_int min2_int max_two min_two max_three min_three max_four min_four   -- for this text's walks alone
set_option linter.unusedVariables false
set_option linter.unusedSimpArgs false
mutual
def z0_.j0 : Nat → ByteArray → ByteArray → ByteArray → Bool → Option (ByteArray × List ByteArray)
 | 0,_,_,_,_ => none
 | k + 1,x0,x4,x5,x22 => if x22 = true then (some (x0,([] : List ByteArray))) else (z0_.l0 k x4 x5 (([] : List ByteArray)))
def z0_.l0 : Nat → ByteArray → ByteArray → List ByteArray → Option (ByteArray × List ByteArray)
 | 0,_,_,_ => none
 | k + 1,x4,x5,x7 => if x5.toList = ([] : List UInt8) then (z0_.j2 k x4 x5 x7 false) else (z0_.j2 k x4 x5 x7 (x5.toList != ([41] : List UInt8)))
def z0_.j2 : Nat → ByteArray → ByteArray → List ByteArray → Bool → Option (ByteArray × List ByteArray)
 | 0,_,_,_,_ => none
 | k + 1,x4,x5,x7,x30 => if x30 = true then ((impl_termAt.f k x5).bind fun bt310 => (if 0 ≤ bt310.2 then (if bt310.2 ≤ (x5.size : Int) then (if x7.length < 8796093022208 then ((some (x7 ++ [x5.extract 0 (bt310.2 : Int).toNat] : List ByteArray)).bind fun y312 => ((strings_HasPrefix.f (x5.extract (bt310.2 : Int).toNat x5.size) (⟨#[44]⟩ : ByteArray)).bind fun t315 => (if t315 = true then (if 1 ≤ ((x5.extract (bt310.2 : Int).toNat x5.size).size : Int) then (z0_.l0 k x4 ((x5.extract (bt310.2 : Int).toNat x5.size).extract 1 (x5.extract (bt310.2 : Int).toNat x5.size).size) y312) else (none)) else (z0_.l0 k x4 (x5.extract (bt310.2 : Int).toNat x5.size) y312)))) else (none)) else (none)) else (none))) else (some (x4,x7))
end
def z0_.f (k : Nat) (a0 : ByteArray) : Option (ByteArray × List ByteArray) := (strings_Cut.f a0 (⟨#[40]⟩ : ByteArray)).bind fun bt303 => ((impl_isBigName.f k bt303.1).bind fun t306 => (if t306 = true then (z0_.j0 k a0 bt303.1 bt303.2.1 (!bt303.2.2)) else (z0_.j0 k a0 bt303.1 bt303.2.1 true)))
set_option maxHeartbeats 8000000 in
set_option maxRecDepth 100000 in
theorem z0_.calls (k : Nat) (a0 : ByteArray) (r1 : ByteArray) (r2 : List ByteArray) (w : World) (hT : Tb w) (h : z0_.f k a0 = some (r1,r2)) :
  Calls Tryz.prog 103 #[.string a0] w fun e w' => ∃ v1_ : Value,e = .returned (.tuple #[.string r1,v1_]) ∧ Kd.R Kd.string 9 w' w.heap.size (fun _ => True) v1_ r2 ∧ Below w.heap.size w w' := by
 have HT := y0.mk hT
 clear hT
 have HB := y0.mk (Below.refl w.heap.size w)
 have H : ((strings_Cut.f a0 (⟨#[40]⟩ : ByteArray)).bind fun bt303 => ((impl_isBigName.f k bt303.1).bind fun t306 => (if t306 = true then (z0_.j0 k a0 bt303.1 bt303.2.1 (!bt303.2.2)) else (z0_.j0 k a0 bt303.1 bt303.2.1 true)))) = some (r1,r2) := h
 clear h
 obtain ⟨⟨t303,t304,t305⟩,A2,H⟩ := qB H
 replace H : ((impl_isBigName.f k t303).bind fun t306 => (if t306 = true then (z0_.j0 k a0 t303 t304 (!t305)) else (z0_.j0 k a0 t303 t304 true))) = some (r1,r2) := H
 have HC3 := y0.mk H
 clear H
 go_enter Tryz.func103,Tryz.ntmps103
 go_upto_region 2 with (first | ((with_reducible refine y14 (f := 111) rfl ?_); refine y16 (some 12) rfl rfl Tryz.func111 (by kernel_rfl) rfl #[.string a0,.string (⟨#[40]⟩ : ByteArray)] rfl qy0 ?_; (with_reducible refine (strings_Cut.calls a0 (⟨#[40]⟩ : ByteArray) t303 t304 t305 _ (by exact Tb.below HT.out qb) A2.out).mono ?_); rintro e w' ⟨rfl,⟨nd,rfl⟩⟩; refine ⟨_,rfl, ?_⟩))
 (try simp only [Act.put,qS_,qZ_,qC_])
 go_cut [22] (fun v22 wc => ∃ (kq : Nat) (x22_2 : Bool),v22 = .bool x22_2 ∧ y0 (z0_.j0 kq a0 t303 t304 x22_2 = some (r1,r2)) ∧ y0 (kq ≤ k) ∧ y0 (Below w.heap.size w wc))
 case first =>
  have H := HC3.out
  clear HC3
  obtain ⟨t306,A4,H⟩ := qB H
  by_cases c5 : t306 = true
  ·subst c5
   replace H := qT H
   have H' := y0.mk H
   clear H
   go_wp2_with (first | ((with_reducible refine y14 (f := 112) rfl ?_); refine y16 (some 17) rfl rfl Tryz.func112 (by kernel_rfl) rfl #[.string t303] rfl qy0 ?_; (with_reducible refine (impl_isBigName.calls k t303 true _ A4.out).mono ?_); rintro e w' ⟨rfl,⟨nd,rfl⟩⟩; refine ⟨_,rfl, ?_⟩))
   go_meet
   exact ⟨_,(!t305),qy2,H',⟨by first | omega | exact Nat.le_refl _⟩,⟨qb⟩⟩
  ·replace c5 := Bool.eq_false_iff.mpr c5
   subst c5
   replace H := qF H
   have H' := y0.mk H
   clear H
   go_wp2_with (first | ((with_reducible refine y14 (f := 112) rfl ?_); refine y16 (some 17) rfl rfl Tryz.func112 (by kernel_rfl) rfl #[.string t303] rfl qy0 ?_; (with_reducible refine (impl_isBigName.calls k t303 false _ A4.out).mono ?_); rintro e w' ⟨rfl,⟨nd,rfl⟩⟩; refine ⟨_,rfl, ?_⟩))
   go_meet
   exact ⟨_,(true),qy2,H',⟨by first | omega | exact Nat.le_refl _⟩,⟨qb⟩⟩
 case rest =>
  clear HC3
  obtain ⟨kq,x22_2,rfl,HA,HJ2,HB⟩ := hcut
  cases kq with
  | zero => exact absurd HA.out (by simp [z0_.j0])
  | succ kj2 =>
   have H := HA.out
   clear HA
   simp only [z0_.j0] at H
   by_cases c6 : x22_2 = true
   ·subst c6
    replace H := qT H
    simp only [Option.some.injEq,Prod.mk.injEq] at H
    obtain ⟨rfl,rfl⟩ := H
    go_wp2
    go_ret2
    exact ⟨_,by first | rfl | (simp [y12,y13] <;> rfl) | (simp [*,y12,y13] <;> rfl),by first | exact Kd.R_nil _ _ _ _ _ | exact Kd.N_nil _ _ _ _ _ | exact Kd.V_nil _ _ _ _ _ | exact Kd.Q_nil _ _ _ _ _ | exact Kd.S_nil _ _ _ _ _,qb⟩
   ·replace c6 := Bool.eq_false_iff.mpr c6
    subst c6
    replace H := qF H
    obtain ⟨y307,hy307⟩ : ∃ y_ : List ByteArray,y_ = (([] : List ByteArray)) := ⟨_,rfl⟩
    replace H : (z0_.l0 kj2 t303 t304 y307) = some (r1,r2) := by first | (rw [hy307]; with_reducible exact H) | (have H2_ := (Option.bind_some _ _).symm.trans H; rw [hy307]; with_reducible exact H2_) | (have H2_ := (Option.bind_some _ _).symm.trans H; with_reducible exact H2_) | with_reducible exact H | (rw [hy307]; exact H) | exact H
    have Ny307 := y0.mk hy307
    clear hy307
    have H' := y0.mk H
    clear H
    go_wp2_with (first | ((with_reducible refine y15 (N := 24) rfl ?_); refine Kd.R_lit Kd.string _ 9 ?hg (N := 24) ?hd (xs := ([] : List ByteArray)) (inner := []) (ok := fun _ => True) (okp := fun _ => True) ?hr ?hp (fun _ hk => hk) trivial (Below.refl _ _) (Nat.le_refl _) (by simp) ?_; (case hd => rfl); (case hg => rfl); (case hr => first | (go_simp; done) | (go_simp; rfl)); (case hp => exact (Reps.none _ _)); intro v308 w7 ho8 hb hg_ hnew_; clear hg_ hnew_; (first | rw [← Ny307.out] at ho8 | (simp only [Int.reduceToNat] at ho8; rw [← Ny307.out] at ho8)); have HO309 := y0.mk (Kd.R_lower ho8 (y4 qb)); replace HB := y0.mk (y5 qb hb); clear hb ho8))
    go_loopg [5,7] kj2 (fun kq v5 v7 w' => ∃ (x5_2 : ByteArray) (x7_2 : List ByteArray),v5 = .string x5_2 ∧ y0 (z0_.l0 kq t303 x5_2 x7_2 = some (r1,r2)) ∧ y0 (kq ≤ kj2) ∧ y0 (Kd.R Kd.string 9 w' w.heap.size (fun _ => True) v7 x7_2) ∧ y0 (Below w.heap.size w w'))
    case atStart => exact ⟨(t304),(y307),qy2,H',⟨Nat.le_refl _⟩,⟨qR HO309.out⟩,⟨qb⟩⟩
    case round =>
     clear H'
     (try clear c6)
     obtain ⟨x5_2,x7_2,rfl,HA,HK2,HO_7,HB⟩ := hrel
     cases gk with
     | zero => exact absurd HA.out (by simp [z0_.l0])
     | succ k2 =>
      have H := HA.out
      clear HA
      simp only [z0_.l0] at H
      have HC9 := y0.mk H
      clear H
      go_upto_region 5 with (fail)
      go_cut [30] (fun v30 wc => ∃ (kq : Nat) (x30_8 : Bool),v30 = .bool x30_8 ∧ y0 (z0_.j2 kq t303 x5_2 x7_2 x30_8 = some (r1,r2)) ∧ y0 (kq ≤ k2) ∧ y0 (Kd.R Kd.string 9 wc w.heap.size (fun _ => True) u7 x7_2) ∧ y0 (Below w.heap.size w wc))
      case first =>
       have H := HC9.out
       clear HC9
       by_cases c10 : x5_2.toList = ([] : List UInt8)
       ·rw [if_pos c10] at H
        have c10b0 : (x5_2.toList == ([] : List UInt8)) = true := beq_iff_eq.mpr c10
        have c10b1 : (x5_2.toList != ([] : List UInt8)) = false := bne_eq_false_iff_eq.mpr c10
        clear c10
        (first | rw [c10b0] | (simp only [y18,y17]; rw [c10b0]) | skip)
        have H' := y0.mk H
        clear H
        go_wp2
        go_meet
        exact ⟨_,(false),qy2,H',⟨by have := HJ2.out; have := HK2.out; first | omega | exact Nat.le_refl _⟩,⟨qR HO_7.out⟩,⟨qb⟩⟩
       ·rw [if_neg c10] at H
        have c10b0 : (x5_2.toList == ([] : List UInt8)) = false := beq_eq_false_iff_ne.mpr c10
        have c10b1 : (x5_2.toList != ([] : List UInt8)) = true := bne_iff_ne.mpr c10
        (first | rw [c10b0] | (simp only [y18,y17]; rw [c10b0]) | skip)
        have H' := y0.mk H
        clear H
        go_wp2
        go_meet
        exact ⟨_,((x5_2.toList != ([41] : List UInt8))),qy2,H',⟨by have := HJ2.out; have := HK2.out; first | omega | exact Nat.le_refl _⟩,⟨qR HO_7.out⟩,⟨qb⟩⟩
      case rest =>
       clear HC9
       obtain ⟨kq,x30_8,rfl,HA,HJ8,HO_7,HB⟩ := hcut
       cases kq with
       | zero => exact absurd HA.out (by simp [z0_.j2])
       | succ kj8 =>
        have H := HA.out
        clear HA
        simp only [z0_.j2] at H
        by_cases c11 : x30_8 = true
        ·subst c11
         replace H := qT H
         obtain ⟨⟨t310,t311⟩,A12,H⟩ := qB H
         replace H : (if 0 ≤ t311 then (if t311 ≤ (x5_2.size : Int) then (if x7_2.length < 8796093022208 then ((some (x7_2 ++ [x5_2.extract 0 (t311 : Int).toNat] : List ByteArray)).bind fun y312 => ((strings_HasPrefix.f (x5_2.extract (t311 : Int).toNat x5_2.size) (⟨#[44]⟩ : ByteArray)).bind fun t315 => (if t315 = true then (if 1 ≤ ((x5_2.extract (t311 : Int).toNat x5_2.size).size : Int) then (z0_.l0 kj8 t303 ((x5_2.extract (t311 : Int).toNat x5_2.size).extract 1 (x5_2.extract (t311 : Int).toNat x5_2.size).size) y312) else (none)) else (z0_.l0 kj8 t303 (x5_2.extract (t311 : Int).toNat x5_2.size) y312)))) else (none)) else (none)) else (none)) = some (r1,r2) := H
         obtain ⟨c13,H⟩ := qo H
         have c13b0 := eq_true c13
         have c13b1 := decide_eq_true c13
         clear c13
         obtain ⟨c14,H⟩ := qo H
         have c14b0 := eq_true c14
         have c14b1 := decide_eq_true c14
         clear c14
         obtain ⟨c15,H⟩ := qo H
         have LMc15 := y0.mk c15
         clear c15
         obtain ⟨y312,hy312⟩ : ∃ y_ : List ByteArray,y_ = (x7_2 ++ [x5_2.extract 0 (t311 : Int).toNat]) := ⟨_,rfl⟩
         replace H : ((strings_HasPrefix.f (x5_2.extract (t311 : Int).toNat x5_2.size) (⟨#[44]⟩ : ByteArray)).bind fun t315 => (if t315 = true then (if 1 ≤ ((x5_2.extract (t311 : Int).toNat x5_2.size).size : Int) then (z0_.l0 kj8 t303 ((x5_2.extract (t311 : Int).toNat x5_2.size).extract 1 (x5_2.extract (t311 : Int).toNat x5_2.size).size) y312) else (none)) else (z0_.l0 kj8 t303 (x5_2.extract (t311 : Int).toNat x5_2.size) y312))) = some (r1,r2) := by first | (rw [hy312]; with_reducible exact H) | (have H2_ := (Option.bind_some _ _).symm.trans H; rw [hy312]; with_reducible exact H2_) | (have H2_ := (Option.bind_some _ _).symm.trans H; with_reducible exact H2_) | with_reducible exact H | (rw [hy312]; exact H) | exact H
         have Ny312 := y0.mk hy312
         clear hy312
         have c16b0 := eq_true (of_decide_eq_true qy1 : 0 ≤ t311)
         have c17b0 := eq_true (of_decide_eq_true qy1 : t311 ≤ (x5_2.size : Int))
         obtain ⟨t315,A18,H⟩ := qB H
         by_cases c19 : t315 = true
         ·subst c19
          replace H := qT H
          obtain ⟨c20,H⟩ := qo H
          have c20b0 := eq_true c20
          have c20b1 := decide_eq_true c20
          have c20b4 : ((1 : Int) ≤ ((x5_2.size - (t311 : Int).toNat : Nat) : Int)) = True := eq_true (by have h_ := c20; simp only [ByteArray.size_extract] at h_; omega)
          have c20b5 : (((x5_2.size - (t311 : Int).toNat : Nat) : Int) < 1) = False := eq_false (by have h_ := c20; simp only [ByteArray.size_extract] at h_; omega)
          clear c20
          have H' := y0.mk H
          clear H
          go_wp2_with (first | ((with_reducible refine y14 (f := 86) rfl ?_); refine y16 (some 33) rfl rfl Tryz.func86 (by kernel_rfl) rfl #[.string x5_2] rfl qy0 ?_; (with_reducible refine (impl_termAt.calls kj8 x5_2 t310 t311 _ (by exact Tb.below HT.out qb) A12.out).mono ?_); rintro e w21 ⟨rfl,hb⟩; refine ⟨_,rfl, ?_⟩; replace HO_7 := y0.mk (Kd.R_below (qR HO_7.out) hb); replace HB := y0.mk (y5 qb hb); (try clear hb); (try clear hb2); (try clear hk); (try clear hi)) | ((with_reducible refine gate_builtin (b := .append) (xs := #[.tmp 36,.tmp 40]) rfl ?_); at_builtin; refine Kd.R_append Kd.string (w0 := w) w.heap.size rfl (.tmp 36) (.tmp 40) 25 9 (.string ⟨#[]⟩) 16 rfl Tryz.underlying25 info9 rfl (by decide) (by omega) u7 x7_2 (x5_2.extract 0 (t311 : Int).toNat) [.string (x5_2.extract 0 (t311 : Int).toNat)] (fun _ => True) (fun _ => False) rfl rfl ?aP (fun _ hk => hk.elim) ?aF ?aO ?aB ?aS ?aL ?_; (case aP => exact rfl); (case aB => exact qb); (case aF => exact (fun _ _ => trivial)); (case aO => exact (qR HO_7.out)); (case aS => exact (y4 qb)); (case aL => have := LMc15.out; omega); intro v313 w22 ho hb hg hat; rw [← Ny312.out] at ho; replace HB := y0.mk (hb); have HO314 := y0.mk (ho); clear HO_7; clear ho hb hg hat) | ((with_reducible refine y14 (f := 113) rfl ?_); refine y16 (some 46) rfl rfl Tryz.func113 (by kernel_rfl) rfl #[.string (x5_2.extract (t311 : Int).toNat x5_2.size),.string (⟨#[44]⟩ : ByteArray)] rfl qy0 ?_; (with_reducible refine (strings_HasPrefix.calls (x5_2.extract (t311 : Int).toNat x5_2.size) (⟨#[44]⟩ : ByteArray) true _ A18.out).mono ?_); rintro e w' ⟨rfl,⟨nd,rfl⟩⟩; refine ⟨_,rfl, ?_⟩))
          go_roundg kj8
          case measure => have := HJ2.out; have := HK2.out; have := HJ8.out; omega
          exact ⟨((x5_2.extract (t311 : Int).toNat x5_2.size).extract 1 (x5_2.extract (t311 : Int).toNat x5_2.size).size),(y312),qy2,H',⟨by have := HJ2.out; have := HK2.out; have := HJ8.out; omega⟩,⟨qR HO314.out⟩,⟨qb⟩⟩
         ·replace c19 := Bool.eq_false_iff.mpr c19
          subst c19
          replace H := qF H
          have H' := y0.mk H
          clear H
          go_wp2_with (first | ((with_reducible refine y14 (f := 86) rfl ?_); refine y16 (some 33) rfl rfl Tryz.func86 (by kernel_rfl) rfl #[.string x5_2] rfl qy0 ?_; (with_reducible refine (impl_termAt.calls kj8 x5_2 t310 t311 _ (by exact Tb.below HT.out qb) A12.out).mono ?_); rintro e w23 ⟨rfl,hb⟩; refine ⟨_,rfl, ?_⟩; replace HO_7 := y0.mk (Kd.R_below (qR HO_7.out) hb); replace HB := y0.mk (y5 qb hb); (try clear hb); (try clear hb2); (try clear hk); (try clear hi)) | ((with_reducible refine gate_builtin (b := .append) (xs := #[.tmp 36,.tmp 40]) rfl ?_); at_builtin; refine Kd.R_append Kd.string (w0 := w) w.heap.size rfl (.tmp 36) (.tmp 40) 25 9 (.string ⟨#[]⟩) 16 rfl Tryz.underlying25 info9 rfl (by decide) (by omega) u7 x7_2 (x5_2.extract 0 (t311 : Int).toNat) [.string (x5_2.extract 0 (t311 : Int).toNat)] (fun _ => True) (fun _ => False) rfl rfl ?aP (fun _ hk => hk.elim) ?aF ?aO ?aB ?aS ?aL ?_; (case aP => exact rfl); (case aB => exact qb); (case aF => exact (fun _ _ => trivial)); (case aO => exact (qR HO_7.out)); (case aS => exact (y4 qb)); (case aL => have := LMc15.out; omega); intro v313 w24 ho hb hg hat; rw [← Ny312.out] at ho; replace HB := y0.mk (hb); have HO314 := y0.mk (ho); clear HO_7; clear ho hb hg hat) | ((with_reducible refine y14 (f := 113) rfl ?_); refine y16 (some 46) rfl rfl Tryz.func113 (by kernel_rfl) rfl #[.string (x5_2.extract (t311 : Int).toNat x5_2.size),.string (⟨#[44]⟩ : ByteArray)] rfl qy0 ?_; (with_reducible refine (strings_HasPrefix.calls (x5_2.extract (t311 : Int).toNat x5_2.size) (⟨#[44]⟩ : ByteArray) false _ A18.out).mono ?_); rintro e w' ⟨rfl,⟨nd,rfl⟩⟩; refine ⟨_,rfl, ?_⟩))
          go_roundg kj8
          case measure => have := HJ2.out; have := HK2.out; have := HJ8.out; omega
          exact ⟨(x5_2.extract (t311 : Int).toNat x5_2.size),(y312),qy2,H',⟨by have := HJ2.out; have := HK2.out; have := HJ8.out; omega⟩,⟨qR HO314.out⟩,⟨qb⟩⟩
        ·replace c11 := Bool.eq_false_iff.mpr c11
         subst c11
         replace H := qF H
         simp only [Option.some.injEq,Prod.mk.injEq] at H
         obtain ⟨rfl,rfl⟩ := H
         go_wp2
         go_ret2
         exact ⟨_,by first | rfl | (simp [y12,y13] <;> rfl) | (simp [*,y12,y13] <;> rfl),by (with_reducible repeat (first | apply Kd.R_alloc | apply Kd.R_drewN | apply Kd.R_drew)); exact HO_7.out,qb⟩
def cmp_Or_int.l0 : Nat → Int → List Int → Int → Int → Option (Int)
 | 0,_,_,_,_ => none
 | k + 1,x3,x6,x7,x8 => if x8 < x7 then (if 0 ≤ x8 then (if x8 < (x6.length : Int) then (if (rd x6 x8) = x3 then (cmp_Or_int.l0 k x3 x6 x7 (wrap64 (x8 + 1))) else (some (rd x6 x8))) else (none)) else (none)) else (some x3)
def cmp_Or_int.f (k : Nat) (l0 : List Int) : Option (Int) := cmp_Or_int.l0 k 0 l0 (l0.length : Int) 0
set_option maxHeartbeats 8000000 in
set_option maxRecDepth 100000 in
theorem cmp_Or_int.calls (k : Nat) (A0 : Option Addr) (c0 : Nat) (l0 : List Int) (r : Int) (w : World) (hr0 : Kd.C (Kd.int .i64) w A0 l0.length l0) (hc0 : l0.length ≤ c0) (h : cmp_Or_int.f k l0 = some r) :
  Calls Tryz.prog 104 #[.slice A0 l0.length c0] w fun e w' => e = .returned (.int .i64 r) ∧ y1 w w' := by
 have HR0 := y0.mk hr0
 have HC0 := y0.mk hc0
 clear hr0 hc0
 have H : (cmp_Or_int.l0 k 0 l0 (l0.length : Int) 0) = some r := h
 clear h
 have H' := y0.mk H
 clear H
 go_enter Tryz.func104,Tryz.ntmps104
 go_wp2
 go_loopg [8] k (fun kq v8 w' => ∃ (x8_1 : Int),v8 = .int .i64 x8_1 ∧ y0 (cmp_Or_int.l0 kq 0 l0 (l0.length : Int) x8_1 = some r) ∧ y0 (kq ≤ k) ∧ y1 w w')
 case atStart => exact ⟨(0),qy2,H',⟨Nat.le_refl _⟩,by repeat (first | exact y1.refl _ | apply y1.step)⟩
 case round =>
  clear H'
  obtain ⟨x8_1,rfl,HA,HK1,⟨m1,rfl⟩⟩ := hrel
  cases gk with
  | zero => exact absurd HA.out (by simp [cmp_Or_int.l0])
  | succ k1 =>
   have H := HA.out
   clear HA
   simp only [cmp_Or_int.l0] at H
   by_cases c2 : x8_1 < (l0.length : Int)
   ·rw [if_pos c2] at H
    have c2b0 := decide_eq_true c2
    clear c2
    obtain ⟨c3,H⟩ := qo H
    have c3b0 : decide (0 ≤ x8_1) = true := decide_eq_true c3
    clear c3
    obtain ⟨c4,H⟩ := qo H
    have c4b0 : decide (x8_1 < (l0.length : Int)) = true := decide_eq_true c4
    clear c4
    by_cases c5 : (rd l0 x8_1) = 0
    ·rw [if_pos c5] at H
     have c5b0 : ((rd l0 x8_1) == 0) = true := beq_iff_eq.mpr c5
     have c5b1 : ((rd l0 x8_1) != 0) = false := bne_eq_false_iff_eq.mpr c5
     clear c5
     have H' := y0.mk H
     clear H
     have p316 : 0 ≤ (x8_1 : Int) := of_decide_eq_true qy1
     have q316 : x8_1 < (l0.length : Int) := of_decide_eq_true qy1
     obtain ⟨ad316,e316,hx316_0⟩ := Kd.at_int HR0.out x8_1 p316 q316
     cases e316
     replace p316 := eq_true p316
     replace q316 := eq_true q316
     go_wp2
     go_roundg k1
     case measure => have := HK1.out; omega
     exact ⟨(wrap64 (x8_1 + 1)),qy2,H',⟨by have := HK1.out; omega⟩,by repeat (first | exact y1.refl _ | apply y1.step)⟩
    ·rw [if_neg c5] at H
     have c5b0 : ((rd l0 x8_1) == 0) = false := beq_eq_false_iff_ne.mpr c5
     have c5b1 : ((rd l0 x8_1) != 0) = true := bne_iff_ne.mpr c5
     obtain rfl := Option.some.inj H
     have p316 : 0 ≤ (x8_1 : Int) := of_decide_eq_true qy1
     have q316 : x8_1 < (l0.length : Int) := of_decide_eq_true qy1
     obtain ⟨ad316,e316,hx316_0⟩ := Kd.at_int HR0.out x8_1 p316 q316
     cases e316
     replace p316 := eq_true p316
     replace q316 := eq_true q316
     go_wp2
     go_ret
     exact ⟨by first | rfl | (simp; done) | (simp [*]; done),by repeat (first | exact y1.refl _ | apply y1.step)⟩
   ·rw [if_neg c2] at H
    have c2b0 := decide_eq_false c2
    clear c2
    obtain rfl := Option.some.inj H
    go_wp2
    go_ret
    exact ⟨by first | rfl | (simp; done) | (simp [*]; done),by repeat (first | exact y1.refl _ | apply y1.step)⟩
end Go.Proofs.YtocmfolajckaeaaGreatDoor.Pe
end
section
namespace Go.Proofs.YtocmfolajckaeaaGreatDoor.Pe
open Go.RowKit Go.Proofs.YtocmfolajckaeaaGreatDoorW.PrintWords Go.Proofs.YtocmfolajckaeaaGreatDoorW.PrintLast Go.Proofs.YtocmfolajckaeaaGreatDoorW.PrintMore
attribute [local go_sem] max2_int min2_int max_two min_two max_three min_three max_four min_four   -- for this text's walks alone
set_option linter.unusedVariables false
set_option linter.unusedSimpArgs false
mutual
def impl_compareCons.l0 : Nat → List ByteArray → List ByteArray → Int → Int → Option (Int)
 | 0,_,_,_,_ => none
 | k + 1,x8,x36,x37,x38 => if x38 < x37 then (if 0 ≤ x38 then (if x38 < (x36.length : Int) then (if x38 < (x8.length : Int) then ((impl_compareTerms.f k (rdOf ByteArray.empty x36 x38) (rdOf ByteArray.empty x8 x38)).bind fun t333 => (if t333 = 0 then (impl_compareCons.l0 k x8 x36 x37 (wrap64 (x38 + 1))) else (some t333))) else (none)) else (none)) else (none)) else (some 0)
def impl_compareCons.f : Nat → ByteArray → ByteArray → Option (Int)
 | 0,_,_ => none
 | k + 1,a0,a1 => (z0_.f k a0).bind fun bt317 => ((z0_.f k a1).bind fun bt321 => ((cmp_Compare_string.f bt317.1 bt321.1).bind fun t325 => ((cmp_Compare_int.f (bt317.2.length : Int) (bt321.2.length : Int)).bind fun t326 => ((cmp_Or_int.f k (([t325,t326] : List Int))).bind fun t330 => (if t330 = 0 then (impl_compareCons.l0 k bt321.2 bt317.2 (bt317.2.length : Int) 0) else (some t330))))))
def impl_compareTerms.j0 : Nat → ByteArray → ByteArray → Int → Int → Bool → Option (Int)
 | 0,_,_,_,_,_ => none
 | k + 1,x0,x1,x5,x6,x11 => if x11 = true then (some 2) else (if x5 = x6 then (if x5 = 1 then ((impl_numOf.f x0).bind fun t336 => ((impl_numOf.f x1).bind fun t337 => ((cmp_Compare_int.f t336 t337).bind fun t338 => (some t338)))) else (if x5 = 2 then (if 1 ≤ (wrap64 ((x0.size : Int) - 1)) then (if (wrap64 ((x0.size : Int) - 1)) ≤ (x0.size : Int) then (if 1 ≤ (wrap64 ((x1.size : Int) - 1)) then (if (wrap64 ((x1.size : Int) - 1)) ≤ (x1.size : Int) then ((cmp_Compare_string.f (x0.extract 1 ((wrap64 ((x0.size : Int) - 1)) : Int).toNat) (x1.extract 1 ((wrap64 ((x1.size : Int) - 1)) : Int).toNat)).bind fun t339 => (some t339)) else (none)) else (none)) else (none)) else (none)) else ((impl_compareCons.f k x0 x1).bind fun t340 => (some t340)))) else ((cmp_Compare_int.f x5 x6).bind fun t341 => (some t341)))
def impl_compareTerms.f : Nat → ByteArray → ByteArray → Option (Int)
 | 0,_,_ => none
 | k + 1,a0,a1 => (impl_kindOf.f k a0).bind fun t334 => ((impl_kindOf.f k a1).bind fun t335 => (if t334 = 0 then (impl_compareTerms.j0 k a0 a1 t334 t335 true) else (impl_compareTerms.j0 k a0 a1 t334 t335 (t335 == 0))))
end
abbrev impl_compareCons.Stm (k : Nat) : Prop := ∀ (a0 : ByteArray) (a1 : ByteArray) (r : Int) (w : World) (hT : Tb w) (h : impl_compareCons.f k a0 a1 = some r),
  Calls Tryz.prog 90 #[.string a0,.string a1] w fun e w' => e = .returned (.int .i64 r) ∧ Below w.heap.size w w'
abbrev impl_compareTerms.Stm (k : Nat) : Prop := ∀ (a0 : ByteArray) (a1 : ByteArray) (r : Int) (w : World) (hT : Tb w) (h : impl_compareTerms.f k a0 a1 = some r),
  Calls Tryz.prog 75 #[.string a0,.string a1] w fun e w' => e = .returned (.int .i64 r) ∧ Below w.heap.size w w'
set_option maxHeartbeats 8000000 in
set_option maxRecDepth 100000 in
theorem impl_compareCons.step (k : Nat) (ih : ∀ m,m < k → impl_compareCons.Stm m) (ih_impl_compareTerms : ∀ m,m < k → impl_compareTerms.Stm m) : impl_compareCons.Stm k := by
 intro a0 a1 r w hT h
 cases k with
 | zero => exact absurd h (by simp [impl_compareCons.f])
 | succ k =>
 simp only [impl_compareCons.f] at h
 have HT := y0.mk hT
 clear hT
 have HB := y0.mk (Below.refl w.heap.size w)
 have H : ((z0_.f k a0).bind fun bt317 => ((z0_.f k a1).bind fun bt321 => ((cmp_Compare_string.f bt317.1 bt321.1).bind fun t325 => ((cmp_Compare_int.f (bt317.2.length : Int) (bt321.2.length : Int)).bind fun t326 => ((cmp_Or_int.f k (([t325,t326] : List Int))).bind fun t330 => (if t330 = 0 then (impl_compareCons.l0 k bt321.2 bt317.2 (bt317.2.length : Int) 0) else (some t330))))))) = some r := h
 clear h
 obtain ⟨⟨t317,t318⟩,A3,H⟩ := qB H
 replace H : ((z0_.f k a1).bind fun bt321 => ((cmp_Compare_string.f t317 bt321.1).bind fun t325 => ((cmp_Compare_int.f (t318.length : Int) (bt321.2.length : Int)).bind fun t326 => ((cmp_Or_int.f k (([t325,t326] : List Int))).bind fun t330 => (if t330 = 0 then (impl_compareCons.l0 k bt321.2 t318 (t318.length : Int) 0) else (some t330)))))) = some r := H
 obtain ⟨⟨t321,t322⟩,A4,H⟩ := qB H
 replace H : ((cmp_Compare_string.f t317 t321).bind fun t325 => ((cmp_Compare_int.f (t318.length : Int) (t322.length : Int)).bind fun t326 => ((cmp_Or_int.f k (([t325,t326] : List Int))).bind fun t330 => (if t330 = 0 then (impl_compareCons.l0 k t322 t318 (t318.length : Int) 0) else (some t330))))) = some r := H
 obtain ⟨t325,A5,H⟩ := qB H
 obtain ⟨t326,A6,H⟩ := qB H
 obtain ⟨y327,hy327⟩ : ∃ y_ : List Int,y_ = (([t325,t326] : List Int)) := ⟨_,rfl⟩
 replace H : ((cmp_Or_int.f k y327).bind fun t330 => (if t330 = 0 then (impl_compareCons.l0 k t322 t318 (t318.length : Int) 0) else (some t330))) = some r := by first | (rw [hy327]; with_reducible exact H) | (have H2_ := (Option.bind_some _ _).symm.trans H; rw [hy327]; with_reducible exact H2_) | (have H2_ := (Option.bind_some _ _).symm.trans H; with_reducible exact H2_) | with_reducible exact H | (rw [hy327]; exact H) | exact H
 have Ny327 := y0.mk hy327
 clear hy327
 obtain ⟨t330,A7,H⟩ := qB H
 by_cases c8 : t330 = 0
 ·rw [if_pos c8] at H
  have c8b0 : (t330 == 0) = true := beq_iff_eq.mpr c8
  have c8b1 : (t330 != 0) = false := bne_eq_false_iff_eq.mpr c8
  clear c8
  have H' := y0.mk H
  clear H
  go_enter Tryz.func90,Tryz.ntmps90
  go_wp2_with (first | ((with_reducible refine y14 (f := 103) rfl ?_); refine y16 (some 15) rfl rfl Tryz.func103 (by kernel_rfl) rfl #[.string a0] rfl qy0 ?_; (with_reducible refine (z0_.calls k a0 t317 t318 _ (by exact Tb.below HT.out qb) A3.out).mono ?_); rintro e w9 ⟨v319,rfl,ho0,hb⟩; refine ⟨_,rfl, ?_⟩; have HO320 := y0.mk (Kd.R_lower ho0 (y4 qb)); replace HB := y0.mk (y5 qb hb); (try clear hb); (try clear hb2); (try clear hk); (try clear hi); (try clear ho0)) | ((with_reducible refine y14 (f := 103) rfl ?_); refine y16 (some 20) rfl rfl Tryz.func103 (by kernel_rfl) rfl #[.string a1] rfl qy0 ?_; (with_reducible refine (z0_.calls k a1 t321 t322 _ (by exact Tb.below HT.out qb) A4.out).mono ?_); rintro e w10 ⟨v323,rfl,ho0,hb⟩; refine ⟨_,rfl, ?_⟩; have HO324 := y0.mk (Kd.R_lower (Kd.R_new' ho0 (Kd.R_lt (qR HO320.out))) (y4 qb)); replace HO320 := y0.mk (Kd.R_elder' (qR HO320.out) (Kd.R_base ho0) hb); replace HB := y0.mk (y5 qb hb); (try clear hb); (try clear hb2); (try clear hk); (try clear hi); (try clear ho0)) | ((with_reducible refine y14 (f := 89) rfl ?_); refine y16 (some 25) rfl rfl Tryz.func89 (by kernel_rfl) rfl #[.string t317,.string t321] rfl qy0 ?_; (with_reducible refine (cmp_Compare_string.calls t317 t321 t325 _ A5.out).mono ?_); rintro e w' ⟨rfl,⟨nd,rfl⟩⟩; refine ⟨_,rfl, ?_⟩; obtain ⟨Ao11,co11,eo11⟩ := Kd.R_slice HO320.out; subst eo11; obtain ⟨Ao12,co12,eo12⟩ := Kd.R_slice HO324.out; subst eo12) | ((with_reducible refine y14 (f := 87) rfl ?_); refine y16 (some 30) rfl rfl Tryz.func87 (by kernel_rfl) rfl #[.int .i64 (t318.length : Int),.int .i64 (t322.length : Int)] rfl qy0 ?_; (with_reducible refine (cmp_Compare_int.calls (t318.length : Int) (t322.length : Int) t326 _ A6.out).mono ?_); rintro e w' ⟨rfl,⟨nd,rfl⟩⟩; refine ⟨_,rfl, ?_⟩) | ((with_reducible refine y15 (N := 31) rfl ?_); refine Kd.R_lit (Kd.int .i64) _ 3 ?hg (N := 31) ?hd (xs := ([t325,t326] : List Int)) (inner := [.int .i64 t325,.int .i64 t326]) (ok := fun _ => True) (okp := fun _ => True) ?hr ?hp (fun _ hk => hk) trivial (Below.refl _ _) (Nat.le_refl _) (by simp) ?_; (case hd => rfl); (case hg => rfl); (case hr => first | (go_simp; done) | (go_simp; rfl)); (case hp => exact (Reps.one (show Kd.M (Kd.int .i64) _ _ _ t325 [.int .i64 t325] from rfl) (Reps.one (show Kd.M (Kd.int .i64) _ _ _ t326 [.int .i64 t326] from rfl) (Reps.none _ _)))); intro v328 w13 ho14 hb hg_ hnew_; clear hg_ hnew_; (first | rw [← Ny327.out] at ho14 | (simp only [Int.reduceToNat] at ho14; rw [← Ny327.out] at ho14)); replace HO320 := y0.mk (Kd.R_below (qR HO320.out) hb); replace HO324 := y0.mk (Kd.R_below (qR HO324.out) hb); have HO329 := y0.mk (Kd.R_lower ho14 (y4 qb)); replace HB := y0.mk (y5 qb hb); clear hb ho14; obtain ⟨Ao15,co15,eo15⟩ := Kd.R_slice HO329.out; subst eo15) | ((with_reducible refine y14 (f := 104) rfl ?_); refine y16 (some 32) rfl rfl Tryz.func104 (by kernel_rfl) rfl #[.slice Ao15 y327.length co15] rfl qy0 ?_; (with_reducible refine (cmp_Or_int.calls k _ _ y327 t330 _ (qc ((Kd.R_reads' HO329.out).2.2)) (by exact (Kd.R_reads' HO329.out).2.1) A7.out).mono ?_); rintro e w' ⟨rfl,⟨nd,rfl⟩⟩; refine ⟨_,rfl, ?_⟩))
  go_loopg [38] k (fun kq v38 w' => ∃ (x38_1 : Int),v38 = .int .i64 x38_1 ∧ y0 (impl_compareCons.l0 kq t322 t318 (t318.length : Int) x38_1 = some r) ∧ y0 (kq ≤ k) ∧ y0 (Kd.R Kd.string 9 w' w.heap.size (fun k_ => some k_ ≠ ((.slice Ao11 t318.length co11) : Value).ownBlock) (.slice Ao12 t322.length co12) t322) ∧ y0 (Kd.R Kd.string 9 w' w.heap.size (fun k_ => some k_ ≠ ((.slice Ao12 t322.length co12) : Value).ownBlock) (.slice Ao11 t318.length co11) t318) ∧ y0 (Below w.heap.size w w'))
  case atStart => exact ⟨(0),qy2,H',⟨Nat.le_refl _⟩,⟨qR (Kd.R_mono HO324.out (fun _ hk => hk.2))⟩,⟨qR (Kd.R_mono HO320.out (fun _ hk => hk.2))⟩,⟨qb⟩⟩
  case round =>
   clear H'
   (try clear c8b0 c8b1)
   obtain ⟨x38_1,rfl,HA,HK1,HO_8,HO_36,HB⟩ := hrel
   cases gk with
   | zero => exact absurd HA.out (by simp [impl_compareCons.l0])
   | succ k1 =>
    have H := HA.out
    clear HA
    simp only [impl_compareCons.l0] at H
    by_cases c16 : x38_1 < (t318.length : Int)
    ·rw [if_pos c16] at H
     have c16b0 := decide_eq_true c16
     clear c16
     obtain ⟨c17,H⟩ := qo H
     have c17b0 : decide (0 ≤ x38_1) = true := decide_eq_true c17
     clear c17
     obtain ⟨c18,H⟩ := qo H
     have c18b0 : decide (x38_1 < (t318.length : Int)) = true := decide_eq_true c18
     clear c18
     obtain ⟨c19,H⟩ := qo H
     have c19b0 : decide (x38_1 < (t322.length : Int)) = true := decide_eq_true c19
     clear c19
     obtain ⟨t333,A20,H⟩ := qB H
     by_cases c21 : t333 = 0
     ·rw [if_pos c21] at H
      have c21b0 : (t333 == 0) = true := beq_iff_eq.mpr c21
      have c21b1 : (t333 != 0) = false := bne_eq_false_iff_eq.mpr c21
      clear c21
      have H' := y0.mk H
      clear H
      have p331 : 0 ≤ (x38_1 : Int) := of_decide_eq_true qy1
      have q331 : x38_1 < (t318.length : Int) := of_decide_eq_true qy1
      obtain ⟨ad331,e331,hx331_0⟩ := Kd.at_string (Kd.R_reads' HO_36.out).2.2 x38_1 p331 q331
      cases e331
      replace p331 := eq_true p331
      replace q331 := eq_true q331
      have p332 : 0 ≤ (x38_1 : Int) := of_decide_eq_true qy1
      have q332 : x38_1 < (t322.length : Int) := of_decide_eq_true qy1
      obtain ⟨ad332,e332,hx332_0⟩ := Kd.at_string (Kd.R_reads' HO_8.out).2.2 x38_1 p332 q332
      cases e332
      replace p332 := eq_true p332
      replace q332 := eq_true q332
      go_wp2_with (first | ((with_reducible refine y14 (f := 75) rfl ?_); refine y16 (some 48) rfl rfl Tryz.func75 (by kernel_rfl) rfl #[.string (rdOf ByteArray.empty t318 x38_1),.string (rdOf ByteArray.empty t322 x38_1)] rfl qy0 ?_; (with_reducible refine (ih_impl_compareTerms k1 (by have := HK1.out; omega) (rdOf ByteArray.empty t318 x38_1) (rdOf ByteArray.empty t322 x38_1) t333 _ (by exact Tb.below HT.out qb) A20.out).mono ?_); rintro e w22 ⟨rfl,hb⟩; refine ⟨_,rfl, ?_⟩; replace HO_8 := y0.mk (Kd.R_below (qR HO_8.out) hb); replace HO_36 := y0.mk (Kd.R_below (qR HO_36.out) hb); replace HB := y0.mk (y5 qb hb); (try clear hb); (try clear hb2); (try clear hk); (try clear hi)))
      go_roundg k1
      case measure => have := HK1.out; omega
      exact ⟨(wrap64 (x38_1 + 1)),qy2,H',⟨by have := HK1.out; omega⟩,⟨qR HO_8.out⟩,⟨qR HO_36.out⟩,⟨qb⟩⟩
     ·rw [if_neg c21] at H
      have c21b0 : (t333 == 0) = false := beq_eq_false_iff_ne.mpr c21
      have c21b1 : (t333 != 0) = true := bne_iff_ne.mpr c21
      obtain rfl := Option.some.inj H
      have p331 : 0 ≤ (x38_1 : Int) := of_decide_eq_true qy1
      have q331 : x38_1 < (t318.length : Int) := of_decide_eq_true qy1
      obtain ⟨ad331,e331,hx331_0⟩ := Kd.at_string (Kd.R_reads' HO_36.out).2.2 x38_1 p331 q331
      cases e331
      replace p331 := eq_true p331
      replace q331 := eq_true q331
      have p332 : 0 ≤ (x38_1 : Int) := of_decide_eq_true qy1
      have q332 : x38_1 < (t322.length : Int) := of_decide_eq_true qy1
      obtain ⟨ad332,e332,hx332_0⟩ := Kd.at_string (Kd.R_reads' HO_8.out).2.2 x38_1 p332 q332
      cases e332
      replace p332 := eq_true p332
      replace q332 := eq_true q332
      go_wp2_with (first | ((with_reducible refine y14 (f := 75) rfl ?_); refine y16 (some 48) rfl rfl Tryz.func75 (by kernel_rfl) rfl #[.string (rdOf ByteArray.empty t318 x38_1),.string (rdOf ByteArray.empty t322 x38_1)] rfl qy0 ?_; (with_reducible refine (ih_impl_compareTerms k1 (by have := HK1.out; omega) (rdOf ByteArray.empty t318 x38_1) (rdOf ByteArray.empty t322 x38_1) t333 _ (by exact Tb.below HT.out qb) A20.out).mono ?_); rintro e w23 ⟨rfl,hb⟩; refine ⟨_,rfl, ?_⟩; replace HO_8 := y0.mk (Kd.R_below (qR HO_8.out) hb); replace HO_36 := y0.mk (Kd.R_below (qR HO_36.out) hb); replace HB := y0.mk (y5 qb hb); (try clear hb); (try clear hb2); (try clear hk); (try clear hi)))
      go_ret
      exact ⟨by first | rfl | (simp [y12,y13] <;> rfl) | (simp [*,y12,y13] <;> rfl),qb⟩
    ·rw [if_neg c16] at H
     have c16b0 := decide_eq_false c16
     clear c16
     obtain rfl := Option.some.inj H
     go_wp2
     go_ret
     exact ⟨by first | rfl | (simp [y12,y13] <;> rfl) | (simp [*,y12,y13] <;> rfl),qb⟩
 ·rw [if_neg c8] at H
  have c8b0 : (t330 == 0) = false := beq_eq_false_iff_ne.mpr c8
  have c8b1 : (t330 != 0) = true := bne_iff_ne.mpr c8
  obtain rfl := Option.some.inj H
  go_enter Tryz.func90,Tryz.ntmps90
  go_wp2_with (first | ((with_reducible refine y14 (f := 103) rfl ?_); refine y16 (some 15) rfl rfl Tryz.func103 (by kernel_rfl) rfl #[.string a0] rfl qy0 ?_; (with_reducible refine (z0_.calls k a0 t317 t318 _ (by exact Tb.below HT.out qb) A3.out).mono ?_); rintro e w24 ⟨v319,rfl,ho0,hb⟩; refine ⟨_,rfl, ?_⟩; have HO320 := y0.mk (Kd.R_lower ho0 (y4 qb)); replace HB := y0.mk (y5 qb hb); (try clear hb); (try clear hb2); (try clear hk); (try clear hi); (try clear ho0)) | ((with_reducible refine y14 (f := 103) rfl ?_); refine y16 (some 20) rfl rfl Tryz.func103 (by kernel_rfl) rfl #[.string a1] rfl qy0 ?_; (with_reducible refine (z0_.calls k a1 t321 t322 _ (by exact Tb.below HT.out qb) A4.out).mono ?_); rintro e w25 ⟨v323,rfl,ho0,hb⟩; refine ⟨_,rfl, ?_⟩; have HO324 := y0.mk (Kd.R_lower (Kd.R_new' ho0 (Kd.R_lt (qR HO320.out))) (y4 qb)); replace HO320 := y0.mk (Kd.R_elder' (qR HO320.out) (Kd.R_base ho0) hb); replace HB := y0.mk (y5 qb hb); (try clear hb); (try clear hb2); (try clear hk); (try clear hi); (try clear ho0)) | ((with_reducible refine y14 (f := 89) rfl ?_); refine y16 (some 25) rfl rfl Tryz.func89 (by kernel_rfl) rfl #[.string t317,.string t321] rfl qy0 ?_; (with_reducible refine (cmp_Compare_string.calls t317 t321 t325 _ A5.out).mono ?_); rintro e w' ⟨rfl,⟨nd,rfl⟩⟩; refine ⟨_,rfl, ?_⟩; obtain ⟨Ao26,co26,eo26⟩ := Kd.R_slice HO320.out; subst eo26; obtain ⟨Ao27,co27,eo27⟩ := Kd.R_slice HO324.out; subst eo27) | ((with_reducible refine y14 (f := 87) rfl ?_); refine y16 (some 30) rfl rfl Tryz.func87 (by kernel_rfl) rfl #[.int .i64 (t318.length : Int),.int .i64 (t322.length : Int)] rfl qy0 ?_; (with_reducible refine (cmp_Compare_int.calls (t318.length : Int) (t322.length : Int) t326 _ A6.out).mono ?_); rintro e w' ⟨rfl,⟨nd,rfl⟩⟩; refine ⟨_,rfl, ?_⟩) | ((with_reducible refine y15 (N := 31) rfl ?_); refine Kd.R_lit (Kd.int .i64) _ 3 ?hg (N := 31) ?hd (xs := ([t325,t326] : List Int)) (inner := [.int .i64 t325,.int .i64 t326]) (ok := fun _ => True) (okp := fun _ => True) ?hr ?hp (fun _ hk => hk) trivial (Below.refl _ _) (Nat.le_refl _) (by simp) ?_; (case hd => rfl); (case hg => rfl); (case hr => first | (go_simp; done) | (go_simp; rfl)); (case hp => exact (Reps.one (show Kd.M (Kd.int .i64) _ _ _ t325 [.int .i64 t325] from rfl) (Reps.one (show Kd.M (Kd.int .i64) _ _ _ t326 [.int .i64 t326] from rfl) (Reps.none _ _)))); intro v328 w28 ho29 hb hg_ hnew_; clear hg_ hnew_; (first | rw [← Ny327.out] at ho29 | (simp only [Int.reduceToNat] at ho29; rw [← Ny327.out] at ho29)); replace HO320 := y0.mk (Kd.R_below (qR HO320.out) hb); replace HO324 := y0.mk (Kd.R_below (qR HO324.out) hb); have HO329 := y0.mk (Kd.R_lower ho29 (y4 qb)); replace HB := y0.mk (y5 qb hb); clear hb ho29; obtain ⟨Ao30,co30,eo30⟩ := Kd.R_slice HO329.out; subst eo30) | ((with_reducible refine y14 (f := 104) rfl ?_); refine y16 (some 32) rfl rfl Tryz.func104 (by kernel_rfl) rfl #[.slice Ao30 y327.length co30] rfl qy0 ?_; (with_reducible refine (cmp_Or_int.calls k _ _ y327 t330 _ (qc ((Kd.R_reads' HO329.out).2.2)) (by exact (Kd.R_reads' HO329.out).2.1) A7.out).mono ?_); rintro e w' ⟨rfl,⟨nd,rfl⟩⟩; refine ⟨_,rfl, ?_⟩))
  go_ret
  exact ⟨by first | rfl | (simp [y12,y13] <;> rfl) | (simp [*,y12,y13] <;> rfl),qb⟩
set_option maxHeartbeats 8000000 in
set_option maxRecDepth 100000 in
theorem impl_compareTerms.step (k : Nat) (ih_impl_compareCons : ∀ m,m < k → impl_compareCons.Stm m) (ih : ∀ m,m < k → impl_compareTerms.Stm m) : impl_compareTerms.Stm k := by
 intro a0 a1 r w hT h
 cases k with
 | zero => exact absurd h (by simp [impl_compareTerms.f])
 | succ k =>
 simp only [impl_compareTerms.f] at h
 have HT := y0.mk hT
 clear hT
 have HB := y0.mk (Below.refl w.heap.size w)
 have H : ((impl_kindOf.f k a0).bind fun t334 => ((impl_kindOf.f k a1).bind fun t335 => (if t334 = 0 then (impl_compareTerms.j0 k a0 a1 t334 t335 true) else (impl_compareTerms.j0 k a0 a1 t334 t335 (t335 == 0))))) = some r := h
 clear h
 obtain ⟨t334,A3,H⟩ := qB H
 obtain ⟨t335,A4,H⟩ := qB H
 have HC5 := y0.mk H
 clear H
 go_enter Tryz.func75,Tryz.ntmps75
 go_upto_region 2 with (first | (go_at_call 73; (with_reducible refine (impl_kindOf.calls k a0 t334 _ (by exact Tb.below HT.out qb) A3.out).mono ?_); rintro e w6 ⟨rfl,hb⟩; replace HB := y0.mk (y5 qb hb); (try clear hb); (try clear hb2); (try clear hk); (try clear hi)) | (go_at_call 73; (with_reducible refine (impl_kindOf.calls k a1 t335 _ (by exact Tb.below HT.out qb) A4.out).mono ?_); rintro e w7 ⟨rfl,hb⟩; replace HB := y0.mk (y5 qb hb); (try clear hb); (try clear hb2); (try clear hk); (try clear hi)))
 repeat (go_quiet (first | (go_at_call 73; (with_reducible refine (impl_kindOf.calls k a0 t334 _ (by exact Tb.below HT.out qb) A3.out).mono ?_); rintro e w6 ⟨rfl,hb⟩; replace HB := y0.mk (y5 qb hb); (try clear hb); (try clear hb2); (try clear hk); (try clear hi)) | (go_at_call 73; (with_reducible refine (impl_kindOf.calls k a1 t335 _ (by exact Tb.below HT.out qb) A4.out).mono ?_); rintro e w7 ⟨rfl,hb⟩; replace HB := y0.mk (y5 qb hb); (try clear hb); (try clear hb2); (try clear hk); (try clear hi))); go_upto_region 2 with (first | (go_at_call 73; (with_reducible refine (impl_kindOf.calls k a0 t334 _ (by exact Tb.below HT.out qb) A3.out).mono ?_); rintro e w6 ⟨rfl,hb⟩; replace HB := y0.mk (y5 qb hb); (try clear hb); (try clear hb2); (try clear hk); (try clear hi)) | (go_at_call 73; (with_reducible refine (impl_kindOf.calls k a1 t335 _ (by exact Tb.below HT.out qb) A4.out).mono ?_); rintro e w7 ⟨rfl,hb⟩; replace HB := y0.mk (y5 qb hb); (try clear hb); (try clear hb2); (try clear hk); (try clear hi))))
 (try simp only [Act.put,qS_,qZ_,qC_])
 go_cut [11] (fun v11 wc => ∃ (kq : Nat) (x11_4 : Bool),v11 = .bool x11_4 ∧ y0 (impl_compareTerms.j0 kq a0 a1 t334 t335 x11_4 = some r) ∧ y0 (kq ≤ k) ∧ y0 (Below w.heap.size w wc))
 case first =>
  have H := HC5.out
  clear HC5
  by_cases c8 : t334 = 0
  ·rw [if_pos c8] at H
   have c8b0 : (t334 == 0) = true := beq_iff_eq.mpr c8
   have c8b1 : (t334 != 0) = false := bne_eq_false_iff_eq.mpr c8
   clear c8
   (first | rw [c8b0] | (simp only [y18,y17]; rw [c8b0]) | skip)
   have H' := y0.mk H
   clear H
   go_wp2
   repeat (go_quiet (fail); try go_wp2)
   go_meet
   exact ⟨_,(true),qy2,H',⟨by first | omega | exact Nat.le_refl _⟩,⟨qb⟩⟩
  ·rw [if_neg c8] at H
   have c8b0 : (t334 == 0) = false := beq_eq_false_iff_ne.mpr c8
   have c8b1 : (t334 != 0) = true := bne_iff_ne.mpr c8
   (first | rw [c8b0] | (simp only [y18,y17]; rw [c8b0]) | skip)
   have H' := y0.mk H
   clear H
   go_wp2
   repeat (go_quiet (fail); try go_wp2)
   go_meet
   exact ⟨_,((t335 == 0)),qy2,H',⟨by first | omega | exact Nat.le_refl _⟩,⟨qb⟩⟩
 case rest =>
  clear HC5
  obtain ⟨kq,x11_4,rfl,HA,HJ4,HB⟩ := hcut
  cases kq with
  | zero => exact absurd HA.out (by simp [impl_compareTerms.j0])
  | succ kj4 =>
   have H := HA.out
   clear HA
   simp only [impl_compareTerms.j0] at H
   by_cases c9 : x11_4 = true
   ·subst c9
    replace H := qT H
    obtain rfl := Option.some.inj H
    go_wp2
    repeat (go_quiet (fail); try go_wp2)
    go_ret
    exact ⟨by first | rfl | (simp [y12,y13] <;> rfl) | (simp [*,y12,y13] <;> rfl),qb⟩
   ·replace c9 := Bool.eq_false_iff.mpr c9
    subst c9
    replace H := qF H
    by_cases c10 : t334 = t335
    ·rw [if_pos c10] at H
     have c10b0 : (t334 == t335) = true := beq_iff_eq.mpr c10
     have c10b1 : (t334 != t335) = false := bne_eq_false_iff_eq.mpr c10
     clear c10
     by_cases c11 : t334 = 1
     ·rw [if_pos c11] at H
      have c11b0 : (t334 == 1) = true := beq_iff_eq.mpr c11
      have c11b1 : (t334 != 1) = false := bne_eq_false_iff_eq.mpr c11
      clear c11
      obtain ⟨t336,A12,H⟩ := qB H
      obtain ⟨t337,A13,H⟩ := qB H
      obtain ⟨t338,A14,H⟩ := qB H
      obtain rfl := Option.some.inj H
      go_wp2_with (first | (go_at_call 88; (with_reducible refine (impl_numOf.calls a0 t336 _ (by exact Tb.below HT.out qb) A12.out).mono ?_); rintro e w15 ⟨rfl,hb⟩; replace HB := y0.mk (y5 qb hb); (try clear hb); (try clear hb2); (try clear hk); (try clear hi)) | (go_at_call 88; (with_reducible refine (impl_numOf.calls a1 t337 _ (by exact Tb.below HT.out qb) A13.out).mono ?_); rintro e w16 ⟨rfl,hb⟩; replace HB := y0.mk (y5 qb hb); (try clear hb); (try clear hb2); (try clear hk); (try clear hi)) | (go_at_call 87; (with_reducible refine (cmp_Compare_int.calls t336 t337 t338 _ A14.out).mono ?_); rintro e w' ⟨rfl,⟨nd,rfl⟩⟩; (try first | exact ⟨rfl,_,World.drewN_drewN _ _ _⟩ | exact ⟨rfl,_,Eq.trans (World.drewN_drewN _ _ _) (congrArg (World.drewN _) (Nat.add_assoc _ _ _))⟩)))
      repeat (go_quiet (first | (go_at_call 88; (with_reducible refine (impl_numOf.calls a0 t336 _ (by exact Tb.below HT.out qb) A12.out).mono ?_); rintro e w15 ⟨rfl,hb⟩; replace HB := y0.mk (y5 qb hb); (try clear hb); (try clear hb2); (try clear hk); (try clear hi)) | (go_at_call 88; (with_reducible refine (impl_numOf.calls a1 t337 _ (by exact Tb.below HT.out qb) A13.out).mono ?_); rintro e w16 ⟨rfl,hb⟩; replace HB := y0.mk (y5 qb hb); (try clear hb); (try clear hb2); (try clear hk); (try clear hi)) | (go_at_call 87; (with_reducible refine (cmp_Compare_int.calls t336 t337 t338 _ A14.out).mono ?_); rintro e w' ⟨rfl,⟨nd,rfl⟩⟩; (try first | exact ⟨rfl,_,World.drewN_drewN _ _ _⟩ | exact ⟨rfl,_,Eq.trans (World.drewN_drewN _ _ _) (congrArg (World.drewN _) (Nat.add_assoc _ _ _))⟩))); try go_wp2_with (first | (go_at_call 88; (with_reducible refine (impl_numOf.calls a0 t336 _ (by exact Tb.below HT.out qb) A12.out).mono ?_); rintro e w15 ⟨rfl,hb⟩; replace HB := y0.mk (y5 qb hb); (try clear hb); (try clear hb2); (try clear hk); (try clear hi)) | (go_at_call 88; (with_reducible refine (impl_numOf.calls a1 t337 _ (by exact Tb.below HT.out qb) A13.out).mono ?_); rintro e w16 ⟨rfl,hb⟩; replace HB := y0.mk (y5 qb hb); (try clear hb); (try clear hb2); (try clear hk); (try clear hi)) | (go_at_call 87; (with_reducible refine (cmp_Compare_int.calls t336 t337 t338 _ A14.out).mono ?_); rintro e w' ⟨rfl,⟨nd,rfl⟩⟩; (try first | exact ⟨rfl,_,World.drewN_drewN _ _ _⟩ | exact ⟨rfl,_,Eq.trans (World.drewN_drewN _ _ _) (congrArg (World.drewN _) (Nat.add_assoc _ _ _))⟩))))
      go_ret
      exact ⟨by first | rfl | (simp [y12,y13] <;> rfl) | (simp [*,y12,y13] <;> rfl),qb⟩
     ·rw [if_neg c11] at H
      have c11b0 : (t334 == 1) = false := beq_eq_false_iff_ne.mpr c11
      have c11b1 : (t334 != 1) = true := bne_iff_ne.mpr c11
      by_cases c17 : t334 = 2
      ·rw [if_pos c17] at H
       have c17b0 : (t334 == 2) = true := beq_iff_eq.mpr c17
       have c17b1 : (t334 != 2) = false := bne_eq_false_iff_eq.mpr c17
       clear c17
       obtain ⟨c18,H⟩ := qo H
       have c18b0 := eq_true c18
       have c18b1 := decide_eq_true c18
       clear c18
       obtain ⟨c19,H⟩ := qo H
       have c19b0 := eq_true c19
       have c19b1 := decide_eq_true c19
       clear c19
       obtain ⟨c20,H⟩ := qo H
       have c20b0 := eq_true c20
       have c20b1 := decide_eq_true c20
       clear c20
       obtain ⟨c21,H⟩ := qo H
       have c21b0 := eq_true c21
       have c21b1 := decide_eq_true c21
       clear c21
       obtain ⟨t339,A22,H⟩ := qB H
       obtain rfl := Option.some.inj H
       go_wp2_with (first | (go_at_call 89; (with_reducible refine (cmp_Compare_string.calls (a0.extract 1 ((wrap64 ((a0.size : Int) - 1)) : Int).toNat) (a1.extract 1 ((wrap64 ((a1.size : Int) - 1)) : Int).toNat) t339 _ A22.out).mono ?_); rintro e w' ⟨rfl,⟨nd,rfl⟩⟩; (try first | exact ⟨rfl,_,World.drewN_drewN _ _ _⟩ | exact ⟨rfl,_,Eq.trans (World.drewN_drewN _ _ _) (congrArg (World.drewN _) (Nat.add_assoc _ _ _))⟩)))
       repeat (go_quiet (first | (go_at_call 89; (with_reducible refine (cmp_Compare_string.calls (a0.extract 1 ((wrap64 ((a0.size : Int) - 1)) : Int).toNat) (a1.extract 1 ((wrap64 ((a1.size : Int) - 1)) : Int).toNat) t339 _ A22.out).mono ?_); rintro e w' ⟨rfl,⟨nd,rfl⟩⟩; (try first | exact ⟨rfl,_,World.drewN_drewN _ _ _⟩ | exact ⟨rfl,_,Eq.trans (World.drewN_drewN _ _ _) (congrArg (World.drewN _) (Nat.add_assoc _ _ _))⟩))); try go_wp2_with (first | (go_at_call 89; (with_reducible refine (cmp_Compare_string.calls (a0.extract 1 ((wrap64 ((a0.size : Int) - 1)) : Int).toNat) (a1.extract 1 ((wrap64 ((a1.size : Int) - 1)) : Int).toNat) t339 _ A22.out).mono ?_); rintro e w' ⟨rfl,⟨nd,rfl⟩⟩; (try first | exact ⟨rfl,_,World.drewN_drewN _ _ _⟩ | exact ⟨rfl,_,Eq.trans (World.drewN_drewN _ _ _) (congrArg (World.drewN _) (Nat.add_assoc _ _ _))⟩))))
       go_ret
       exact ⟨by first | rfl | (simp [y12,y13] <;> rfl) | (simp [*,y12,y13] <;> rfl),qb⟩
      ·rw [if_neg c17] at H
       have c17b0 : (t334 == 2) = false := beq_eq_false_iff_ne.mpr c17
       have c17b1 : (t334 != 2) = true := bne_iff_ne.mpr c17
       obtain ⟨t340,A23,H⟩ := qB H
       obtain rfl := Option.some.inj H
       go_wp2_with (first | (go_at_call 90; (with_reducible refine (ih_impl_compareCons kj4 (by have := HJ4.out; omega) a0 a1 t340 _ (by exact Tb.below HT.out qb) A23.out).mono ?_); rintro e w24 ⟨rfl,hb⟩; replace HB := y0.mk (y5 qb hb); (try clear hb); (try clear hb2); (try clear hk); (try clear hi)))
       repeat (go_quiet (first | (go_at_call 90; (with_reducible refine (ih_impl_compareCons kj4 (by have := HJ4.out; omega) a0 a1 t340 _ (by exact Tb.below HT.out qb) A23.out).mono ?_); rintro e w24 ⟨rfl,hb⟩; replace HB := y0.mk (y5 qb hb); (try clear hb); (try clear hb2); (try clear hk); (try clear hi))); try go_wp2_with (first | (go_at_call 90; (with_reducible refine (ih_impl_compareCons kj4 (by have := HJ4.out; omega) a0 a1 t340 _ (by exact Tb.below HT.out qb) A23.out).mono ?_); rintro e w24 ⟨rfl,hb⟩; replace HB := y0.mk (y5 qb hb); (try clear hb); (try clear hb2); (try clear hk); (try clear hi))))
       go_ret
       exact ⟨by first | rfl | (simp [y12,y13] <;> rfl) | (simp [*,y12,y13] <;> rfl),qb⟩
    ·rw [if_neg c10] at H
     have c10b0 : (t334 == t335) = false := beq_eq_false_iff_ne.mpr c10
     have c10b1 : (t334 != t335) = true := bne_iff_ne.mpr c10
     obtain ⟨t341,A25,H⟩ := qB H
     obtain rfl := Option.some.inj H
     go_wp2_with (first | (go_at_call 87; (with_reducible refine (cmp_Compare_int.calls t334 t335 t341 _ A25.out).mono ?_); rintro e w' ⟨rfl,⟨nd,rfl⟩⟩; (try first | exact ⟨rfl,_,World.drewN_drewN _ _ _⟩ | exact ⟨rfl,_,Eq.trans (World.drewN_drewN _ _ _) (congrArg (World.drewN _) (Nat.add_assoc _ _ _))⟩)))
     repeat (go_quiet (first | (go_at_call 87; (with_reducible refine (cmp_Compare_int.calls t334 t335 t341 _ A25.out).mono ?_); rintro e w' ⟨rfl,⟨nd,rfl⟩⟩; (try first | exact ⟨rfl,_,World.drewN_drewN _ _ _⟩ | exact ⟨rfl,_,Eq.trans (World.drewN_drewN _ _ _) (congrArg (World.drewN _) (Nat.add_assoc _ _ _))⟩))); try go_wp2_with (first | (go_at_call 87; (with_reducible refine (cmp_Compare_int.calls t334 t335 t341 _ A25.out).mono ?_); rintro e w' ⟨rfl,⟨nd,rfl⟩⟩; (try first | exact ⟨rfl,_,World.drewN_drewN _ _ _⟩ | exact ⟨rfl,_,Eq.trans (World.drewN_drewN _ _ _) (congrArg (World.drewN _) (Nat.add_assoc _ _ _))⟩))))
     go_ret
     exact ⟨by first | rfl | (simp [y12,y13] <;> rfl) | (simp [*,y12,y13] <;> rfl),qb⟩
theorem impl_compareCons.all.Stm : ∀ k,impl_compareCons.Stm k ∧ impl_compareTerms.Stm k := by
 intro k
 induction k using Nat.strongRecOn with
 | _ k ih =>
 exact ⟨impl_compareCons.step k (fun m h => (ih m h).1) (fun m h => (ih m h).2),impl_compareTerms.step k (fun m h => (ih m h).1) (fun m h => (ih m h).2)⟩
theorem impl_compareTerms.calls (k : Nat) : ∀ (a0 : ByteArray) (a1 : ByteArray) (r : Int) (w : World) (hT : Tb w) (h : impl_compareTerms.f k a0 a1 = some r),
  Calls Tryz.prog 75 #[.string a0,.string a1] w fun e w' => e = .returned (.int .i64 r) ∧ Below w.heap.size w w' := (impl_compareCons.all.Stm k).2
def z1_.l0 : Nat → List ByteArray → List ByteArray → List ByteArray → Int → Int → Option (Int)
 | 0,_,_,_,_,_ => none
 | k + 1,x0,x1,x11,x12,x13 => if x13 < x12 then (if 0 ≤ x13 then (if x13 < (x11.length : Int) then (if x13 ≥ (x1.length : Int) then (some 1) else (if x13 < (x1.length : Int) then ((impl_compareTerms.f k (rdOf ByteArray.empty x11 x13) (rdOf ByteArray.empty x1 x13)).bind fun t344 => (if t344 = 0 then (z1_.l0 k x0 x1 x11 x12 (wrap64 (x13 + 1))) else (some t344))) else (none))) else (none)) else (none)) else (if (x0.length : Int) < (x1.length : Int) then (some (-1)) else (some 0))
def z1_.f (k : Nat) (l0 : List ByteArray) (l1 : List ByteArray)  : Option (Int) := z1_.l0 k l0 l1 l0 (l0.length : Int) 0
set_option maxHeartbeats 8000000 in
set_option maxRecDepth 100000 in
theorem z1_.calls (k : Nat) (A0 : Option Addr) (c0 : Nat) (l0 : List ByteArray) (A1 : Option Addr) (c1 : Nat) (l1 : List ByteArray)  (r : Int) (w : World) (hr0 : Kd.C Kd.string w A0 l0.length l0) (hc0 : l0.length ≤ c0) (hr1 : Kd.C Kd.string w A1 l1.length l1) (hc1 : l1.length ≤ c1) (hT : Tb w) (h : z1_.f k l0 l1 = some r) :
  Calls Tryz.prog 74 #[.slice A0 l0.length c0,.slice A1 l1.length c1,.func (.func 75) #[] #[]] w fun e w' => e = .returned (.int .i64 r) ∧ Below w.heap.size w w' := by
 have HT := y0.mk hT
 clear hT
 have HR0 := y0.mk hr0
 have HC0 := y0.mk hc0
 clear hr0 hc0
 have HR1 := y0.mk hr1
 have HC1 := y0.mk hc1
 clear hr1 hc1
 have HB := y0.mk (Below.refl w.heap.size w)
 have H : (z1_.l0 k l0 l1 l0 (l0.length : Int) 0) = some r := h
 clear h
 have H' := y0.mk H
 clear H
 go_enter Tryz.func74,Tryz.ntmps74
 go_wp2
 go_loopg [13] k (fun kq v13 w' => ∃ (x13_1 : Int),v13 = .int .i64 x13_1 ∧ y0 (z1_.l0 kq l0 l1 l0 (l0.length : Int) x13_1 = some r) ∧ y0 (kq ≤ k) ∧ y0 (Below w.heap.size w w'))
 case atStart => exact ⟨(0),qy2,H',⟨Nat.le_refl _⟩,⟨qb⟩⟩
 case round =>
  clear H'
  obtain ⟨x13_1,rfl,HA,HK1,HB⟩ := hrel
  cases gk with
  | zero => exact absurd HA.out (by simp [z1_.l0])
  | succ k1 =>
   have H := HA.out
   clear HA
   simp only [z1_.l0] at H
   by_cases c4 : x13_1 < (l0.length : Int)
   ·rw [if_pos c4] at H
    have c4b0 := decide_eq_true c4
    clear c4
    obtain ⟨c5,H⟩ := qo H
    have c5b0 : decide (0 ≤ x13_1) = true := decide_eq_true c5
    clear c5
    obtain ⟨c6,H⟩ := qo H
    have c6b0 : decide (x13_1 < (l0.length : Int)) = true := decide_eq_true c6
    clear c6
    by_cases c7 : x13_1 ≥ (l1.length : Int)
    ·rw [if_pos c7] at H
     have c7b0 : decide ((l1.length : Int) ≤ x13_1) = true := decide_eq_true c7
     clear c7
     obtain rfl := Option.some.inj H
     have p342 : 0 ≤ (x13_1 : Int) := of_decide_eq_true qy1
     have q342 : x13_1 < (l0.length : Int) := of_decide_eq_true qy1
     obtain ⟨ad342,e342,hx342_0⟩ := Kd.at_string HR0.out x13_1 p342 q342
     cases e342
     replace hx342_0 := (HB.out.cell (World.block_lt_of_cell? w _ hx342_0)).trans hx342_0
     replace p342 := eq_true p342
     replace q342 := eq_true q342
     go_wp2
     go_ret
     exact ⟨by first | rfl | (simp [y12,y13] <;> rfl) | (simp [*,y12,y13] <;> rfl),qb⟩
    ·rw [if_neg c7] at H
     have c7b0 : decide ((l1.length : Int) ≤ x13_1) = false := decide_eq_false c7
     clear c7
     obtain ⟨c8,H⟩ := qo H
     have c8b0 : decide (x13_1 < (l1.length : Int)) = true := decide_eq_true c8
     clear c8
     obtain ⟨t344,A9,H⟩ := qB H
     by_cases c10 : t344 = 0
     ·rw [if_pos c10] at H
      have c10b0 : (t344 == 0) = true := beq_iff_eq.mpr c10
      have c10b1 : (t344 != 0) = false := bne_eq_false_iff_eq.mpr c10
      clear c10
      have H' := y0.mk H
      clear H
      have p342 : 0 ≤ (x13_1 : Int) := of_decide_eq_true qy1
      have q342 : x13_1 < (l0.length : Int) := of_decide_eq_true qy1
      obtain ⟨ad342,e342,hx342_0⟩ := Kd.at_string HR0.out x13_1 p342 q342
      cases e342
      replace hx342_0 := (HB.out.cell (World.block_lt_of_cell? w _ hx342_0)).trans hx342_0
      replace p342 := eq_true p342
      replace q342 := eq_true q342
      have p343 : 0 ≤ (x13_1 : Int) := of_decide_eq_true qy1
      have q343 : x13_1 < (l1.length : Int) := of_decide_eq_true qy1
      obtain ⟨ad343,e343,hx343_0⟩ := Kd.at_string HR1.out x13_1 p343 q343
      cases e343
      replace hx343_0 := (HB.out.cell (World.block_lt_of_cell? w _ hx343_0)).trans hx343_0
      replace p343 := eq_true p343
      replace q343 := eq_true q343
      go_wp2_with (first | (go_at_call 75; (with_reducible refine (impl_compareTerms.calls k1 (rdOf ByteArray.empty l0 x13_1) (rdOf ByteArray.empty l1 x13_1) t344 _ (by exact Tb.below HT.out qb) A9.out).mono ?_); rintro e w11 ⟨rfl,hb⟩; replace HB := y0.mk (y5 qb hb); (try clear hb); (try clear hb2); (try clear hk); (try clear hi)))
      go_roundg k1
      case measure => have := HK1.out; omega
      exact ⟨(wrap64 (x13_1 + 1)),qy2,H',⟨by have := HK1.out; omega⟩,⟨qb⟩⟩
     ·rw [if_neg c10] at H
      have c10b0 : (t344 == 0) = false := beq_eq_false_iff_ne.mpr c10
      have c10b1 : (t344 != 0) = true := bne_iff_ne.mpr c10
      obtain rfl := Option.some.inj H
      have p342 : 0 ≤ (x13_1 : Int) := of_decide_eq_true qy1
      have q342 : x13_1 < (l0.length : Int) := of_decide_eq_true qy1
      obtain ⟨ad342,e342,hx342_0⟩ := Kd.at_string HR0.out x13_1 p342 q342
      cases e342
      replace hx342_0 := (HB.out.cell (World.block_lt_of_cell? w _ hx342_0)).trans hx342_0
      replace p342 := eq_true p342
      replace q342 := eq_true q342
      have p343 : 0 ≤ (x13_1 : Int) := of_decide_eq_true qy1
      have q343 : x13_1 < (l1.length : Int) := of_decide_eq_true qy1
      obtain ⟨ad343,e343,hx343_0⟩ := Kd.at_string HR1.out x13_1 p343 q343
      cases e343
      replace hx343_0 := (HB.out.cell (World.block_lt_of_cell? w _ hx343_0)).trans hx343_0
      replace p343 := eq_true p343
      replace q343 := eq_true q343
      go_wp2_with (first | (go_at_call 75; (with_reducible refine (impl_compareTerms.calls k1 (rdOf ByteArray.empty l0 x13_1) (rdOf ByteArray.empty l1 x13_1) t344 _ (by exact Tb.below HT.out qb) A9.out).mono ?_); rintro e w12 ⟨rfl,hb⟩; replace HB := y0.mk (y5 qb hb); (try clear hb); (try clear hb2); (try clear hk); (try clear hi)))
      go_ret
      exact ⟨by first | rfl | (simp [y12,y13] <;> rfl) | (simp [*,y12,y13] <;> rfl),qb⟩
   ·rw [if_neg c4] at H
    have c4b0 := decide_eq_false c4
    clear c4
    by_cases c13 : (l0.length : Int) < (l1.length : Int)
    ·rw [if_pos c13] at H
     have c13b0 := decide_eq_true c13
     have c13b1 : decide (l0.length < l1.length) = true := decide_eq_true (Int.ofNat_lt.mp c13)
     clear c13
     obtain rfl := Option.some.inj H
     go_wp2
     go_ret
     exact ⟨by first | rfl | (simp [y12,y13] <;> rfl) | (simp [*,y12,y13] <;> rfl),qb⟩
    ·rw [if_neg c13] at H
     have c13b0 := decide_eq_false c13
     have c13b1 : decide (l0.length < l1.length) = false := decide_eq_false (fun h => c13 (Int.ofNat_lt.mpr h))
     clear c13
     obtain rfl := Option.some.inj H
     go_wp2
     go_ret
     exact ⟨by first | rfl | (simp [y12,y13] <;> rfl) | (simp [*,y12,y13] <;> rfl),qb⟩
def impl_compareTuples.f (k : Nat) (l0_0 : List ByteArray) (l1_0 : List ByteArray) : Option (Int) := (z1_.f k l0_0 l1_0).bind fun t347 => (some t347)
set_option maxHeartbeats 8000000 in
set_option maxRecDepth 100000 in
theorem impl_compareTuples.calls (k : Nat) (A0_0 : Option Addr) (c0_0 : Nat) (l0_0 : List ByteArray) (A1_0 : Option Addr) (c1_0 : Nat) (l1_0 : List ByteArray) (r : Int) (w : World) (hr0_0 : Kd.C Kd.string w A0_0 l0_0.length l0_0) (hc0_0 : l0_0.length ≤ c0_0) (hr1_0 : Kd.C Kd.string w A1_0 l1_0.length l1_0) (hc1_0 : l1_0.length ≤ c1_0) (hT : Tb w) (h : impl_compareTuples.f k l0_0 l1_0 = some r) :
  Calls Tryz.prog 56 #[.agg #[.slice A0_0 l0_0.length c0_0],.agg #[.slice A1_0 l1_0.length c1_0]] w fun e w' => e = .returned (.int .i64 r) ∧ Below w.heap.size w w' := by
 have hu48 := Tryz.underlying48
 have HT := y0.mk hT
 clear hT
 have HR0_0 := y0.mk hr0_0
 have HC0_0 := y0.mk hc0_0
 clear hr0_0 hc0_0
 have HR1_0 := y0.mk hr1_0
 have HC1_0 := y0.mk hc1_0
 clear hr1_0 hc1_0
 have HB := y0.mk (Below.refl w.heap.size w)
 have H : ((z1_.f k l0_0 l1_0).bind fun t347 => (some t347)) = some r := h
 clear h
 obtain ⟨t347,A3,H⟩ := qB H
 obtain rfl := Option.some.inj H
 go_enter Tryz.func56,Tryz.ntmps56
 go_wp2_with (first | ((with_reducible refine y15 (N := 2) rfl ?_); refine qe 2 #[.slice A0_0 l0_0.length c0_0] 48 ?_; intro gb345 hg w4 hbox hb; have BK345 := y0.mk (hbox); have GW345 := y0.mk (qg (w := w) hg); have GE345 := y0.mk (qg (w := w) hg); replace HB := y0.mk (y5 qb hb); clear hb hbox hg) | ((with_reducible refine y15 (N := 3) rfl ?_); refine qe 3 #[.slice A1_0 l1_0.length c1_0] 48 ?_; intro gb346 hg w5 hbox hb; have BK346 := y0.mk (hbox); have GW346 := y0.mk (qg (w := w) hg); have GE346 := y0.mk (qg (w := w) hg); replace HB := y0.mk (y5 qb hb); have NB345_346 := y0.mk (qn BK345.out hg); have NB346_345 := y0.mk (qm BK345.out hg); replace BK345 := y0.mk (qK BK345.out hb); clear hb hbox hg; have hnb6 := NB345_346.out; have hnc6 := NB346_345.out; obtain ⟨hcz7_0,hfz7_0⟩ := qz1 BK345.out; obtain ⟨hcz8_0,hfz8_0⟩ := qz1 BK346.out) | ((with_reducible refine y14 (f := 74) rfl ?_); refine y16 (some 9) rfl rfl Tryz.func74 (by kernel_rfl) rfl #[.slice A0_0 l0_0.length c0_0,.slice A1_0 l1_0.length c1_0,.func (.func 75) #[] #[]] rfl qy0 ?_; (with_reducible refine (z1_.calls k _ _ l0_0 _ _ l1_0  t347 _ (qc (Kd.C_below HR0_0.out HB.out)) HC0_0.out (qc (Kd.C_below HR1_0.out HB.out)) HC1_0.out (by exact Tb.below HT.out qb) A3.out).mono ?_); rintro e w9 ⟨rfl,hb⟩; refine ⟨_,rfl, ?_⟩; replace BK345 := y0.mk (qK BK345.out hb); replace BK346 := y0.mk (qK BK346.out hb); replace HB := y0.mk (y5 qb hb); (try clear hb); (try clear hb2); (try clear hk); (try clear hi)))
 go_ret
 exact ⟨by first | rfl | (simp [y12,y13] <;> rfl) | (simp [*,y12,y13] <;> rfl),qb⟩
end Go.Proofs.YtocmfolajckaeaaGreatDoor.Pe
end

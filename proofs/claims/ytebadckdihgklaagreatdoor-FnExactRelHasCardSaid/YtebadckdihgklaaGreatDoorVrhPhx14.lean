-- Cut by prune.py, a program of this session, out of the texts of this claim: Lean checks it.
import Derived.Test.YtebadckdihgklaaGreatDoorVrhPhx0
import Derived.Test.YtebadckdihgklaaGreatDoorVrhPhx10
section
namespace Go.Proofs.YtebadckdihgklaaGreatDoor.Ph
open Go.RowKit Go.Proofs.YtebadckdihgklaaGreatDoorW.PrintWords Go.Proofs.YtebadckdihgklaaGreatDoorW.PrintLast Go.Proofs.YtebadckdihgklaaGreatDoorW.PrintMore
attribute [local go_sem] max2_int min2_int max_two min_two max_three min_three max_four min_four   -- for this text's walks alone
set_option linter.unusedVariables false
set_option linter.unusedSimpArgs false
def impl_kindOf.f (k : Nat) (a0 : ByteArray) : Option (Int) := (impl_termAt.f k a0).bind fun bt271 => (if (a0.size : Int) > 200 then (some 0) else (if bt271.2 = (a0.size : Int) then (some bt271.1) else (some 0)))
set_option maxHeartbeats 8000000 in
set_option maxRecDepth 100000 in
theorem impl_kindOf.calls (k : Nat) (a0 : ByteArray) (r : Int) (w : World) (hT : Tb w) (h : impl_kindOf.f k a0 = some r) :
  Calls Tryz.prog 88 #[.string a0] w fun e w' => e = .returned (.int .i64 r) ∧ Below w.heap.size w w' := by
 have HT := y0.mk hT
 clear hT
 have HB := y0.mk (Below.refl w.heap.size w)
 have H : ((impl_termAt.f k a0).bind fun bt271 => (if (a0.size : Int) > 200 then (some 0) else (if bt271.2 = (a0.size : Int) then (some bt271.1) else (some 0)))) = some r := h
 clear h
 replace H := Option.bind_eq_some_iff.mp H
 obtain ⟨⟨t271,t272⟩,A20,H⟩ := H
 replace H : (if (a0.size : Int) > 200 then (some 0) else (if t272 = (a0.size : Int) then (some t271) else (some 0))) = some r := H
 have A2 := y0.mk A20
 clear A20
 by_cases c3 : (a0.size : Int) > 200
 ·rw [if_pos c3] at H
  have c3b0 : decide (200 < (a0.size : Int)) = true := decide_eq_true c3
  have c3b1 : decide (200 < a0.size) = true := decide_eq_true (by omega)
  clear c3
  obtain rfl := Option.some.inj H
  go_enter Tryz.func88,Tryz.ntmps88
  go_wp2_with (first | ((with_reducible refine y17 (f := 103) rfl ?_); refine y19 (some 7) rfl rfl Tryz.func103 (by kernel_rfl) rfl #[.string a0] rfl (by (try simp only [qM_,List.map_cons,List.map_nil]); first | done | rfl | (simp only [qD_,qT_]; rfl)) ?_; (with_reducible refine (impl_termAt.calls k a0 t271 t272 _ ?side1 A2.out).mono ?_); (case side1 => exact Tb.below HT.out (by repeat (first | (with_reducible first | exact HB.out | apply y3 | apply y23 | apply y4) | exact HB.out))); rintro e w4 ⟨rfl,hb⟩; refine ⟨_,rfl, ?_⟩; have n0_ := y0.mk (y7 (by repeat (first | (with_reducible first | exact HB.out | apply y3 | apply y23 | apply y4) | exact HB.out)) hb); clear HB; have HB := n0_; clear n0_; (try clear hb); (try clear hb2); (try clear hk); (try clear hi)))
  go_ret
  exact ⟨by first | rfl | (simp [y15,y16] <;> rfl) | (simp [*,y15,y16] <;> rfl),by repeat (first | (with_reducible first | exact HB.out | apply y3 | apply y23 | apply y4) | exact HB.out)⟩
 ·rw [if_neg c3] at H
  have c3b0 : decide (200 < (a0.size : Int)) = false := decide_eq_false c3
  have c3b1 : decide (200 < a0.size) = false := decide_eq_false (by omega)
  clear c3
  by_cases c5 : t272 = (a0.size : Int)
  ·rw [if_pos c5] at H
   have c5b0 : (t272 == (a0.size : Int)) = true := beq_iff_eq.mpr c5
   have c5b1 : (t272 != (a0.size : Int)) = false := bne_eq_false_iff_eq.mpr c5
   clear c5
   obtain rfl := Option.some.inj H
   go_enter Tryz.func88,Tryz.ntmps88
   go_wp2_with (first | ((with_reducible refine y17 (f := 103) rfl ?_); refine y19 (some 7) rfl rfl Tryz.func103 (by kernel_rfl) rfl #[.string a0] rfl (by (try simp only [qM_,List.map_cons,List.map_nil]); first | done | rfl | (simp only [qD_,qT_]; rfl)) ?_; (with_reducible refine (impl_termAt.calls k a0 t271 t272 _ ?side1 A2.out).mono ?_); (case side1 => exact Tb.below HT.out (by repeat (first | (with_reducible first | exact HB.out | apply y3 | apply y23 | apply y4) | exact HB.out))); rintro e w6 ⟨rfl,hb⟩; refine ⟨_,rfl, ?_⟩; have n0_ := y0.mk (y7 (by repeat (first | (with_reducible first | exact HB.out | apply y3 | apply y23 | apply y4) | exact HB.out)) hb); clear HB; have HB := n0_; clear n0_; (try clear hb); (try clear hb2); (try clear hk); (try clear hi)))
   go_ret
   exact ⟨by first | rfl | (simp [y15,y16] <;> rfl) | (simp [*,y15,y16] <;> rfl),by repeat (first | (with_reducible first | exact HB.out | apply y3 | apply y23 | apply y4) | exact HB.out)⟩
  ·rw [if_neg c5] at H
   have c5b0 : (t272 == (a0.size : Int)) = false := beq_eq_false_iff_ne.mpr c5
   have c5b1 : (t272 != (a0.size : Int)) = true := bne_iff_ne.mpr c5
   obtain rfl := Option.some.inj H
   go_enter Tryz.func88,Tryz.ntmps88
   go_wp2_with (first | ((with_reducible refine y17 (f := 103) rfl ?_); refine y19 (some 7) rfl rfl Tryz.func103 (by kernel_rfl) rfl #[.string a0] rfl (by (try simp only [qM_,List.map_cons,List.map_nil]); first | done | rfl | (simp only [qD_,qT_]; rfl)) ?_; (with_reducible refine (impl_termAt.calls k a0 t271 t272 _ ?side1 A2.out).mono ?_); (case side1 => exact Tb.below HT.out (by repeat (first | (with_reducible first | exact HB.out | apply y3 | apply y23 | apply y4) | exact HB.out))); rintro e w7 ⟨rfl,hb⟩; refine ⟨_,rfl, ?_⟩; have n0_ := y0.mk (y7 (by repeat (first | (with_reducible first | exact HB.out | apply y3 | apply y23 | apply y4) | exact HB.out)) hb); clear HB; have HB := n0_; clear n0_; (try clear hb); (try clear hb2); (try clear hk); (try clear hi)))
   go_ret
   exact ⟨by first | rfl | (simp [y15,y16] <;> rfl) | (simp [*,y15,y16] <;> rfl),by repeat (first | (with_reducible first | exact HB.out | apply y3 | apply y23 | apply y4) | exact HB.out)⟩
def impl_isTuple_1.f (k : Nat) (a0 : ByteArray) : Option (Bool) := (impl_kindOf.f k a0).bind fun t273 => (some (t273 == 0))
set_option maxHeartbeats 8000000 in
set_option maxRecDepth 100000 in
theorem impl_isTuple_1.calls (k : Nat) (a0 : ByteArray) (r : Bool) (w : World) (hT : Tb w) (h : impl_isTuple_1.f k a0 = some r) :
  Calls Tryz.prog 87 #[.string a0] w fun e w' => e = .returned (.bool r) ∧ Below w.heap.size w w' := by
 have HT := y0.mk hT
 clear hT
 have HB := y0.mk (Below.refl w.heap.size w)
 have H : ((impl_kindOf.f k a0).bind fun t273 => (some (t273 == 0))) = some r := h
 clear h
 replace H := Option.bind_eq_some_iff.mp H
 obtain ⟨t273,A20,H⟩ := H
 replace H : (some (t273 == 0)) = some r := H
 have A2 := y0.mk A20
 clear A20
 obtain rfl := Option.some.inj H
 go_enter Tryz.func87,Tryz.ntmps87
 go_wp2_with (first | ((with_reducible refine y17 (f := 88) rfl ?_); refine y19 (some 4) rfl rfl Tryz.func88 (by kernel_rfl) rfl #[.string a0] rfl (by (try simp only [qM_,List.map_cons,List.map_nil]); first | done | rfl | (simp only [qD_,qT_]; rfl)) ?_; (with_reducible refine (impl_kindOf.calls k a0 t273 _ ?side1 A2.out).mono ?_); (case side1 => exact Tb.below HT.out (by repeat (first | (with_reducible first | exact HB.out | apply y3 | apply y23 | apply y4) | exact HB.out))); rintro e w3 ⟨rfl,hb⟩; refine ⟨_,rfl, ?_⟩; have n0_ := y0.mk (y7 (by repeat (first | (with_reducible first | exact HB.out | apply y3 | apply y23 | apply y4) | exact HB.out)) hb); clear HB; have HB := n0_; clear n0_; (try clear hb); (try clear hb2); (try clear hk); (try clear hi)))
 go_ret
 exact ⟨by first | rfl | (simp [y15,y16] <;> rfl) | (simp [*,y15,y16] <;> rfl),by repeat (first | (with_reducible first | exact HB.out | apply y3 | apply y23 | apply y4) | exact HB.out)⟩
def z4_.l0 : Nat → List ByteArray → Int → Int → Option (Int)
 | 0,_,_,_ => none
 | k + 1,x0,x7,x8 => if x8 < x7 then (if 0 ≤ x8 then (if x8 < (x0.length : Int) then ((impl_isTuple_1.f k (rdOf ByteArray.empty x0 x8)).bind fun t275 => (if t275 = true then (some x8) else (z4_.l0 k x0 x7 (wrap64 (x8 + 1))))) else (none)) else (none)) else (some (-1))
def z4_.f (k : Nat) (l0 : List ByteArray)  : Option (Int) := z4_.l0 k l0 (l0.length : Int) 0
set_option maxHeartbeats 8000000 in
set_option maxRecDepth 100000 in
theorem z4_.calls (k : Nat) (A0 : Option Addr) (c0 : Nat) (l0 : List ByteArray)  (r : Int) (w : World) (hr0 : Kd.C Kd.string w A0 l0.length l0) (hc0 : l0.length ≤ c0) (hT : Tb w) (h : z4_.f k l0 = some r) :
  Calls Tryz.prog 102 #[.slice A0 l0.length c0,.func (.func 87) #[] #[]] w fun e w' => e = .returned (.int .i64 r) ∧ Below w.heap.size w w' := by
 have HT := y0.mk hT
 clear hT
 have HR0 := y0.mk hr0
 have HC0 := y0.mk hc0
 clear hr0 hc0
 have HB := y0.mk (Below.refl w.heap.size w)
 have H : (z4_.l0 k l0 (l0.length : Int) 0) = some r := h
 clear h
 have H' := y0.mk H
 clear H
 go_enter Tryz.func102,Tryz.ntmps102
 go_wp2
 go_loopg [8] k (fun kq v8 w' => ∃ (x8_1 : Int),v8 = .int .i64 x8_1 ∧ y0 (z4_.l0 kq l0 (l0.length : Int) x8_1 = some r) ∧ y0 (kq ≤ k) ∧ y0 (Below w.heap.size w w'))
 case atStart => exact ⟨(0),(by first | rfl | (simp; done) | (simp [*]; done)),H',⟨Nat.le_refl _⟩,⟨by repeat (first | (with_reducible first | exact HB.out | apply y3 | apply y23 | apply y4) | exact HB.out)⟩⟩
 case round =>
  clear H'
  try clear c1
  try clear p2
  obtain ⟨x8_1,rfl,HA,HK1,HB⟩ := hrel
  cases gk with
  | zero => exact absurd HA.out (by simp [z4_.l0])
  | succ k1 =>
   have H := HA.out
   clear HA
   simp only [z4_.l0] at H
   by_cases c3 : x8_1 < (l0.length : Int)
   ·rw [if_pos c3] at H
    have c3b0 : decide (x8_1 < (l0.length : Int)) = true := decide_eq_true c3
    clear c3
    by_cases c4 : 0 ≤ x8_1
    ·rw [if_pos c4] at H
     have c4b0 : decide (0 ≤ x8_1) = true := decide_eq_true c4
     clear c4
     by_cases c5 : x8_1 < (l0.length : Int)
     ·rw [if_pos c5] at H
      have c5b0 : decide (x8_1 < (l0.length : Int)) = true := decide_eq_true c5
      clear c5
      replace H := Option.bind_eq_some_iff.mp H
      obtain ⟨t275,A60,H⟩ := H
      replace H : (if t275 = true then (some x8_1) else (z4_.l0 k1 l0 (l0.length : Int) (wrap64 (x8_1 + 1)))) = some r := H
      have A6 := y0.mk A60
      clear A60
      by_cases c7 : t275 = true
      ·subst c7
       have H1 : (some x8_1) = some r := by rw [if_pos rfl] at H; exact H
       clear H
       have H := H1
       clear H1
       obtain rfl := Option.some.inj H
       have p274 : 0 ≤ (x8_1 : Int) := of_decide_eq_true (by first | (with_reducible assumption) | assumption)
       have q274 : x8_1 < (l0.length : Int) := of_decide_eq_true (by first | (with_reducible assumption) | assumption)
       obtain ⟨ad274,e274,hx274_0⟩ := Kd.at_string HR0.out x8_1 p274 q274
       cases e274
       replace hx274_0 := (HB.out.cell (World.block_lt_of_cell? w _ hx274_0)).trans hx274_0
       replace p274 := eq_true p274
       replace q274 := eq_true q274
       go_wp2_with (first | (go_at_call 87; (with_reducible refine (impl_isTuple_1.calls k1 (rdOf ByteArray.empty l0 x8_1) true _ ?side1 A6.out).mono ?_); (case side1 => exact Tb.below HT.out (by repeat (first | (with_reducible first | exact HB.out | apply y3 | apply y23 | apply y4) | exact HB.out))); rintro e w8 ⟨rfl,hb⟩; have n0_ := y0.mk (y7 (by repeat (first | (with_reducible first | exact HB.out | apply y3 | apply y23 | apply y4) | exact HB.out)) hb); clear HB; have HB := n0_; clear n0_; (try clear hb); (try clear hb2); (try clear hk); (try clear hi)))
       go_ret
       exact ⟨by first | rfl | (simp [y15,y16] <;> rfl) | (simp [*,y15,y16] <;> rfl),by repeat (first | (with_reducible first | exact HB.out | apply y3 | apply y23 | apply y4) | exact HB.out)⟩
      ·replace c7 := Bool.eq_false_iff.mpr c7
       subst c7
       have H1 : (z4_.l0 k1 l0 (l0.length : Int) (wrap64 (x8_1 + 1))) = some r := by rw [if_neg (show ¬ (false = true) by decide)] at H; exact H
       clear H
       have H := H1
       clear H1
       have H' := y0.mk H
       clear H
       have p274 : 0 ≤ (x8_1 : Int) := of_decide_eq_true (by first | (with_reducible assumption) | assumption)
       have q274 : x8_1 < (l0.length : Int) := of_decide_eq_true (by first | (with_reducible assumption) | assumption)
       obtain ⟨ad274,e274,hx274_0⟩ := Kd.at_string HR0.out x8_1 p274 q274
       cases e274
       replace hx274_0 := (HB.out.cell (World.block_lt_of_cell? w _ hx274_0)).trans hx274_0
       replace p274 := eq_true p274
       replace q274 := eq_true q274
       go_wp2_with (first | (go_at_call 87; (with_reducible refine (impl_isTuple_1.calls k1 (rdOf ByteArray.empty l0 x8_1) false _ ?side1 A6.out).mono ?_); (case side1 => exact Tb.below HT.out (by repeat (first | (with_reducible first | exact HB.out | apply y3 | apply y23 | apply y4) | exact HB.out))); rintro e w9 ⟨rfl,hb⟩; have n0_ := y0.mk (y7 (by repeat (first | (with_reducible first | exact HB.out | apply y3 | apply y23 | apply y4) | exact HB.out)) hb); clear HB; have HB := n0_; clear n0_; (try clear hb); (try clear hb2); (try clear hk); (try clear hi)))
       go_roundg k1
       case measure => have := HK1.out; omega
       case rel => exact ⟨(wrap64 (x8_1 + 1)),(by first | rfl | (simp; done) | (simp [*]; done)),H',⟨by have := HK1.out; omega⟩,⟨by repeat (first | (with_reducible first | exact HB.out | apply y3 | apply y23 | apply y4) | exact HB.out)⟩⟩
     ·rw [if_neg c5] at H
      exact absurd H (by simp)
    ·rw [if_neg c4] at H
     exact absurd H (by simp)
   ·rw [if_neg c3] at H
    have c3b0 : decide (x8_1 < (l0.length : Int)) = false := decide_eq_false c3
    clear c3
    obtain rfl := Option.some.inj H
    go_wp2
    go_ret
    exact ⟨by first | rfl | (simp [y15,y16] <;> rfl) | (simp [*,y15,y16] <;> rfl),by repeat (first | (with_reducible first | exact HB.out | apply y3 | apply y23 | apply y4) | exact HB.out)⟩
def slices_ContainsFunc_string_string_impl_isTuple_1.f (k : Nat) (l0 : List ByteArray)  : Option (Bool) := (z4_.f k l0).bind fun t276 => (some (decide (t276 ≥ 0)))
set_option maxHeartbeats 8000000 in
set_option maxRecDepth 100000 in
theorem slices_ContainsFunc_string_string_impl_isTuple_1.calls (k : Nat) (A0 : Option Addr) (c0 : Nat) (l0 : List ByteArray)  (r : Bool) (w : World) (hr0 : Kd.C Kd.string w A0 l0.length l0) (hc0 : l0.length ≤ c0) (hT : Tb w) (h : slices_ContainsFunc_string_string_impl_isTuple_1.f k l0 = some r) :
  Calls Tryz.prog 86 #[.slice A0 l0.length c0,.func (.func 87) #[] #[]] w fun e w' => e = .returned (.bool r) ∧ Below w.heap.size w w' := by
 have HT := y0.mk hT
 clear hT
 have HR0 := y0.mk hr0
 have HC0 := y0.mk hc0
 clear hr0 hc0
 have HB := y0.mk (Below.refl w.heap.size w)
 have H : ((z4_.f k l0).bind fun t276 => (some (decide (t276 ≥ 0)))) = some r := h
 clear h
 replace H := Option.bind_eq_some_iff.mp H
 obtain ⟨t276,A30,H⟩ := H
 replace H : (some (decide (t276 ≥ 0))) = some r := H
 have A3 := y0.mk A30
 clear A30
 obtain rfl := Option.some.inj H
 go_enter Tryz.func86,Tryz.ntmps86
 go_wp2_with (first | ((with_reducible refine y17 (f := 102) rfl ?_); refine y19 (some 7) rfl rfl Tryz.func102 (by kernel_rfl) rfl #[.slice A0 l0.length c0,.func (.func 87) #[] #[]] rfl (by (try simp only [qM_,List.map_cons,List.map_nil]); first | done | rfl | (simp only [qD_,qT_]; rfl)) ?_; (with_reducible refine (z4_.calls k _ _ l0  t276 _ ?side1 ?side2 ?side3 A3.out).mono ?_); (case side1 => repeat (first | exact HR0.out | (with_reducible refine Kd.C_alloc ?_ _) | (with_reducible refine Kd.C_drewN ?_ _) | (with_reducible refine Kd.C_drew ?_))); (case side2 => exact HC0.out); (case side3 => exact Tb.below HT.out (by repeat (first | (with_reducible first | exact HB.out | apply y3 | apply y23 | apply y4) | exact HB.out))); rintro e w4 ⟨rfl,hb⟩; refine ⟨_,rfl, ?_⟩; have n0_ := y0.mk (y7 (by repeat (first | (with_reducible first | exact HB.out | apply y3 | apply y23 | apply y4) | exact HB.out)) hb); clear HB; have HB := n0_; clear n0_; (try clear hb); (try clear hb2); (try clear hk); (try clear hi)))
 go_ret
 exact ⟨by first | rfl | (simp [y15,y16] <;> rfl) | (simp [*,y15,y16] <;> rfl),by repeat (first | (with_reducible first | exact HB.out | apply y3 | apply y23 | apply y4) | exact HB.out)⟩
def impl_isTuple.f (k : Nat) (l0_0 : List ByteArray) : Option (Bool) := if (l0_0.length : Int) ≤ 6 then ((slices_ContainsFunc_string_string_impl_isTuple_1.f k l0_0).bind fun t278 => (some (!t278))) else (some false)
set_option maxHeartbeats 8000000 in
set_option maxRecDepth 100000 in
theorem impl_isTuple.calls (k : Nat) (A0_0 : Option Addr) (c0_0 : Nat) (l0_0 : List ByteArray) (r : Bool) (w : World) (hr0_0 : Kd.C Kd.string w A0_0 l0_0.length l0_0) (hc0_0 : l0_0.length ≤ c0_0) (hT : Tb w) (h : impl_isTuple.f k l0_0 = some r) :
  Calls Tryz.prog 66 #[.agg #[.slice A0_0 l0_0.length c0_0]] w fun e w' => e = .returned (.bool r) ∧ Below w.heap.size w w' := by
 have hu35 := Tryz.underlying35
 have HT := y0.mk hT
 clear hT
 have HR0_0 := y0.mk hr0_0
 have HC0_0 := y0.mk hc0_0
 clear hr0_0 hc0_0
 have HB := y0.mk (Below.refl w.heap.size w)
 have H : (if (l0_0.length : Int) ≤ 6 then ((slices_ContainsFunc_string_string_impl_isTuple_1.f k l0_0).bind fun t278 => (some (!t278))) else (some false)) = some r := h
 clear h
 by_cases c2 : (l0_0.length : Int) ≤ 6
 ·rw [if_pos c2] at H
  have c2b0 : decide ((l0_0.length : Int) ≤ 6) = true := decide_eq_true c2
  have c2b1 : decide (l0_0.length ≤ 6) = true := decide_eq_true (by omega)
  clear c2
  replace H := Option.bind_eq_some_iff.mp H
  obtain ⟨t278,A30,H⟩ := H
  replace H : (some (!t278)) = some r := H
  have A3 := y0.mk A30
  clear A30
  obtain rfl := Option.some.inj H
  go_enter Tryz.func66,Tryz.ntmps66
  go_wp2_with (first | ((with_reducible refine y18 (N := 1) rfl ?_); refine y14 ?hg (N := 1) ?hd (cs := #[.slice A0_0 l0_0.length c0_0]) (t := 35) ?hr ?_; (case hd => rfl); (case hg => rfl); (case hr => first | (go_simp; done) | (go_simp; rfl)); intro gb277 hg w4 hbox hb; have n0_ := y0.mk (y7 (by repeat (first | (with_reducible first | exact HB.out | apply y3 | apply y23 | apply y4) | exact HB.out)) hb); have n1_ := y0.mk (hbox); have n2_ := y0.mk ((by rw [hg]; exact (y6 (by repeat (first | (with_reducible first | exact HB.out | apply y3 | apply y23 | apply y4) | exact HB.out))) : w.heap.size ≤ gb277)); have n3_ := y0.mk ((by rw [hg]; exact (y6 (by repeat (first | (with_reducible first | exact HB.out | apply y3 | apply y23 | apply y4) | exact HB.out))) : w.heap.size ≤ gb277)); clear HB; have HB := n0_; have BK277 := n1_; have GW277 := n2_; have GE277 := n3_; clear n0_ n1_ n2_ n3_; clear hb hbox hg; have hcz5_0 : w4.cell? ⟨gb277,0,none⟩ = some (.slice A0_0 l0_0.length c0_0) := (y10 BK277.out 0).trans rfl; have hfz5_0 := y13 BK277.out 0) | (go_at_call 86; (with_reducible refine (slices_ContainsFunc_string_string_impl_isTuple_1.calls k _ _ l0_0  t278 _ ?side1 ?side2 ?side3 A3.out).mono ?_); (case side1 => repeat (first | exact (Kd.C_below HR0_0.out HB.out) | (with_reducible refine Kd.C_alloc ?_ _) | (with_reducible refine Kd.C_drewN ?_ _) | (with_reducible refine Kd.C_drew ?_))); (case side2 => exact HC0_0.out); (case side3 => exact Tb.below HT.out (by repeat (first | (with_reducible first | exact HB.out | apply y3 | apply y23 | apply y4 | refine y5 ?_ GE277.out) | exact HB.out))); rintro e w6 ⟨rfl,hb⟩; have n0_ := y0.mk (y9 (g := gb277) (o := .cells #[.slice A0_0 l0_0.length c0_0] 35 (0,0)) (by (with_reducible repeat (first | refine y12 ?_ _ | refine y11 ?_ | refine y8 ?_ _)); exact BK277.out) hb); have n1_ := y0.mk (y7 (by repeat (first | (with_reducible first | exact HB.out | apply y3 | apply y23 | apply y4 | refine y5 ?_ GE277.out) | exact HB.out)) hb); clear BK277; clear HB; have BK277 := n0_; have HB := n1_; clear n0_ n1_; (try clear hb); (try clear hb2); (try clear hk); (try clear hi)))
  go_ret
  exact ⟨by first | rfl | (simp [y15,y16] <;> rfl) | (simp [*,y15,y16] <;> rfl),by repeat (first | (with_reducible first | exact HB.out | apply y3 | apply y23 | apply y4 | refine y5 ?_ GE277.out) | exact HB.out)⟩
 ·rw [if_neg c2] at H
  have c2b0 : decide ((l0_0.length : Int) ≤ 6) = false := decide_eq_false c2
  have c2b1 : decide (l0_0.length ≤ 6) = false := decide_eq_false (by omega)
  clear c2
  obtain rfl := Option.some.inj H
  go_enter Tryz.func66,Tryz.ntmps66
  go_wp2_with (first | ((with_reducible refine y18 (N := 1) rfl ?_); refine y14 ?hg (N := 1) ?hd (cs := #[.slice A0_0 l0_0.length c0_0]) (t := 35) ?hr ?_; (case hd => rfl); (case hg => rfl); (case hr => first | (go_simp; done) | (go_simp; rfl)); intro gb277 hg w7 hbox hb; have n0_ := y0.mk (y7 (by repeat (first | (with_reducible first | exact HB.out | apply y3 | apply y23 | apply y4) | exact HB.out)) hb); have n1_ := y0.mk (hbox); have n2_ := y0.mk ((by rw [hg]; exact (y6 (by repeat (first | (with_reducible first | exact HB.out | apply y3 | apply y23 | apply y4) | exact HB.out))) : w.heap.size ≤ gb277)); have n3_ := y0.mk ((by rw [hg]; exact (y6 (by repeat (first | (with_reducible first | exact HB.out | apply y3 | apply y23 | apply y4) | exact HB.out))) : w.heap.size ≤ gb277)); clear HB; have HB := n0_; have BK277 := n1_; have GW277 := n2_; have GE277 := n3_; clear n0_ n1_ n2_ n3_; clear hb hbox hg; have hcz8_0 : w7.cell? ⟨gb277,0,none⟩ = some (.slice A0_0 l0_0.length c0_0) := (y10 BK277.out 0).trans rfl; have hfz8_0 := y13 BK277.out 0))
  go_ret
  exact ⟨by first | rfl | (simp [y15,y16] <;> rfl) | (simp [*,y15,y16] <;> rfl),by repeat (first | (with_reducible first | exact HB.out | apply y3 | apply y23 | apply y4 | refine y5 ?_ GE277.out) | exact HB.out)⟩
def cmp_isNaN_int.f (a0 : Int) : Option (Bool) := some (a0 != a0)
set_option maxHeartbeats 8000000 in
set_option maxRecDepth 100000 in
theorem cmp_isNaN_int.calls (a0 : Int) (r : Bool) (w : World) (h : cmp_isNaN_int.f a0 = some r) :
  Calls Tryz.prog 128 #[.int .i64 a0] w fun e w' => e = .returned (.bool r) ∧ y1 w w' := by
 have H : (some (a0 != a0)) = some r := h
 clear h
 obtain rfl := Option.some.inj H
 go_enter Tryz.func128,Tryz.ntmps128
 go_wp2
 go_ret
 exact ⟨by first | rfl | (simp; done) | (simp [*]; done),by repeat (first | exact y1.refl _ | apply y1.step)⟩
def cmp_Compare_int.f (a0 : Int) (a1 : Int) : Option (Int) := (cmp_isNaN_int.f a0).bind fun t279 => ((cmp_isNaN_int.f a1).bind fun t280 => (if t279 = true then (if t280 = true then (some 0) else (some (-1))) else (if t280 = true then (some 1) else (if a0 < a1 then (some (-1)) else (if a0 > a1 then (some 1) else (some 0))))))
set_option maxHeartbeats 8000000 in
set_option maxRecDepth 100000 in
theorem cmp_Compare_int.calls (a0 : Int) (a1 : Int) (r : Int) (w : World) (h : cmp_Compare_int.f a0 a1 = some r) :
  Calls Tryz.prog 104 #[.int .i64 a0,.int .i64 a1] w fun e w' => e = .returned (.int .i64 r) ∧ y1 w w' := by
 have H : ((cmp_isNaN_int.f a0).bind fun t279 => ((cmp_isNaN_int.f a1).bind fun t280 => (if t279 = true then (if t280 = true then (some 0) else (some (-1))) else (if t280 = true then (some 1) else (if a0 < a1 then (some (-1)) else (if a0 > a1 then (some 1) else (some 0))))))) = some r := h
 clear h
 replace H := Option.bind_eq_some_iff.mp H
 obtain ⟨t279,A30,H⟩ := H
 replace H : ((cmp_isNaN_int.f a1).bind fun t280 => (if t279 = true then (if t280 = true then (some 0) else (some (-1))) else (if t280 = true then (some 1) else (if a0 < a1 then (some (-1)) else (if a0 > a1 then (some 1) else (some 0)))))) = some r := H
 have A3 := y0.mk A30
 clear A30
 replace H := Option.bind_eq_some_iff.mp H
 obtain ⟨t280,A40,H⟩ := H
 replace H : (if t279 = true then (if t280 = true then (some 0) else (some (-1))) else (if t280 = true then (some 1) else (if a0 < a1 then (some (-1)) else (if a0 > a1 then (some 1) else (some 0))))) = some r := H
 have A4 := y0.mk A40
 clear A40
 by_cases c5 : t279 = true
 ·subst c5
  have H1 : (if t280 = true then (some 0) else (some (-1))) = some r := by rw [if_pos rfl] at H; exact H
  clear H
  have H := H1
  clear H1
  by_cases c6 : t280 = true
  ·subst c6
   have H1 : (some 0) = some r := by rw [if_pos rfl] at H; exact H
   clear H
   have H := H1
   clear H1
   obtain rfl := Option.some.inj H
   go_enter Tryz.func104,Tryz.ntmps104
   go_wp2_with (first | ((with_reducible refine y17 (f := 128) rfl ?_); refine y19 (some 8) rfl rfl Tryz.func128 (by kernel_rfl) rfl #[.int .i64 a0] rfl (by (try simp only [qM_,List.map_cons,List.map_nil]); first | done | rfl | (simp only [qD_,qT_]; rfl)) ?_; (with_reducible refine (cmp_isNaN_int.calls a0 true _ A3.out).mono ?_); rintro e w' ⟨rfl,⟨nd,rfl⟩⟩; refine ⟨_,rfl, ?_⟩) | ((with_reducible refine y17 (f := 128) rfl ?_); refine y19 (some 10) rfl rfl Tryz.func128 (by kernel_rfl) rfl #[.int .i64 a1] rfl (by (try simp only [qM_,List.map_cons,List.map_nil]); first | done | rfl | (simp only [qD_,qT_]; rfl)) ?_; (with_reducible refine (cmp_isNaN_int.calls a1 true _ A4.out).mono ?_); rintro e w' ⟨rfl,⟨nd,rfl⟩⟩; refine ⟨_,rfl, ?_⟩))
   go_ret
   exact ⟨by first | rfl | (simp; done) | (simp [*]; done),by repeat (first | exact y1.refl _ | apply y1.step)⟩
  ·replace c6 := Bool.eq_false_iff.mpr c6
   subst c6
   have H1 : (some (-1)) = some r := by rw [if_neg (show ¬ (false = true) by decide)] at H; exact H
   clear H
   have H := H1
   clear H1
   obtain rfl := Option.some.inj H
   go_enter Tryz.func104,Tryz.ntmps104
   go_wp2_with (first | ((with_reducible refine y17 (f := 128) rfl ?_); refine y19 (some 8) rfl rfl Tryz.func128 (by kernel_rfl) rfl #[.int .i64 a0] rfl (by (try simp only [qM_,List.map_cons,List.map_nil]); first | done | rfl | (simp only [qD_,qT_]; rfl)) ?_; (with_reducible refine (cmp_isNaN_int.calls a0 true _ A3.out).mono ?_); rintro e w' ⟨rfl,⟨nd,rfl⟩⟩; refine ⟨_,rfl, ?_⟩) | ((with_reducible refine y17 (f := 128) rfl ?_); refine y19 (some 10) rfl rfl Tryz.func128 (by kernel_rfl) rfl #[.int .i64 a1] rfl (by (try simp only [qM_,List.map_cons,List.map_nil]); first | done | rfl | (simp only [qD_,qT_]; rfl)) ?_; (with_reducible refine (cmp_isNaN_int.calls a1 false _ A4.out).mono ?_); rintro e w' ⟨rfl,⟨nd,rfl⟩⟩; refine ⟨_,rfl, ?_⟩))
   go_ret
   exact ⟨by first | rfl | (simp; done) | (simp [*]; done),by repeat (first | exact y1.refl _ | apply y1.step)⟩
 ·replace c5 := Bool.eq_false_iff.mpr c5
  subst c5
  have H1 : (if t280 = true then (some 1) else (if a0 < a1 then (some (-1)) else (if a0 > a1 then (some 1) else (some 0)))) = some r := by rw [if_neg (show ¬ (false = true) by decide)] at H; exact H
  clear H
  have H := H1
  clear H1
  by_cases c7 : t280 = true
  ·subst c7
   have H1 : (some 1) = some r := by rw [if_pos rfl] at H; exact H
   clear H
   have H := H1
   clear H1
   obtain rfl := Option.some.inj H
   go_enter Tryz.func104,Tryz.ntmps104
   go_wp2_with (first | ((with_reducible refine y17 (f := 128) rfl ?_); refine y19 (some 8) rfl rfl Tryz.func128 (by kernel_rfl) rfl #[.int .i64 a0] rfl (by (try simp only [qM_,List.map_cons,List.map_nil]); first | done | rfl | (simp only [qD_,qT_]; rfl)) ?_; (with_reducible refine (cmp_isNaN_int.calls a0 false _ A3.out).mono ?_); rintro e w' ⟨rfl,⟨nd,rfl⟩⟩; refine ⟨_,rfl, ?_⟩) | ((with_reducible refine y17 (f := 128) rfl ?_); refine y19 (some 10) rfl rfl Tryz.func128 (by kernel_rfl) rfl #[.int .i64 a1] rfl (by (try simp only [qM_,List.map_cons,List.map_nil]); first | done | rfl | (simp only [qD_,qT_]; rfl)) ?_; (with_reducible refine (cmp_isNaN_int.calls a1 true _ A4.out).mono ?_); rintro e w' ⟨rfl,⟨nd,rfl⟩⟩; refine ⟨_,rfl, ?_⟩))
   go_ret
   exact ⟨by first | rfl | (simp; done) | (simp [*]; done),by repeat (first | exact y1.refl _ | apply y1.step)⟩
  ·replace c7 := Bool.eq_false_iff.mpr c7
   subst c7
   have H1 : (if a0 < a1 then (some (-1)) else (if a0 > a1 then (some 1) else (some 0))) = some r := by rw [if_neg (show ¬ (false = true) by decide)] at H; exact H
   clear H
   have H := H1
   clear H1
   by_cases c8 : a0 < a1
   ·rw [if_pos c8] at H
    have c8b0 : decide (a0 < a1) = true := decide_eq_true c8
    clear c8
    obtain rfl := Option.some.inj H
    go_enter Tryz.func104,Tryz.ntmps104
    go_wp2_with (first | ((with_reducible refine y17 (f := 128) rfl ?_); refine y19 (some 8) rfl rfl Tryz.func128 (by kernel_rfl) rfl #[.int .i64 a0] rfl (by (try simp only [qM_,List.map_cons,List.map_nil]); first | done | rfl | (simp only [qD_,qT_]; rfl)) ?_; (with_reducible refine (cmp_isNaN_int.calls a0 false _ A3.out).mono ?_); rintro e w' ⟨rfl,⟨nd,rfl⟩⟩; refine ⟨_,rfl, ?_⟩) | ((with_reducible refine y17 (f := 128) rfl ?_); refine y19 (some 10) rfl rfl Tryz.func128 (by kernel_rfl) rfl #[.int .i64 a1] rfl (by (try simp only [qM_,List.map_cons,List.map_nil]); first | done | rfl | (simp only [qD_,qT_]; rfl)) ?_; (with_reducible refine (cmp_isNaN_int.calls a1 false _ A4.out).mono ?_); rintro e w' ⟨rfl,⟨nd,rfl⟩⟩; refine ⟨_,rfl, ?_⟩))
    go_ret
    exact ⟨by first | rfl | (simp; done) | (simp [*]; done),by repeat (first | exact y1.refl _ | apply y1.step)⟩
   ·rw [if_neg c8] at H
    have c8b0 : decide (a0 < a1) = false := decide_eq_false c8
    clear c8
    by_cases c9 : a0 > a1
    ·rw [if_pos c9] at H
     have c9b0 : decide (a1 < a0) = true := decide_eq_true c9
     clear c9
     obtain rfl := Option.some.inj H
     go_enter Tryz.func104,Tryz.ntmps104
     go_wp2_with (first | ((with_reducible refine y17 (f := 128) rfl ?_); refine y19 (some 8) rfl rfl Tryz.func128 (by kernel_rfl) rfl #[.int .i64 a0] rfl (by (try simp only [qM_,List.map_cons,List.map_nil]); first | done | rfl | (simp only [qD_,qT_]; rfl)) ?_; (with_reducible refine (cmp_isNaN_int.calls a0 false _ A3.out).mono ?_); rintro e w' ⟨rfl,⟨nd,rfl⟩⟩; refine ⟨_,rfl, ?_⟩) | ((with_reducible refine y17 (f := 128) rfl ?_); refine y19 (some 10) rfl rfl Tryz.func128 (by kernel_rfl) rfl #[.int .i64 a1] rfl (by (try simp only [qM_,List.map_cons,List.map_nil]); first | done | rfl | (simp only [qD_,qT_]; rfl)) ?_; (with_reducible refine (cmp_isNaN_int.calls a1 false _ A4.out).mono ?_); rintro e w' ⟨rfl,⟨nd,rfl⟩⟩; refine ⟨_,rfl, ?_⟩))
     go_ret
     exact ⟨by first | rfl | (simp; done) | (simp [*]; done),by repeat (first | exact y1.refl _ | apply y1.step)⟩
    ·rw [if_neg c9] at H
     have c9b0 : decide (a1 < a0) = false := decide_eq_false c9
     clear c9
     obtain rfl := Option.some.inj H
     go_enter Tryz.func104,Tryz.ntmps104
     go_wp2_with (first | ((with_reducible refine y17 (f := 128) rfl ?_); refine y19 (some 8) rfl rfl Tryz.func128 (by kernel_rfl) rfl #[.int .i64 a0] rfl (by (try simp only [qM_,List.map_cons,List.map_nil]); first | done | rfl | (simp only [qD_,qT_]; rfl)) ?_; (with_reducible refine (cmp_isNaN_int.calls a0 false _ A3.out).mono ?_); rintro e w' ⟨rfl,⟨nd,rfl⟩⟩; refine ⟨_,rfl, ?_⟩) | ((with_reducible refine y17 (f := 128) rfl ?_); refine y19 (some 10) rfl rfl Tryz.func128 (by kernel_rfl) rfl #[.int .i64 a1] rfl (by (try simp only [qM_,List.map_cons,List.map_nil]); first | done | rfl | (simp only [qD_,qT_]; rfl)) ?_; (with_reducible refine (cmp_isNaN_int.calls a1 false _ A4.out).mono ?_); rintro e w' ⟨rfl,⟨nd,rfl⟩⟩; refine ⟨_,rfl, ?_⟩))
     go_ret
     exact ⟨by first | rfl | (simp; done) | (simp [*]; done),by repeat (first | exact y1.refl _ | apply y1.step)⟩
def impl_numOf.f (a0 : ByteArray) : Option (Int) := (strconv_Atoi.f a0).bind fun bt281 => (some bt281.1)
set_option maxHeartbeats 8000000 in
set_option maxRecDepth 100000 in
theorem impl_numOf.calls (a0 : ByteArray) (r : Int) (w : World) (hT : Tb w) (h : impl_numOf.f a0 = some r) :
  Calls Tryz.prog 105 #[.string a0] w fun e w' => e = .returned (.int .i64 r) ∧ Below w.heap.size w w' := by
 have HT := y0.mk hT
 clear hT
 have HB := y0.mk (Below.refl w.heap.size w)
 have H : ((strconv_Atoi.f a0).bind fun bt281 => (some bt281.1)) = some r := h
 clear h
 replace H := Option.bind_eq_some_iff.mp H
 obtain ⟨⟨t281,t282⟩,A20,H⟩ := H
 replace H : (some t281) = some r := H
 have A2 := y0.mk A20
 clear A20
 obtain rfl := Option.some.inj H
 go_enter Tryz.func105,Tryz.ntmps105
 go_wp2_with (first | ((with_reducible refine y17 (f := 125) rfl ?_); refine y19 (some 7) rfl rfl Tryz.func125 (by kernel_rfl) rfl #[.string a0] rfl (by (try simp only [qM_,List.map_cons,List.map_nil]); first | done | rfl | (simp only [qD_,qT_]; rfl)) ?_; (with_reducible refine (strconv_Atoi.calls a0 t281 t282 _ ?side1 A2.out).mono ?_); (case side1 => exact Tb.below HT.out (by repeat (first | (with_reducible first | exact HB.out | apply y3 | apply y23 | apply y4) | exact HB.out))); rintro e w3 ⟨ev_,rfl,hev_,hb⟩; refine ⟨_,rfl, ?_⟩; have n0_ := y0.mk (y7 (by repeat (first | (with_reducible first | exact HB.out | apply y3 | apply y23 | apply y4) | exact HB.out)) hb); clear HB; have HB := n0_; clear n0_; (try clear hb); (try clear hb2); (try clear hk); (try clear hi); (try simp only [y15,y16])))
 go_ret
 exact ⟨by first | rfl | (simp [y15,y16] <;> rfl) | (simp [*,y15,y16] <;> rfl),by repeat (first | (with_reducible first | exact HB.out | apply y3 | apply y23 | apply y4) | exact HB.out)⟩
def cmp_isNaN_string.f (a0 : ByteArray) : Option (Bool) := some (a0.toList != a0.toList)
set_option maxHeartbeats 8000000 in
set_option maxRecDepth 100000 in
theorem cmp_isNaN_string.calls (a0 : ByteArray) (r : Bool) (w : World) (h : cmp_isNaN_string.f a0 = some r) :
  Calls Tryz.prog 129 #[.string a0] w fun e w' => e = .returned (.bool r) ∧ y1 w w' := by
 have H : (some (a0.toList != a0.toList)) = some r := h
 clear h
 obtain rfl := Option.some.inj H
 go_enter Tryz.func129,Tryz.ntmps129
 go_wp2
 go_ret
 exact ⟨by first | rfl | (simp; done) | (simp [*]; done),by repeat (first | exact y1.refl _ | apply y1.step)⟩
def cmp_Compare_string.f (a0 : ByteArray) (a1 : ByteArray) : Option (Int) := (cmp_isNaN_string.f a0).bind fun t283 => ((cmp_isNaN_string.f a1).bind fun t284 => (if t283 = true then (if t284 = true then (some 0) else (some (-1))) else (if t284 = true then (some 1) else (if (Op.bytesLess a0.toList a1.toList) = true then (some (-1)) else (if (Op.bytesLess a1.toList a0.toList) = true then (some 1) else (some 0))))))
theorem cmp_Compare_string.bl : ∀ x y : List UInt8,(!(Op.bytesLess x y || x == y)) = Op.bytesLess y x
 | [],[] => rfl
 | [],b :: y => rfl
 | a :: x,[] => rfl
 | a :: x,b :: y => by
  have ih := cmp_Compare_string.bl x y
  have e1 : (decide (a < b)) = (decide (a.toNat < b.toNat)) := rfl
  have e2 : (decide (b < a)) = (decide (b.toNat < a.toNat)) := rfl
  rw [Op.bytesLess,Op.bytesLess,e1,e2,← ih]
  by_cases h : a = b
  ·subst h
   simp
  ·have hn : a.toNat ≠ b.toNat := fun h' => h (UInt8.toNat_inj.1 h')
   have h1 : (a == b) = false := by simpa using h
   have h2 : (b == a) = false := by simpa using fun h' => h (Eq.symm h')
   have h3 : ((a :: x) == (b :: y)) = false := by simp [h]
   rw [h1,h2,h3]
   by_cases hl : a.toNat < b.toNat
   ·have : ¬ b.toNat < a.toNat := by omega
    simp [hl,this]
   ·have : b.toNat < a.toNat := by omega
    simp [hl,this]
theorem cmp_Compare_string.gtr (t : TypeId) (a b : ByteArray) : binOp .gtr t (.string a) (.string b) = pure (.bool (Op.bytesLess b.toList a.toList)) := by
 rw [← cmp_Compare_string.bl]
 simp [binOp,Op.stringOp]
attribute [local go_sem] cmp_Compare_string.gtr
set_option maxHeartbeats 8000000 in
set_option maxRecDepth 100000 in
theorem cmp_Compare_string.calls (a0 : ByteArray) (a1 : ByteArray) (r : Int) (w : World) (h : cmp_Compare_string.f a0 a1 = some r) :
  Calls Tryz.prog 106 #[.string a0,.string a1] w fun e w' => e = .returned (.int .i64 r) ∧ y1 w w' := by
 have H : ((cmp_isNaN_string.f a0).bind fun t283 => ((cmp_isNaN_string.f a1).bind fun t284 => (if t283 = true then (if t284 = true then (some 0) else (some (-1))) else (if t284 = true then (some 1) else (if (Op.bytesLess a0.toList a1.toList) = true then (some (-1)) else (if (Op.bytesLess a1.toList a0.toList) = true then (some 1) else (some 0))))))) = some r := h
 clear h
 replace H := Option.bind_eq_some_iff.mp H
 obtain ⟨t283,A30,H⟩ := H
 replace H : ((cmp_isNaN_string.f a1).bind fun t284 => (if t283 = true then (if t284 = true then (some 0) else (some (-1))) else (if t284 = true then (some 1) else (if (Op.bytesLess a0.toList a1.toList) = true then (some (-1)) else (if (Op.bytesLess a1.toList a0.toList) = true then (some 1) else (some 0)))))) = some r := H
 have A3 := y0.mk A30
 clear A30
 replace H := Option.bind_eq_some_iff.mp H
 obtain ⟨t284,A40,H⟩ := H
 replace H : (if t283 = true then (if t284 = true then (some 0) else (some (-1))) else (if t284 = true then (some 1) else (if (Op.bytesLess a0.toList a1.toList) = true then (some (-1)) else (if (Op.bytesLess a1.toList a0.toList) = true then (some 1) else (some 0))))) = some r := H
 have A4 := y0.mk A40
 clear A40
 by_cases c5 : t283 = true
 ·subst c5
  have H1 : (if t284 = true then (some 0) else (some (-1))) = some r := by rw [if_pos rfl] at H; exact H
  clear H
  have H := H1
  clear H1
  by_cases c6 : t284 = true
  ·subst c6
   have H1 : (some 0) = some r := by rw [if_pos rfl] at H; exact H
   clear H
   have H := H1
   clear H1
   obtain rfl := Option.some.inj H
   go_enter Tryz.func106,Tryz.ntmps106
   go_wp2_with (first | ((with_reducible refine y17 (f := 129) rfl ?_); refine y19 (some 8) rfl rfl Tryz.func129 (by kernel_rfl) rfl #[.string a0] rfl (by (try simp only [qM_,List.map_cons,List.map_nil]); first | done | rfl | (simp only [qD_,qT_]; rfl)) ?_; (with_reducible refine (cmp_isNaN_string.calls a0 true _ A3.out).mono ?_); rintro e w' ⟨rfl,⟨nd,rfl⟩⟩; refine ⟨_,rfl, ?_⟩) | ((with_reducible refine y17 (f := 129) rfl ?_); refine y19 (some 10) rfl rfl Tryz.func129 (by kernel_rfl) rfl #[.string a1] rfl (by (try simp only [qM_,List.map_cons,List.map_nil]); first | done | rfl | (simp only [qD_,qT_]; rfl)) ?_; (with_reducible refine (cmp_isNaN_string.calls a1 true _ A4.out).mono ?_); rintro e w' ⟨rfl,⟨nd,rfl⟩⟩; refine ⟨_,rfl, ?_⟩))
   go_ret
   exact ⟨by first | rfl | (simp; done) | (simp [*]; done),by repeat (first | exact y1.refl _ | apply y1.step)⟩
  ·replace c6 := Bool.eq_false_iff.mpr c6
   subst c6
   have H1 : (some (-1)) = some r := by rw [if_neg (show ¬ (false = true) by decide)] at H; exact H
   clear H
   have H := H1
   clear H1
   obtain rfl := Option.some.inj H
   go_enter Tryz.func106,Tryz.ntmps106
   go_wp2_with (first | ((with_reducible refine y17 (f := 129) rfl ?_); refine y19 (some 8) rfl rfl Tryz.func129 (by kernel_rfl) rfl #[.string a0] rfl (by (try simp only [qM_,List.map_cons,List.map_nil]); first | done | rfl | (simp only [qD_,qT_]; rfl)) ?_; (with_reducible refine (cmp_isNaN_string.calls a0 true _ A3.out).mono ?_); rintro e w' ⟨rfl,⟨nd,rfl⟩⟩; refine ⟨_,rfl, ?_⟩) | ((with_reducible refine y17 (f := 129) rfl ?_); refine y19 (some 10) rfl rfl Tryz.func129 (by kernel_rfl) rfl #[.string a1] rfl (by (try simp only [qM_,List.map_cons,List.map_nil]); first | done | rfl | (simp only [qD_,qT_]; rfl)) ?_; (with_reducible refine (cmp_isNaN_string.calls a1 false _ A4.out).mono ?_); rintro e w' ⟨rfl,⟨nd,rfl⟩⟩; refine ⟨_,rfl, ?_⟩))
   go_ret
   exact ⟨by first | rfl | (simp; done) | (simp [*]; done),by repeat (first | exact y1.refl _ | apply y1.step)⟩
 ·replace c5 := Bool.eq_false_iff.mpr c5
  subst c5
  have H1 : (if t284 = true then (some 1) else (if (Op.bytesLess a0.toList a1.toList) = true then (some (-1)) else (if (Op.bytesLess a1.toList a0.toList) = true then (some 1) else (some 0)))) = some r := by rw [if_neg (show ¬ (false = true) by decide)] at H; exact H
  clear H
  have H := H1
  clear H1
  by_cases c7 : t284 = true
  ·subst c7
   have H1 : (some 1) = some r := by rw [if_pos rfl] at H; exact H
   clear H
   have H := H1
   clear H1
   obtain rfl := Option.some.inj H
   go_enter Tryz.func106,Tryz.ntmps106
   go_wp2_with (first | ((with_reducible refine y17 (f := 129) rfl ?_); refine y19 (some 8) rfl rfl Tryz.func129 (by kernel_rfl) rfl #[.string a0] rfl (by (try simp only [qM_,List.map_cons,List.map_nil]); first | done | rfl | (simp only [qD_,qT_]; rfl)) ?_; (with_reducible refine (cmp_isNaN_string.calls a0 false _ A3.out).mono ?_); rintro e w' ⟨rfl,⟨nd,rfl⟩⟩; refine ⟨_,rfl, ?_⟩) | ((with_reducible refine y17 (f := 129) rfl ?_); refine y19 (some 10) rfl rfl Tryz.func129 (by kernel_rfl) rfl #[.string a1] rfl (by (try simp only [qM_,List.map_cons,List.map_nil]); first | done | rfl | (simp only [qD_,qT_]; rfl)) ?_; (with_reducible refine (cmp_isNaN_string.calls a1 true _ A4.out).mono ?_); rintro e w' ⟨rfl,⟨nd,rfl⟩⟩; refine ⟨_,rfl, ?_⟩))
   go_ret
   exact ⟨by first | rfl | (simp; done) | (simp [*]; done),by repeat (first | exact y1.refl _ | apply y1.step)⟩
  ·replace c7 := Bool.eq_false_iff.mpr c7
   subst c7
   have H1 : (if (Op.bytesLess a0.toList a1.toList) = true then (some (-1)) else (if (Op.bytesLess a1.toList a0.toList) = true then (some 1) else (some 0))) = some r := by rw [if_neg (show ¬ (false = true) by decide)] at H; exact H
   clear H
   have H := H1
   clear H1
   by_cases c8 : (Op.bytesLess a0.toList a1.toList) = true
   ·rw [if_pos c8] at H
    have c8b0 : (Op.bytesLess a0.toList a1.toList) = true := c8
    clear c8
    obtain rfl := Option.some.inj H
    go_enter Tryz.func106,Tryz.ntmps106
    go_wp2_with (first | ((with_reducible refine y17 (f := 129) rfl ?_); refine y19 (some 8) rfl rfl Tryz.func129 (by kernel_rfl) rfl #[.string a0] rfl (by (try simp only [qM_,List.map_cons,List.map_nil]); first | done | rfl | (simp only [qD_,qT_]; rfl)) ?_; (with_reducible refine (cmp_isNaN_string.calls a0 false _ A3.out).mono ?_); rintro e w' ⟨rfl,⟨nd,rfl⟩⟩; refine ⟨_,rfl, ?_⟩) | ((with_reducible refine y17 (f := 129) rfl ?_); refine y19 (some 10) rfl rfl Tryz.func129 (by kernel_rfl) rfl #[.string a1] rfl (by (try simp only [qM_,List.map_cons,List.map_nil]); first | done | rfl | (simp only [qD_,qT_]; rfl)) ?_; (with_reducible refine (cmp_isNaN_string.calls a1 false _ A4.out).mono ?_); rintro e w' ⟨rfl,⟨nd,rfl⟩⟩; refine ⟨_,rfl, ?_⟩))
    go_ret
    exact ⟨by first | rfl | (simp; done) | (simp [*]; done),by repeat (first | exact y1.refl _ | apply y1.step)⟩
   ·rw [if_neg c8] at H
    have c8b0 : (Op.bytesLess a0.toList a1.toList) = false := by simpa using c8
    clear c8
    by_cases c9 : (Op.bytesLess a1.toList a0.toList) = true
    ·rw [if_pos c9] at H
     have c9b0 : (Op.bytesLess a1.toList a0.toList) = true := c9
     clear c9
     obtain rfl := Option.some.inj H
     go_enter Tryz.func106,Tryz.ntmps106
     go_wp2_with (first | ((with_reducible refine y17 (f := 129) rfl ?_); refine y19 (some 8) rfl rfl Tryz.func129 (by kernel_rfl) rfl #[.string a0] rfl (by (try simp only [qM_,List.map_cons,List.map_nil]); first | done | rfl | (simp only [qD_,qT_]; rfl)) ?_; (with_reducible refine (cmp_isNaN_string.calls a0 false _ A3.out).mono ?_); rintro e w' ⟨rfl,⟨nd,rfl⟩⟩; refine ⟨_,rfl, ?_⟩) | ((with_reducible refine y17 (f := 129) rfl ?_); refine y19 (some 10) rfl rfl Tryz.func129 (by kernel_rfl) rfl #[.string a1] rfl (by (try simp only [qM_,List.map_cons,List.map_nil]); first | done | rfl | (simp only [qD_,qT_]; rfl)) ?_; (with_reducible refine (cmp_isNaN_string.calls a1 false _ A4.out).mono ?_); rintro e w' ⟨rfl,⟨nd,rfl⟩⟩; refine ⟨_,rfl, ?_⟩))
     go_ret
     exact ⟨by first | rfl | (simp; done) | (simp [*]; done),by repeat (first | exact y1.refl _ | apply y1.step)⟩
    ·rw [if_neg c9] at H
     have c9b0 : (Op.bytesLess a1.toList a0.toList) = false := by simpa using c9
     clear c9
     obtain rfl := Option.some.inj H
     go_enter Tryz.func106,Tryz.ntmps106
     go_wp2_with (first | ((with_reducible refine y17 (f := 129) rfl ?_); refine y19 (some 8) rfl rfl Tryz.func129 (by kernel_rfl) rfl #[.string a0] rfl (by (try simp only [qM_,List.map_cons,List.map_nil]); first | done | rfl | (simp only [qD_,qT_]; rfl)) ?_; (with_reducible refine (cmp_isNaN_string.calls a0 false _ A3.out).mono ?_); rintro e w' ⟨rfl,⟨nd,rfl⟩⟩; refine ⟨_,rfl, ?_⟩) | ((with_reducible refine y17 (f := 129) rfl ?_); refine y19 (some 10) rfl rfl Tryz.func129 (by kernel_rfl) rfl #[.string a1] rfl (by (try simp only [qM_,List.map_cons,List.map_nil]); first | done | rfl | (simp only [qD_,qT_]; rfl)) ?_; (with_reducible refine (cmp_isNaN_string.calls a1 false _ A4.out).mono ?_); rintro e w' ⟨rfl,⟨nd,rfl⟩⟩; refine ⟨_,rfl, ?_⟩))
     go_ret
     exact ⟨by first | rfl | (simp; done) | (simp [*]; done),by repeat (first | exact y1.refl _ | apply y1.step)⟩
def strings_Cut.f (a0 a1 : ByteArray) : Option (ByteArray × ByteArray × Bool) := if a0.size < 4294967281 then some (⟨(Lib.cut a0.data.toList a1.data.toList).1.toArray⟩,⟨(Lib.cut a0.data.toList a1.data.toList).2.1.toArray⟩,(Lib.cut a0.data.toList a1.data.toList).2.2) else none
theorem strings_Cut.calls (a0 a1 : ByteArray) (r1 r2 : ByteArray) (r3 : Bool) (w : World) (hT : Tb w) (h : strings_Cut.f a0 a1 = some (r1,r2,r3)) :
  Calls Tryz.prog 143 #[.string a0,.string a1] w fun e w' => e = .returned (.tuple #[.string r1,.string r2,.bool r3]) ∧ y1 w w' := by
 unfold strings_Cut.f at h
 by_cases h0 : a0.size < 4294967281
 ·rw [if_pos h0] at h
  simp only [Option.some.injEq,Prod.mk.injEq] at h
  obtain ⟨rfl,rfl,rfl⟩ := h
  obtain ⟨m,hm⟩ := hT.ml
  refine (Tryz.strings_Cut a0 a1 m w h0 hm).mono ?_
  rintro e w' ⟨rfl,n,rfl⟩
  exact ⟨rfl,⟨⟨n,rfl⟩⟩⟩
 ·rw [if_neg h0] at h
  cases h
def impl_isBigName.f (k : Nat) (a0 : ByteArray) : Option (Bool) := (impl_in.f (a0.size : Int) 1 20).bind fun t285 => (if t285 = true then ((impl_nameLong.f k a0).bind fun t286 => (if t286 = (a0.size : Int) then (if 0 < (a0.size : Int) then (some (decide ((bt a0 0) ≤ 90))) else (none)) else (some false))) else (some false))
set_option maxHeartbeats 8000000 in
set_option maxRecDepth 100000 in
theorem impl_isBigName.calls (k : Nat) (a0 : ByteArray) (r : Bool) (w : World) (h : impl_isBigName.f k a0 = some r) :
  Calls Tryz.prog 144 #[.string a0] w fun e w' => e = .returned (.bool r) ∧ y1 w w' := by
 have H : ((impl_in.f (a0.size : Int) 1 20).bind fun t285 => (if t285 = true then ((impl_nameLong.f k a0).bind fun t286 => (if t286 = (a0.size : Int) then (if 0 < (a0.size : Int) then (some (decide ((bt a0 0) ≤ 90))) else (none)) else (some false))) else (some false))) = some r := h
 clear h
 replace H := Option.bind_eq_some_iff.mp H
 obtain ⟨t285,A20,H⟩ := H
 replace H : (if t285 = true then ((impl_nameLong.f k a0).bind fun t286 => (if t286 = (a0.size : Int) then (if 0 < (a0.size : Int) then (some (decide ((bt a0 0) ≤ 90))) else (none)) else (some false))) else (some false)) = some r := H
 have A2 := y0.mk A20
 clear A20
 by_cases c3 : t285 = true
 ·subst c3
  have H1 : ((impl_nameLong.f k a0).bind fun t286 => (if t286 = (a0.size : Int) then (if 0 < (a0.size : Int) then (some (decide ((bt a0 0) ≤ 90))) else (none)) else (some false))) = some r := by rw [if_pos rfl] at H; exact H
  clear H
  have H := H1
  clear H1
  replace H := Option.bind_eq_some_iff.mp H
  obtain ⟨t286,A40,H⟩ := H
  replace H : (if t286 = (a0.size : Int) then (if 0 < (a0.size : Int) then (some (decide ((bt a0 0) ≤ 90))) else (none)) else (some false)) = some r := H
  have A4 := y0.mk A40
  clear A40
  by_cases c5 : t286 = (a0.size : Int)
  ·rw [if_pos c5] at H
   have c5b0 : (t286 == (a0.size : Int)) = true := beq_iff_eq.mpr c5
   have c5b1 : (t286 != (a0.size : Int)) = false := bne_eq_false_iff_eq.mpr c5
   clear c5
   by_cases c6 : 0 < (a0.size : Int)
   ·rw [if_pos c6] at H
    have c6b0 : decide (0 < (a0.size : Int)) = true := decide_eq_true c6
    have c6b1 : decide (0 < a0.size) = true := decide_eq_true (by omega)
    clear c6
    obtain rfl := Option.some.inj H
    go_enter Tryz.func144,Tryz.ntmps144
    go_wp2_with (first | ((with_reducible refine y17 (f := 76) rfl ?_); refine y19 (some 5) rfl rfl Tryz.func76 (by kernel_rfl) rfl #[.int .i64 (a0.size : Int),.int .i64 1,.int .i64 20] rfl (by (try simp only [qM_,List.map_cons,List.map_nil]); first | done | rfl | (simp only [qD_,qT_]; rfl)) ?_; (with_reducible refine (impl_in.calls (a0.size : Int) 1 20 true _ A2.out).mono ?_); rintro e w' ⟨rfl,⟨nd,rfl⟩⟩; refine ⟨_,rfl, ?_⟩) | (go_at_call 127; (with_reducible refine (impl_nameLong.calls k a0 t286 _ A4.out).mono ?_); rintro e w' ⟨rfl,⟨nd,rfl⟩⟩; have p7 : 0 ≤ (0 : Int) := (by omega); have q7 : 0 < a0.size := (by have : (0 : Int) < (a0.size : Int) := of_decide_eq_true (by first | (with_reducible assumption) | assumption); omega); have hx7 : ∀ h : 0 < a0.size,((a0[0]'h).toNat : Int) = bt a0 0 := bt_at a0 0; clear p7; have qi7 : (0 < (a0.size : Int)) = True := eq_true (of_decide_eq_true (by first | (with_reducible assumption) | assumption)); replace q7 := eq_true q7))
    go_ret
    exact ⟨by first | rfl | (simp; done) | (simp [*]; done),by repeat (first | exact y1.refl _ | apply y1.step)⟩
   ·rw [if_neg c6] at H
    exact absurd H (by simp)
  ·rw [if_neg c5] at H
   have c5b0 : (t286 == (a0.size : Int)) = false := beq_eq_false_iff_ne.mpr c5
   have c5b1 : (t286 != (a0.size : Int)) = true := bne_iff_ne.mpr c5
   obtain rfl := Option.some.inj H
   go_enter Tryz.func144,Tryz.ntmps144
   go_wp2_with (first | ((with_reducible refine y17 (f := 76) rfl ?_); refine y19 (some 5) rfl rfl Tryz.func76 (by kernel_rfl) rfl #[.int .i64 (a0.size : Int),.int .i64 1,.int .i64 20] rfl (by (try simp only [qM_,List.map_cons,List.map_nil]); first | done | rfl | (simp only [qD_,qT_]; rfl)) ?_; (with_reducible refine (impl_in.calls (a0.size : Int) 1 20 true _ A2.out).mono ?_); rintro e w' ⟨rfl,⟨nd,rfl⟩⟩; refine ⟨_,rfl, ?_⟩) | (go_at_call 127; (with_reducible refine (impl_nameLong.calls k a0 t286 _ A4.out).mono ?_); rintro e w' ⟨rfl,⟨nd,rfl⟩⟩))
   go_ret
   exact ⟨by first | rfl | (simp; done) | (simp [*]; done),by repeat (first | exact y1.refl _ | apply y1.step)⟩
 ·replace c3 := Bool.eq_false_iff.mpr c3
  subst c3
  have H1 : (some false) = some r := by rw [if_neg (show ¬ (false = true) by decide)] at H; exact H
  clear H
  have H := H1
  clear H1
  obtain rfl := Option.some.inj H
  go_enter Tryz.func144,Tryz.ntmps144
  go_wp2_with (first | ((with_reducible refine y17 (f := 76) rfl ?_); refine y19 (some 5) rfl rfl Tryz.func76 (by kernel_rfl) rfl #[.int .i64 (a0.size : Int),.int .i64 1,.int .i64 20] rfl (by (try simp only [qM_,List.map_cons,List.map_nil]); first | done | rfl | (simp only [qD_,qT_]; rfl)) ?_; (with_reducible refine (impl_in.calls (a0.size : Int) 1 20 false _ A2.out).mono ?_); rintro e w' ⟨rfl,⟨nd,rfl⟩⟩; refine ⟨_,rfl, ?_⟩))
  go_ret
  exact ⟨by first | rfl | (simp; done) | (simp [*]; done),by repeat (first | exact y1.refl _ | apply y1.step)⟩
def strings_HasPrefix.f (a0 a1 : ByteArray) : Option Bool := some (Lib.hasPrefix a0.data.toList a1.data.toList)
theorem strings_HasPrefix.calls (a0 a1 : ByteArray) (r : Bool) (w : World) (h : strings_HasPrefix.f a0 a1 = some r) :
  Calls Tryz.prog 145 #[.string a0,.string a1] w fun e w' => e = .returned (.bool r) ∧ y1 w w' := by
 obtain rfl := Option.some.inj h
 refine (Tryz.strings_HasPrefix a0 a1 w).mono ?_
 rintro e w' ⟨rfl,rfl⟩
 exact ⟨rfl,y1.refl _⟩
end Go.Proofs.YtebadckdihgklaaGreatDoor.Ph
end
section
namespace Go.Proofs.YtebadckdihgklaaGreatDoor.Ph
open Go.RowKit Go.Proofs.YtebadckdihgklaaGreatDoorW.PrintWords Go.Proofs.YtebadckdihgklaaGreatDoorW.PrintLast Go.Proofs.YtebadckdihgklaaGreatDoorW.PrintMore
attribute [local go_sem] max2_int min2_int max_two min_two max_three min_three max_four min_four   -- for this text's walks alone
set_option linter.unusedVariables false
set_option linter.unusedSimpArgs false
mutual
def z2_.j0 : Nat → ByteArray → ByteArray → ByteArray → Bool → Option (ByteArray × List ByteArray)
 | 0,_,_,_,_ => none
 | k + 1,x0,x4,x5,x22 => if x22 = true then (some (x0,([] : List ByteArray))) else (z2_.l0 k x4 x5 (([] : List ByteArray)))
def z2_.l0 : Nat → ByteArray → ByteArray → List ByteArray → Option (ByteArray × List ByteArray)
 | 0,_,_,_ => none
 | k + 1,x4,x5,x7 => if x5.toList = ([] : List UInt8) then (z2_.j2 k x4 x5 x7 false) else (z2_.j2 k x4 x5 x7 (x5.toList != ([41] : List UInt8)))
def z2_.j2 : Nat → ByteArray → ByteArray → List ByteArray → Bool → Option (ByteArray × List ByteArray)
 | 0,_,_,_,_ => none
 | k + 1,x4,x5,x7,x30 => if x30 = true then ((impl_termAt.f k x5).bind fun bt294 => (if 0 ≤ bt294.2 then (if bt294.2 ≤ (x5.size : Int) then (if x7.length < 8796093022208 then ((some (x7 ++ [x5.extract 0 (bt294.2 : Int).toNat] : List ByteArray)).bind fun y296 => ((strings_HasPrefix.f (x5.extract (bt294.2 : Int).toNat x5.size) (⟨#[44]⟩ : ByteArray)).bind fun t299 => (if t299 = true then (if 1 ≤ ((x5.extract (bt294.2 : Int).toNat x5.size).size : Int) then (z2_.l0 k x4 ((x5.extract (bt294.2 : Int).toNat x5.size).extract 1 (x5.extract (bt294.2 : Int).toNat x5.size).size) y296) else (none)) else (z2_.l0 k x4 (x5.extract (bt294.2 : Int).toNat x5.size) y296)))) else (none)) else (none)) else (none))) else (some (x4,x7))
end
def z2_.f (k : Nat) (a0 : ByteArray) : Option (ByteArray × List ByteArray) := (strings_Cut.f a0 (⟨#[40]⟩ : ByteArray)).bind fun bt287 => ((impl_isBigName.f k bt287.1).bind fun t290 => (if t290 = true then (z2_.j0 k a0 bt287.1 bt287.2.1 (!bt287.2.2)) else (z2_.j0 k a0 bt287.1 bt287.2.1 true)))
set_option maxHeartbeats 8000000 in
set_option maxRecDepth 100000 in
theorem z2_.calls (k : Nat) (a0 : ByteArray) (r1 : ByteArray) (r2 : List ByteArray) (w : World) (hT : Tb w) (h : z2_.f k a0 = some (r1,r2)) :
  Calls Tryz.prog 130 #[.string a0] w fun e w' => ∃ v1_ : Value,e = .returned (.tuple #[.string r1,v1_]) ∧ Kd.R Kd.string 9 w' w.heap.size (fun _ => True) v1_ r2 ∧ Below w.heap.size w w' := by
 have HT := y0.mk hT
 clear hT
 have HB := y0.mk (Below.refl w.heap.size w)
 have H : ((strings_Cut.f a0 (⟨#[40]⟩ : ByteArray)).bind fun bt287 => ((impl_isBigName.f k bt287.1).bind fun t290 => (if t290 = true then (z2_.j0 k a0 bt287.1 bt287.2.1 (!bt287.2.2)) else (z2_.j0 k a0 bt287.1 bt287.2.1 true)))) = some (r1,r2) := h
 clear h
 replace H := Option.bind_eq_some_iff.mp H
 obtain ⟨⟨t287,t288,t289⟩,A20,H⟩ := H
 replace H : ((impl_isBigName.f k t287).bind fun t290 => (if t290 = true then (z2_.j0 k a0 t287 t288 (!t289)) else (z2_.j0 k a0 t287 t288 true))) = some (r1,r2) := H
 have A2 := y0.mk A20
 clear A20
 have HC3 := y0.mk H
 clear H
 go_enter Tryz.func130,Tryz.ntmps130
 go_upto_region 2 with (first | ((with_reducible refine y17 (f := 143) rfl ?_); refine y19 (some 12) rfl rfl Tryz.func143 (by kernel_rfl) rfl #[.string a0,.string (⟨#[40]⟩ : ByteArray)] rfl (by (try simp only [qM_,List.map_cons,List.map_nil]); first | done | rfl | (simp only [qD_,qT_]; rfl)) ?_; (with_reducible refine (strings_Cut.calls a0 (⟨#[40]⟩ : ByteArray) t287 t288 t289 _ ?side1 A2.out).mono ?_); (case side1 => exact Tb.below HT.out (by repeat (first | (with_reducible first | exact HB.out | apply y3 | apply y23 | apply y4) | exact HB.out))); rintro e w' ⟨rfl,⟨nd,rfl⟩⟩; refine ⟨_,rfl, ?_⟩))
 (try simp only [Act.put,qS_,qZ_,qC_])
 go_cut [22] (fun v22 wc => ∃ (kq : Nat) (x22_2 : Bool),v22 = .bool x22_2 ∧ y0 (z2_.j0 kq a0 t287 t288 x22_2 = some (r1,r2)) ∧ y0 (kq ≤ k) ∧ y0 (Below w.heap.size w wc))
 case first =>
  have H := HC3.out
  clear HC3
  replace H := Option.bind_eq_some_iff.mp H
  obtain ⟨t290,A40,H⟩ := H
  replace H : (if t290 = true then (z2_.j0 k a0 t287 t288 (!t289)) else (z2_.j0 k a0 t287 t288 true)) = some (r1,r2) := H
  have A4 := y0.mk A40
  clear A40
  by_cases c5 : t290 = true
  ·subst c5
   have H1 : (z2_.j0 k a0 t287 t288 (!t289)) = some (r1,r2) := by rw [if_pos rfl] at H; exact H
   clear H
   have H := H1
   clear H1
   have H' := y0.mk H
   clear H
   go_wp2_with (first | ((with_reducible refine y17 (f := 144) rfl ?_); refine y19 (some 17) rfl rfl Tryz.func144 (by kernel_rfl) rfl #[.string t287] rfl (by (try simp only [qM_,List.map_cons,List.map_nil]); first | done | rfl | (simp only [qD_,qT_]; rfl)) ?_; (with_reducible refine (impl_isBigName.calls k t287 true _ A4.out).mono ?_); rintro e w' ⟨rfl,⟨nd,rfl⟩⟩; refine ⟨_,rfl, ?_⟩))
   go_meet
   case rel => exact ⟨_,(!t289),(by first | rfl | (simp; done) | (simp [*]; done)),H',⟨by first | omega | exact Nat.le_refl _⟩,⟨by repeat (first | (with_reducible first | exact HB.out | apply y3 | apply y23 | apply y4) | exact HB.out)⟩⟩
  ·replace c5 := Bool.eq_false_iff.mpr c5
   subst c5
   have H1 : (z2_.j0 k a0 t287 t288 true) = some (r1,r2) := by rw [if_neg (show ¬ (false = true) by decide)] at H; exact H
   clear H
   have H := H1
   clear H1
   have H' := y0.mk H
   clear H
   go_wp2_with (first | ((with_reducible refine y17 (f := 144) rfl ?_); refine y19 (some 17) rfl rfl Tryz.func144 (by kernel_rfl) rfl #[.string t287] rfl (by (try simp only [qM_,List.map_cons,List.map_nil]); first | done | rfl | (simp only [qD_,qT_]; rfl)) ?_; (with_reducible refine (impl_isBigName.calls k t287 false _ A4.out).mono ?_); rintro e w' ⟨rfl,⟨nd,rfl⟩⟩; refine ⟨_,rfl, ?_⟩))
   go_meet
   case rel => exact ⟨_,(true),(by first | rfl | (simp; done) | (simp [*]; done)),H',⟨by first | omega | exact Nat.le_refl _⟩,⟨by repeat (first | (with_reducible first | exact HB.out | apply y3 | apply y23 | apply y4) | exact HB.out)⟩⟩
 case rest =>
  clear HC3
  try clear c1
  try clear p2
  try clear c5
  obtain ⟨kq,x22_2,rfl,HA,HJ2,HB⟩ := hcut
  cases kq with
  | zero => exact absurd HA.out (by simp [z2_.j0])
  | succ kj2 =>
   have H := HA.out
   clear HA
   simp only [z2_.j0] at H
   by_cases c6 : x22_2 = true
   ·subst c6
    have H1 : (some (a0,([] : List ByteArray))) = some (r1,r2) := by rw [if_pos rfl] at H; exact H
    clear H
    have H := H1
    clear H1
    simp only [Option.some.injEq,Prod.mk.injEq] at H
    obtain ⟨rfl,rfl⟩ := H
    go_wp2
    go_ret2
    exact ⟨_,by first | rfl | (simp [y15,y16] <;> rfl) | (simp [*,y15,y16] <;> rfl),by first | exact Kd.R_nil _ _ _ _ _ | exact Kd.N_nil _ _ _ _ _ | exact Kd.V_nil _ _ _ _ _ | exact Kd.Q_nil _ _ _ _ _ | exact Kd.S_nil _ _ _ _ _,by repeat (first | (with_reducible first | exact HB.out | apply y3 | apply y23 | apply y4) | exact HB.out)⟩
   ·replace c6 := Bool.eq_false_iff.mpr c6
    subst c6
    have H1 : (z2_.l0 kj2 t287 t288 (([] : List ByteArray))) = some (r1,r2) := by rw [if_neg (show ¬ (false = true) by decide)] at H; exact H
    clear H
    have H := H1
    clear H1
    obtain ⟨y291,hy291⟩ : ∃ y_ : List ByteArray,y_ = (([] : List ByteArray)) := ⟨_,rfl⟩
    replace H : (z2_.l0 kj2 t287 t288 y291) = some (r1,r2) := by first | (rw [hy291]; with_reducible exact H) | (have H2_ := (Option.bind_some _ _).symm.trans H; rw [hy291]; with_reducible exact H2_) | (have H2_ := (Option.bind_some _ _).symm.trans H; with_reducible exact H2_) | with_reducible exact H | (rw [hy291]; exact H) | exact H
    have Ny291 := y0.mk hy291
    clear hy291
    have H' := y0.mk H
    clear H
    go_wp2_with (first | ((with_reducible refine y18 (N := 24) rfl ?_); refine Kd.R_lit Kd.string _ 9 ?hg (N := 24) ?hd (xs := ([] : List ByteArray)) (inner := []) (ok := fun _ => True) (okp := fun _ => True) ?hr ?hp (fun _ hk => hk) trivial (Below.refl _ _) (Nat.le_refl _) (by simp) ?_; (case hd => rfl); (case hg => rfl); (case hr => first | (go_simp; done) | (go_simp; rfl)); (case hp => exact (Reps.none _ _)); intro v292 w7 ho8 hb hg_ hnew_; clear hg_ hnew_; (first | rw [← Ny291.out] at ho8 | (simp only [Int.reduceToNat] at ho8; rw [← Ny291.out] at ho8)); have n0_ := y0.mk (Kd.R_lower ho8 (y6 (by repeat (first | (with_reducible first | exact HB.out | apply y3 | apply y23 | apply y4) | exact HB.out)))); have n1_ := y0.mk (y7 (by repeat (first | (with_reducible first | exact HB.out | apply y3 | apply y23 | apply y4) | exact HB.out)) hb); clear HB; have HO293 := n0_; have HB := n1_; clear n0_ n1_; clear hb ho8))
    go_loopg [5,7] kj2 (fun kq v5 v7 w' => ∃ (x5_2 : ByteArray) (x7_2 : List ByteArray),v5 = .string x5_2 ∧ y0 (z2_.l0 kq t287 x5_2 x7_2 = some (r1,r2)) ∧ y0 (kq ≤ kj2) ∧ y0 (Kd.R Kd.string 9 w' w.heap.size (fun _ => True) v7 x7_2) ∧ y0 (Below w.heap.size w w'))
    case atStart => exact ⟨(t288),(y291),(by first | rfl | (simp; done) | (simp [*]; done)),H',⟨Nat.le_refl _⟩,⟨by (with_reducible repeat (first | apply Kd.R_alloc | apply Kd.R_drewN | apply Kd.R_drew)); exact HO293.out⟩,⟨by repeat (first | (with_reducible first | exact HB.out | apply y3 | apply y23 | apply y4) | exact HB.out)⟩⟩
    case round =>
     clear H'
     try clear c1
     try clear p2
     try clear c5
     try clear c6
     try clear p2
     obtain ⟨x5_2,x7_2,rfl,HA,HK2,HO_7,HB⟩ := hrel
     cases gk with
     | zero => exact absurd HA.out (by simp [z2_.l0])
     | succ k2 =>
      have H := HA.out
      clear HA
      simp only [z2_.l0] at H
      have HC9 := y0.mk H
      clear H
      go_upto_region 5 with (fail)
      go_cut [30] (fun v30 wc => ∃ (kq : Nat) (x30_8 : Bool),v30 = .bool x30_8 ∧ y0 (z2_.j2 kq t287 x5_2 x7_2 x30_8 = some (r1,r2)) ∧ y0 (kq ≤ k2) ∧ y0 (Kd.R Kd.string 9 wc w.heap.size (fun _ => True) u7 x7_2) ∧ y0 (Below w.heap.size w wc))
      case first =>
       have H := HC9.out
       clear HC9
       by_cases c10 : x5_2.toList = ([] : List UInt8)
       ·rw [if_pos c10] at H
        have c10b0 : (x5_2.toList == ([] : List UInt8)) = true := beq_iff_eq.mpr c10
        have c10b1 : (x5_2.toList != ([] : List UInt8)) = false := bne_eq_false_iff_eq.mpr c10
        clear c10
        (first | rw [c10b0] | (simp only [y21,y20]; rw [c10b0]) | skip)
        have H' := y0.mk H
        clear H
        go_wp2
        go_meet
        case rel => exact ⟨_,(false),(by first | rfl | (simp; done) | (simp [*]; done)),H',⟨by have := HJ2.out; have := HK2.out; first | omega | exact Nat.le_refl _⟩,⟨by (with_reducible repeat (first | apply Kd.R_alloc | apply Kd.R_drewN | apply Kd.R_drew)); exact HO_7.out⟩,⟨by repeat (first | (with_reducible first | exact HB.out | apply y3 | apply y23 | apply y4) | exact HB.out)⟩⟩
       ·rw [if_neg c10] at H
        have c10b0 : (x5_2.toList == ([] : List UInt8)) = false := beq_eq_false_iff_ne.mpr c10
        have c10b1 : (x5_2.toList != ([] : List UInt8)) = true := bne_iff_ne.mpr c10
        (first | rw [c10b0] | (simp only [y21,y20]; rw [c10b0]) | skip)
        have H' := y0.mk H
        clear H
        go_wp2
        go_meet
        case rel => exact ⟨_,((x5_2.toList != ([41] : List UInt8))),(by first | rfl | (simp; done) | (simp [*]; done)),H',⟨by have := HJ2.out; have := HK2.out; first | omega | exact Nat.le_refl _⟩,⟨by (with_reducible repeat (first | apply Kd.R_alloc | apply Kd.R_drewN | apply Kd.R_drew)); exact HO_7.out⟩,⟨by repeat (first | (with_reducible first | exact HB.out | apply y3 | apply y23 | apply y4) | exact HB.out)⟩⟩
      case rest =>
       clear HC9
       try clear c1
       try clear p2
       try clear c5
       try clear c6
       try clear c10
       try clear c10b0
       try clear c10b1
       try clear p2
       obtain ⟨kq,x30_8,rfl,HA,HJ8,HO_7,HB⟩ := hcut
       cases kq with
       | zero => exact absurd HA.out (by simp [z2_.j2])
       | succ kj8 =>
        have H := HA.out
        clear HA
        simp only [z2_.j2] at H
        by_cases c11 : x30_8 = true
        ·subst c11
         have H1 : ((impl_termAt.f kj8 x5_2).bind fun bt294 => (if 0 ≤ bt294.2 then (if bt294.2 ≤ (x5_2.size : Int) then (if x7_2.length < 8796093022208 then ((some (x7_2 ++ [x5_2.extract 0 (bt294.2 : Int).toNat] : List ByteArray)).bind fun y296 => ((strings_HasPrefix.f (x5_2.extract (bt294.2 : Int).toNat x5_2.size) (⟨#[44]⟩ : ByteArray)).bind fun t299 => (if t299 = true then (if 1 ≤ ((x5_2.extract (bt294.2 : Int).toNat x5_2.size).size : Int) then (z2_.l0 kj8 t287 ((x5_2.extract (bt294.2 : Int).toNat x5_2.size).extract 1 (x5_2.extract (bt294.2 : Int).toNat x5_2.size).size) y296) else (none)) else (z2_.l0 kj8 t287 (x5_2.extract (bt294.2 : Int).toNat x5_2.size) y296)))) else (none)) else (none)) else (none))) = some (r1,r2) := by rw [if_pos rfl] at H; exact H
         clear H
         have H := H1
         clear H1
         replace H := Option.bind_eq_some_iff.mp H
         obtain ⟨⟨t294,t295⟩,A120,H⟩ := H
         replace H : (if 0 ≤ t295 then (if t295 ≤ (x5_2.size : Int) then (if x7_2.length < 8796093022208 then ((some (x7_2 ++ [x5_2.extract 0 (t295 : Int).toNat] : List ByteArray)).bind fun y296 => ((strings_HasPrefix.f (x5_2.extract (t295 : Int).toNat x5_2.size) (⟨#[44]⟩ : ByteArray)).bind fun t299 => (if t299 = true then (if 1 ≤ ((x5_2.extract (t295 : Int).toNat x5_2.size).size : Int) then (z2_.l0 kj8 t287 ((x5_2.extract (t295 : Int).toNat x5_2.size).extract 1 (x5_2.extract (t295 : Int).toNat x5_2.size).size) y296) else (none)) else (z2_.l0 kj8 t287 (x5_2.extract (t295 : Int).toNat x5_2.size) y296)))) else (none)) else (none)) else (none)) = some (r1,r2) := H
         have A12 := y0.mk A120
         clear A120
         by_cases c13 : 0 ≤ t295
         ·rw [if_pos c13] at H
          have c13b0 := eq_true c13
          have c13b1 : decide (0 ≤ t295) = true := decide_eq_true c13
          clear c13
          by_cases c14 : t295 ≤ (x5_2.size : Int)
          ·rw [if_pos c14] at H
           have c14b0 := eq_true c14
           have c14b1 : decide (t295 ≤ (x5_2.size : Int)) = true := decide_eq_true c14
           clear c14
           by_cases c15 : x7_2.length < 8796093022208
           ·rw [if_pos c15] at H
            have LMc15 := y0.mk c15
            clear c15
            obtain ⟨y296,hy296⟩ : ∃ y_ : List ByteArray,y_ = (x7_2 ++ [x5_2.extract 0 (t295 : Int).toNat]) := ⟨_,rfl⟩
            replace H : ((strings_HasPrefix.f (x5_2.extract (t295 : Int).toNat x5_2.size) (⟨#[44]⟩ : ByteArray)).bind fun t299 => (if t299 = true then (if 1 ≤ ((x5_2.extract (t295 : Int).toNat x5_2.size).size : Int) then (z2_.l0 kj8 t287 ((x5_2.extract (t295 : Int).toNat x5_2.size).extract 1 (x5_2.extract (t295 : Int).toNat x5_2.size).size) y296) else (none)) else (z2_.l0 kj8 t287 (x5_2.extract (t295 : Int).toNat x5_2.size) y296))) = some (r1,r2) := by first | (rw [hy296]; with_reducible exact H) | (have H2_ := (Option.bind_some _ _).symm.trans H; rw [hy296]; with_reducible exact H2_) | (have H2_ := (Option.bind_some _ _).symm.trans H; with_reducible exact H2_) | with_reducible exact H | (rw [hy296]; exact H) | exact H
            have Ny296 := y0.mk hy296
            clear hy296
            have c16b0 := eq_true (of_decide_eq_true (by first | (with_reducible assumption) | assumption) : 0 ≤ t295)
            have c17b0 := eq_true (of_decide_eq_true (by first | (with_reducible assumption) | assumption) : t295 ≤ (x5_2.size : Int))
            replace H := Option.bind_eq_some_iff.mp H
            obtain ⟨t299,A180,H⟩ := H
            replace H : (if t299 = true then (if 1 ≤ ((x5_2.extract (t295 : Int).toNat x5_2.size).size : Int) then (z2_.l0 kj8 t287 ((x5_2.extract (t295 : Int).toNat x5_2.size).extract 1 (x5_2.extract (t295 : Int).toNat x5_2.size).size) y296) else (none)) else (z2_.l0 kj8 t287 (x5_2.extract (t295 : Int).toNat x5_2.size) y296)) = some (r1,r2) := H
            have A18 := y0.mk A180
            clear A180
            by_cases c19 : t299 = true
            ·subst c19
             have H1 : (if 1 ≤ ((x5_2.extract (t295 : Int).toNat x5_2.size).size : Int) then (z2_.l0 kj8 t287 ((x5_2.extract (t295 : Int).toNat x5_2.size).extract 1 (x5_2.extract (t295 : Int).toNat x5_2.size).size) y296) else (none)) = some (r1,r2) := by rw [if_pos rfl] at H; exact H
             clear H
             have H := H1
             clear H1
             by_cases c20 : 1 ≤ ((x5_2.extract (t295 : Int).toNat x5_2.size).size : Int)
             ·rw [if_pos c20] at H
              have c20b0 := eq_true c20
              have c20b1 : decide (1 ≤ ((x5_2.extract (t295 : Int).toNat x5_2.size).size : Int)) = true := decide_eq_true c20
              have c20b4 : ((1 : Int) ≤ ((x5_2.size - (t295 : Int).toNat : Nat) : Int)) = True := eq_true (by have h_ := c20; simp only [ByteArray.size_extract] at h_; omega)
              have c20b5 : (((x5_2.size - (t295 : Int).toNat : Nat) : Int) < 1) = False := eq_false (by have h_ := c20; simp only [ByteArray.size_extract] at h_; omega)
              clear c20
              have H' := y0.mk H
              clear H
              go_wp2_with (first | ((with_reducible refine y17 (f := 103) rfl ?_); refine y19 (some 33) rfl rfl Tryz.func103 (by kernel_rfl) rfl #[.string x5_2] rfl (by (try simp only [qM_,List.map_cons,List.map_nil]); first | done | rfl | (simp only [qD_,qT_]; rfl)) ?_; (with_reducible refine (impl_termAt.calls kj8 x5_2 t294 t295 _ ?side1 A12.out).mono ?_); (case side1 => exact Tb.below HT.out (by repeat (first | (with_reducible first | exact HB.out | apply y3 | apply y23 | apply y4) | exact HB.out))); rintro e w21 ⟨rfl,hb⟩; refine ⟨_,rfl, ?_⟩; have n0_ := y0.mk (Kd.R_below (by (with_reducible repeat (first | apply Kd.R_alloc | apply Kd.R_drewN | apply Kd.R_drew)); exact HO_7.out) hb); have n1_ := y0.mk (y7 (by repeat (first | (with_reducible first | exact HB.out | apply y3 | apply y23 | apply y4) | exact HB.out)) hb); clear HO_7; clear HB; have HO_7 := n0_; have HB := n1_; clear n0_ n1_; (try clear hb); (try clear hb2); (try clear hk); (try clear hi)) | ((with_reducible refine gate_builtin (b := .append) (xs := #[.tmp 36,.tmp 40]) rfl ?_); at_builtin; refine Kd.R_append Kd.string (w0 := w) w.heap.size rfl (.tmp 36) (.tmp 40) 25 9 (.string ⟨#[]⟩) 16 rfl Tryz.underlying25 info9 rfl (by decide) (by omega) u7 x7_2 (x5_2.extract 0 (t295 : Int).toNat) [.string (x5_2.extract 0 (t295 : Int).toNat)] (fun _ => True) (fun _ => False) rfl rfl ?aP (fun _ hk => hk.elim) ?aF ?aO ?aB ?aS ?aL ?_; (case aP => exact rfl); (case aB => exact (by repeat (first | (with_reducible first | exact HB.out | apply y3 | apply y23 | apply y4) | exact HB.out))); (case aF => exact (fun _ _ => trivial)); (case aO => exact (by (with_reducible repeat (first | apply Kd.R_alloc | apply Kd.R_drewN | apply Kd.R_drew)); exact HO_7.out)); (case aS => exact (y6 (by repeat (first | (with_reducible first | exact HB.out | apply y3 | apply y23 | apply y4) | exact HB.out)))); (case aL => have := LMc15.out; omega); intro v297 w22 ho hb hg hat; rw [← Ny296.out] at ho; have n0_ := y0.mk (hb); have n1_ := y0.mk (ho); clear HB; clear HO_7; have HB := n0_; have HO298 := n1_; clear n0_ n1_; clear ho hb hg hat) | ((with_reducible refine y17 (f := 145) rfl ?_); refine y19 (some 46) rfl rfl Tryz.func145 (by kernel_rfl) rfl #[.string (x5_2.extract (t295 : Int).toNat x5_2.size),.string (⟨#[44]⟩ : ByteArray)] rfl (by (try simp only [qM_,List.map_cons,List.map_nil]); first | done | rfl | (simp only [qD_,qT_]; rfl)) ?_; (with_reducible refine (strings_HasPrefix.calls (x5_2.extract (t295 : Int).toNat x5_2.size) (⟨#[44]⟩ : ByteArray) true _ A18.out).mono ?_); rintro e w' ⟨rfl,⟨nd,rfl⟩⟩; refine ⟨_,rfl, ?_⟩))
              go_roundg kj8
              case measure => have := HJ2.out; have := HK2.out; have := HJ8.out; omega
              case rel => exact ⟨((x5_2.extract (t295 : Int).toNat x5_2.size).extract 1 (x5_2.extract (t295 : Int).toNat x5_2.size).size),(y296),(by first | rfl | (simp; done) | (simp [*]; done)),H',⟨by have := HJ2.out; have := HK2.out; have := HJ8.out; omega⟩,⟨by (with_reducible repeat (first | apply Kd.R_alloc | apply Kd.R_drewN | apply Kd.R_drew)); exact HO298.out⟩,⟨by repeat (first | (with_reducible first | exact HB.out | apply y3 | apply y23 | apply y4) | exact HB.out)⟩⟩
             ·rw [if_neg c20] at H
              exact absurd H (by simp)
            ·replace c19 := Bool.eq_false_iff.mpr c19
             subst c19
             have H1 : (z2_.l0 kj8 t287 (x5_2.extract (t295 : Int).toNat x5_2.size) y296) = some (r1,r2) := by rw [if_neg (show ¬ (false = true) by decide)] at H; exact H
             clear H
             have H := H1
             clear H1
             have H' := y0.mk H
             clear H
             go_wp2_with (first | ((with_reducible refine y17 (f := 103) rfl ?_); refine y19 (some 33) rfl rfl Tryz.func103 (by kernel_rfl) rfl #[.string x5_2] rfl (by (try simp only [qM_,List.map_cons,List.map_nil]); first | done | rfl | (simp only [qD_,qT_]; rfl)) ?_; (with_reducible refine (impl_termAt.calls kj8 x5_2 t294 t295 _ ?side1 A12.out).mono ?_); (case side1 => exact Tb.below HT.out (by repeat (first | (with_reducible first | exact HB.out | apply y3 | apply y23 | apply y4) | exact HB.out))); rintro e w23 ⟨rfl,hb⟩; refine ⟨_,rfl, ?_⟩; have n0_ := y0.mk (Kd.R_below (by (with_reducible repeat (first | apply Kd.R_alloc | apply Kd.R_drewN | apply Kd.R_drew)); exact HO_7.out) hb); have n1_ := y0.mk (y7 (by repeat (first | (with_reducible first | exact HB.out | apply y3 | apply y23 | apply y4) | exact HB.out)) hb); clear HO_7; clear HB; have HO_7 := n0_; have HB := n1_; clear n0_ n1_; (try clear hb); (try clear hb2); (try clear hk); (try clear hi)) | ((with_reducible refine gate_builtin (b := .append) (xs := #[.tmp 36,.tmp 40]) rfl ?_); at_builtin; refine Kd.R_append Kd.string (w0 := w) w.heap.size rfl (.tmp 36) (.tmp 40) 25 9 (.string ⟨#[]⟩) 16 rfl Tryz.underlying25 info9 rfl (by decide) (by omega) u7 x7_2 (x5_2.extract 0 (t295 : Int).toNat) [.string (x5_2.extract 0 (t295 : Int).toNat)] (fun _ => True) (fun _ => False) rfl rfl ?aP (fun _ hk => hk.elim) ?aF ?aO ?aB ?aS ?aL ?_; (case aP => exact rfl); (case aB => exact (by repeat (first | (with_reducible first | exact HB.out | apply y3 | apply y23 | apply y4) | exact HB.out))); (case aF => exact (fun _ _ => trivial)); (case aO => exact (by (with_reducible repeat (first | apply Kd.R_alloc | apply Kd.R_drewN | apply Kd.R_drew)); exact HO_7.out)); (case aS => exact (y6 (by repeat (first | (with_reducible first | exact HB.out | apply y3 | apply y23 | apply y4) | exact HB.out)))); (case aL => have := LMc15.out; omega); intro v297 w24 ho hb hg hat; rw [← Ny296.out] at ho; have n0_ := y0.mk (hb); have n1_ := y0.mk (ho); clear HB; clear HO_7; have HB := n0_; have HO298 := n1_; clear n0_ n1_; clear ho hb hg hat) | ((with_reducible refine y17 (f := 145) rfl ?_); refine y19 (some 46) rfl rfl Tryz.func145 (by kernel_rfl) rfl #[.string (x5_2.extract (t295 : Int).toNat x5_2.size),.string (⟨#[44]⟩ : ByteArray)] rfl (by (try simp only [qM_,List.map_cons,List.map_nil]); first | done | rfl | (simp only [qD_,qT_]; rfl)) ?_; (with_reducible refine (strings_HasPrefix.calls (x5_2.extract (t295 : Int).toNat x5_2.size) (⟨#[44]⟩ : ByteArray) false _ A18.out).mono ?_); rintro e w' ⟨rfl,⟨nd,rfl⟩⟩; refine ⟨_,rfl, ?_⟩))
             go_roundg kj8
             case measure => have := HJ2.out; have := HK2.out; have := HJ8.out; omega
             case rel => exact ⟨(x5_2.extract (t295 : Int).toNat x5_2.size),(y296),(by first | rfl | (simp; done) | (simp [*]; done)),H',⟨by have := HJ2.out; have := HK2.out; have := HJ8.out; omega⟩,⟨by (with_reducible repeat (first | apply Kd.R_alloc | apply Kd.R_drewN | apply Kd.R_drew)); exact HO298.out⟩,⟨by repeat (first | (with_reducible first | exact HB.out | apply y3 | apply y23 | apply y4) | exact HB.out)⟩⟩
           ·rw [if_neg c15] at H
            exact absurd H (by simp)
          ·rw [if_neg c14] at H
           exact absurd H (by simp)
         ·rw [if_neg c13] at H
          exact absurd H (by simp)
        ·replace c11 := Bool.eq_false_iff.mpr c11
         subst c11
         have H1 : (some (t287,x7_2)) = some (r1,r2) := by rw [if_neg (show ¬ (false = true) by decide)] at H; exact H
         clear H
         have H := H1
         clear H1
         simp only [Option.some.injEq,Prod.mk.injEq] at H
         obtain ⟨rfl,rfl⟩ := H
         go_wp2
         go_ret2
         exact ⟨_,by first | rfl | (simp [y15,y16] <;> rfl) | (simp [*,y15,y16] <;> rfl),by (with_reducible repeat (first | apply Kd.R_alloc | apply Kd.R_drewN | apply Kd.R_drew)); exact HO_7.out,by repeat (first | (with_reducible first | exact HB.out | apply y3 | apply y23 | apply y4) | exact HB.out)⟩
def cmp_Or_int.l0 : Nat → Int → List Int → Int → Int → Option (Int)
 | 0,_,_,_,_ => none
 | k + 1,x3,x6,x7,x8 => if x8 < x7 then (if 0 ≤ x8 then (if x8 < (x6.length : Int) then (if (rd x6 x8) = x3 then (cmp_Or_int.l0 k x3 x6 x7 (wrap64 (x8 + 1))) else (some (rd x6 x8))) else (none)) else (none)) else (some x3)
def cmp_Or_int.f (k : Nat) (l0 : List Int) : Option (Int) := cmp_Or_int.l0 k 0 l0 (l0.length : Int) 0
set_option maxHeartbeats 8000000 in
set_option maxRecDepth 100000 in
theorem cmp_Or_int.calls (k : Nat) (A0 : Option Addr) (c0 : Nat) (l0 : List Int) (r : Int) (w : World) (hr0 : Kd.C (Kd.int .i64) w A0 l0.length l0) (hc0 : l0.length ≤ c0) (h : cmp_Or_int.f k l0 = some r) :
  Calls Tryz.prog 131 #[.slice A0 l0.length c0] w fun e w' => e = .returned (.int .i64 r) ∧ y1 w w' := by
 have HR0 := y0.mk hr0
 have HC0 := y0.mk hc0
 clear hr0 hc0
 have H : (cmp_Or_int.l0 k 0 l0 (l0.length : Int) 0) = some r := h
 clear h
 have H' := y0.mk H
 clear H
 go_enter Tryz.func131,Tryz.ntmps131
 go_wp2
 go_loopg [8] k (fun kq v8 w' => ∃ (x8_1 : Int),v8 = .int .i64 x8_1 ∧ y0 (cmp_Or_int.l0 kq 0 l0 (l0.length : Int) x8_1 = some r) ∧ y0 (kq ≤ k) ∧ y1 w w')
 case atStart => exact ⟨(0),(by first | rfl | (simp; done) | (simp [*]; done)),H',⟨Nat.le_refl _⟩,by repeat (first | exact y1.refl _ | apply y1.step)⟩
 case round =>
  clear H'
  try clear c1
  obtain ⟨x8_1,rfl,HA,HK1,⟨m1,rfl⟩⟩ := hrel
  cases gk with
  | zero => exact absurd HA.out (by simp [cmp_Or_int.l0])
  | succ k1 =>
   have H := HA.out
   clear HA
   simp only [cmp_Or_int.l0] at H
   by_cases c2 : x8_1 < (l0.length : Int)
   ·rw [if_pos c2] at H
    have c2b0 : decide (x8_1 < (l0.length : Int)) = true := decide_eq_true c2
    clear c2
    by_cases c3 : 0 ≤ x8_1
    ·rw [if_pos c3] at H
     have c3b0 : decide (0 ≤ x8_1) = true := decide_eq_true c3
     clear c3
     by_cases c4 : x8_1 < (l0.length : Int)
     ·rw [if_pos c4] at H
      have c4b0 : decide (x8_1 < (l0.length : Int)) = true := decide_eq_true c4
      clear c4
      by_cases c5 : (rd l0 x8_1) = 0
      ·rw [if_pos c5] at H
       have c5b0 : ((rd l0 x8_1) == 0) = true := beq_iff_eq.mpr c5
       have c5b1 : ((rd l0 x8_1) != 0) = false := bne_eq_false_iff_eq.mpr c5
       clear c5
       have H' := y0.mk H
       clear H
       have p300 : 0 ≤ (x8_1 : Int) := of_decide_eq_true (by first | (with_reducible assumption) | assumption)
       have q300 : x8_1 < (l0.length : Int) := of_decide_eq_true (by first | (with_reducible assumption) | assumption)
       obtain ⟨ad300,e300,hx300_0⟩ := Kd.at_int HR0.out x8_1 p300 q300
       cases e300
       replace p300 := eq_true p300
       replace q300 := eq_true q300
       go_wp2
       go_roundg k1
       case measure => have := HK1.out; omega
       case rel => exact ⟨(wrap64 (x8_1 + 1)),(by first | rfl | (simp; done) | (simp [*]; done)),H',⟨by have := HK1.out; omega⟩,by repeat (first | exact y1.refl _ | apply y1.step)⟩
      ·rw [if_neg c5] at H
       have c5b0 : ((rd l0 x8_1) == 0) = false := beq_eq_false_iff_ne.mpr c5
       have c5b1 : ((rd l0 x8_1) != 0) = true := bne_iff_ne.mpr c5
       obtain rfl := Option.some.inj H
       have p300 : 0 ≤ (x8_1 : Int) := of_decide_eq_true (by first | (with_reducible assumption) | assumption)
       have q300 : x8_1 < (l0.length : Int) := of_decide_eq_true (by first | (with_reducible assumption) | assumption)
       obtain ⟨ad300,e300,hx300_0⟩ := Kd.at_int HR0.out x8_1 p300 q300
       cases e300
       replace p300 := eq_true p300
       replace q300 := eq_true q300
       go_wp2
       go_ret
       exact ⟨by first | rfl | (simp; done) | (simp [*]; done),by repeat (first | exact y1.refl _ | apply y1.step)⟩
     ·rw [if_neg c4] at H
      exact absurd H (by simp)
    ·rw [if_neg c3] at H
     exact absurd H (by simp)
   ·rw [if_neg c2] at H
    have c2b0 : decide (x8_1 < (l0.length : Int)) = false := decide_eq_false c2
    clear c2
    obtain rfl := Option.some.inj H
    go_wp2
    go_ret
    exact ⟨by first | rfl | (simp; done) | (simp [*]; done),by repeat (first | exact y1.refl _ | apply y1.step)⟩
end Go.Proofs.YtebadckdihgklaaGreatDoor.Ph
end
section
namespace Go.Proofs.YtebadckdihgklaaGreatDoor.Ph
open Go.RowKit Go.Proofs.YtebadckdihgklaaGreatDoorW.PrintWords Go.Proofs.YtebadckdihgklaaGreatDoorW.PrintLast Go.Proofs.YtebadckdihgklaaGreatDoorW.PrintMore
attribute [local go_sem] max2_int min2_int max_two min_two max_three min_three max_four min_four   -- for this text's walks alone
set_option linter.unusedVariables false
set_option linter.unusedSimpArgs false
mutual
def z0_.l0 : Nat → List ByteArray → List ByteArray → Int → Int → Option (Int)
 | 0,_,_,_,_ => none
 | k + 1,x8,x36,x37,x38 => if x38 < x37 then (if 0 ≤ x38 then (if x38 < (x36.length : Int) then (if x38 < (x8.length : Int) then ((z1_.f k (rdOf ByteArray.empty x36 x38) (rdOf ByteArray.empty x8 x38)).bind fun t317 => (if t317 = 0 then (z0_.l0 k x8 x36 x37 (wrap64 (x38 + 1))) else (some t317))) else (none)) else (none)) else (none)) else (some 0)
def z0_.f : Nat → ByteArray → ByteArray → Option (Int)
 | 0,_,_ => none
 | k + 1,a0,a1 => (z2_.f k a0).bind fun bt301 => ((z2_.f k a1).bind fun bt305 => ((cmp_Compare_string.f bt301.1 bt305.1).bind fun t309 => ((cmp_Compare_int.f (bt301.2.length : Int) (bt305.2.length : Int)).bind fun t310 => ((cmp_Or_int.f k (([t309,t310] : List Int))).bind fun t314 => (if t314 = 0 then (z0_.l0 k bt305.2 bt301.2 (bt301.2.length : Int) 0) else (some t314))))))
def z1_.j0 : Nat → ByteArray → ByteArray → Int → Int → Bool → Option (Int)
 | 0,_,_,_,_,_ => none
 | k + 1,x0,x1,x5,x6,x11 => if x11 = true then (some 2) else (if x5 = x6 then (if x5 = 1 then ((impl_numOf.f x0).bind fun t320 => ((impl_numOf.f x1).bind fun t321 => ((cmp_Compare_int.f t320 t321).bind fun t322 => (some t322)))) else (if x5 = 2 then (if 1 ≤ (wrap64 ((x0.size : Int) - 1)) then (if (wrap64 ((x0.size : Int) - 1)) ≤ (x0.size : Int) then (if 1 ≤ (wrap64 ((x1.size : Int) - 1)) then (if (wrap64 ((x1.size : Int) - 1)) ≤ (x1.size : Int) then ((cmp_Compare_string.f (x0.extract 1 ((wrap64 ((x0.size : Int) - 1)) : Int).toNat) (x1.extract 1 ((wrap64 ((x1.size : Int) - 1)) : Int).toNat)).bind fun t323 => (some t323)) else (none)) else (none)) else (none)) else (none)) else ((z0_.f k x0 x1).bind fun t324 => (some t324)))) else ((cmp_Compare_int.f x5 x6).bind fun t325 => (some t325)))
def z1_.f : Nat → ByteArray → ByteArray → Option (Int)
 | 0,_,_ => none
 | k + 1,a0,a1 => (impl_kindOf.f k a0).bind fun t318 => ((impl_kindOf.f k a1).bind fun t319 => (if t318 = 0 then (z1_.j0 k a0 a1 t318 t319 true) else (z1_.j0 k a0 a1 t318 t319 (t319 == 0))))
end
abbrev z0_.Stm (k : Nat) : Prop := ∀ (a0 : ByteArray) (a1 : ByteArray) (r : Int) (w : World) (hT : Tb w) (h : z0_.f k a0 a1 = some r),
  Calls Tryz.prog 107 #[.string a0,.string a1] w fun e w' => e = .returned (.int .i64 r) ∧ Below w.heap.size w w'
abbrev z1_.Stm (k : Nat) : Prop := ∀ (a0 : ByteArray) (a1 : ByteArray) (r : Int) (w : World) (hT : Tb w) (h : z1_.f k a0 a1 = some r),
  Calls Tryz.prog 90 #[.string a0,.string a1] w fun e w' => e = .returned (.int .i64 r) ∧ Below w.heap.size w w'
set_option maxHeartbeats 8000000 in
set_option maxRecDepth 100000 in
theorem z0_.step (k : Nat) (ih : ∀ m,m < k → z0_.Stm m) (ih_impl_compareTerms : ∀ m,m < k → z1_.Stm m) : z0_.Stm k := by
 intro a0 a1 r w hT h
 cases k with
 | zero => exact absurd h (by simp [z0_.f])
 | succ k =>
 simp only [z0_.f] at h
 have HT := y0.mk hT
 clear hT
 have HB := y0.mk (Below.refl w.heap.size w)
 have H : ((z2_.f k a0).bind fun bt301 => ((z2_.f k a1).bind fun bt305 => ((cmp_Compare_string.f bt301.1 bt305.1).bind fun t309 => ((cmp_Compare_int.f (bt301.2.length : Int) (bt305.2.length : Int)).bind fun t310 => ((cmp_Or_int.f k (([t309,t310] : List Int))).bind fun t314 => (if t314 = 0 then (z0_.l0 k bt305.2 bt301.2 (bt301.2.length : Int) 0) else (some t314))))))) = some r := h
 clear h
 replace H := Option.bind_eq_some_iff.mp H
 obtain ⟨⟨t301,t302⟩,A30,H⟩ := H
 replace H : ((z2_.f k a1).bind fun bt305 => ((cmp_Compare_string.f t301 bt305.1).bind fun t309 => ((cmp_Compare_int.f (t302.length : Int) (bt305.2.length : Int)).bind fun t310 => ((cmp_Or_int.f k (([t309,t310] : List Int))).bind fun t314 => (if t314 = 0 then (z0_.l0 k bt305.2 t302 (t302.length : Int) 0) else (some t314)))))) = some r := H
 have A3 := y0.mk A30
 clear A30
 replace H := Option.bind_eq_some_iff.mp H
 obtain ⟨⟨t305,t306⟩,A40,H⟩ := H
 replace H : ((cmp_Compare_string.f t301 t305).bind fun t309 => ((cmp_Compare_int.f (t302.length : Int) (t306.length : Int)).bind fun t310 => ((cmp_Or_int.f k (([t309,t310] : List Int))).bind fun t314 => (if t314 = 0 then (z0_.l0 k t306 t302 (t302.length : Int) 0) else (some t314))))) = some r := H
 have A4 := y0.mk A40
 clear A40
 replace H := Option.bind_eq_some_iff.mp H
 obtain ⟨t309,A50,H⟩ := H
 replace H : ((cmp_Compare_int.f (t302.length : Int) (t306.length : Int)).bind fun t310 => ((cmp_Or_int.f k (([t309,t310] : List Int))).bind fun t314 => (if t314 = 0 then (z0_.l0 k t306 t302 (t302.length : Int) 0) else (some t314)))) = some r := H
 have A5 := y0.mk A50
 clear A50
 replace H := Option.bind_eq_some_iff.mp H
 obtain ⟨t310,A60,H⟩ := H
 replace H : ((cmp_Or_int.f k (([t309,t310] : List Int))).bind fun t314 => (if t314 = 0 then (z0_.l0 k t306 t302 (t302.length : Int) 0) else (some t314))) = some r := H
 have A6 := y0.mk A60
 clear A60
 obtain ⟨y311,hy311⟩ : ∃ y_ : List Int,y_ = (([t309,t310] : List Int)) := ⟨_,rfl⟩
 replace H : ((cmp_Or_int.f k y311).bind fun t314 => (if t314 = 0 then (z0_.l0 k t306 t302 (t302.length : Int) 0) else (some t314))) = some r := by first | (rw [hy311]; with_reducible exact H) | (have H2_ := (Option.bind_some _ _).symm.trans H; rw [hy311]; with_reducible exact H2_) | (have H2_ := (Option.bind_some _ _).symm.trans H; with_reducible exact H2_) | with_reducible exact H | (rw [hy311]; exact H) | exact H
 have Ny311 := y0.mk hy311
 clear hy311
 replace H := Option.bind_eq_some_iff.mp H
 obtain ⟨t314,A70,H⟩ := H
 replace H : (if t314 = 0 then (z0_.l0 k t306 t302 (t302.length : Int) 0) else (some t314)) = some r := H
 have A7 := y0.mk A70
 clear A70
 by_cases c8 : t314 = 0
 ·rw [if_pos c8] at H
  have c8b0 : (t314 == 0) = true := beq_iff_eq.mpr c8
  have c8b1 : (t314 != 0) = false := bne_eq_false_iff_eq.mpr c8
  clear c8
  have H' := y0.mk H
  clear H
  go_enter Tryz.func107,Tryz.ntmps107
  go_wp2_with (first | ((with_reducible refine y17 (f := 130) rfl ?_); refine y19 (some 15) rfl rfl Tryz.func130 (by kernel_rfl) rfl #[.string a0] rfl (by (try simp only [qM_,List.map_cons,List.map_nil]); first | done | rfl | (simp only [qD_,qT_]; rfl)) ?_; (with_reducible refine (z2_.calls k a0 t301 t302 _ ?side1 A3.out).mono ?_); (case side1 => exact Tb.below HT.out (by repeat (first | (with_reducible first | exact HB.out | apply y3 | apply y23 | apply y4) | exact HB.out))); rintro e w9 ⟨v303,rfl,ho0,hb⟩; refine ⟨_,rfl, ?_⟩; have n0_ := y0.mk (Kd.R_lower ho0 (y6 (by repeat (first | (with_reducible first | exact HB.out | apply y3 | apply y23 | apply y4) | exact HB.out)))); have n1_ := y0.mk (y7 (by repeat (first | (with_reducible first | exact HB.out | apply y3 | apply y23 | apply y4) | exact HB.out)) hb); clear HB; have HO304 := n0_; have HB := n1_; clear n0_ n1_; (try clear hb); (try clear hb2); (try clear hk); (try clear hi); (try clear ho0)) | ((with_reducible refine y17 (f := 130) rfl ?_); refine y19 (some 20) rfl rfl Tryz.func130 (by kernel_rfl) rfl #[.string a1] rfl (by (try simp only [qM_,List.map_cons,List.map_nil]); first | done | rfl | (simp only [qD_,qT_]; rfl)) ?_; (with_reducible refine (z2_.calls k a1 t305 t306 _ ?side1 A4.out).mono ?_); (case side1 => exact Tb.below HT.out (by repeat (first | (with_reducible first | exact HB.out | apply y3 | apply y23 | apply y4) | exact HB.out))); rintro e w10 ⟨v307,rfl,ho0,hb⟩; refine ⟨_,rfl, ?_⟩; have n0_ := y0.mk (Kd.R_elder' (by (with_reducible repeat (first | apply Kd.R_alloc | apply Kd.R_drewN | apply Kd.R_drew)); exact HO304.out) (Kd.R_base ho0) hb); have n1_ := y0.mk (Kd.R_lower (Kd.R_new' ho0 (Kd.R_lt (by (with_reducible repeat (first | apply Kd.R_alloc | apply Kd.R_drewN | apply Kd.R_drew)); exact HO304.out))) (y6 (by repeat (first | (with_reducible first | exact HB.out | apply y3 | apply y23 | apply y4) | exact HB.out)))); have n2_ := y0.mk (y7 (by repeat (first | (with_reducible first | exact HB.out | apply y3 | apply y23 | apply y4) | exact HB.out)) hb); clear HO304; clear HB; have HO304 := n0_; have HO308 := n1_; have HB := n2_; clear n0_ n1_ n2_; (try clear hb); (try clear hb2); (try clear hk); (try clear hi); (try clear ho0)) | ((with_reducible refine y17 (f := 106) rfl ?_); refine y19 (some 25) rfl rfl Tryz.func106 (by kernel_rfl) rfl #[.string t301,.string t305] rfl (by (try simp only [qM_,List.map_cons,List.map_nil]); first | done | rfl | (simp only [qD_,qT_]; rfl)) ?_; (with_reducible refine (cmp_Compare_string.calls t301 t305 t309 _ A5.out).mono ?_); rintro e w' ⟨rfl,⟨nd,rfl⟩⟩; refine ⟨_,rfl, ?_⟩; obtain ⟨Ao11,co11,eo11⟩ := Kd.R_slice HO304.out; subst eo11; obtain ⟨Ao12,co12,eo12⟩ := Kd.R_slice HO308.out; subst eo12) | ((with_reducible refine y17 (f := 104) rfl ?_); refine y19 (some 30) rfl rfl Tryz.func104 (by kernel_rfl) rfl #[.int .i64 (t302.length : Int),.int .i64 (t306.length : Int)] rfl (by (try simp only [qM_,List.map_cons,List.map_nil]); first | done | rfl | (simp only [qD_,qT_]; rfl)) ?_; (with_reducible refine (cmp_Compare_int.calls (t302.length : Int) (t306.length : Int) t310 _ A6.out).mono ?_); rintro e w' ⟨rfl,⟨nd,rfl⟩⟩; refine ⟨_,rfl, ?_⟩) | ((with_reducible refine y18 (N := 31) rfl ?_); refine Kd.R_lit (Kd.int .i64) _ 3 ?hg (N := 31) ?hd (xs := ([t309,t310] : List Int)) (inner := [.int .i64 t309,.int .i64 t310]) (ok := fun _ => True) (okp := fun _ => True) ?hr ?hp (fun _ hk => hk) trivial (Below.refl _ _) (Nat.le_refl _) (by simp) ?_; (case hd => rfl); (case hg => rfl); (case hr => first | (go_simp; done) | (go_simp; rfl)); (case hp => exact (Reps.one (show Kd.M (Kd.int .i64) _ _ _ t309 [.int .i64 t309] from rfl) (Reps.one (show Kd.M (Kd.int .i64) _ _ _ t310 [.int .i64 t310] from rfl) (Reps.none _ _)))); intro v312 w13 ho14 hb hg_ hnew_; clear hg_ hnew_; (first | rw [← Ny311.out] at ho14 | (simp only [Int.reduceToNat] at ho14; rw [← Ny311.out] at ho14)); have n0_ := y0.mk (Kd.R_below (by (with_reducible repeat (first | apply Kd.R_alloc | apply Kd.R_drewN | apply Kd.R_drew)); exact HO304.out) hb); have n1_ := y0.mk (Kd.R_below (by (with_reducible repeat (first | apply Kd.R_alloc | apply Kd.R_drewN | apply Kd.R_drew)); exact HO308.out) hb); have n2_ := y0.mk (Kd.R_lower ho14 (y6 (by repeat (first | (with_reducible first | exact HB.out | apply y3 | apply y23 | apply y4) | exact HB.out)))); have n3_ := y0.mk (y7 (by repeat (first | (with_reducible first | exact HB.out | apply y3 | apply y23 | apply y4) | exact HB.out)) hb); clear HO304; clear HO308; clear HB; have HO304 := n0_; have HO308 := n1_; have HO313 := n2_; have HB := n3_; clear n0_ n1_ n2_ n3_; clear hb ho14; obtain ⟨Ao15,co15,eo15⟩ := Kd.R_slice HO313.out; subst eo15) | ((with_reducible refine y17 (f := 131) rfl ?_); refine y19 (some 32) rfl rfl Tryz.func131 (by kernel_rfl) rfl #[.slice Ao15 y311.length co15] rfl (by (try simp only [qM_,List.map_cons,List.map_nil]); first | done | rfl | (simp only [qD_,qT_]; rfl)) ?_; (with_reducible refine (cmp_Or_int.calls k _ _ y311 t314 _ ?side1 ?side2 A7.out).mono ?_); (case side1 => repeat (first | exact (Kd.R_reads' HO313.out).2.2 | (with_reducible refine Kd.C_alloc ?_ _) | (with_reducible refine Kd.C_drewN ?_ _) | (with_reducible refine Kd.C_drew ?_))); (case side2 => exact (Kd.R_reads' HO313.out).2.1); rintro e w' ⟨rfl,⟨nd,rfl⟩⟩; refine ⟨_,rfl, ?_⟩))
  go_loopg [38] k (fun kq v38 w' => ∃ (x38_1 : Int),v38 = .int .i64 x38_1 ∧ y0 (z0_.l0 kq t306 t302 (t302.length : Int) x38_1 = some r) ∧ y0 (kq ≤ k) ∧ y0 (Kd.R Kd.string 9 w' w.heap.size (fun k_ => some k_ ≠ ((.slice Ao11 t302.length co11) : Value).ownBlock) (.slice Ao12 t306.length co12) t306) ∧ y0 (Kd.R Kd.string 9 w' w.heap.size (fun k_ => some k_ ≠ ((.slice Ao12 t306.length co12) : Value).ownBlock) (.slice Ao11 t302.length co11) t302) ∧ y0 (Below w.heap.size w w'))
  case atStart => exact ⟨(0),(by first | rfl | (simp; done) | (simp [*]; done)),H',⟨Nat.le_refl _⟩,⟨by (with_reducible repeat (first | apply Kd.R_alloc | apply Kd.R_drewN | apply Kd.R_drew)); exact Kd.R_mono HO308.out (fun _ hk => hk.2)⟩,⟨by (with_reducible repeat (first | apply Kd.R_alloc | apply Kd.R_drewN | apply Kd.R_drew)); exact Kd.R_mono HO304.out (fun _ hk => hk.2)⟩,⟨by repeat (first | (with_reducible first | exact HB.out | apply y3 | apply y23 | apply y4) | exact HB.out)⟩⟩
  case round =>
   clear H'
   try clear c1
   try clear p2
   try clear c8
   try clear c8b0
   try clear c8b1
   try clear c10
   try clear c13
   obtain ⟨x38_1,rfl,HA,HK1,HO_8,HO_36,HB⟩ := hrel
   cases gk with
   | zero => exact absurd HA.out (by simp [z0_.l0])
   | succ k1 =>
    have H := HA.out
    clear HA
    simp only [z0_.l0] at H
    by_cases c16 : x38_1 < (t302.length : Int)
    ·rw [if_pos c16] at H
     have c16b0 : decide (x38_1 < (t302.length : Int)) = true := decide_eq_true c16
     clear c16
     by_cases c17 : 0 ≤ x38_1
     ·rw [if_pos c17] at H
      have c17b0 : decide (0 ≤ x38_1) = true := decide_eq_true c17
      clear c17
      by_cases c18 : x38_1 < (t302.length : Int)
      ·rw [if_pos c18] at H
       have c18b0 : decide (x38_1 < (t302.length : Int)) = true := decide_eq_true c18
       clear c18
       by_cases c19 : x38_1 < (t306.length : Int)
       ·rw [if_pos c19] at H
        have c19b0 : decide (x38_1 < (t306.length : Int)) = true := decide_eq_true c19
        clear c19
        replace H := Option.bind_eq_some_iff.mp H
        obtain ⟨t317,A200,H⟩ := H
        replace H : (if t317 = 0 then (z0_.l0 k1 t306 t302 (t302.length : Int) (wrap64 (x38_1 + 1))) else (some t317)) = some r := H
        have A20 := y0.mk A200
        clear A200
        by_cases c21 : t317 = 0
        ·rw [if_pos c21] at H
         have c21b0 : (t317 == 0) = true := beq_iff_eq.mpr c21
         have c21b1 : (t317 != 0) = false := bne_eq_false_iff_eq.mpr c21
         clear c21
         have H' := y0.mk H
         clear H
         have p315 : 0 ≤ (x38_1 : Int) := of_decide_eq_true (by first | (with_reducible assumption) | assumption)
         have q315 : x38_1 < (t302.length : Int) := of_decide_eq_true (by first | (with_reducible assumption) | assumption)
         obtain ⟨ad315,e315,hx315_0⟩ := Kd.at_string (Kd.R_reads' HO_36.out).2.2 x38_1 p315 q315
         cases e315
         replace p315 := eq_true p315
         replace q315 := eq_true q315
         have p316 : 0 ≤ (x38_1 : Int) := of_decide_eq_true (by first | (with_reducible assumption) | assumption)
         have q316 : x38_1 < (t306.length : Int) := of_decide_eq_true (by first | (with_reducible assumption) | assumption)
         obtain ⟨ad316,e316,hx316_0⟩ := Kd.at_string (Kd.R_reads' HO_8.out).2.2 x38_1 p316 q316
         cases e316
         replace p316 := eq_true p316
         replace q316 := eq_true q316
         go_wp2_with (first | ((with_reducible refine y17 (f := 90) rfl ?_); refine y19 (some 48) rfl rfl Tryz.func90 (by kernel_rfl) rfl #[.string (rdOf ByteArray.empty t302 x38_1),.string (rdOf ByteArray.empty t306 x38_1)] rfl (by (try simp only [qM_,List.map_cons,List.map_nil]); first | done | rfl | (simp only [qD_,qT_]; rfl)) ?_; (with_reducible refine (ih_impl_compareTerms k1 (by have := HK1.out; omega) (rdOf ByteArray.empty t302 x38_1) (rdOf ByteArray.empty t306 x38_1) t317 _ ?side1 A20.out).mono ?_); (case side1 => exact Tb.below HT.out (by repeat (first | (with_reducible first | exact HB.out | apply y3 | apply y23 | apply y4) | exact HB.out))); rintro e w22 ⟨rfl,hb⟩; refine ⟨_,rfl, ?_⟩; have n0_ := y0.mk (Kd.R_below (by (with_reducible repeat (first | apply Kd.R_alloc | apply Kd.R_drewN | apply Kd.R_drew)); exact HO_8.out) hb); have n1_ := y0.mk (Kd.R_below (by (with_reducible repeat (first | apply Kd.R_alloc | apply Kd.R_drewN | apply Kd.R_drew)); exact HO_36.out) hb); have n2_ := y0.mk (y7 (by repeat (first | (with_reducible first | exact HB.out | apply y3 | apply y23 | apply y4) | exact HB.out)) hb); clear HO_8; clear HO_36; clear HB; have HO_8 := n0_; have HO_36 := n1_; have HB := n2_; clear n0_ n1_ n2_; (try clear hb); (try clear hb2); (try clear hk); (try clear hi)))
         go_roundg k1
         case measure => have := HK1.out; omega
         case rel => exact ⟨(wrap64 (x38_1 + 1)),(by first | rfl | (simp; done) | (simp [*]; done)),H',⟨by have := HK1.out; omega⟩,⟨by (with_reducible repeat (first | apply Kd.R_alloc | apply Kd.R_drewN | apply Kd.R_drew)); exact HO_8.out⟩,⟨by (with_reducible repeat (first | apply Kd.R_alloc | apply Kd.R_drewN | apply Kd.R_drew)); exact HO_36.out⟩,⟨by repeat (first | (with_reducible first | exact HB.out | apply y3 | apply y23 | apply y4) | exact HB.out)⟩⟩
        ·rw [if_neg c21] at H
         have c21b0 : (t317 == 0) = false := beq_eq_false_iff_ne.mpr c21
         have c21b1 : (t317 != 0) = true := bne_iff_ne.mpr c21
         obtain rfl := Option.some.inj H
         have p315 : 0 ≤ (x38_1 : Int) := of_decide_eq_true (by first | (with_reducible assumption) | assumption)
         have q315 : x38_1 < (t302.length : Int) := of_decide_eq_true (by first | (with_reducible assumption) | assumption)
         obtain ⟨ad315,e315,hx315_0⟩ := Kd.at_string (Kd.R_reads' HO_36.out).2.2 x38_1 p315 q315
         cases e315
         replace p315 := eq_true p315
         replace q315 := eq_true q315
         have p316 : 0 ≤ (x38_1 : Int) := of_decide_eq_true (by first | (with_reducible assumption) | assumption)
         have q316 : x38_1 < (t306.length : Int) := of_decide_eq_true (by first | (with_reducible assumption) | assumption)
         obtain ⟨ad316,e316,hx316_0⟩ := Kd.at_string (Kd.R_reads' HO_8.out).2.2 x38_1 p316 q316
         cases e316
         replace p316 := eq_true p316
         replace q316 := eq_true q316
         go_wp2_with (first | ((with_reducible refine y17 (f := 90) rfl ?_); refine y19 (some 48) rfl rfl Tryz.func90 (by kernel_rfl) rfl #[.string (rdOf ByteArray.empty t302 x38_1),.string (rdOf ByteArray.empty t306 x38_1)] rfl (by (try simp only [qM_,List.map_cons,List.map_nil]); first | done | rfl | (simp only [qD_,qT_]; rfl)) ?_; (with_reducible refine (ih_impl_compareTerms k1 (by have := HK1.out; omega) (rdOf ByteArray.empty t302 x38_1) (rdOf ByteArray.empty t306 x38_1) t317 _ ?side1 A20.out).mono ?_); (case side1 => exact Tb.below HT.out (by repeat (first | (with_reducible first | exact HB.out | apply y3 | apply y23 | apply y4) | exact HB.out))); rintro e w23 ⟨rfl,hb⟩; refine ⟨_,rfl, ?_⟩; have n0_ := y0.mk (Kd.R_below (by (with_reducible repeat (first | apply Kd.R_alloc | apply Kd.R_drewN | apply Kd.R_drew)); exact HO_8.out) hb); have n1_ := y0.mk (Kd.R_below (by (with_reducible repeat (first | apply Kd.R_alloc | apply Kd.R_drewN | apply Kd.R_drew)); exact HO_36.out) hb); have n2_ := y0.mk (y7 (by repeat (first | (with_reducible first | exact HB.out | apply y3 | apply y23 | apply y4) | exact HB.out)) hb); clear HO_8; clear HO_36; clear HB; have HO_8 := n0_; have HO_36 := n1_; have HB := n2_; clear n0_ n1_ n2_; (try clear hb); (try clear hb2); (try clear hk); (try clear hi)))
         go_ret
         exact ⟨by first | rfl | (simp [y15,y16] <;> rfl) | (simp [*,y15,y16] <;> rfl),by repeat (first | (with_reducible first | exact HB.out | apply y3 | apply y23 | apply y4) | exact HB.out)⟩
       ·rw [if_neg c19] at H
        exact absurd H (by simp)
      ·rw [if_neg c18] at H
       exact absurd H (by simp)
     ·rw [if_neg c17] at H
      exact absurd H (by simp)
    ·rw [if_neg c16] at H
     have c16b0 : decide (x38_1 < (t302.length : Int)) = false := decide_eq_false c16
     clear c16
     obtain rfl := Option.some.inj H
     go_wp2
     go_ret
     exact ⟨by first | rfl | (simp [y15,y16] <;> rfl) | (simp [*,y15,y16] <;> rfl),by repeat (first | (with_reducible first | exact HB.out | apply y3 | apply y23 | apply y4) | exact HB.out)⟩
 ·rw [if_neg c8] at H
  have c8b0 : (t314 == 0) = false := beq_eq_false_iff_ne.mpr c8
  have c8b1 : (t314 != 0) = true := bne_iff_ne.mpr c8
  obtain rfl := Option.some.inj H
  go_enter Tryz.func107,Tryz.ntmps107
  go_wp2_with (first | ((with_reducible refine y17 (f := 130) rfl ?_); refine y19 (some 15) rfl rfl Tryz.func130 (by kernel_rfl) rfl #[.string a0] rfl (by (try simp only [qM_,List.map_cons,List.map_nil]); first | done | rfl | (simp only [qD_,qT_]; rfl)) ?_; (with_reducible refine (z2_.calls k a0 t301 t302 _ ?side1 A3.out).mono ?_); (case side1 => exact Tb.below HT.out (by repeat (first | (with_reducible first | exact HB.out | apply y3 | apply y23 | apply y4) | exact HB.out))); rintro e w24 ⟨v303,rfl,ho0,hb⟩; refine ⟨_,rfl, ?_⟩; have n0_ := y0.mk (Kd.R_lower ho0 (y6 (by repeat (first | (with_reducible first | exact HB.out | apply y3 | apply y23 | apply y4) | exact HB.out)))); have n1_ := y0.mk (y7 (by repeat (first | (with_reducible first | exact HB.out | apply y3 | apply y23 | apply y4) | exact HB.out)) hb); clear HB; have HO304 := n0_; have HB := n1_; clear n0_ n1_; (try clear hb); (try clear hb2); (try clear hk); (try clear hi); (try clear ho0)) | ((with_reducible refine y17 (f := 130) rfl ?_); refine y19 (some 20) rfl rfl Tryz.func130 (by kernel_rfl) rfl #[.string a1] rfl (by (try simp only [qM_,List.map_cons,List.map_nil]); first | done | rfl | (simp only [qD_,qT_]; rfl)) ?_; (with_reducible refine (z2_.calls k a1 t305 t306 _ ?side1 A4.out).mono ?_); (case side1 => exact Tb.below HT.out (by repeat (first | (with_reducible first | exact HB.out | apply y3 | apply y23 | apply y4) | exact HB.out))); rintro e w25 ⟨v307,rfl,ho0,hb⟩; refine ⟨_,rfl, ?_⟩; have n0_ := y0.mk (Kd.R_elder' (by (with_reducible repeat (first | apply Kd.R_alloc | apply Kd.R_drewN | apply Kd.R_drew)); exact HO304.out) (Kd.R_base ho0) hb); have n1_ := y0.mk (Kd.R_lower (Kd.R_new' ho0 (Kd.R_lt (by (with_reducible repeat (first | apply Kd.R_alloc | apply Kd.R_drewN | apply Kd.R_drew)); exact HO304.out))) (y6 (by repeat (first | (with_reducible first | exact HB.out | apply y3 | apply y23 | apply y4) | exact HB.out)))); have n2_ := y0.mk (y7 (by repeat (first | (with_reducible first | exact HB.out | apply y3 | apply y23 | apply y4) | exact HB.out)) hb); clear HO304; clear HB; have HO304 := n0_; have HO308 := n1_; have HB := n2_; clear n0_ n1_ n2_; (try clear hb); (try clear hb2); (try clear hk); (try clear hi); (try clear ho0)) | ((with_reducible refine y17 (f := 106) rfl ?_); refine y19 (some 25) rfl rfl Tryz.func106 (by kernel_rfl) rfl #[.string t301,.string t305] rfl (by (try simp only [qM_,List.map_cons,List.map_nil]); first | done | rfl | (simp only [qD_,qT_]; rfl)) ?_; (with_reducible refine (cmp_Compare_string.calls t301 t305 t309 _ A5.out).mono ?_); rintro e w' ⟨rfl,⟨nd,rfl⟩⟩; refine ⟨_,rfl, ?_⟩; obtain ⟨Ao26,co26,eo26⟩ := Kd.R_slice HO304.out; subst eo26; obtain ⟨Ao27,co27,eo27⟩ := Kd.R_slice HO308.out; subst eo27) | ((with_reducible refine y17 (f := 104) rfl ?_); refine y19 (some 30) rfl rfl Tryz.func104 (by kernel_rfl) rfl #[.int .i64 (t302.length : Int),.int .i64 (t306.length : Int)] rfl (by (try simp only [qM_,List.map_cons,List.map_nil]); first | done | rfl | (simp only [qD_,qT_]; rfl)) ?_; (with_reducible refine (cmp_Compare_int.calls (t302.length : Int) (t306.length : Int) t310 _ A6.out).mono ?_); rintro e w' ⟨rfl,⟨nd,rfl⟩⟩; refine ⟨_,rfl, ?_⟩) | ((with_reducible refine y18 (N := 31) rfl ?_); refine Kd.R_lit (Kd.int .i64) _ 3 ?hg (N := 31) ?hd (xs := ([t309,t310] : List Int)) (inner := [.int .i64 t309,.int .i64 t310]) (ok := fun _ => True) (okp := fun _ => True) ?hr ?hp (fun _ hk => hk) trivial (Below.refl _ _) (Nat.le_refl _) (by simp) ?_; (case hd => rfl); (case hg => rfl); (case hr => first | (go_simp; done) | (go_simp; rfl)); (case hp => exact (Reps.one (show Kd.M (Kd.int .i64) _ _ _ t309 [.int .i64 t309] from rfl) (Reps.one (show Kd.M (Kd.int .i64) _ _ _ t310 [.int .i64 t310] from rfl) (Reps.none _ _)))); intro v312 w28 ho29 hb hg_ hnew_; clear hg_ hnew_; (first | rw [← Ny311.out] at ho29 | (simp only [Int.reduceToNat] at ho29; rw [← Ny311.out] at ho29)); have n0_ := y0.mk (Kd.R_below (by (with_reducible repeat (first | apply Kd.R_alloc | apply Kd.R_drewN | apply Kd.R_drew)); exact HO304.out) hb); have n1_ := y0.mk (Kd.R_below (by (with_reducible repeat (first | apply Kd.R_alloc | apply Kd.R_drewN | apply Kd.R_drew)); exact HO308.out) hb); have n2_ := y0.mk (Kd.R_lower ho29 (y6 (by repeat (first | (with_reducible first | exact HB.out | apply y3 | apply y23 | apply y4) | exact HB.out)))); have n3_ := y0.mk (y7 (by repeat (first | (with_reducible first | exact HB.out | apply y3 | apply y23 | apply y4) | exact HB.out)) hb); clear HO304; clear HO308; clear HB; have HO304 := n0_; have HO308 := n1_; have HO313 := n2_; have HB := n3_; clear n0_ n1_ n2_ n3_; clear hb ho29; obtain ⟨Ao30,co30,eo30⟩ := Kd.R_slice HO313.out; subst eo30) | ((with_reducible refine y17 (f := 131) rfl ?_); refine y19 (some 32) rfl rfl Tryz.func131 (by kernel_rfl) rfl #[.slice Ao30 y311.length co30] rfl (by (try simp only [qM_,List.map_cons,List.map_nil]); first | done | rfl | (simp only [qD_,qT_]; rfl)) ?_; (with_reducible refine (cmp_Or_int.calls k _ _ y311 t314 _ ?side1 ?side2 A7.out).mono ?_); (case side1 => repeat (first | exact (Kd.R_reads' HO313.out).2.2 | (with_reducible refine Kd.C_alloc ?_ _) | (with_reducible refine Kd.C_drewN ?_ _) | (with_reducible refine Kd.C_drew ?_))); (case side2 => exact (Kd.R_reads' HO313.out).2.1); rintro e w' ⟨rfl,⟨nd,rfl⟩⟩; refine ⟨_,rfl, ?_⟩))
  go_ret
  exact ⟨by first | rfl | (simp [y15,y16] <;> rfl) | (simp [*,y15,y16] <;> rfl),by repeat (first | (with_reducible first | exact HB.out | apply y3 | apply y23 | apply y4) | exact HB.out)⟩
set_option maxHeartbeats 8000000 in
set_option maxRecDepth 100000 in
theorem z1_.step (k : Nat) (ih_impl_compareCons : ∀ m,m < k → z0_.Stm m) (ih : ∀ m,m < k → z1_.Stm m) : z1_.Stm k := by
 intro a0 a1 r w hT h
 cases k with
 | zero => exact absurd h (by simp [z1_.f])
 | succ k =>
 simp only [z1_.f] at h
 have HT := y0.mk hT
 clear hT
 have HB := y0.mk (Below.refl w.heap.size w)
 have H : ((impl_kindOf.f k a0).bind fun t318 => ((impl_kindOf.f k a1).bind fun t319 => (if t318 = 0 then (z1_.j0 k a0 a1 t318 t319 true) else (z1_.j0 k a0 a1 t318 t319 (t319 == 0))))) = some r := h
 clear h
 replace H := Option.bind_eq_some_iff.mp H
 obtain ⟨t318,A30,H⟩ := H
 replace H : ((impl_kindOf.f k a1).bind fun t319 => (if t318 = 0 then (z1_.j0 k a0 a1 t318 t319 true) else (z1_.j0 k a0 a1 t318 t319 (t319 == 0)))) = some r := H
 have A3 := y0.mk A30
 clear A30
 replace H := Option.bind_eq_some_iff.mp H
 obtain ⟨t319,A40,H⟩ := H
 replace H : (if t318 = 0 then (z1_.j0 k a0 a1 t318 t319 true) else (z1_.j0 k a0 a1 t318 t319 (t319 == 0))) = some r := H
 have A4 := y0.mk A40
 clear A40
 have HC5 := y0.mk H
 clear H
 go_enter Tryz.func90,Tryz.ntmps90
 go_upto_region 2 with (first | (go_at_call 88; (with_reducible refine (impl_kindOf.calls k a0 t318 _ ?side1 A3.out).mono ?_); (case side1 => exact Tb.below HT.out (by repeat (first | (with_reducible first | exact HB.out | apply y3 | apply y23 | apply y4) | exact HB.out))); rintro e w6 ⟨rfl,hb⟩; have n0_ := y0.mk (y7 (by repeat (first | (with_reducible first | exact HB.out | apply y3 | apply y23 | apply y4) | exact HB.out)) hb); clear HB; have HB := n0_; clear n0_; (try clear hb); (try clear hb2); (try clear hk); (try clear hi)) | (go_at_call 88; (with_reducible refine (impl_kindOf.calls k a1 t319 _ ?side1 A4.out).mono ?_); (case side1 => exact Tb.below HT.out (by repeat (first | (with_reducible first | exact HB.out | apply y3 | apply y23 | apply y4) | exact HB.out))); rintro e w7 ⟨rfl,hb⟩; have n0_ := y0.mk (y7 (by repeat (first | (with_reducible first | exact HB.out | apply y3 | apply y23 | apply y4) | exact HB.out)) hb); clear HB; have HB := n0_; clear n0_; (try clear hb); (try clear hb2); (try clear hk); (try clear hi)))
 repeat (go_quiet (first | (go_at_call 88; (with_reducible refine (impl_kindOf.calls k a0 t318 _ ?side1 A3.out).mono ?_); (case side1 => exact Tb.below HT.out (by repeat (first | (with_reducible first | exact HB.out | apply y3 | apply y23 | apply y4) | exact HB.out))); rintro e w6 ⟨rfl,hb⟩; have n0_ := y0.mk (y7 (by repeat (first | (with_reducible first | exact HB.out | apply y3 | apply y23 | apply y4) | exact HB.out)) hb); clear HB; have HB := n0_; clear n0_; (try clear hb); (try clear hb2); (try clear hk); (try clear hi)) | (go_at_call 88; (with_reducible refine (impl_kindOf.calls k a1 t319 _ ?side1 A4.out).mono ?_); (case side1 => exact Tb.below HT.out (by repeat (first | (with_reducible first | exact HB.out | apply y3 | apply y23 | apply y4) | exact HB.out))); rintro e w7 ⟨rfl,hb⟩; have n0_ := y0.mk (y7 (by repeat (first | (with_reducible first | exact HB.out | apply y3 | apply y23 | apply y4) | exact HB.out)) hb); clear HB; have HB := n0_; clear n0_; (try clear hb); (try clear hb2); (try clear hk); (try clear hi))); go_upto_region 2 with (first | (go_at_call 88; (with_reducible refine (impl_kindOf.calls k a0 t318 _ ?side1 A3.out).mono ?_); (case side1 => exact Tb.below HT.out (by repeat (first | (with_reducible first | exact HB.out | apply y3 | apply y23 | apply y4) | exact HB.out))); rintro e w6 ⟨rfl,hb⟩; have n0_ := y0.mk (y7 (by repeat (first | (with_reducible first | exact HB.out | apply y3 | apply y23 | apply y4) | exact HB.out)) hb); clear HB; have HB := n0_; clear n0_; (try clear hb); (try clear hb2); (try clear hk); (try clear hi)) | (go_at_call 88; (with_reducible refine (impl_kindOf.calls k a1 t319 _ ?side1 A4.out).mono ?_); (case side1 => exact Tb.below HT.out (by repeat (first | (with_reducible first | exact HB.out | apply y3 | apply y23 | apply y4) | exact HB.out))); rintro e w7 ⟨rfl,hb⟩; have n0_ := y0.mk (y7 (by repeat (first | (with_reducible first | exact HB.out | apply y3 | apply y23 | apply y4) | exact HB.out)) hb); clear HB; have HB := n0_; clear n0_; (try clear hb); (try clear hb2); (try clear hk); (try clear hi))))
 (try simp only [Act.put,qS_,qZ_,qC_])
 go_cut [11] (fun v11 wc => ∃ (kq : Nat) (x11_4 : Bool),v11 = .bool x11_4 ∧ y0 (z1_.j0 kq a0 a1 t318 t319 x11_4 = some r) ∧ y0 (kq ≤ k) ∧ y0 (Below w.heap.size w wc))
 case first =>
  have H := HC5.out
  clear HC5
  by_cases c8 : t318 = 0
  ·rw [if_pos c8] at H
   have c8b0 : (t318 == 0) = true := beq_iff_eq.mpr c8
   have c8b1 : (t318 != 0) = false := bne_eq_false_iff_eq.mpr c8
   clear c8
   (first | rw [c8b0] | (simp only [y21,y20]; rw [c8b0]) | skip)
   have H' := y0.mk H
   clear H
   go_wp2
   repeat (go_quiet (fail); try go_wp2)
   go_meet
   case rel => exact ⟨_,(true),(by first | rfl | (simp; done) | (simp [*]; done)),H',⟨by first | omega | exact Nat.le_refl _⟩,⟨by repeat (first | (with_reducible first | exact HB.out | apply y3 | apply y23 | apply y4) | exact HB.out)⟩⟩
  ·rw [if_neg c8] at H
   have c8b0 : (t318 == 0) = false := beq_eq_false_iff_ne.mpr c8
   have c8b1 : (t318 != 0) = true := bne_iff_ne.mpr c8
   (first | rw [c8b0] | (simp only [y21,y20]; rw [c8b0]) | skip)
   have H' := y0.mk H
   clear H
   go_wp2
   repeat (go_quiet (fail); try go_wp2)
   go_meet
   case rel => exact ⟨_,((t319 == 0)),(by first | rfl | (simp; done) | (simp [*]; done)),H',⟨by first | omega | exact Nat.le_refl _⟩,⟨by repeat (first | (with_reducible first | exact HB.out | apply y3 | apply y23 | apply y4) | exact HB.out)⟩⟩
 case rest =>
  clear HC5
  try clear p2
  try clear c8
  try clear c8b0
  try clear c8b1
  obtain ⟨kq,x11_4,rfl,HA,HJ4,HB⟩ := hcut
  cases kq with
  | zero => exact absurd HA.out (by simp [z1_.j0])
  | succ kj4 =>
   have H := HA.out
   clear HA
   simp only [z1_.j0] at H
   by_cases c9 : x11_4 = true
   ·subst c9
    have H1 : (some 2) = some r := by rw [if_pos rfl] at H; exact H
    clear H
    have H := H1
    clear H1
    obtain rfl := Option.some.inj H
    go_wp2
    repeat (go_quiet (fail); try go_wp2)
    go_ret
    exact ⟨by first | rfl | (simp [y15,y16] <;> rfl) | (simp [*,y15,y16] <;> rfl),by repeat (first | (with_reducible first | exact HB.out | apply y3 | apply y23 | apply y4) | exact HB.out)⟩
   ·replace c9 := Bool.eq_false_iff.mpr c9
    subst c9
    have H1 : (if t318 = t319 then (if t318 = 1 then ((impl_numOf.f a0).bind fun t320 => ((impl_numOf.f a1).bind fun t321 => ((cmp_Compare_int.f t320 t321).bind fun t322 => (some t322)))) else (if t318 = 2 then (if 1 ≤ (wrap64 ((a0.size : Int) - 1)) then (if (wrap64 ((a0.size : Int) - 1)) ≤ (a0.size : Int) then (if 1 ≤ (wrap64 ((a1.size : Int) - 1)) then (if (wrap64 ((a1.size : Int) - 1)) ≤ (a1.size : Int) then ((cmp_Compare_string.f (a0.extract 1 ((wrap64 ((a0.size : Int) - 1)) : Int).toNat) (a1.extract 1 ((wrap64 ((a1.size : Int) - 1)) : Int).toNat)).bind fun t323 => (some t323)) else (none)) else (none)) else (none)) else (none)) else ((z0_.f kj4 a0 a1).bind fun t324 => (some t324)))) else ((cmp_Compare_int.f t318 t319).bind fun t325 => (some t325))) = some r := by rw [if_neg (show ¬ (false = true) by decide)] at H; exact H
    clear H
    have H := H1
    clear H1
    by_cases c10 : t318 = t319
    ·rw [if_pos c10] at H
     have c10b0 : (t318 == t319) = true := beq_iff_eq.mpr c10
     have c10b1 : (t318 != t319) = false := bne_eq_false_iff_eq.mpr c10
     clear c10
     by_cases c11 : t318 = 1
     ·rw [if_pos c11] at H
      have c11b0 : (t318 == 1) = true := beq_iff_eq.mpr c11
      have c11b1 : (t318 != 1) = false := bne_eq_false_iff_eq.mpr c11
      clear c11
      replace H := Option.bind_eq_some_iff.mp H
      obtain ⟨t320,A120,H⟩ := H
      replace H : ((impl_numOf.f a1).bind fun t321 => ((cmp_Compare_int.f t320 t321).bind fun t322 => (some t322))) = some r := H
      have A12 := y0.mk A120
      clear A120
      replace H := Option.bind_eq_some_iff.mp H
      obtain ⟨t321,A130,H⟩ := H
      replace H : ((cmp_Compare_int.f t320 t321).bind fun t322 => (some t322)) = some r := H
      have A13 := y0.mk A130
      clear A130
      replace H := Option.bind_eq_some_iff.mp H
      obtain ⟨t322,A140,H⟩ := H
      replace H : (some t322) = some r := H
      have A14 := y0.mk A140
      clear A140
      obtain rfl := Option.some.inj H
      go_wp2_with (first | (go_at_call 105; (with_reducible refine (impl_numOf.calls a0 t320 _ ?side1 A12.out).mono ?_); (case side1 => exact Tb.below HT.out (by repeat (first | (with_reducible first | exact HB.out | apply y3 | apply y23 | apply y4) | exact HB.out))); rintro e w15 ⟨rfl,hb⟩; have n0_ := y0.mk (y7 (by repeat (first | (with_reducible first | exact HB.out | apply y3 | apply y23 | apply y4) | exact HB.out)) hb); clear HB; have HB := n0_; clear n0_; (try clear hb); (try clear hb2); (try clear hk); (try clear hi)) | (go_at_call 105; (with_reducible refine (impl_numOf.calls a1 t321 _ ?side1 A13.out).mono ?_); (case side1 => exact Tb.below HT.out (by repeat (first | (with_reducible first | exact HB.out | apply y3 | apply y23 | apply y4) | exact HB.out))); rintro e w16 ⟨rfl,hb⟩; have n0_ := y0.mk (y7 (by repeat (first | (with_reducible first | exact HB.out | apply y3 | apply y23 | apply y4) | exact HB.out)) hb); clear HB; have HB := n0_; clear n0_; (try clear hb); (try clear hb2); (try clear hk); (try clear hi)) | (go_at_call 104; (with_reducible refine (cmp_Compare_int.calls t320 t321 t322 _ A14.out).mono ?_); rintro e w' ⟨rfl,⟨nd,rfl⟩⟩; (try first | exact ⟨rfl,_,World.drewN_drewN _ _ _⟩ | exact ⟨rfl,_,Eq.trans (World.drewN_drewN _ _ _) (congrArg (World.drewN _) (Nat.add_assoc _ _ _))⟩)))
      repeat (go_quiet (first | (go_at_call 105; (with_reducible refine (impl_numOf.calls a0 t320 _ ?side1 A12.out).mono ?_); (case side1 => exact Tb.below HT.out (by repeat (first | (with_reducible first | exact HB.out | apply y3 | apply y23 | apply y4) | exact HB.out))); rintro e w15 ⟨rfl,hb⟩; have n0_ := y0.mk (y7 (by repeat (first | (with_reducible first | exact HB.out | apply y3 | apply y23 | apply y4) | exact HB.out)) hb); clear HB; have HB := n0_; clear n0_; (try clear hb); (try clear hb2); (try clear hk); (try clear hi)) | (go_at_call 105; (with_reducible refine (impl_numOf.calls a1 t321 _ ?side1 A13.out).mono ?_); (case side1 => exact Tb.below HT.out (by repeat (first | (with_reducible first | exact HB.out | apply y3 | apply y23 | apply y4) | exact HB.out))); rintro e w16 ⟨rfl,hb⟩; have n0_ := y0.mk (y7 (by repeat (first | (with_reducible first | exact HB.out | apply y3 | apply y23 | apply y4) | exact HB.out)) hb); clear HB; have HB := n0_; clear n0_; (try clear hb); (try clear hb2); (try clear hk); (try clear hi)) | (go_at_call 104; (with_reducible refine (cmp_Compare_int.calls t320 t321 t322 _ A14.out).mono ?_); rintro e w' ⟨rfl,⟨nd,rfl⟩⟩; (try first | exact ⟨rfl,_,World.drewN_drewN _ _ _⟩ | exact ⟨rfl,_,Eq.trans (World.drewN_drewN _ _ _) (congrArg (World.drewN _) (Nat.add_assoc _ _ _))⟩))); try go_wp2_with (first | (go_at_call 105; (with_reducible refine (impl_numOf.calls a0 t320 _ ?side1 A12.out).mono ?_); (case side1 => exact Tb.below HT.out (by repeat (first | (with_reducible first | exact HB.out | apply y3 | apply y23 | apply y4) | exact HB.out))); rintro e w15 ⟨rfl,hb⟩; have n0_ := y0.mk (y7 (by repeat (first | (with_reducible first | exact HB.out | apply y3 | apply y23 | apply y4) | exact HB.out)) hb); clear HB; have HB := n0_; clear n0_; (try clear hb); (try clear hb2); (try clear hk); (try clear hi)) | (go_at_call 105; (with_reducible refine (impl_numOf.calls a1 t321 _ ?side1 A13.out).mono ?_); (case side1 => exact Tb.below HT.out (by repeat (first | (with_reducible first | exact HB.out | apply y3 | apply y23 | apply y4) | exact HB.out))); rintro e w16 ⟨rfl,hb⟩; have n0_ := y0.mk (y7 (by repeat (first | (with_reducible first | exact HB.out | apply y3 | apply y23 | apply y4) | exact HB.out)) hb); clear HB; have HB := n0_; clear n0_; (try clear hb); (try clear hb2); (try clear hk); (try clear hi)) | (go_at_call 104; (with_reducible refine (cmp_Compare_int.calls t320 t321 t322 _ A14.out).mono ?_); rintro e w' ⟨rfl,⟨nd,rfl⟩⟩; (try first | exact ⟨rfl,_,World.drewN_drewN _ _ _⟩ | exact ⟨rfl,_,Eq.trans (World.drewN_drewN _ _ _) (congrArg (World.drewN _) (Nat.add_assoc _ _ _))⟩))))
      go_ret
      exact ⟨by first | rfl | (simp [y15,y16] <;> rfl) | (simp [*,y15,y16] <;> rfl),by repeat (first | (with_reducible first | exact HB.out | apply y3 | apply y23 | apply y4) | exact HB.out)⟩
     ·rw [if_neg c11] at H
      have c11b0 : (t318 == 1) = false := beq_eq_false_iff_ne.mpr c11
      have c11b1 : (t318 != 1) = true := bne_iff_ne.mpr c11
      by_cases c17 : t318 = 2
      ·rw [if_pos c17] at H
       have c17b0 : (t318 == 2) = true := beq_iff_eq.mpr c17
       have c17b1 : (t318 != 2) = false := bne_eq_false_iff_eq.mpr c17
       clear c17
       by_cases c18 : 1 ≤ (wrap64 ((a0.size : Int) - 1))
       ·rw [if_pos c18] at H
        have c18b0 := eq_true c18
        have c18b1 : decide (1 ≤ (wrap64 ((a0.size : Int) - 1))) = true := decide_eq_true c18
        clear c18
        by_cases c19 : (wrap64 ((a0.size : Int) - 1)) ≤ (a0.size : Int)
        ·rw [if_pos c19] at H
         have c19b0 := eq_true c19
         have c19b1 : decide ((wrap64 ((a0.size : Int) - 1)) ≤ (a0.size : Int)) = true := decide_eq_true c19
         clear c19
         by_cases c20 : 1 ≤ (wrap64 ((a1.size : Int) - 1))
         ·rw [if_pos c20] at H
          have c20b0 := eq_true c20
          have c20b1 : decide (1 ≤ (wrap64 ((a1.size : Int) - 1))) = true := decide_eq_true c20
          clear c20
          by_cases c21 : (wrap64 ((a1.size : Int) - 1)) ≤ (a1.size : Int)
          ·rw [if_pos c21] at H
           have c21b0 := eq_true c21
           have c21b1 : decide ((wrap64 ((a1.size : Int) - 1)) ≤ (a1.size : Int)) = true := decide_eq_true c21
           clear c21
           replace H := Option.bind_eq_some_iff.mp H
           obtain ⟨t323,A220,H⟩ := H
           replace H : (some t323) = some r := H
           have A22 := y0.mk A220
           clear A220
           obtain rfl := Option.some.inj H
           go_wp2_with (first | (go_at_call 106; (with_reducible refine (cmp_Compare_string.calls (a0.extract 1 ((wrap64 ((a0.size : Int) - 1)) : Int).toNat) (a1.extract 1 ((wrap64 ((a1.size : Int) - 1)) : Int).toNat) t323 _ A22.out).mono ?_); rintro e w' ⟨rfl,⟨nd,rfl⟩⟩; (try first | exact ⟨rfl,_,World.drewN_drewN _ _ _⟩ | exact ⟨rfl,_,Eq.trans (World.drewN_drewN _ _ _) (congrArg (World.drewN _) (Nat.add_assoc _ _ _))⟩)))
           repeat (go_quiet (first | (go_at_call 106; (with_reducible refine (cmp_Compare_string.calls (a0.extract 1 ((wrap64 ((a0.size : Int) - 1)) : Int).toNat) (a1.extract 1 ((wrap64 ((a1.size : Int) - 1)) : Int).toNat) t323 _ A22.out).mono ?_); rintro e w' ⟨rfl,⟨nd,rfl⟩⟩; (try first | exact ⟨rfl,_,World.drewN_drewN _ _ _⟩ | exact ⟨rfl,_,Eq.trans (World.drewN_drewN _ _ _) (congrArg (World.drewN _) (Nat.add_assoc _ _ _))⟩))); try go_wp2_with (first | (go_at_call 106; (with_reducible refine (cmp_Compare_string.calls (a0.extract 1 ((wrap64 ((a0.size : Int) - 1)) : Int).toNat) (a1.extract 1 ((wrap64 ((a1.size : Int) - 1)) : Int).toNat) t323 _ A22.out).mono ?_); rintro e w' ⟨rfl,⟨nd,rfl⟩⟩; (try first | exact ⟨rfl,_,World.drewN_drewN _ _ _⟩ | exact ⟨rfl,_,Eq.trans (World.drewN_drewN _ _ _) (congrArg (World.drewN _) (Nat.add_assoc _ _ _))⟩))))
           go_ret
           exact ⟨by first | rfl | (simp [y15,y16] <;> rfl) | (simp [*,y15,y16] <;> rfl),by repeat (first | (with_reducible first | exact HB.out | apply y3 | apply y23 | apply y4) | exact HB.out)⟩
          ·rw [if_neg c21] at H
           exact absurd H (by simp)
         ·rw [if_neg c20] at H
          exact absurd H (by simp)
        ·rw [if_neg c19] at H
         exact absurd H (by simp)
       ·rw [if_neg c18] at H
        exact absurd H (by simp)
      ·rw [if_neg c17] at H
       have c17b0 : (t318 == 2) = false := beq_eq_false_iff_ne.mpr c17
       have c17b1 : (t318 != 2) = true := bne_iff_ne.mpr c17
       replace H := Option.bind_eq_some_iff.mp H
       obtain ⟨t324,A230,H⟩ := H
       replace H : (some t324) = some r := H
       have A23 := y0.mk A230
       clear A230
       obtain rfl := Option.some.inj H
       go_wp2_with (first | (go_at_call 107; (with_reducible refine (ih_impl_compareCons kj4 (by have := HJ4.out; omega) a0 a1 t324 _ ?side1 A23.out).mono ?_); (case side1 => exact Tb.below HT.out (by repeat (first | (with_reducible first | exact HB.out | apply y3 | apply y23 | apply y4) | exact HB.out))); rintro e w24 ⟨rfl,hb⟩; have n0_ := y0.mk (y7 (by repeat (first | (with_reducible first | exact HB.out | apply y3 | apply y23 | apply y4) | exact HB.out)) hb); clear HB; have HB := n0_; clear n0_; (try clear hb); (try clear hb2); (try clear hk); (try clear hi)))
       repeat (go_quiet (first | (go_at_call 107; (with_reducible refine (ih_impl_compareCons kj4 (by have := HJ4.out; omega) a0 a1 t324 _ ?side1 A23.out).mono ?_); (case side1 => exact Tb.below HT.out (by repeat (first | (with_reducible first | exact HB.out | apply y3 | apply y23 | apply y4) | exact HB.out))); rintro e w24 ⟨rfl,hb⟩; have n0_ := y0.mk (y7 (by repeat (first | (with_reducible first | exact HB.out | apply y3 | apply y23 | apply y4) | exact HB.out)) hb); clear HB; have HB := n0_; clear n0_; (try clear hb); (try clear hb2); (try clear hk); (try clear hi))); try go_wp2_with (first | (go_at_call 107; (with_reducible refine (ih_impl_compareCons kj4 (by have := HJ4.out; omega) a0 a1 t324 _ ?side1 A23.out).mono ?_); (case side1 => exact Tb.below HT.out (by repeat (first | (with_reducible first | exact HB.out | apply y3 | apply y23 | apply y4) | exact HB.out))); rintro e w24 ⟨rfl,hb⟩; have n0_ := y0.mk (y7 (by repeat (first | (with_reducible first | exact HB.out | apply y3 | apply y23 | apply y4) | exact HB.out)) hb); clear HB; have HB := n0_; clear n0_; (try clear hb); (try clear hb2); (try clear hk); (try clear hi))))
       go_ret
       exact ⟨by first | rfl | (simp [y15,y16] <;> rfl) | (simp [*,y15,y16] <;> rfl),by repeat (first | (with_reducible first | exact HB.out | apply y3 | apply y23 | apply y4) | exact HB.out)⟩
    ·rw [if_neg c10] at H
     have c10b0 : (t318 == t319) = false := beq_eq_false_iff_ne.mpr c10
     have c10b1 : (t318 != t319) = true := bne_iff_ne.mpr c10
     replace H := Option.bind_eq_some_iff.mp H
     obtain ⟨t325,A250,H⟩ := H
     replace H : (some t325) = some r := H
     have A25 := y0.mk A250
     clear A250
     obtain rfl := Option.some.inj H
     go_wp2_with (first | (go_at_call 104; (with_reducible refine (cmp_Compare_int.calls t318 t319 t325 _ A25.out).mono ?_); rintro e w' ⟨rfl,⟨nd,rfl⟩⟩; (try first | exact ⟨rfl,_,World.drewN_drewN _ _ _⟩ | exact ⟨rfl,_,Eq.trans (World.drewN_drewN _ _ _) (congrArg (World.drewN _) (Nat.add_assoc _ _ _))⟩)))
     repeat (go_quiet (first | (go_at_call 104; (with_reducible refine (cmp_Compare_int.calls t318 t319 t325 _ A25.out).mono ?_); rintro e w' ⟨rfl,⟨nd,rfl⟩⟩; (try first | exact ⟨rfl,_,World.drewN_drewN _ _ _⟩ | exact ⟨rfl,_,Eq.trans (World.drewN_drewN _ _ _) (congrArg (World.drewN _) (Nat.add_assoc _ _ _))⟩))); try go_wp2_with (first | (go_at_call 104; (with_reducible refine (cmp_Compare_int.calls t318 t319 t325 _ A25.out).mono ?_); rintro e w' ⟨rfl,⟨nd,rfl⟩⟩; (try first | exact ⟨rfl,_,World.drewN_drewN _ _ _⟩ | exact ⟨rfl,_,Eq.trans (World.drewN_drewN _ _ _) (congrArg (World.drewN _) (Nat.add_assoc _ _ _))⟩))))
     go_ret
     exact ⟨by first | rfl | (simp [y15,y16] <;> rfl) | (simp [*,y15,y16] <;> rfl),by repeat (first | (with_reducible first | exact HB.out | apply y3 | apply y23 | apply y4) | exact HB.out)⟩
theorem z0_.all.Stm : ∀ k,z0_.Stm k ∧ z1_.Stm k := by
 intro k
 induction k using Nat.strongRecOn with
 | _ k ih =>
 exact ⟨z0_.step k (fun m h => (ih m h).1) (fun m h => (ih m h).2),z1_.step k (fun m h => (ih m h).1) (fun m h => (ih m h).2)⟩
theorem z1_.calls (k : Nat) : ∀ (a0 : ByteArray) (a1 : ByteArray) (r : Int) (w : World) (hT : Tb w) (h : z1_.f k a0 a1 = some r),
  Calls Tryz.prog 90 #[.string a0,.string a1] w fun e w' => e = .returned (.int .i64 r) ∧ Below w.heap.size w w' := (z0_.all.Stm k).2
def z3_.l0 : Nat → List ByteArray → List ByteArray → List ByteArray → Int → Int → Option (Int)
 | 0,_,_,_,_,_ => none
 | k + 1,x0,x1,x11,x12,x13 => if x13 < x12 then (if 0 ≤ x13 then (if x13 < (x11.length : Int) then (if x13 ≥ (x1.length : Int) then (some 1) else (if x13 < (x1.length : Int) then ((z1_.f k (rdOf ByteArray.empty x11 x13) (rdOf ByteArray.empty x1 x13)).bind fun t328 => (if t328 = 0 then (z3_.l0 k x0 x1 x11 x12 (wrap64 (x13 + 1))) else (some t328))) else (none))) else (none)) else (none)) else (if (x0.length : Int) < (x1.length : Int) then (some (-1)) else (some 0))
def z3_.f (k : Nat) (l0 : List ByteArray) (l1 : List ByteArray)  : Option (Int) := z3_.l0 k l0 l1 l0 (l0.length : Int) 0
set_option maxHeartbeats 8000000 in
set_option maxRecDepth 100000 in
theorem z3_.calls (k : Nat) (A0 : Option Addr) (c0 : Nat) (l0 : List ByteArray) (A1 : Option Addr) (c1 : Nat) (l1 : List ByteArray)  (r : Int) (w : World) (hr0 : Kd.C Kd.string w A0 l0.length l0) (hc0 : l0.length ≤ c0) (hr1 : Kd.C Kd.string w A1 l1.length l1) (hc1 : l1.length ≤ c1) (hT : Tb w) (h : z3_.f k l0 l1 = some r) :
  Calls Tryz.prog 89 #[.slice A0 l0.length c0,.slice A1 l1.length c1,.func (.func 90) #[] #[]] w fun e w' => e = .returned (.int .i64 r) ∧ Below w.heap.size w w' := by
 have HT := y0.mk hT
 clear hT
 have HR0 := y0.mk hr0
 have HC0 := y0.mk hc0
 clear hr0 hc0
 have HR1 := y0.mk hr1
 have HC1 := y0.mk hc1
 clear hr1 hc1
 have HB := y0.mk (Below.refl w.heap.size w)
 have H : (z3_.l0 k l0 l1 l0 (l0.length : Int) 0) = some r := h
 clear h
 have H' := y0.mk H
 clear H
 go_enter Tryz.func89,Tryz.ntmps89
 go_wp2
 go_loopg [13] k (fun kq v13 w' => ∃ (x13_1 : Int),v13 = .int .i64 x13_1 ∧ y0 (z3_.l0 kq l0 l1 l0 (l0.length : Int) x13_1 = some r) ∧ y0 (kq ≤ k) ∧ y0 (Below w.heap.size w w'))
 case atStart => exact ⟨(0),(by first | rfl | (simp; done) | (simp [*]; done)),H',⟨Nat.le_refl _⟩,⟨by repeat (first | (with_reducible first | exact HB.out | apply y3 | apply y23 | apply y4) | exact HB.out)⟩⟩
 case round =>
  clear H'
  try clear c1
  try clear p2
  obtain ⟨x13_1,rfl,HA,HK1,HB⟩ := hrel
  cases gk with
  | zero => exact absurd HA.out (by simp [z3_.l0])
  | succ k1 =>
   have H := HA.out
   clear HA
   simp only [z3_.l0] at H
   by_cases c4 : x13_1 < (l0.length : Int)
   ·rw [if_pos c4] at H
    have c4b0 : decide (x13_1 < (l0.length : Int)) = true := decide_eq_true c4
    clear c4
    by_cases c5 : 0 ≤ x13_1
    ·rw [if_pos c5] at H
     have c5b0 : decide (0 ≤ x13_1) = true := decide_eq_true c5
     clear c5
     by_cases c6 : x13_1 < (l0.length : Int)
     ·rw [if_pos c6] at H
      have c6b0 : decide (x13_1 < (l0.length : Int)) = true := decide_eq_true c6
      clear c6
      by_cases c7 : x13_1 ≥ (l1.length : Int)
      ·rw [if_pos c7] at H
       have c7b0 : decide ((l1.length : Int) ≤ x13_1) = true := decide_eq_true c7
       clear c7
       obtain rfl := Option.some.inj H
       have p326 : 0 ≤ (x13_1 : Int) := of_decide_eq_true (by first | (with_reducible assumption) | assumption)
       have q326 : x13_1 < (l0.length : Int) := of_decide_eq_true (by first | (with_reducible assumption) | assumption)
       obtain ⟨ad326,e326,hx326_0⟩ := Kd.at_string HR0.out x13_1 p326 q326
       cases e326
       replace hx326_0 := (HB.out.cell (World.block_lt_of_cell? w _ hx326_0)).trans hx326_0
       replace p326 := eq_true p326
       replace q326 := eq_true q326
       go_wp2
       go_ret
       exact ⟨by first | rfl | (simp [y15,y16] <;> rfl) | (simp [*,y15,y16] <;> rfl),by repeat (first | (with_reducible first | exact HB.out | apply y3 | apply y23 | apply y4) | exact HB.out)⟩
      ·rw [if_neg c7] at H
       have c7b0 : decide ((l1.length : Int) ≤ x13_1) = false := decide_eq_false c7
       clear c7
       by_cases c8 : x13_1 < (l1.length : Int)
       ·rw [if_pos c8] at H
        have c8b0 : decide (x13_1 < (l1.length : Int)) = true := decide_eq_true c8
        clear c8
        replace H := Option.bind_eq_some_iff.mp H
        obtain ⟨t328,A90,H⟩ := H
        replace H : (if t328 = 0 then (z3_.l0 k1 l0 l1 l0 (l0.length : Int) (wrap64 (x13_1 + 1))) else (some t328)) = some r := H
        have A9 := y0.mk A90
        clear A90
        by_cases c10 : t328 = 0
        ·rw [if_pos c10] at H
         have c10b0 : (t328 == 0) = true := beq_iff_eq.mpr c10
         have c10b1 : (t328 != 0) = false := bne_eq_false_iff_eq.mpr c10
         clear c10
         have H' := y0.mk H
         clear H
         have p326 : 0 ≤ (x13_1 : Int) := of_decide_eq_true (by first | (with_reducible assumption) | assumption)
         have q326 : x13_1 < (l0.length : Int) := of_decide_eq_true (by first | (with_reducible assumption) | assumption)
         obtain ⟨ad326,e326,hx326_0⟩ := Kd.at_string HR0.out x13_1 p326 q326
         cases e326
         replace hx326_0 := (HB.out.cell (World.block_lt_of_cell? w _ hx326_0)).trans hx326_0
         replace p326 := eq_true p326
         replace q326 := eq_true q326
         have p327 : 0 ≤ (x13_1 : Int) := of_decide_eq_true (by first | (with_reducible assumption) | assumption)
         have q327 : x13_1 < (l1.length : Int) := of_decide_eq_true (by first | (with_reducible assumption) | assumption)
         obtain ⟨ad327,e327,hx327_0⟩ := Kd.at_string HR1.out x13_1 p327 q327
         cases e327
         replace hx327_0 := (HB.out.cell (World.block_lt_of_cell? w _ hx327_0)).trans hx327_0
         replace p327 := eq_true p327
         replace q327 := eq_true q327
         go_wp2_with (first | (go_at_call 90; (with_reducible refine (z1_.calls k1 (rdOf ByteArray.empty l0 x13_1) (rdOf ByteArray.empty l1 x13_1) t328 _ ?side1 A9.out).mono ?_); (case side1 => exact Tb.below HT.out (by repeat (first | (with_reducible first | exact HB.out | apply y3 | apply y23 | apply y4) | exact HB.out))); rintro e w11 ⟨rfl,hb⟩; have n0_ := y0.mk (y7 (by repeat (first | (with_reducible first | exact HB.out | apply y3 | apply y23 | apply y4) | exact HB.out)) hb); clear HB; have HB := n0_; clear n0_; (try clear hb); (try clear hb2); (try clear hk); (try clear hi)))
         go_roundg k1
         case measure => have := HK1.out; omega
         case rel => exact ⟨(wrap64 (x13_1 + 1)),(by first | rfl | (simp; done) | (simp [*]; done)),H',⟨by have := HK1.out; omega⟩,⟨by repeat (first | (with_reducible first | exact HB.out | apply y3 | apply y23 | apply y4) | exact HB.out)⟩⟩
        ·rw [if_neg c10] at H
         have c10b0 : (t328 == 0) = false := beq_eq_false_iff_ne.mpr c10
         have c10b1 : (t328 != 0) = true := bne_iff_ne.mpr c10
         obtain rfl := Option.some.inj H
         have p326 : 0 ≤ (x13_1 : Int) := of_decide_eq_true (by first | (with_reducible assumption) | assumption)
         have q326 : x13_1 < (l0.length : Int) := of_decide_eq_true (by first | (with_reducible assumption) | assumption)
         obtain ⟨ad326,e326,hx326_0⟩ := Kd.at_string HR0.out x13_1 p326 q326
         cases e326
         replace hx326_0 := (HB.out.cell (World.block_lt_of_cell? w _ hx326_0)).trans hx326_0
         replace p326 := eq_true p326
         replace q326 := eq_true q326
         have p327 : 0 ≤ (x13_1 : Int) := of_decide_eq_true (by first | (with_reducible assumption) | assumption)
         have q327 : x13_1 < (l1.length : Int) := of_decide_eq_true (by first | (with_reducible assumption) | assumption)
         obtain ⟨ad327,e327,hx327_0⟩ := Kd.at_string HR1.out x13_1 p327 q327
         cases e327
         replace hx327_0 := (HB.out.cell (World.block_lt_of_cell? w _ hx327_0)).trans hx327_0
         replace p327 := eq_true p327
         replace q327 := eq_true q327
         go_wp2_with (first | (go_at_call 90; (with_reducible refine (z1_.calls k1 (rdOf ByteArray.empty l0 x13_1) (rdOf ByteArray.empty l1 x13_1) t328 _ ?side1 A9.out).mono ?_); (case side1 => exact Tb.below HT.out (by repeat (first | (with_reducible first | exact HB.out | apply y3 | apply y23 | apply y4) | exact HB.out))); rintro e w12 ⟨rfl,hb⟩; have n0_ := y0.mk (y7 (by repeat (first | (with_reducible first | exact HB.out | apply y3 | apply y23 | apply y4) | exact HB.out)) hb); clear HB; have HB := n0_; clear n0_; (try clear hb); (try clear hb2); (try clear hk); (try clear hi)))
         go_ret
         exact ⟨by first | rfl | (simp [y15,y16] <;> rfl) | (simp [*,y15,y16] <;> rfl),by repeat (first | (with_reducible first | exact HB.out | apply y3 | apply y23 | apply y4) | exact HB.out)⟩
       ·rw [if_neg c8] at H
        exact absurd H (by simp)
     ·rw [if_neg c6] at H
      exact absurd H (by simp)
    ·rw [if_neg c5] at H
     exact absurd H (by simp)
   ·rw [if_neg c4] at H
    have c4b0 : decide (x13_1 < (l0.length : Int)) = false := decide_eq_false c4
    clear c4
    by_cases c13 : (l0.length : Int) < (l1.length : Int)
    ·rw [if_pos c13] at H
     have c13b0 : decide ((l0.length : Int) < (l1.length : Int)) = true := decide_eq_true c13
     have c13b1 : decide (l0.length < l1.length) = true := decide_eq_true (Int.ofNat_lt.mp c13)
     clear c13
     obtain rfl := Option.some.inj H
     go_wp2
     go_ret
     exact ⟨by first | rfl | (simp [y15,y16] <;> rfl) | (simp [*,y15,y16] <;> rfl),by repeat (first | (with_reducible first | exact HB.out | apply y3 | apply y23 | apply y4) | exact HB.out)⟩
    ·rw [if_neg c13] at H
     have c13b0 : decide ((l0.length : Int) < (l1.length : Int)) = false := decide_eq_false c13
     have c13b1 : decide (l0.length < l1.length) = false := decide_eq_false (fun h => c13 (Int.ofNat_lt.mpr h))
     clear c13
     obtain rfl := Option.some.inj H
     go_wp2
     go_ret
     exact ⟨by first | rfl | (simp [y15,y16] <;> rfl) | (simp [*,y15,y16] <;> rfl),by repeat (first | (with_reducible first | exact HB.out | apply y3 | apply y23 | apply y4) | exact HB.out)⟩
def impl_compareTuples.f (k : Nat) (l0_0 : List ByteArray) (l1_0 : List ByteArray) : Option (Int) := (z3_.f k l0_0 l1_0).bind fun t331 => (some t331)
set_option maxHeartbeats 8000000 in
set_option maxRecDepth 100000 in
theorem impl_compareTuples.calls (k : Nat) (A0_0 : Option Addr) (c0_0 : Nat) (l0_0 : List ByteArray) (A1_0 : Option Addr) (c1_0 : Nat) (l1_0 : List ByteArray) (r : Int) (w : World) (hr0_0 : Kd.C Kd.string w A0_0 l0_0.length l0_0) (hc0_0 : l0_0.length ≤ c0_0) (hr1_0 : Kd.C Kd.string w A1_0 l1_0.length l1_0) (hc1_0 : l1_0.length ≤ c1_0) (hT : Tb w) (h : impl_compareTuples.f k l0_0 l1_0 = some r) :
  Calls Tryz.prog 68 #[.agg #[.slice A0_0 l0_0.length c0_0],.agg #[.slice A1_0 l1_0.length c1_0]] w fun e w' => e = .returned (.int .i64 r) ∧ Below w.heap.size w w' := by
 have hu35 := Tryz.underlying35
 have HT := y0.mk hT
 clear hT
 have HR0_0 := y0.mk hr0_0
 have HC0_0 := y0.mk hc0_0
 clear hr0_0 hc0_0
 have HR1_0 := y0.mk hr1_0
 have HC1_0 := y0.mk hc1_0
 clear hr1_0 hc1_0
 have HB := y0.mk (Below.refl w.heap.size w)
 have H : ((z3_.f k l0_0 l1_0).bind fun t331 => (some t331)) = some r := h
 clear h
 replace H := Option.bind_eq_some_iff.mp H
 obtain ⟨t331,A30,H⟩ := H
 replace H : (some t331) = some r := H
 have A3 := y0.mk A30
 clear A30
 obtain rfl := Option.some.inj H
 go_enter Tryz.func68,Tryz.ntmps68
 go_wp2_with (first | ((with_reducible refine y18 (N := 2) rfl ?_); refine y14 ?hg (N := 2) ?hd (cs := #[.slice A0_0 l0_0.length c0_0]) (t := 35) ?hr ?_; (case hd => rfl); (case hg => rfl); (case hr => first | (go_simp; done) | (go_simp; rfl)); intro gb329 hg w4 hbox hb; have n0_ := y0.mk (y7 (by repeat (first | (with_reducible first | exact HB.out | apply y3 | apply y23 | apply y4) | exact HB.out)) hb); have n1_ := y0.mk (hbox); have n2_ := y0.mk ((by rw [hg]; exact (y6 (by repeat (first | (with_reducible first | exact HB.out | apply y3 | apply y23 | apply y4) | exact HB.out))) : w.heap.size ≤ gb329)); have n3_ := y0.mk ((by rw [hg]; exact (y6 (by repeat (first | (with_reducible first | exact HB.out | apply y3 | apply y23 | apply y4) | exact HB.out))) : w.heap.size ≤ gb329)); clear HB; have HB := n0_; have BK329 := n1_; have GW329 := n2_; have GE329 := n3_; clear n0_ n1_ n2_ n3_; clear hb hbox hg) | ((with_reducible refine y18 (N := 3) rfl ?_); refine y14 ?hg (N := 3) ?hd (cs := #[.slice A1_0 l1_0.length c1_0]) (t := 35) ?hr ?_; (case hd => rfl); (case hg => rfl); (case hr => first | (go_simp; done) | (go_simp; rfl)); intro gb330 hg w5 hbox hb; have n0_ := y0.mk (y9 (g := gb329) (o := .cells #[.slice A0_0 l0_0.length c0_0] 35 (0,0)) (by (with_reducible repeat (first | refine y12 ?_ _ | refine y11 ?_ | refine y8 ?_ _)); exact BK329.out) hb); have n1_ := y0.mk (y7 (by repeat (first | (with_reducible first | exact HB.out | apply y3 | apply y23 | apply y4 | refine y5 ?_ GE329.out) | exact HB.out)) hb); have n2_ := y0.mk (hbox); have n3_ := y0.mk ((by rw [hg]; exact (y6 (by repeat (first | (with_reducible first | exact HB.out | apply y3 | apply y23 | apply y4 | refine y5 ?_ GE329.out) | exact HB.out))) : w.heap.size ≤ gb330)); have n4_ := y0.mk ((by rw [hg]; exact (y6 (by repeat (first | (with_reducible first | exact HB.out | apply y3 | apply y23 | apply y4 | refine y5 ?_ GE329.out) | exact HB.out))) : w.heap.size ≤ gb330)); have n5_ := y0.mk ((by rw [hg]; exact Nat.ne_of_lt (blk_lt (g := gb329) (o := .cells #[.slice A0_0 l0_0.length c0_0] 35 (0,0)) (by (with_reducible repeat (first | refine y12 ?_ _ | refine y11 ?_ | refine y8 ?_ _)); exact BK329.out)) : gb329 ≠ gb330)); have n6_ := y0.mk ((by rw [hg]; exact Nat.ne_of_gt (blk_lt (g := gb329) (o := .cells #[.slice A0_0 l0_0.length c0_0] 35 (0,0)) (by (with_reducible repeat (first | refine y12 ?_ _ | refine y11 ?_ | refine y8 ?_ _)); exact BK329.out)) : gb330 ≠ gb329)); clear BK329; clear HB; have BK329 := n0_; have HB := n1_; have BK330 := n2_; have GW330 := n3_; have GE330 := n4_; have NB329_330 := n5_; have NB330_329 := n6_; clear n0_ n1_ n2_ n3_ n4_ n5_ n6_; clear hb hbox hg; have hnb6 := NB329_330.out; have hnc6 := NB330_329.out; have hcz7_0 : w5.cell? ⟨gb329,0,none⟩ = some (.slice A0_0 l0_0.length c0_0) := (y10 BK329.out 0).trans rfl; have hfz7_0 := y13 BK329.out 0; have hcz8_0 : w5.cell? ⟨gb330,0,none⟩ = some (.slice A1_0 l1_0.length c1_0) := (y10 BK330.out 0).trans rfl; have hfz8_0 := y13 BK330.out 0) | ((with_reducible refine y17 (f := 89) rfl ?_); refine y19 (some 9) rfl rfl Tryz.func89 (by kernel_rfl) rfl #[.slice A0_0 l0_0.length c0_0,.slice A1_0 l1_0.length c1_0,.func (.func 90) #[] #[]] rfl (by (try simp only [qM_,List.map_cons,List.map_nil]); first | done | rfl | (simp only [qD_,qT_]; rfl)) ?_; (with_reducible refine (z3_.calls k _ _ l0_0 _ _ l1_0  t331 _ ?side1 ?side2 ?side3 ?side4 ?side5 A3.out).mono ?_); (case side1 => repeat (first | exact (Kd.C_below HR0_0.out HB.out) | (with_reducible refine Kd.C_alloc ?_ _) | (with_reducible refine Kd.C_drewN ?_ _) | (with_reducible refine Kd.C_drew ?_))); (case side2 => exact HC0_0.out); (case side3 => repeat (first | exact (Kd.C_below HR1_0.out HB.out) | (with_reducible refine Kd.C_alloc ?_ _) | (with_reducible refine Kd.C_drewN ?_ _) | (with_reducible refine Kd.C_drew ?_))); (case side4 => exact HC1_0.out); (case side5 => exact Tb.below HT.out (by repeat (first | (with_reducible first | exact HB.out | apply y3 | apply y23 | apply y4 | refine y5 ?_ GE329.out | refine y5 ?_ GE330.out) | exact HB.out))); rintro e w9 ⟨rfl,hb⟩; refine ⟨_,rfl, ?_⟩; have n0_ := y0.mk (y9 (g := gb329) (o := .cells #[.slice A0_0 l0_0.length c0_0] 35 (0,0)) (by (with_reducible repeat (first | refine y12 ?_ _ | refine y11 ?_ | refine y8 ?_ _)); exact BK329.out) hb); have n1_ := y0.mk (y9 (g := gb330) (o := .cells #[.slice A1_0 l1_0.length c1_0] 35 (0,0)) (by (with_reducible repeat (first | refine y12 ?_ _ | refine y11 ?_ | refine y8 ?_ _)); exact BK330.out) hb); have n2_ := y0.mk (y7 (by repeat (first | (with_reducible first | exact HB.out | apply y3 | apply y23 | apply y4 | refine y5 ?_ GE329.out | refine y5 ?_ GE330.out) | exact HB.out)) hb); clear BK329; clear BK330; clear HB; have BK329 := n0_; have BK330 := n1_; have HB := n2_; clear n0_ n1_ n2_; (try clear hb); (try clear hb2); (try clear hk); (try clear hi)))
 go_ret
 exact ⟨by first | rfl | (simp [y15,y16] <;> rfl) | (simp [*,y15,y16] <;> rfl),by repeat (first | (with_reducible first | exact HB.out | apply y3 | apply y23 | apply y4 | refine y5 ?_ GE329.out | refine y5 ?_ GE330.out) | exact HB.out)⟩
end Go.Proofs.YtebadckdihgklaaGreatDoor.Ph
end

-- Cut by prune.py, a program of this session, out of the texts of this claim: Lean checks it.
import Derived.Test.YtebadckdihgklaaDoorVoaPbx0
import Derived.Test.YtebadckdihgklaaDoorVoaPbx7
section
namespace Go.Proofs.YtebadckdihgklaaDoor.Pb
open Go.RowKit Go.Proofs.YtebadckdihgklaaDoorW.PrintWords Go.Proofs.YtebadckdihgklaaDoorW.PrintLast Go.Proofs.YtebadckdihgklaaDoorW.PrintMore
attribute [local go_sem] max2_int min2_int max_two min_two max_three min_three max_four min_four   -- for this text's walks alone
set_option linter.unusedVariables false
set_option linter.unusedSimpArgs false
def spec_TermCmp.f (k : Nat) (a0 : ByteArray) (a1 : ByteArray) : Option (Int) := (z3_.f k a0).bind fun t570 => (if t570 = 0 then (some 2) else ((z3_.f k a1).bind fun t571 => (if t571 = 0 then (some 2) else ((spec_l01Cmp.f k a0 a1).bind fun t572 => (some t572)))))
set_option maxHeartbeats 8000000 in
set_option maxRecDepth 100000 in
theorem spec_TermCmp.calls (k : Nat) (a0 : ByteArray) (a1 : ByteArray) (r : Int) (w : World) (h : spec_TermCmp.f k a0 a1 = some r) :
  Calls Tryd.prog 54 #[.string a0,.string a1] w fun e w' => e = .returned (.int .i64 r) ∧ Below w.heap.size w w' := by
 have HB := y0.mk (Below.refl w.heap.size w)
 have H : ((z3_.f k a0).bind fun t570 => (if t570 = 0 then (some 2) else ((z3_.f k a1).bind fun t571 => (if t571 = 0 then (some 2) else ((spec_l01Cmp.f k a0 a1).bind fun t572 => (some t572)))))) = some r := h
 clear h
 replace H := Option.bind_eq_some_iff.mp H
 obtain ⟨t570,A30,H⟩ := H
 replace H : (if t570 = 0 then (some 2) else ((z3_.f k a1).bind fun t571 => (if t571 = 0 then (some 2) else ((spec_l01Cmp.f k a0 a1).bind fun t572 => (some t572))))) = some r := H
 have A3 := y0.mk A30
 clear A30
 by_cases c4 : t570 = 0
 ·rw [if_pos c4] at H
  have c4b0 : (t570 == 0) = true := beq_iff_eq.mpr c4
  have c4b1 : (t570 != 0) = false := bne_eq_false_iff_eq.mpr c4
  clear c4
  obtain rfl := Option.some.inj H
  go_enter Tryd.func54,Tryd.ntmps54
  go_wp2_with (first | ((with_reducible refine y11 (f := 29) rfl ?_); refine y12 (some 6) rfl rfl Tryd.func29 (by kernel_rfl) rfl #[.string a0] rfl (by (try simp only [qM_,List.map_cons,List.map_nil]); first | done | rfl | (simp only [qD_,qT_]; rfl)) ?_; (with_reducible refine (z3_.calls k a0 t570 _ A3.out).mono ?_); rintro e w5 ⟨rfl,hb⟩; refine ⟨_,rfl, ?_⟩; have n0_ := y0.mk (y8 (by repeat (first | (with_reducible first | exact HB.out | apply y5 | apply y18 | apply y6) | exact HB.out)) hb); clear HB; have HB := n0_; clear n0_; (try clear hb); (try clear hb2); (try clear hk); (try clear hi)))
  go_ret
  exact ⟨by first | rfl | (simp [y9,y10] <;> rfl) | (simp [*,y9,y10] <;> rfl),by repeat (first | (with_reducible first | exact HB.out | apply y5 | apply y18 | apply y6) | exact HB.out)⟩
 ·rw [if_neg c4] at H
  have c4b0 : (t570 == 0) = false := beq_eq_false_iff_ne.mpr c4
  have c4b1 : (t570 != 0) = true := bne_iff_ne.mpr c4
  replace H := Option.bind_eq_some_iff.mp H
  obtain ⟨t571,A60,H⟩ := H
  replace H : (if t571 = 0 then (some 2) else ((spec_l01Cmp.f k a0 a1).bind fun t572 => (some t572))) = some r := H
  have A6 := y0.mk A60
  clear A60
  by_cases c7 : t571 = 0
  ·rw [if_pos c7] at H
   have c7b0 : (t571 == 0) = true := beq_iff_eq.mpr c7
   have c7b1 : (t571 != 0) = false := bne_eq_false_iff_eq.mpr c7
   clear c7
   obtain rfl := Option.some.inj H
   go_enter Tryd.func54,Tryd.ntmps54
   go_wp2_with (first | ((with_reducible refine y11 (f := 29) rfl ?_); refine y12 (some 6) rfl rfl Tryd.func29 (by kernel_rfl) rfl #[.string a0] rfl (by (try simp only [qM_,List.map_cons,List.map_nil]); first | done | rfl | (simp only [qD_,qT_]; rfl)) ?_; (with_reducible refine (z3_.calls k a0 t570 _ A3.out).mono ?_); rintro e w8 ⟨rfl,hb⟩; refine ⟨_,rfl, ?_⟩; have n0_ := y0.mk (y8 (by repeat (first | (with_reducible first | exact HB.out | apply y5 | apply y18 | apply y6) | exact HB.out)) hb); clear HB; have HB := n0_; clear n0_; (try clear hb); (try clear hb2); (try clear hk); (try clear hi)) | (go_at_call 29; (with_reducible refine (z3_.calls k a1 t571 _ A6.out).mono ?_); rintro e w9 ⟨rfl,hb⟩; have n0_ := y0.mk (y8 (by repeat (first | (with_reducible first | exact HB.out | apply y5 | apply y18 | apply y6) | exact HB.out)) hb); clear HB; have HB := n0_; clear n0_; (try clear hb); (try clear hb2); (try clear hk); (try clear hi)))
   go_ret
   exact ⟨by first | rfl | (simp [y9,y10] <;> rfl) | (simp [*,y9,y10] <;> rfl),by repeat (first | (with_reducible first | exact HB.out | apply y5 | apply y18 | apply y6) | exact HB.out)⟩
  ·rw [if_neg c7] at H
   have c7b0 : (t571 == 0) = false := beq_eq_false_iff_ne.mpr c7
   have c7b1 : (t571 != 0) = true := bne_iff_ne.mpr c7
   replace H := Option.bind_eq_some_iff.mp H
   obtain ⟨t572,A100,H⟩ := H
   replace H : (some t572) = some r := H
   have A10 := y0.mk A100
   clear A100
   obtain rfl := Option.some.inj H
   go_enter Tryd.func54,Tryd.ntmps54
   go_wp2_with (first | ((with_reducible refine y11 (f := 29) rfl ?_); refine y12 (some 6) rfl rfl Tryd.func29 (by kernel_rfl) rfl #[.string a0] rfl (by (try simp only [qM_,List.map_cons,List.map_nil]); first | done | rfl | (simp only [qD_,qT_]; rfl)) ?_; (with_reducible refine (z3_.calls k a0 t570 _ A3.out).mono ?_); rintro e w11 ⟨rfl,hb⟩; refine ⟨_,rfl, ?_⟩; have n0_ := y0.mk (y8 (by repeat (first | (with_reducible first | exact HB.out | apply y5 | apply y18 | apply y6) | exact HB.out)) hb); clear HB; have HB := n0_; clear n0_; (try clear hb); (try clear hb2); (try clear hk); (try clear hi)) | (go_at_call 29; (with_reducible refine (z3_.calls k a1 t571 _ A6.out).mono ?_); rintro e w12 ⟨rfl,hb⟩; have n0_ := y0.mk (y8 (by repeat (first | (with_reducible first | exact HB.out | apply y5 | apply y18 | apply y6) | exact HB.out)) hb); clear HB; have HB := n0_; clear n0_; (try clear hb); (try clear hb2); (try clear hk); (try clear hi)) | ((with_reducible refine y11 (f := 91) rfl ?_); refine y12 (some 15) rfl rfl Tryd.func91 (by kernel_rfl) rfl #[.string a0,.string a1] rfl (by (try simp only [qM_,List.map_cons,List.map_nil]); first | done | rfl | (simp only [qD_,qT_]; rfl)) ?_; (with_reducible refine (spec_l01Cmp.calls k a0 a1 t572 _ A10.out).mono ?_); rintro e w13 ⟨rfl,hb⟩; refine ⟨_,rfl, ?_⟩; have n0_ := y0.mk (y8 (by repeat (first | (with_reducible first | exact HB.out | apply y5 | apply y18 | apply y6) | exact HB.out)) hb); clear HB; have HB := n0_; clear n0_; (try clear hb); (try clear hb2); (try clear hk); (try clear hi)))
   go_ret
   exact ⟨by first | rfl | (simp [y9,y10] <;> rfl) | (simp [*,y9,y10] <;> rfl),by repeat (first | (with_reducible first | exact HB.out | apply y5 | apply y18 | apply y6) | exact HB.out)⟩
def cmp_isNaN_int.f (a0 : Int) : Option (Bool) := some (a0 != a0)
set_option maxHeartbeats 8000000 in
set_option maxRecDepth 100000 in
theorem cmp_isNaN_int.calls (a0 : Int) (r : Bool) (w : World) (h : cmp_isNaN_int.f a0 = some r) :
  Calls Tryd.prog 135 #[.int .i64 a0] w fun e w' => e = .returned (.bool r) ∧ y1 w w' := by
 have H : (some (a0 != a0)) = some r := h
 clear h
 obtain rfl := Option.some.inj H
 go_enter Tryd.func135,Tryd.ntmps135
 go_wp2
 go_ret
 exact ⟨by first | rfl | (simp; done) | (simp [*]; done),by repeat (first | exact y1.refl _ | apply y1.step)⟩
def cmp_Compare_int.f (a0 : Int) (a1 : Int) : Option (Int) := (cmp_isNaN_int.f a0).bind fun t573 => ((cmp_isNaN_int.f a1).bind fun t574 => (if t573 = true then (if t574 = true then (some 0) else (some (-1))) else (if t574 = true then (some 1) else (if a0 < a1 then (some (-1)) else (if a0 > a1 then (some 1) else (some 0))))))
set_option maxHeartbeats 8000000 in
set_option maxRecDepth 100000 in
theorem cmp_Compare_int.calls (a0 : Int) (a1 : Int) (r : Int) (w : World) (h : cmp_Compare_int.f a0 a1 = some r) :
  Calls Tryd.prog 114 #[.int .i64 a0,.int .i64 a1] w fun e w' => e = .returned (.int .i64 r) ∧ y1 w w' := by
 have H : ((cmp_isNaN_int.f a0).bind fun t573 => ((cmp_isNaN_int.f a1).bind fun t574 => (if t573 = true then (if t574 = true then (some 0) else (some (-1))) else (if t574 = true then (some 1) else (if a0 < a1 then (some (-1)) else (if a0 > a1 then (some 1) else (some 0))))))) = some r := h
 clear h
 replace H := Option.bind_eq_some_iff.mp H
 obtain ⟨t573,A30,H⟩ := H
 replace H : ((cmp_isNaN_int.f a1).bind fun t574 => (if t573 = true then (if t574 = true then (some 0) else (some (-1))) else (if t574 = true then (some 1) else (if a0 < a1 then (some (-1)) else (if a0 > a1 then (some 1) else (some 0)))))) = some r := H
 have A3 := y0.mk A30
 clear A30
 replace H := Option.bind_eq_some_iff.mp H
 obtain ⟨t574,A40,H⟩ := H
 replace H : (if t573 = true then (if t574 = true then (some 0) else (some (-1))) else (if t574 = true then (some 1) else (if a0 < a1 then (some (-1)) else (if a0 > a1 then (some 1) else (some 0))))) = some r := H
 have A4 := y0.mk A40
 clear A40
 by_cases c5 : t573 = true
 ·subst c5
  have H1 : (if t574 = true then (some 0) else (some (-1))) = some r := by rw [if_pos rfl] at H; exact H
  clear H
  have H := H1
  clear H1
  by_cases c6 : t574 = true
  ·subst c6
   have H1 : (some 0) = some r := by rw [if_pos rfl] at H; exact H
   clear H
   have H := H1
   clear H1
   obtain rfl := Option.some.inj H
   go_enter Tryd.func114,Tryd.ntmps114
   go_wp2_with (first | ((with_reducible refine y11 (f := 135) rfl ?_); refine y12 (some 8) rfl rfl Tryd.func135 (by kernel_rfl) rfl #[.int .i64 a0] rfl (by (try simp only [qM_,List.map_cons,List.map_nil]); first | done | rfl | (simp only [qD_,qT_]; rfl)) ?_; (with_reducible refine (cmp_isNaN_int.calls a0 true _ A3.out).mono ?_); rintro e w' ⟨rfl,⟨nd,rfl⟩⟩; refine ⟨_,rfl, ?_⟩) | ((with_reducible refine y11 (f := 135) rfl ?_); refine y12 (some 10) rfl rfl Tryd.func135 (by kernel_rfl) rfl #[.int .i64 a1] rfl (by (try simp only [qM_,List.map_cons,List.map_nil]); first | done | rfl | (simp only [qD_,qT_]; rfl)) ?_; (with_reducible refine (cmp_isNaN_int.calls a1 true _ A4.out).mono ?_); rintro e w' ⟨rfl,⟨nd,rfl⟩⟩; refine ⟨_,rfl, ?_⟩))
   go_ret
   exact ⟨by first | rfl | (simp; done) | (simp [*]; done),by repeat (first | exact y1.refl _ | apply y1.step)⟩
  ·replace c6 := Bool.eq_false_iff.mpr c6
   subst c6
   have H1 : (some (-1)) = some r := by rw [if_neg (show ¬ (false = true) by decide)] at H; exact H
   clear H
   have H := H1
   clear H1
   obtain rfl := Option.some.inj H
   go_enter Tryd.func114,Tryd.ntmps114
   go_wp2_with (first | ((with_reducible refine y11 (f := 135) rfl ?_); refine y12 (some 8) rfl rfl Tryd.func135 (by kernel_rfl) rfl #[.int .i64 a0] rfl (by (try simp only [qM_,List.map_cons,List.map_nil]); first | done | rfl | (simp only [qD_,qT_]; rfl)) ?_; (with_reducible refine (cmp_isNaN_int.calls a0 true _ A3.out).mono ?_); rintro e w' ⟨rfl,⟨nd,rfl⟩⟩; refine ⟨_,rfl, ?_⟩) | ((with_reducible refine y11 (f := 135) rfl ?_); refine y12 (some 10) rfl rfl Tryd.func135 (by kernel_rfl) rfl #[.int .i64 a1] rfl (by (try simp only [qM_,List.map_cons,List.map_nil]); first | done | rfl | (simp only [qD_,qT_]; rfl)) ?_; (with_reducible refine (cmp_isNaN_int.calls a1 false _ A4.out).mono ?_); rintro e w' ⟨rfl,⟨nd,rfl⟩⟩; refine ⟨_,rfl, ?_⟩))
   go_ret
   exact ⟨by first | rfl | (simp; done) | (simp [*]; done),by repeat (first | exact y1.refl _ | apply y1.step)⟩
 ·replace c5 := Bool.eq_false_iff.mpr c5
  subst c5
  have H1 : (if t574 = true then (some 1) else (if a0 < a1 then (some (-1)) else (if a0 > a1 then (some 1) else (some 0)))) = some r := by rw [if_neg (show ¬ (false = true) by decide)] at H; exact H
  clear H
  have H := H1
  clear H1
  by_cases c7 : t574 = true
  ·subst c7
   have H1 : (some 1) = some r := by rw [if_pos rfl] at H; exact H
   clear H
   have H := H1
   clear H1
   obtain rfl := Option.some.inj H
   go_enter Tryd.func114,Tryd.ntmps114
   go_wp2_with (first | ((with_reducible refine y11 (f := 135) rfl ?_); refine y12 (some 8) rfl rfl Tryd.func135 (by kernel_rfl) rfl #[.int .i64 a0] rfl (by (try simp only [qM_,List.map_cons,List.map_nil]); first | done | rfl | (simp only [qD_,qT_]; rfl)) ?_; (with_reducible refine (cmp_isNaN_int.calls a0 false _ A3.out).mono ?_); rintro e w' ⟨rfl,⟨nd,rfl⟩⟩; refine ⟨_,rfl, ?_⟩) | ((with_reducible refine y11 (f := 135) rfl ?_); refine y12 (some 10) rfl rfl Tryd.func135 (by kernel_rfl) rfl #[.int .i64 a1] rfl (by (try simp only [qM_,List.map_cons,List.map_nil]); first | done | rfl | (simp only [qD_,qT_]; rfl)) ?_; (with_reducible refine (cmp_isNaN_int.calls a1 true _ A4.out).mono ?_); rintro e w' ⟨rfl,⟨nd,rfl⟩⟩; refine ⟨_,rfl, ?_⟩))
   go_ret
   exact ⟨by first | rfl | (simp; done) | (simp [*]; done),by repeat (first | exact y1.refl _ | apply y1.step)⟩
  ·replace c7 := Bool.eq_false_iff.mpr c7
   subst c7
   have H1 : (if a0 < a1 then (some (-1)) else (if a0 > a1 then (some 1) else (some 0))) = some r := by rw [if_neg (show ¬ (false = true) by decide)] at H; exact H
   clear H
   have H := H1
   clear H1
   by_cases c8 : a0 < a1
   ·rw [if_pos c8] at H
    have c8b0 : decide (a0 < a1) = true := decide_eq_true c8
    clear c8
    obtain rfl := Option.some.inj H
    go_enter Tryd.func114,Tryd.ntmps114
    go_wp2_with (first | ((with_reducible refine y11 (f := 135) rfl ?_); refine y12 (some 8) rfl rfl Tryd.func135 (by kernel_rfl) rfl #[.int .i64 a0] rfl (by (try simp only [qM_,List.map_cons,List.map_nil]); first | done | rfl | (simp only [qD_,qT_]; rfl)) ?_; (with_reducible refine (cmp_isNaN_int.calls a0 false _ A3.out).mono ?_); rintro e w' ⟨rfl,⟨nd,rfl⟩⟩; refine ⟨_,rfl, ?_⟩) | ((with_reducible refine y11 (f := 135) rfl ?_); refine y12 (some 10) rfl rfl Tryd.func135 (by kernel_rfl) rfl #[.int .i64 a1] rfl (by (try simp only [qM_,List.map_cons,List.map_nil]); first | done | rfl | (simp only [qD_,qT_]; rfl)) ?_; (with_reducible refine (cmp_isNaN_int.calls a1 false _ A4.out).mono ?_); rintro e w' ⟨rfl,⟨nd,rfl⟩⟩; refine ⟨_,rfl, ?_⟩))
    go_ret
    exact ⟨by first | rfl | (simp; done) | (simp [*]; done),by repeat (first | exact y1.refl _ | apply y1.step)⟩
   ·rw [if_neg c8] at H
    have c8b0 : decide (a0 < a1) = false := decide_eq_false c8
    clear c8
    by_cases c9 : a0 > a1
    ·rw [if_pos c9] at H
     have c9b0 : decide (a1 < a0) = true := decide_eq_true c9
     clear c9
     obtain rfl := Option.some.inj H
     go_enter Tryd.func114,Tryd.ntmps114
     go_wp2_with (first | ((with_reducible refine y11 (f := 135) rfl ?_); refine y12 (some 8) rfl rfl Tryd.func135 (by kernel_rfl) rfl #[.int .i64 a0] rfl (by (try simp only [qM_,List.map_cons,List.map_nil]); first | done | rfl | (simp only [qD_,qT_]; rfl)) ?_; (with_reducible refine (cmp_isNaN_int.calls a0 false _ A3.out).mono ?_); rintro e w' ⟨rfl,⟨nd,rfl⟩⟩; refine ⟨_,rfl, ?_⟩) | ((with_reducible refine y11 (f := 135) rfl ?_); refine y12 (some 10) rfl rfl Tryd.func135 (by kernel_rfl) rfl #[.int .i64 a1] rfl (by (try simp only [qM_,List.map_cons,List.map_nil]); first | done | rfl | (simp only [qD_,qT_]; rfl)) ?_; (with_reducible refine (cmp_isNaN_int.calls a1 false _ A4.out).mono ?_); rintro e w' ⟨rfl,⟨nd,rfl⟩⟩; refine ⟨_,rfl, ?_⟩))
     go_ret
     exact ⟨by first | rfl | (simp; done) | (simp [*]; done),by repeat (first | exact y1.refl _ | apply y1.step)⟩
    ·rw [if_neg c9] at H
     have c9b0 : decide (a1 < a0) = false := decide_eq_false c9
     clear c9
     obtain rfl := Option.some.inj H
     go_enter Tryd.func114,Tryd.ntmps114
     go_wp2_with (first | ((with_reducible refine y11 (f := 135) rfl ?_); refine y12 (some 8) rfl rfl Tryd.func135 (by kernel_rfl) rfl #[.int .i64 a0] rfl (by (try simp only [qM_,List.map_cons,List.map_nil]); first | done | rfl | (simp only [qD_,qT_]; rfl)) ?_; (with_reducible refine (cmp_isNaN_int.calls a0 false _ A3.out).mono ?_); rintro e w' ⟨rfl,⟨nd,rfl⟩⟩; refine ⟨_,rfl, ?_⟩) | ((with_reducible refine y11 (f := 135) rfl ?_); refine y12 (some 10) rfl rfl Tryd.func135 (by kernel_rfl) rfl #[.int .i64 a1] rfl (by (try simp only [qM_,List.map_cons,List.map_nil]); first | done | rfl | (simp only [qD_,qT_]; rfl)) ?_; (with_reducible refine (cmp_isNaN_int.calls a1 false _ A4.out).mono ?_); rintro e w' ⟨rfl,⟨nd,rfl⟩⟩; refine ⟨_,rfl, ?_⟩))
     go_ret
     exact ⟨by first | rfl | (simp; done) | (simp [*]; done),by repeat (first | exact y1.refl _ | apply y1.step)⟩
def cmp_isNaN_string.f (a0 : ByteArray) : Option (Bool) := some (a0.toList != a0.toList)
set_option maxHeartbeats 8000000 in
set_option maxRecDepth 100000 in
theorem cmp_isNaN_string.calls (a0 : ByteArray) (r : Bool) (w : World) (h : cmp_isNaN_string.f a0 = some r) :
  Calls Tryd.prog 136 #[.string a0] w fun e w' => e = .returned (.bool r) ∧ y1 w w' := by
 have H : (some (a0.toList != a0.toList)) = some r := h
 clear h
 obtain rfl := Option.some.inj H
 go_enter Tryd.func136,Tryd.ntmps136
 go_wp2
 go_ret
 exact ⟨by first | rfl | (simp; done) | (simp [*]; done),by repeat (first | exact y1.refl _ | apply y1.step)⟩
def cmp_Compare_string.f (a0 : ByteArray) (a1 : ByteArray) : Option (Int) := (cmp_isNaN_string.f a0).bind fun t575 => ((cmp_isNaN_string.f a1).bind fun t576 => (if t575 = true then (if t576 = true then (some 0) else (some (-1))) else (if t576 = true then (some 1) else (if (Op.bytesLess a0.toList a1.toList) = true then (some (-1)) else (if (Op.bytesLess a1.toList a0.toList) = true then (some 1) else (some 0))))))
theorem cmp_Compare_string.bl : ∀ x y : List UInt8,(!(Op.bytesLess x y || x == y)) = Op.bytesLess y x
 | [],[] => rfl
 | [],b :: y => rfl
 | a :: x,[] => rfl
 | a :: x,b :: y => by
  have ih := cmp_Compare_string.bl x y
  have e1 : (decide (a < b)) = (decide (a.toNat < b.toNat)) := rfl
  have e2 : (decide (b < a)) = (decide (b.toNat < a.toNat)) := rfl
  rw [Op.bytesLess,Op.bytesLess,e1,e2,← ih]
  by_cases h : a = b
  ·subst h
   simp
  ·have hn : a.toNat ≠ b.toNat := fun h' => h (UInt8.toNat_inj.1 h')
   have h1 : (a == b) = false := by simpa using h
   have h2 : (b == a) = false := by simpa using fun h' => h (Eq.symm h')
   have h3 : ((a :: x) == (b :: y)) = false := by simp [h]
   rw [h1,h2,h3]
   by_cases hl : a.toNat < b.toNat
   ·have : ¬ b.toNat < a.toNat := by omega
    simp [hl,this]
   ·have : b.toNat < a.toNat := by omega
    simp [hl,this]
theorem cmp_Compare_string.gtr (t : TypeId) (a b : ByteArray) : binOp .gtr t (.string a) (.string b) = pure (.bool (Op.bytesLess b.toList a.toList)) := by
 rw [← cmp_Compare_string.bl]
 simp [binOp,Op.stringOp]
attribute [local go_sem] cmp_Compare_string.gtr
set_option maxHeartbeats 8000000 in
set_option maxRecDepth 100000 in
theorem cmp_Compare_string.calls (a0 : ByteArray) (a1 : ByteArray) (r : Int) (w : World) (h : cmp_Compare_string.f a0 a1 = some r) :
  Calls Tryd.prog 115 #[.string a0,.string a1] w fun e w' => e = .returned (.int .i64 r) ∧ y1 w w' := by
 have H : ((cmp_isNaN_string.f a0).bind fun t575 => ((cmp_isNaN_string.f a1).bind fun t576 => (if t575 = true then (if t576 = true then (some 0) else (some (-1))) else (if t576 = true then (some 1) else (if (Op.bytesLess a0.toList a1.toList) = true then (some (-1)) else (if (Op.bytesLess a1.toList a0.toList) = true then (some 1) else (some 0))))))) = some r := h
 clear h
 replace H := Option.bind_eq_some_iff.mp H
 obtain ⟨t575,A30,H⟩ := H
 replace H : ((cmp_isNaN_string.f a1).bind fun t576 => (if t575 = true then (if t576 = true then (some 0) else (some (-1))) else (if t576 = true then (some 1) else (if (Op.bytesLess a0.toList a1.toList) = true then (some (-1)) else (if (Op.bytesLess a1.toList a0.toList) = true then (some 1) else (some 0)))))) = some r := H
 have A3 := y0.mk A30
 clear A30
 replace H := Option.bind_eq_some_iff.mp H
 obtain ⟨t576,A40,H⟩ := H
 replace H : (if t575 = true then (if t576 = true then (some 0) else (some (-1))) else (if t576 = true then (some 1) else (if (Op.bytesLess a0.toList a1.toList) = true then (some (-1)) else (if (Op.bytesLess a1.toList a0.toList) = true then (some 1) else (some 0))))) = some r := H
 have A4 := y0.mk A40
 clear A40
 by_cases c5 : t575 = true
 ·subst c5
  have H1 : (if t576 = true then (some 0) else (some (-1))) = some r := by rw [if_pos rfl] at H; exact H
  clear H
  have H := H1
  clear H1
  by_cases c6 : t576 = true
  ·subst c6
   have H1 : (some 0) = some r := by rw [if_pos rfl] at H; exact H
   clear H
   have H := H1
   clear H1
   obtain rfl := Option.some.inj H
   go_enter Tryd.func115,Tryd.ntmps115
   go_wp2_with (first | ((with_reducible refine y11 (f := 136) rfl ?_); refine y12 (some 8) rfl rfl Tryd.func136 (by kernel_rfl) rfl #[.string a0] rfl (by (try simp only [qM_,List.map_cons,List.map_nil]); first | done | rfl | (simp only [qD_,qT_]; rfl)) ?_; (with_reducible refine (cmp_isNaN_string.calls a0 true _ A3.out).mono ?_); rintro e w' ⟨rfl,⟨nd,rfl⟩⟩; refine ⟨_,rfl, ?_⟩) | ((with_reducible refine y11 (f := 136) rfl ?_); refine y12 (some 10) rfl rfl Tryd.func136 (by kernel_rfl) rfl #[.string a1] rfl (by (try simp only [qM_,List.map_cons,List.map_nil]); first | done | rfl | (simp only [qD_,qT_]; rfl)) ?_; (with_reducible refine (cmp_isNaN_string.calls a1 true _ A4.out).mono ?_); rintro e w' ⟨rfl,⟨nd,rfl⟩⟩; refine ⟨_,rfl, ?_⟩))
   go_ret
   exact ⟨by first | rfl | (simp; done) | (simp [*]; done),by repeat (first | exact y1.refl _ | apply y1.step)⟩
  ·replace c6 := Bool.eq_false_iff.mpr c6
   subst c6
   have H1 : (some (-1)) = some r := by rw [if_neg (show ¬ (false = true) by decide)] at H; exact H
   clear H
   have H := H1
   clear H1
   obtain rfl := Option.some.inj H
   go_enter Tryd.func115,Tryd.ntmps115
   go_wp2_with (first | ((with_reducible refine y11 (f := 136) rfl ?_); refine y12 (some 8) rfl rfl Tryd.func136 (by kernel_rfl) rfl #[.string a0] rfl (by (try simp only [qM_,List.map_cons,List.map_nil]); first | done | rfl | (simp only [qD_,qT_]; rfl)) ?_; (with_reducible refine (cmp_isNaN_string.calls a0 true _ A3.out).mono ?_); rintro e w' ⟨rfl,⟨nd,rfl⟩⟩; refine ⟨_,rfl, ?_⟩) | ((with_reducible refine y11 (f := 136) rfl ?_); refine y12 (some 10) rfl rfl Tryd.func136 (by kernel_rfl) rfl #[.string a1] rfl (by (try simp only [qM_,List.map_cons,List.map_nil]); first | done | rfl | (simp only [qD_,qT_]; rfl)) ?_; (with_reducible refine (cmp_isNaN_string.calls a1 false _ A4.out).mono ?_); rintro e w' ⟨rfl,⟨nd,rfl⟩⟩; refine ⟨_,rfl, ?_⟩))
   go_ret
   exact ⟨by first | rfl | (simp; done) | (simp [*]; done),by repeat (first | exact y1.refl _ | apply y1.step)⟩
 ·replace c5 := Bool.eq_false_iff.mpr c5
  subst c5
  have H1 : (if t576 = true then (some 1) else (if (Op.bytesLess a0.toList a1.toList) = true then (some (-1)) else (if (Op.bytesLess a1.toList a0.toList) = true then (some 1) else (some 0)))) = some r := by rw [if_neg (show ¬ (false = true) by decide)] at H; exact H
  clear H
  have H := H1
  clear H1
  by_cases c7 : t576 = true
  ·subst c7
   have H1 : (some 1) = some r := by rw [if_pos rfl] at H; exact H
   clear H
   have H := H1
   clear H1
   obtain rfl := Option.some.inj H
   go_enter Tryd.func115,Tryd.ntmps115
   go_wp2_with (first | ((with_reducible refine y11 (f := 136) rfl ?_); refine y12 (some 8) rfl rfl Tryd.func136 (by kernel_rfl) rfl #[.string a0] rfl (by (try simp only [qM_,List.map_cons,List.map_nil]); first | done | rfl | (simp only [qD_,qT_]; rfl)) ?_; (with_reducible refine (cmp_isNaN_string.calls a0 false _ A3.out).mono ?_); rintro e w' ⟨rfl,⟨nd,rfl⟩⟩; refine ⟨_,rfl, ?_⟩) | ((with_reducible refine y11 (f := 136) rfl ?_); refine y12 (some 10) rfl rfl Tryd.func136 (by kernel_rfl) rfl #[.string a1] rfl (by (try simp only [qM_,List.map_cons,List.map_nil]); first | done | rfl | (simp only [qD_,qT_]; rfl)) ?_; (with_reducible refine (cmp_isNaN_string.calls a1 true _ A4.out).mono ?_); rintro e w' ⟨rfl,⟨nd,rfl⟩⟩; refine ⟨_,rfl, ?_⟩))
   go_ret
   exact ⟨by first | rfl | (simp; done) | (simp [*]; done),by repeat (first | exact y1.refl _ | apply y1.step)⟩
  ·replace c7 := Bool.eq_false_iff.mpr c7
   subst c7
   have H1 : (if (Op.bytesLess a0.toList a1.toList) = true then (some (-1)) else (if (Op.bytesLess a1.toList a0.toList) = true then (some 1) else (some 0))) = some r := by rw [if_neg (show ¬ (false = true) by decide)] at H; exact H
   clear H
   have H := H1
   clear H1
   by_cases c8 : (Op.bytesLess a0.toList a1.toList) = true
   ·rw [if_pos c8] at H
    have c8b0 : (Op.bytesLess a0.toList a1.toList) = true := c8
    clear c8
    obtain rfl := Option.some.inj H
    go_enter Tryd.func115,Tryd.ntmps115
    go_wp2_with (first | ((with_reducible refine y11 (f := 136) rfl ?_); refine y12 (some 8) rfl rfl Tryd.func136 (by kernel_rfl) rfl #[.string a0] rfl (by (try simp only [qM_,List.map_cons,List.map_nil]); first | done | rfl | (simp only [qD_,qT_]; rfl)) ?_; (with_reducible refine (cmp_isNaN_string.calls a0 false _ A3.out).mono ?_); rintro e w' ⟨rfl,⟨nd,rfl⟩⟩; refine ⟨_,rfl, ?_⟩) | ((with_reducible refine y11 (f := 136) rfl ?_); refine y12 (some 10) rfl rfl Tryd.func136 (by kernel_rfl) rfl #[.string a1] rfl (by (try simp only [qM_,List.map_cons,List.map_nil]); first | done | rfl | (simp only [qD_,qT_]; rfl)) ?_; (with_reducible refine (cmp_isNaN_string.calls a1 false _ A4.out).mono ?_); rintro e w' ⟨rfl,⟨nd,rfl⟩⟩; refine ⟨_,rfl, ?_⟩))
    go_ret
    exact ⟨by first | rfl | (simp; done) | (simp [*]; done),by repeat (first | exact y1.refl _ | apply y1.step)⟩
   ·rw [if_neg c8] at H
    have c8b0 : (Op.bytesLess a0.toList a1.toList) = false := by simpa using c8
    clear c8
    by_cases c9 : (Op.bytesLess a1.toList a0.toList) = true
    ·rw [if_pos c9] at H
     have c9b0 : (Op.bytesLess a1.toList a0.toList) = true := c9
     clear c9
     obtain rfl := Option.some.inj H
     go_enter Tryd.func115,Tryd.ntmps115
     go_wp2_with (first | ((with_reducible refine y11 (f := 136) rfl ?_); refine y12 (some 8) rfl rfl Tryd.func136 (by kernel_rfl) rfl #[.string a0] rfl (by (try simp only [qM_,List.map_cons,List.map_nil]); first | done | rfl | (simp only [qD_,qT_]; rfl)) ?_; (with_reducible refine (cmp_isNaN_string.calls a0 false _ A3.out).mono ?_); rintro e w' ⟨rfl,⟨nd,rfl⟩⟩; refine ⟨_,rfl, ?_⟩) | ((with_reducible refine y11 (f := 136) rfl ?_); refine y12 (some 10) rfl rfl Tryd.func136 (by kernel_rfl) rfl #[.string a1] rfl (by (try simp only [qM_,List.map_cons,List.map_nil]); first | done | rfl | (simp only [qD_,qT_]; rfl)) ?_; (with_reducible refine (cmp_isNaN_string.calls a1 false _ A4.out).mono ?_); rintro e w' ⟨rfl,⟨nd,rfl⟩⟩; refine ⟨_,rfl, ?_⟩))
     go_ret
     exact ⟨by first | rfl | (simp; done) | (simp [*]; done),by repeat (first | exact y1.refl _ | apply y1.step)⟩
    ·rw [if_neg c9] at H
     have c9b0 : (Op.bytesLess a1.toList a0.toList) = false := by simpa using c9
     clear c9
     obtain rfl := Option.some.inj H
     go_enter Tryd.func115,Tryd.ntmps115
     go_wp2_with (first | ((with_reducible refine y11 (f := 136) rfl ?_); refine y12 (some 8) rfl rfl Tryd.func136 (by kernel_rfl) rfl #[.string a0] rfl (by (try simp only [qM_,List.map_cons,List.map_nil]); first | done | rfl | (simp only [qD_,qT_]; rfl)) ?_; (with_reducible refine (cmp_isNaN_string.calls a0 false _ A3.out).mono ?_); rintro e w' ⟨rfl,⟨nd,rfl⟩⟩; refine ⟨_,rfl, ?_⟩) | ((with_reducible refine y11 (f := 136) rfl ?_); refine y12 (some 10) rfl rfl Tryd.func136 (by kernel_rfl) rfl #[.string a1] rfl (by (try simp only [qM_,List.map_cons,List.map_nil]); first | done | rfl | (simp only [qD_,qT_]; rfl)) ?_; (with_reducible refine (cmp_isNaN_string.calls a1 false _ A4.out).mono ?_); rintro e w' ⟨rfl,⟨nd,rfl⟩⟩; refine ⟨_,rfl, ?_⟩))
     go_ret
     exact ⟨by first | rfl | (simp; done) | (simp [*]; done),by repeat (first | exact y1.refl _ | apply y1.step)⟩
def cmp_Or_int.l0 : Nat → Int → List Int → Int → Int → Option (Int)
 | 0,_,_,_,_ => none
 | k + 1,x3,x6,x7,x8 => if x8 < x7 then (if 0 ≤ x8 then (if x8 < (x6.length : Int) then (if (rd x6 x8) = x3 then (cmp_Or_int.l0 k x3 x6 x7 (wrap64 (x8 + 1))) else (some (rd x6 x8))) else (none)) else (none)) else (some x3)
def cmp_Or_int.f (k : Nat) (l0 : List Int) : Option (Int) := cmp_Or_int.l0 k 0 l0 (l0.length : Int) 0
set_option maxHeartbeats 8000000 in
set_option maxRecDepth 100000 in
theorem cmp_Or_int.calls (k : Nat) (A0 : Option Addr) (c0 : Nat) (l0 : List Int) (r : Int) (w : World) (hr0 : Kd.C (Kd.int .i64) w A0 l0.length l0) (hc0 : l0.length ≤ c0) (h : cmp_Or_int.f k l0 = some r) :
  Calls Tryd.prog 137 #[.slice A0 l0.length c0] w fun e w' => e = .returned (.int .i64 r) ∧ y1 w w' := by
 have HR0 := y0.mk hr0
 have HC0 := y0.mk hc0
 clear hr0 hc0
 have H : (cmp_Or_int.l0 k 0 l0 (l0.length : Int) 0) = some r := h
 clear h
 have H' := y0.mk H
 clear H
 go_enter Tryd.func137,Tryd.ntmps137
 go_wp2
 go_loopg [8] k (fun kq v8 w' => ∃ (x8_1 : Int),v8 = .int .i64 x8_1 ∧ y0 (cmp_Or_int.l0 kq 0 l0 (l0.length : Int) x8_1 = some r) ∧ y0 (kq ≤ k) ∧ y1 w w')
 case atStart => exact ⟨(0),(by first | rfl | (simp; done) | (simp [*]; done)),H',⟨Nat.le_refl _⟩,by repeat (first | exact y1.refl _ | apply y1.step)⟩
 case round =>
  clear H'
  try clear c1
  obtain ⟨x8_1,rfl,HA,HK1,⟨m1,rfl⟩⟩ := hrel
  cases gk with
  | zero => exact absurd HA.out (by simp [cmp_Or_int.l0])
  | succ k1 =>
   have H := HA.out
   clear HA
   simp only [cmp_Or_int.l0] at H
   by_cases c2 : x8_1 < (l0.length : Int)
   ·rw [if_pos c2] at H
    have c2b0 : decide (x8_1 < (l0.length : Int)) = true := decide_eq_true c2
    clear c2
    by_cases c3 : 0 ≤ x8_1
    ·rw [if_pos c3] at H
     have c3b0 : decide (0 ≤ x8_1) = true := decide_eq_true c3
     clear c3
     by_cases c4 : x8_1 < (l0.length : Int)
     ·rw [if_pos c4] at H
      have c4b0 : decide (x8_1 < (l0.length : Int)) = true := decide_eq_true c4
      clear c4
      by_cases c5 : (rd l0 x8_1) = 0
      ·rw [if_pos c5] at H
       have c5b0 : ((rd l0 x8_1) == 0) = true := beq_iff_eq.mpr c5
       have c5b1 : ((rd l0 x8_1) != 0) = false := bne_eq_false_iff_eq.mpr c5
       clear c5
       have H' := y0.mk H
       clear H
       have p577 : 0 ≤ (x8_1 : Int) := of_decide_eq_true (by first | (with_reducible assumption) | assumption)
       have q577 : x8_1 < (l0.length : Int) := of_decide_eq_true (by first | (with_reducible assumption) | assumption)
       obtain ⟨ad577,e577,hx577_0⟩ := Kd.at_int HR0.out x8_1 p577 q577
       cases e577
       replace p577 := eq_true p577
       replace q577 := eq_true q577
       go_wp2
       go_roundg k1
       case measure => have := HK1.out; omega
       case rel => exact ⟨(wrap64 (x8_1 + 1)),(by first | rfl | (simp; done) | (simp [*]; done)),H',⟨by have := HK1.out; omega⟩,by repeat (first | exact y1.refl _ | apply y1.step)⟩
      ·rw [if_neg c5] at H
       have c5b0 : ((rd l0 x8_1) == 0) = false := beq_eq_false_iff_ne.mpr c5
       have c5b1 : ((rd l0 x8_1) != 0) = true := bne_iff_ne.mpr c5
       obtain rfl := Option.some.inj H
       have p577 : 0 ≤ (x8_1 : Int) := of_decide_eq_true (by first | (with_reducible assumption) | assumption)
       have q577 : x8_1 < (l0.length : Int) := of_decide_eq_true (by first | (with_reducible assumption) | assumption)
       obtain ⟨ad577,e577,hx577_0⟩ := Kd.at_int HR0.out x8_1 p577 q577
       cases e577
       replace p577 := eq_true p577
       replace q577 := eq_true q577
       go_wp2
       go_ret
       exact ⟨by first | rfl | (simp; done) | (simp [*]; done),by repeat (first | exact y1.refl _ | apply y1.step)⟩
     ·rw [if_neg c4] at H
      exact absurd H (by simp)
    ·rw [if_neg c3] at H
     exact absurd H (by simp)
   ·rw [if_neg c2] at H
    have c2b0 : decide (x8_1 < (l0.length : Int)) = false := decide_eq_false c2
    clear c2
    obtain rfl := Option.some.inj H
    go_wp2
    go_ret
    exact ⟨by first | rfl | (simp; done) | (simp [*]; done),by repeat (first | exact y1.refl _ | apply y1.step)⟩
end Go.Proofs.YtebadckdihgklaaDoor.Pb
end
section
namespace Go.Proofs.YtebadckdihgklaaDoor.Pb
open Go.RowKit Go.Proofs.YtebadckdihgklaaDoorW.PrintWords Go.Proofs.YtebadckdihgklaaDoorW.PrintLast Go.Proofs.YtebadckdihgklaaDoorW.PrintMore
attribute [local go_sem] max2_int min2_int max_two min_two max_three min_three max_four min_four   -- for this text's walks alone
set_option linter.unusedVariables false
set_option linter.unusedSimpArgs false
mutual
def z0_.l0 : Nat → List ByteArray → List ByteArray → Int → Int → Option (Int)
 | 0,_,_,_,_ => none
 | k + 1,x8,x36,x37,x38 => if x38 < x37 then (if 0 ≤ x38 then (if x38 < (x36.length : Int) then (if x38 < (x8.length : Int) then ((z1_.f k (rdOf ByteArray.empty x36 x38) (rdOf ByteArray.empty x8 x38)).bind fun t594 => (if t594 = 0 then (z0_.l0 k x8 x36 x37 (wrap64 (x38 + 1))) else (some t594))) else (none)) else (none)) else (none)) else (some 0)
def z0_.f : Nat → ByteArray → ByteArray → Option (Int)
 | 0,_,_ => none
 | k + 1,a0,a1 => (z2_.f k a0).bind fun bt578 => ((z2_.f k a1).bind fun bt582 => ((cmp_Compare_string.f bt578.1 bt582.1).bind fun t586 => ((cmp_Compare_int.f (bt578.2.length : Int) (bt582.2.length : Int)).bind fun t587 => ((cmp_Or_int.f k (([t586,t587] : List Int))).bind fun t591 => (if t591 = 0 then (z0_.l0 k bt582.2 bt578.2 (bt578.2.length : Int) 0) else (some t591))))))
def z1_.j0 : Nat → ByteArray → ByteArray → Int → Int → Bool → Option (Int)
 | 0,_,_,_,_,_ => none
 | k + 1,x0,x1,x5,x6,x11 => if x11 = true then (some 2) else (if x5 = x6 then (if x5 = 1 then ((impl_numOf.f x0).bind fun t597 => ((impl_numOf.f x1).bind fun t598 => ((cmp_Compare_int.f t597 t598).bind fun t599 => (some t599)))) else (if x5 = 2 then (if 1 ≤ (wrap64 ((x0.size : Int) - 1)) then (if (wrap64 ((x0.size : Int) - 1)) ≤ (x0.size : Int) then (if 1 ≤ (wrap64 ((x1.size : Int) - 1)) then (if (wrap64 ((x1.size : Int) - 1)) ≤ (x1.size : Int) then ((cmp_Compare_string.f (x0.extract 1 ((wrap64 ((x0.size : Int) - 1)) : Int).toNat) (x1.extract 1 ((wrap64 ((x1.size : Int) - 1)) : Int).toNat)).bind fun t600 => (some t600)) else (none)) else (none)) else (none)) else (none)) else ((z0_.f k x0 x1).bind fun t601 => (some t601)))) else ((cmp_Compare_int.f x5 x6).bind fun t602 => (some t602)))
def z1_.f : Nat → ByteArray → ByteArray → Option (Int)
 | 0,_,_ => none
 | k + 1,a0,a1 => (impl_kindOf.f k a0).bind fun t595 => ((impl_kindOf.f k a1).bind fun t596 => (if t595 = 0 then (z1_.j0 k a0 a1 t595 t596 true) else (z1_.j0 k a0 a1 t595 t596 (t596 == 0))))
end
abbrev z0_.Stm (k : Nat) : Prop := ∀ (a0 : ByteArray) (a1 : ByteArray) (r : Int) (w : World) (hT : Tb w) (h : z0_.f k a0 a1 = some r),
  Calls Tryd.prog 116 #[.string a0,.string a1] w fun e w' => e = .returned (.int .i64 r) ∧ Below w.heap.size w w'
abbrev z1_.Stm (k : Nat) : Prop := ∀ (a0 : ByteArray) (a1 : ByteArray) (r : Int) (w : World) (hT : Tb w) (h : z1_.f k a0 a1 = some r),
  Calls Tryd.prog 92 #[.string a0,.string a1] w fun e w' => e = .returned (.int .i64 r) ∧ Below w.heap.size w w'
set_option maxHeartbeats 8000000 in
set_option maxRecDepth 100000 in
theorem z0_.step (k : Nat) (ih : ∀ m,m < k → z0_.Stm m) (ih_impl_compareTerms : ∀ m,m < k → z1_.Stm m) : z0_.Stm k := by
 intro a0 a1 r w hT h
 cases k with
 | zero => exact absurd h (by simp [z0_.f])
 | succ k =>
 simp only [z0_.f] at h
 have HT := y0.mk hT
 clear hT
 have HB := y0.mk (Below.refl w.heap.size w)
 have H : ((z2_.f k a0).bind fun bt578 => ((z2_.f k a1).bind fun bt582 => ((cmp_Compare_string.f bt578.1 bt582.1).bind fun t586 => ((cmp_Compare_int.f (bt578.2.length : Int) (bt582.2.length : Int)).bind fun t587 => ((cmp_Or_int.f k (([t586,t587] : List Int))).bind fun t591 => (if t591 = 0 then (z0_.l0 k bt582.2 bt578.2 (bt578.2.length : Int) 0) else (some t591))))))) = some r := h
 clear h
 replace H := Option.bind_eq_some_iff.mp H
 obtain ⟨⟨t578,t579⟩,A30,H⟩ := H
 replace H : ((z2_.f k a1).bind fun bt582 => ((cmp_Compare_string.f t578 bt582.1).bind fun t586 => ((cmp_Compare_int.f (t579.length : Int) (bt582.2.length : Int)).bind fun t587 => ((cmp_Or_int.f k (([t586,t587] : List Int))).bind fun t591 => (if t591 = 0 then (z0_.l0 k bt582.2 t579 (t579.length : Int) 0) else (some t591)))))) = some r := H
 have A3 := y0.mk A30
 clear A30
 replace H := Option.bind_eq_some_iff.mp H
 obtain ⟨⟨t582,t583⟩,A40,H⟩ := H
 replace H : ((cmp_Compare_string.f t578 t582).bind fun t586 => ((cmp_Compare_int.f (t579.length : Int) (t583.length : Int)).bind fun t587 => ((cmp_Or_int.f k (([t586,t587] : List Int))).bind fun t591 => (if t591 = 0 then (z0_.l0 k t583 t579 (t579.length : Int) 0) else (some t591))))) = some r := H
 have A4 := y0.mk A40
 clear A40
 replace H := Option.bind_eq_some_iff.mp H
 obtain ⟨t586,A50,H⟩ := H
 replace H : ((cmp_Compare_int.f (t579.length : Int) (t583.length : Int)).bind fun t587 => ((cmp_Or_int.f k (([t586,t587] : List Int))).bind fun t591 => (if t591 = 0 then (z0_.l0 k t583 t579 (t579.length : Int) 0) else (some t591)))) = some r := H
 have A5 := y0.mk A50
 clear A50
 replace H := Option.bind_eq_some_iff.mp H
 obtain ⟨t587,A60,H⟩ := H
 replace H : ((cmp_Or_int.f k (([t586,t587] : List Int))).bind fun t591 => (if t591 = 0 then (z0_.l0 k t583 t579 (t579.length : Int) 0) else (some t591))) = some r := H
 have A6 := y0.mk A60
 clear A60
 obtain ⟨y588,hy588⟩ : ∃ y_ : List Int,y_ = (([t586,t587] : List Int)) := ⟨_,rfl⟩
 replace H : ((cmp_Or_int.f k y588).bind fun t591 => (if t591 = 0 then (z0_.l0 k t583 t579 (t579.length : Int) 0) else (some t591))) = some r := by first | (rw [hy588]; with_reducible exact H) | (have H2_ := (Option.bind_some _ _).symm.trans H; rw [hy588]; with_reducible exact H2_) | (have H2_ := (Option.bind_some _ _).symm.trans H; with_reducible exact H2_) | with_reducible exact H | (rw [hy588]; exact H) | exact H
 have Ny588 := y0.mk hy588
 clear hy588
 replace H := Option.bind_eq_some_iff.mp H
 obtain ⟨t591,A70,H⟩ := H
 replace H : (if t591 = 0 then (z0_.l0 k t583 t579 (t579.length : Int) 0) else (some t591)) = some r := H
 have A7 := y0.mk A70
 clear A70
 by_cases c8 : t591 = 0
 ·rw [if_pos c8] at H
  have c8b0 : (t591 == 0) = true := beq_iff_eq.mpr c8
  have c8b1 : (t591 != 0) = false := bne_eq_false_iff_eq.mpr c8
  clear c8
  have H' := y0.mk H
  clear H
  go_enter Tryd.func116,Tryd.ntmps116
  go_wp2_with (first | ((with_reducible refine y11 (f := 81) rfl ?_); refine y12 (some 15) rfl rfl Tryd.func81 (by kernel_rfl) rfl #[.string a0] rfl (by (try simp only [qM_,List.map_cons,List.map_nil]); first | done | rfl | (simp only [qD_,qT_]; rfl)) ?_; (with_reducible refine (z2_.calls k a0 t578 t579 _ ?side1 A3.out).mono ?_); (case side1 => exact Tb.below HT.out (by repeat (first | (with_reducible first | exact HB.out | apply y5 | apply y18 | apply y6) | exact HB.out))); rintro e w9 ⟨v580,rfl,ho0,hb⟩; refine ⟨_,rfl, ?_⟩; have n0_ := y0.mk (Kd.R_lower ho0 (below_size (by repeat (first | (with_reducible first | exact HB.out | apply y5 | apply y18 | apply y6) | exact HB.out)))); have n1_ := y0.mk (y8 (by repeat (first | (with_reducible first | exact HB.out | apply y5 | apply y18 | apply y6) | exact HB.out)) hb); clear HB; have HO581 := n0_; have HB := n1_; clear n0_ n1_; (try clear hb); (try clear hb2); (try clear hk); (try clear hi); (try clear ho0)) | ((with_reducible refine y11 (f := 81) rfl ?_); refine y12 (some 20) rfl rfl Tryd.func81 (by kernel_rfl) rfl #[.string a1] rfl (by (try simp only [qM_,List.map_cons,List.map_nil]); first | done | rfl | (simp only [qD_,qT_]; rfl)) ?_; (with_reducible refine (z2_.calls k a1 t582 t583 _ ?side1 A4.out).mono ?_); (case side1 => exact Tb.below HT.out (by repeat (first | (with_reducible first | exact HB.out | apply y5 | apply y18 | apply y6) | exact HB.out))); rintro e w10 ⟨v584,rfl,ho0,hb⟩; refine ⟨_,rfl, ?_⟩; have n0_ := y0.mk (Kd.R_elder' (by (with_reducible repeat (first | apply Kd.R_alloc | apply Kd.R_drewN | apply Kd.R_drew)); exact HO581.out) (Kd.R_base ho0) hb); have n1_ := y0.mk (Kd.R_lower (Kd.R_new' ho0 (Kd.R_lt (by (with_reducible repeat (first | apply Kd.R_alloc | apply Kd.R_drewN | apply Kd.R_drew)); exact HO581.out))) (below_size (by repeat (first | (with_reducible first | exact HB.out | apply y5 | apply y18 | apply y6) | exact HB.out)))); have n2_ := y0.mk (y8 (by repeat (first | (with_reducible first | exact HB.out | apply y5 | apply y18 | apply y6) | exact HB.out)) hb); clear HO581; clear HB; have HO581 := n0_; have HO585 := n1_; have HB := n2_; clear n0_ n1_ n2_; (try clear hb); (try clear hb2); (try clear hk); (try clear hi); (try clear ho0)) | ((with_reducible refine y11 (f := 115) rfl ?_); refine y12 (some 25) rfl rfl Tryd.func115 (by kernel_rfl) rfl #[.string t578,.string t582] rfl (by (try simp only [qM_,List.map_cons,List.map_nil]); first | done | rfl | (simp only [qD_,qT_]; rfl)) ?_; (with_reducible refine (cmp_Compare_string.calls t578 t582 t586 _ A5.out).mono ?_); rintro e w' ⟨rfl,⟨nd,rfl⟩⟩; refine ⟨_,rfl, ?_⟩; obtain ⟨Ao11,co11,eo11⟩ := Kd.R_slice HO581.out; subst eo11; obtain ⟨Ao12,co12,eo12⟩ := Kd.R_slice HO585.out; subst eo12) | ((with_reducible refine y11 (f := 114) rfl ?_); refine y12 (some 30) rfl rfl Tryd.func114 (by kernel_rfl) rfl #[.int .i64 (t579.length : Int),.int .i64 (t583.length : Int)] rfl (by (try simp only [qM_,List.map_cons,List.map_nil]); first | done | rfl | (simp only [qD_,qT_]; rfl)) ?_; (with_reducible refine (cmp_Compare_int.calls (t579.length : Int) (t583.length : Int) t587 _ A6.out).mono ?_); rintro e w' ⟨rfl,⟨nd,rfl⟩⟩; refine ⟨_,rfl, ?_⟩) | ((with_reducible refine gate_dst (N := 31) rfl ?_); refine Kd.R_lit (Kd.int .i64) _ 3 ?hg (N := 31) ?hd (xs := ([t586,t587] : List Int)) (inner := [.int .i64 t586,.int .i64 t587]) (ok := fun _ => True) (okp := fun _ => True) ?hr ?hp (fun _ hk => hk) trivial (Below.refl _ _) (Nat.le_refl _) (by simp) ?_; (case hd => rfl); (case hg => rfl); (case hr => first | (go_simp; done) | (go_simp; rfl)); (case hp => exact (Reps.one (show Kd.M (Kd.int .i64) _ _ _ t586 [.int .i64 t586] from rfl) (Reps.one (show Kd.M (Kd.int .i64) _ _ _ t587 [.int .i64 t587] from rfl) (Reps.none _ _)))); intro v589 w13 ho14 hb hg_ hnew_; clear hg_ hnew_; (first | rw [← Ny588.out] at ho14 | (simp only [Int.reduceToNat] at ho14; rw [← Ny588.out] at ho14)); have n0_ := y0.mk (Kd.R_below (by (with_reducible repeat (first | apply Kd.R_alloc | apply Kd.R_drewN | apply Kd.R_drew)); exact HO581.out) hb); have n1_ := y0.mk (Kd.R_below (by (with_reducible repeat (first | apply Kd.R_alloc | apply Kd.R_drewN | apply Kd.R_drew)); exact HO585.out) hb); have n2_ := y0.mk (Kd.R_lower ho14 (below_size (by repeat (first | (with_reducible first | exact HB.out | apply y5 | apply y18 | apply y6) | exact HB.out)))); have n3_ := y0.mk (y8 (by repeat (first | (with_reducible first | exact HB.out | apply y5 | apply y18 | apply y6) | exact HB.out)) hb); clear HO581; clear HO585; clear HB; have HO581 := n0_; have HO585 := n1_; have HO590 := n2_; have HB := n3_; clear n0_ n1_ n2_ n3_; clear hb ho14; obtain ⟨Ao15,co15,eo15⟩ := Kd.R_slice HO590.out; subst eo15) | ((with_reducible refine y11 (f := 137) rfl ?_); refine y12 (some 32) rfl rfl Tryd.func137 (by kernel_rfl) rfl #[.slice Ao15 y588.length co15] rfl (by (try simp only [qM_,List.map_cons,List.map_nil]); first | done | rfl | (simp only [qD_,qT_]; rfl)) ?_; (with_reducible refine (cmp_Or_int.calls k _ _ y588 t591 _ ?side1 ?side2 A7.out).mono ?_); (case side1 => repeat (first | exact (Kd.R_reads' HO590.out).2.2 | (with_reducible refine Kd.C_alloc ?_ _) | (with_reducible refine Kd.C_drewN ?_ _) | (with_reducible refine Kd.C_drew ?_))); (case side2 => exact (Kd.R_reads' HO590.out).2.1); rintro e w' ⟨rfl,⟨nd,rfl⟩⟩; refine ⟨_,rfl, ?_⟩))
  go_loopg [38] k (fun kq v38 w' => ∃ (x38_1 : Int),v38 = .int .i64 x38_1 ∧ y0 (z0_.l0 kq t583 t579 (t579.length : Int) x38_1 = some r) ∧ y0 (kq ≤ k) ∧ y0 (Kd.R Kd.string 9 w' w.heap.size (fun k_ => some k_ ≠ ((.slice Ao11 t579.length co11) : Value).ownBlock) (.slice Ao12 t583.length co12) t583) ∧ y0 (Kd.R Kd.string 9 w' w.heap.size (fun k_ => some k_ ≠ ((.slice Ao12 t583.length co12) : Value).ownBlock) (.slice Ao11 t579.length co11) t579) ∧ y0 (Below w.heap.size w w'))
  case atStart => exact ⟨(0),(by first | rfl | (simp; done) | (simp [*]; done)),H',⟨Nat.le_refl _⟩,⟨by (with_reducible repeat (first | apply Kd.R_alloc | apply Kd.R_drewN | apply Kd.R_drew)); exact Kd.R_mono HO585.out (fun _ hk => hk.2)⟩,⟨by (with_reducible repeat (first | apply Kd.R_alloc | apply Kd.R_drewN | apply Kd.R_drew)); exact Kd.R_mono HO581.out (fun _ hk => hk.2)⟩,⟨by repeat (first | (with_reducible first | exact HB.out | apply y5 | apply y18 | apply y6) | exact HB.out)⟩⟩
  case round =>
   clear H'
   try clear c1
   try clear p2
   try clear c8
   try clear c8b0
   try clear c8b1
   try clear c11
   try clear c13
   obtain ⟨x38_1,rfl,HA,HK1,HO_8,HO_36,HB⟩ := hrel
   cases gk with
   | zero => exact absurd HA.out (by simp [z0_.l0])
   | succ k1 =>
    have H := HA.out
    clear HA
    simp only [z0_.l0] at H
    by_cases c16 : x38_1 < (t579.length : Int)
    ·rw [if_pos c16] at H
     have c16b0 : decide (x38_1 < (t579.length : Int)) = true := decide_eq_true c16
     clear c16
     by_cases c17 : 0 ≤ x38_1
     ·rw [if_pos c17] at H
      have c17b0 : decide (0 ≤ x38_1) = true := decide_eq_true c17
      clear c17
      by_cases c18 : x38_1 < (t579.length : Int)
      ·rw [if_pos c18] at H
       have c18b0 : decide (x38_1 < (t579.length : Int)) = true := decide_eq_true c18
       clear c18
       by_cases c19 : x38_1 < (t583.length : Int)
       ·rw [if_pos c19] at H
        have c19b0 : decide (x38_1 < (t583.length : Int)) = true := decide_eq_true c19
        clear c19
        replace H := Option.bind_eq_some_iff.mp H
        obtain ⟨t594,A200,H⟩ := H
        replace H : (if t594 = 0 then (z0_.l0 k1 t583 t579 (t579.length : Int) (wrap64 (x38_1 + 1))) else (some t594)) = some r := H
        have A20 := y0.mk A200
        clear A200
        by_cases c21 : t594 = 0
        ·rw [if_pos c21] at H
         have c21b0 : (t594 == 0) = true := beq_iff_eq.mpr c21
         have c21b1 : (t594 != 0) = false := bne_eq_false_iff_eq.mpr c21
         clear c21
         have H' := y0.mk H
         clear H
         have p592 : 0 ≤ (x38_1 : Int) := of_decide_eq_true (by first | (with_reducible assumption) | assumption)
         have q592 : x38_1 < (t579.length : Int) := of_decide_eq_true (by first | (with_reducible assumption) | assumption)
         obtain ⟨ad592,e592,hx592_0⟩ := Kd.at_string (Kd.R_reads' HO_36.out).2.2 x38_1 p592 q592
         cases e592
         replace p592 := eq_true p592
         replace q592 := eq_true q592
         have p593 : 0 ≤ (x38_1 : Int) := of_decide_eq_true (by first | (with_reducible assumption) | assumption)
         have q593 : x38_1 < (t583.length : Int) := of_decide_eq_true (by first | (with_reducible assumption) | assumption)
         obtain ⟨ad593,e593,hx593_0⟩ := Kd.at_string (Kd.R_reads' HO_8.out).2.2 x38_1 p593 q593
         cases e593
         replace p593 := eq_true p593
         replace q593 := eq_true q593
         go_wp2_with (first | ((with_reducible refine y11 (f := 92) rfl ?_); refine y12 (some 48) rfl rfl Tryd.func92 (by kernel_rfl) rfl #[.string (rdOf ByteArray.empty t579 x38_1),.string (rdOf ByteArray.empty t583 x38_1)] rfl (by (try simp only [qM_,List.map_cons,List.map_nil]); first | done | rfl | (simp only [qD_,qT_]; rfl)) ?_; (with_reducible refine (ih_impl_compareTerms k1 (by have := HK1.out; omega) (rdOf ByteArray.empty t579 x38_1) (rdOf ByteArray.empty t583 x38_1) t594 _ ?side1 A20.out).mono ?_); (case side1 => exact Tb.below HT.out (by repeat (first | (with_reducible first | exact HB.out | apply y5 | apply y18 | apply y6) | exact HB.out))); rintro e w22 ⟨rfl,hb⟩; refine ⟨_,rfl, ?_⟩; have n0_ := y0.mk (Kd.R_below (by (with_reducible repeat (first | apply Kd.R_alloc | apply Kd.R_drewN | apply Kd.R_drew)); exact HO_8.out) hb); have n1_ := y0.mk (Kd.R_below (by (with_reducible repeat (first | apply Kd.R_alloc | apply Kd.R_drewN | apply Kd.R_drew)); exact HO_36.out) hb); have n2_ := y0.mk (y8 (by repeat (first | (with_reducible first | exact HB.out | apply y5 | apply y18 | apply y6) | exact HB.out)) hb); clear HO_8; clear HO_36; clear HB; have HO_8 := n0_; have HO_36 := n1_; have HB := n2_; clear n0_ n1_ n2_; (try clear hb); (try clear hb2); (try clear hk); (try clear hi)))
         go_roundg k1
         case measure => have := HK1.out; omega
         case rel => exact ⟨(wrap64 (x38_1 + 1)),(by first | rfl | (simp; done) | (simp [*]; done)),H',⟨by have := HK1.out; omega⟩,⟨by (with_reducible repeat (first | apply Kd.R_alloc | apply Kd.R_drewN | apply Kd.R_drew)); exact HO_8.out⟩,⟨by (with_reducible repeat (first | apply Kd.R_alloc | apply Kd.R_drewN | apply Kd.R_drew)); exact HO_36.out⟩,⟨by repeat (first | (with_reducible first | exact HB.out | apply y5 | apply y18 | apply y6) | exact HB.out)⟩⟩
        ·rw [if_neg c21] at H
         have c21b0 : (t594 == 0) = false := beq_eq_false_iff_ne.mpr c21
         have c21b1 : (t594 != 0) = true := bne_iff_ne.mpr c21
         obtain rfl := Option.some.inj H
         have p592 : 0 ≤ (x38_1 : Int) := of_decide_eq_true (by first | (with_reducible assumption) | assumption)
         have q592 : x38_1 < (t579.length : Int) := of_decide_eq_true (by first | (with_reducible assumption) | assumption)
         obtain ⟨ad592,e592,hx592_0⟩ := Kd.at_string (Kd.R_reads' HO_36.out).2.2 x38_1 p592 q592
         cases e592
         replace p592 := eq_true p592
         replace q592 := eq_true q592
         have p593 : 0 ≤ (x38_1 : Int) := of_decide_eq_true (by first | (with_reducible assumption) | assumption)
         have q593 : x38_1 < (t583.length : Int) := of_decide_eq_true (by first | (with_reducible assumption) | assumption)
         obtain ⟨ad593,e593,hx593_0⟩ := Kd.at_string (Kd.R_reads' HO_8.out).2.2 x38_1 p593 q593
         cases e593
         replace p593 := eq_true p593
         replace q593 := eq_true q593
         go_wp2_with (first | ((with_reducible refine y11 (f := 92) rfl ?_); refine y12 (some 48) rfl rfl Tryd.func92 (by kernel_rfl) rfl #[.string (rdOf ByteArray.empty t579 x38_1),.string (rdOf ByteArray.empty t583 x38_1)] rfl (by (try simp only [qM_,List.map_cons,List.map_nil]); first | done | rfl | (simp only [qD_,qT_]; rfl)) ?_; (with_reducible refine (ih_impl_compareTerms k1 (by have := HK1.out; omega) (rdOf ByteArray.empty t579 x38_1) (rdOf ByteArray.empty t583 x38_1) t594 _ ?side1 A20.out).mono ?_); (case side1 => exact Tb.below HT.out (by repeat (first | (with_reducible first | exact HB.out | apply y5 | apply y18 | apply y6) | exact HB.out))); rintro e w23 ⟨rfl,hb⟩; refine ⟨_,rfl, ?_⟩; have n0_ := y0.mk (Kd.R_below (by (with_reducible repeat (first | apply Kd.R_alloc | apply Kd.R_drewN | apply Kd.R_drew)); exact HO_8.out) hb); have n1_ := y0.mk (Kd.R_below (by (with_reducible repeat (first | apply Kd.R_alloc | apply Kd.R_drewN | apply Kd.R_drew)); exact HO_36.out) hb); have n2_ := y0.mk (y8 (by repeat (first | (with_reducible first | exact HB.out | apply y5 | apply y18 | apply y6) | exact HB.out)) hb); clear HO_8; clear HO_36; clear HB; have HO_8 := n0_; have HO_36 := n1_; have HB := n2_; clear n0_ n1_ n2_; (try clear hb); (try clear hb2); (try clear hk); (try clear hi)))
         go_ret
         exact ⟨by first | rfl | (simp [y9,y10] <;> rfl) | (simp [*,y9,y10] <;> rfl),by repeat (first | (with_reducible first | exact HB.out | apply y5 | apply y18 | apply y6) | exact HB.out)⟩
       ·rw [if_neg c19] at H
        exact absurd H (by simp)
      ·rw [if_neg c18] at H
       exact absurd H (by simp)
     ·rw [if_neg c17] at H
      exact absurd H (by simp)
    ·rw [if_neg c16] at H
     have c16b0 : decide (x38_1 < (t579.length : Int)) = false := decide_eq_false c16
     clear c16
     obtain rfl := Option.some.inj H
     go_wp2
     go_ret
     exact ⟨by first | rfl | (simp [y9,y10] <;> rfl) | (simp [*,y9,y10] <;> rfl),by repeat (first | (with_reducible first | exact HB.out | apply y5 | apply y18 | apply y6) | exact HB.out)⟩
 ·rw [if_neg c8] at H
  have c8b0 : (t591 == 0) = false := beq_eq_false_iff_ne.mpr c8
  have c8b1 : (t591 != 0) = true := bne_iff_ne.mpr c8
  obtain rfl := Option.some.inj H
  go_enter Tryd.func116,Tryd.ntmps116
  go_wp2_with (first | ((with_reducible refine y11 (f := 81) rfl ?_); refine y12 (some 15) rfl rfl Tryd.func81 (by kernel_rfl) rfl #[.string a0] rfl (by (try simp only [qM_,List.map_cons,List.map_nil]); first | done | rfl | (simp only [qD_,qT_]; rfl)) ?_; (with_reducible refine (z2_.calls k a0 t578 t579 _ ?side1 A3.out).mono ?_); (case side1 => exact Tb.below HT.out (by repeat (first | (with_reducible first | exact HB.out | apply y5 | apply y18 | apply y6) | exact HB.out))); rintro e w24 ⟨v580,rfl,ho0,hb⟩; refine ⟨_,rfl, ?_⟩; have n0_ := y0.mk (Kd.R_lower ho0 (below_size (by repeat (first | (with_reducible first | exact HB.out | apply y5 | apply y18 | apply y6) | exact HB.out)))); have n1_ := y0.mk (y8 (by repeat (first | (with_reducible first | exact HB.out | apply y5 | apply y18 | apply y6) | exact HB.out)) hb); clear HB; have HO581 := n0_; have HB := n1_; clear n0_ n1_; (try clear hb); (try clear hb2); (try clear hk); (try clear hi); (try clear ho0)) | ((with_reducible refine y11 (f := 81) rfl ?_); refine y12 (some 20) rfl rfl Tryd.func81 (by kernel_rfl) rfl #[.string a1] rfl (by (try simp only [qM_,List.map_cons,List.map_nil]); first | done | rfl | (simp only [qD_,qT_]; rfl)) ?_; (with_reducible refine (z2_.calls k a1 t582 t583 _ ?side1 A4.out).mono ?_); (case side1 => exact Tb.below HT.out (by repeat (first | (with_reducible first | exact HB.out | apply y5 | apply y18 | apply y6) | exact HB.out))); rintro e w25 ⟨v584,rfl,ho0,hb⟩; refine ⟨_,rfl, ?_⟩; have n0_ := y0.mk (Kd.R_elder' (by (with_reducible repeat (first | apply Kd.R_alloc | apply Kd.R_drewN | apply Kd.R_drew)); exact HO581.out) (Kd.R_base ho0) hb); have n1_ := y0.mk (Kd.R_lower (Kd.R_new' ho0 (Kd.R_lt (by (with_reducible repeat (first | apply Kd.R_alloc | apply Kd.R_drewN | apply Kd.R_drew)); exact HO581.out))) (below_size (by repeat (first | (with_reducible first | exact HB.out | apply y5 | apply y18 | apply y6) | exact HB.out)))); have n2_ := y0.mk (y8 (by repeat (first | (with_reducible first | exact HB.out | apply y5 | apply y18 | apply y6) | exact HB.out)) hb); clear HO581; clear HB; have HO581 := n0_; have HO585 := n1_; have HB := n2_; clear n0_ n1_ n2_; (try clear hb); (try clear hb2); (try clear hk); (try clear hi); (try clear ho0)) | ((with_reducible refine y11 (f := 115) rfl ?_); refine y12 (some 25) rfl rfl Tryd.func115 (by kernel_rfl) rfl #[.string t578,.string t582] rfl (by (try simp only [qM_,List.map_cons,List.map_nil]); first | done | rfl | (simp only [qD_,qT_]; rfl)) ?_; (with_reducible refine (cmp_Compare_string.calls t578 t582 t586 _ A5.out).mono ?_); rintro e w' ⟨rfl,⟨nd,rfl⟩⟩; refine ⟨_,rfl, ?_⟩; obtain ⟨Ao26,co26,eo26⟩ := Kd.R_slice HO581.out; subst eo26; obtain ⟨Ao27,co27,eo27⟩ := Kd.R_slice HO585.out; subst eo27) | ((with_reducible refine y11 (f := 114) rfl ?_); refine y12 (some 30) rfl rfl Tryd.func114 (by kernel_rfl) rfl #[.int .i64 (t579.length : Int),.int .i64 (t583.length : Int)] rfl (by (try simp only [qM_,List.map_cons,List.map_nil]); first | done | rfl | (simp only [qD_,qT_]; rfl)) ?_; (with_reducible refine (cmp_Compare_int.calls (t579.length : Int) (t583.length : Int) t587 _ A6.out).mono ?_); rintro e w' ⟨rfl,⟨nd,rfl⟩⟩; refine ⟨_,rfl, ?_⟩) | ((with_reducible refine gate_dst (N := 31) rfl ?_); refine Kd.R_lit (Kd.int .i64) _ 3 ?hg (N := 31) ?hd (xs := ([t586,t587] : List Int)) (inner := [.int .i64 t586,.int .i64 t587]) (ok := fun _ => True) (okp := fun _ => True) ?hr ?hp (fun _ hk => hk) trivial (Below.refl _ _) (Nat.le_refl _) (by simp) ?_; (case hd => rfl); (case hg => rfl); (case hr => first | (go_simp; done) | (go_simp; rfl)); (case hp => exact (Reps.one (show Kd.M (Kd.int .i64) _ _ _ t586 [.int .i64 t586] from rfl) (Reps.one (show Kd.M (Kd.int .i64) _ _ _ t587 [.int .i64 t587] from rfl) (Reps.none _ _)))); intro v589 w28 ho29 hb hg_ hnew_; clear hg_ hnew_; (first | rw [← Ny588.out] at ho29 | (simp only [Int.reduceToNat] at ho29; rw [← Ny588.out] at ho29)); have n0_ := y0.mk (Kd.R_below (by (with_reducible repeat (first | apply Kd.R_alloc | apply Kd.R_drewN | apply Kd.R_drew)); exact HO581.out) hb); have n1_ := y0.mk (Kd.R_below (by (with_reducible repeat (first | apply Kd.R_alloc | apply Kd.R_drewN | apply Kd.R_drew)); exact HO585.out) hb); have n2_ := y0.mk (Kd.R_lower ho29 (below_size (by repeat (first | (with_reducible first | exact HB.out | apply y5 | apply y18 | apply y6) | exact HB.out)))); have n3_ := y0.mk (y8 (by repeat (first | (with_reducible first | exact HB.out | apply y5 | apply y18 | apply y6) | exact HB.out)) hb); clear HO581; clear HO585; clear HB; have HO581 := n0_; have HO585 := n1_; have HO590 := n2_; have HB := n3_; clear n0_ n1_ n2_ n3_; clear hb ho29; obtain ⟨Ao30,co30,eo30⟩ := Kd.R_slice HO590.out; subst eo30) | ((with_reducible refine y11 (f := 137) rfl ?_); refine y12 (some 32) rfl rfl Tryd.func137 (by kernel_rfl) rfl #[.slice Ao30 y588.length co30] rfl (by (try simp only [qM_,List.map_cons,List.map_nil]); first | done | rfl | (simp only [qD_,qT_]; rfl)) ?_; (with_reducible refine (cmp_Or_int.calls k _ _ y588 t591 _ ?side1 ?side2 A7.out).mono ?_); (case side1 => repeat (first | exact (Kd.R_reads' HO590.out).2.2 | (with_reducible refine Kd.C_alloc ?_ _) | (with_reducible refine Kd.C_drewN ?_ _) | (with_reducible refine Kd.C_drew ?_))); (case side2 => exact (Kd.R_reads' HO590.out).2.1); rintro e w' ⟨rfl,⟨nd,rfl⟩⟩; refine ⟨_,rfl, ?_⟩))
  go_ret
  exact ⟨by first | rfl | (simp [y9,y10] <;> rfl) | (simp [*,y9,y10] <;> rfl),by repeat (first | (with_reducible first | exact HB.out | apply y5 | apply y18 | apply y6) | exact HB.out)⟩
set_option maxHeartbeats 8000000 in
set_option maxRecDepth 100000 in
theorem z1_.step (k : Nat) (ih_impl_compareCons : ∀ m,m < k → z0_.Stm m) (ih : ∀ m,m < k → z1_.Stm m) : z1_.Stm k := by
 intro a0 a1 r w hT h
 cases k with
 | zero => exact absurd h (by simp [z1_.f])
 | succ k =>
 simp only [z1_.f] at h
 have HT := y0.mk hT
 clear hT
 have HB := y0.mk (Below.refl w.heap.size w)
 have H : ((impl_kindOf.f k a0).bind fun t595 => ((impl_kindOf.f k a1).bind fun t596 => (if t595 = 0 then (z1_.j0 k a0 a1 t595 t596 true) else (z1_.j0 k a0 a1 t595 t596 (t596 == 0))))) = some r := h
 clear h
 replace H := Option.bind_eq_some_iff.mp H
 obtain ⟨t595,A30,H⟩ := H
 replace H : ((impl_kindOf.f k a1).bind fun t596 => (if t595 = 0 then (z1_.j0 k a0 a1 t595 t596 true) else (z1_.j0 k a0 a1 t595 t596 (t596 == 0)))) = some r := H
 have A3 := y0.mk A30
 clear A30
 replace H := Option.bind_eq_some_iff.mp H
 obtain ⟨t596,A40,H⟩ := H
 replace H : (if t595 = 0 then (z1_.j0 k a0 a1 t595 t596 true) else (z1_.j0 k a0 a1 t595 t596 (t596 == 0))) = some r := H
 have A4 := y0.mk A40
 clear A40
 have HC5 := y0.mk H
 clear H
 go_enter Tryd.func92,Tryd.ntmps92
 go_upto_region 2 with (first | (go_at_call 71; (with_reducible refine (impl_kindOf.calls k a0 t595 _ ?side1 A3.out).mono ?_); (case side1 => exact Tb.below HT.out (by repeat (first | (with_reducible first | exact HB.out | apply y5 | apply y18 | apply y6) | exact HB.out))); rintro e w6 ⟨rfl,hb⟩; have n0_ := y0.mk (y8 (by repeat (first | (with_reducible first | exact HB.out | apply y5 | apply y18 | apply y6) | exact HB.out)) hb); clear HB; have HB := n0_; clear n0_; (try clear hb); (try clear hb2); (try clear hk); (try clear hi)) | (go_at_call 71; (with_reducible refine (impl_kindOf.calls k a1 t596 _ ?side1 A4.out).mono ?_); (case side1 => exact Tb.below HT.out (by repeat (first | (with_reducible first | exact HB.out | apply y5 | apply y18 | apply y6) | exact HB.out))); rintro e w7 ⟨rfl,hb⟩; have n0_ := y0.mk (y8 (by repeat (first | (with_reducible first | exact HB.out | apply y5 | apply y18 | apply y6) | exact HB.out)) hb); clear HB; have HB := n0_; clear n0_; (try clear hb); (try clear hb2); (try clear hk); (try clear hi)))
 repeat (go_quiet (first | (go_at_call 71; (with_reducible refine (impl_kindOf.calls k a0 t595 _ ?side1 A3.out).mono ?_); (case side1 => exact Tb.below HT.out (by repeat (first | (with_reducible first | exact HB.out | apply y5 | apply y18 | apply y6) | exact HB.out))); rintro e w6 ⟨rfl,hb⟩; have n0_ := y0.mk (y8 (by repeat (first | (with_reducible first | exact HB.out | apply y5 | apply y18 | apply y6) | exact HB.out)) hb); clear HB; have HB := n0_; clear n0_; (try clear hb); (try clear hb2); (try clear hk); (try clear hi)) | (go_at_call 71; (with_reducible refine (impl_kindOf.calls k a1 t596 _ ?side1 A4.out).mono ?_); (case side1 => exact Tb.below HT.out (by repeat (first | (with_reducible first | exact HB.out | apply y5 | apply y18 | apply y6) | exact HB.out))); rintro e w7 ⟨rfl,hb⟩; have n0_ := y0.mk (y8 (by repeat (first | (with_reducible first | exact HB.out | apply y5 | apply y18 | apply y6) | exact HB.out)) hb); clear HB; have HB := n0_; clear n0_; (try clear hb); (try clear hb2); (try clear hk); (try clear hi))); go_upto_region 2 with (first | (go_at_call 71; (with_reducible refine (impl_kindOf.calls k a0 t595 _ ?side1 A3.out).mono ?_); (case side1 => exact Tb.below HT.out (by repeat (first | (with_reducible first | exact HB.out | apply y5 | apply y18 | apply y6) | exact HB.out))); rintro e w6 ⟨rfl,hb⟩; have n0_ := y0.mk (y8 (by repeat (first | (with_reducible first | exact HB.out | apply y5 | apply y18 | apply y6) | exact HB.out)) hb); clear HB; have HB := n0_; clear n0_; (try clear hb); (try clear hb2); (try clear hk); (try clear hi)) | (go_at_call 71; (with_reducible refine (impl_kindOf.calls k a1 t596 _ ?side1 A4.out).mono ?_); (case side1 => exact Tb.below HT.out (by repeat (first | (with_reducible first | exact HB.out | apply y5 | apply y18 | apply y6) | exact HB.out))); rintro e w7 ⟨rfl,hb⟩; have n0_ := y0.mk (y8 (by repeat (first | (with_reducible first | exact HB.out | apply y5 | apply y18 | apply y6) | exact HB.out)) hb); clear HB; have HB := n0_; clear n0_; (try clear hb); (try clear hb2); (try clear hk); (try clear hi))))
 (try simp only [Act.put,qS_,qZ_,qC_])
 go_cut [11] (fun v11 wc => ∃ (kq : Nat) (x11_4 : Bool),v11 = .bool x11_4 ∧ y0 (z1_.j0 kq a0 a1 t595 t596 x11_4 = some r) ∧ y0 (kq ≤ k) ∧ y0 (Below w.heap.size w wc))
 case first =>
  have H := HC5.out
  clear HC5
  by_cases c8 : t595 = 0
  ·rw [if_pos c8] at H
   have c8b0 : (t595 == 0) = true := beq_iff_eq.mpr c8
   have c8b1 : (t595 != 0) = false := bne_eq_false_iff_eq.mpr c8
   clear c8
   (first | rw [c8b0] | (simp only [y14,y13]; rw [c8b0]) | skip)
   have H' := y0.mk H
   clear H
   go_wp2
   repeat (go_quiet (fail); try go_wp2)
   go_meet
   case rel => exact ⟨_,(true),(by first | rfl | (simp; done) | (simp [*]; done)),H',⟨by first | omega | exact Nat.le_refl _⟩,⟨by repeat (first | (with_reducible first | exact HB.out | apply y5 | apply y18 | apply y6) | exact HB.out)⟩⟩
  ·rw [if_neg c8] at H
   have c8b0 : (t595 == 0) = false := beq_eq_false_iff_ne.mpr c8
   have c8b1 : (t595 != 0) = true := bne_iff_ne.mpr c8
   (first | rw [c8b0] | (simp only [y14,y13]; rw [c8b0]) | skip)
   have H' := y0.mk H
   clear H
   go_wp2
   repeat (go_quiet (fail); try go_wp2)
   go_meet
   case rel => exact ⟨_,((t596 == 0)),(by first | rfl | (simp; done) | (simp [*]; done)),H',⟨by first | omega | exact Nat.le_refl _⟩,⟨by repeat (first | (with_reducible first | exact HB.out | apply y5 | apply y18 | apply y6) | exact HB.out)⟩⟩
 case rest =>
  clear HC5
  try clear p2
  try clear c8
  try clear c8b0
  try clear c8b1
  obtain ⟨kq,x11_4,rfl,HA,HJ4,HB⟩ := hcut
  cases kq with
  | zero => exact absurd HA.out (by simp [z1_.j0])
  | succ kj4 =>
   have H := HA.out
   clear HA
   simp only [z1_.j0] at H
   by_cases c9 : x11_4 = true
   ·subst c9
    have H1 : (some 2) = some r := by rw [if_pos rfl] at H; exact H
    clear H
    have H := H1
    clear H1
    obtain rfl := Option.some.inj H
    go_wp2
    repeat (go_quiet (fail); try go_wp2)
    go_ret
    exact ⟨by first | rfl | (simp [y9,y10] <;> rfl) | (simp [*,y9,y10] <;> rfl),by repeat (first | (with_reducible first | exact HB.out | apply y5 | apply y18 | apply y6) | exact HB.out)⟩
   ·replace c9 := Bool.eq_false_iff.mpr c9
    subst c9
    have H1 : (if t595 = t596 then (if t595 = 1 then ((impl_numOf.f a0).bind fun t597 => ((impl_numOf.f a1).bind fun t598 => ((cmp_Compare_int.f t597 t598).bind fun t599 => (some t599)))) else (if t595 = 2 then (if 1 ≤ (wrap64 ((a0.size : Int) - 1)) then (if (wrap64 ((a0.size : Int) - 1)) ≤ (a0.size : Int) then (if 1 ≤ (wrap64 ((a1.size : Int) - 1)) then (if (wrap64 ((a1.size : Int) - 1)) ≤ (a1.size : Int) then ((cmp_Compare_string.f (a0.extract 1 ((wrap64 ((a0.size : Int) - 1)) : Int).toNat) (a1.extract 1 ((wrap64 ((a1.size : Int) - 1)) : Int).toNat)).bind fun t600 => (some t600)) else (none)) else (none)) else (none)) else (none)) else ((z0_.f kj4 a0 a1).bind fun t601 => (some t601)))) else ((cmp_Compare_int.f t595 t596).bind fun t602 => (some t602))) = some r := by rw [if_neg (show ¬ (false = true) by decide)] at H; exact H
    clear H
    have H := H1
    clear H1
    by_cases c10 : t595 = t596
    ·rw [if_pos c10] at H
     have c10b0 : (t595 == t596) = true := beq_iff_eq.mpr c10
     have c10b1 : (t595 != t596) = false := bne_eq_false_iff_eq.mpr c10
     clear c10
     by_cases c11 : t595 = 1
     ·rw [if_pos c11] at H
      have c11b0 : (t595 == 1) = true := beq_iff_eq.mpr c11
      have c11b1 : (t595 != 1) = false := bne_eq_false_iff_eq.mpr c11
      clear c11
      replace H := Option.bind_eq_some_iff.mp H
      obtain ⟨t597,A120,H⟩ := H
      replace H : ((impl_numOf.f a1).bind fun t598 => ((cmp_Compare_int.f t597 t598).bind fun t599 => (some t599))) = some r := H
      have A12 := y0.mk A120
      clear A120
      replace H := Option.bind_eq_some_iff.mp H
      obtain ⟨t598,A130,H⟩ := H
      replace H : ((cmp_Compare_int.f t597 t598).bind fun t599 => (some t599)) = some r := H
      have A13 := y0.mk A130
      clear A130
      replace H := Option.bind_eq_some_iff.mp H
      obtain ⟨t599,A140,H⟩ := H
      replace H : (some t599) = some r := H
      have A14 := y0.mk A140
      clear A140
      obtain rfl := Option.some.inj H
      go_wp2_with (first | (go_at_call 72; (with_reducible refine (impl_numOf.calls a0 t597 _ ?side1 A12.out).mono ?_); (case side1 => exact Tb.below HT.out (by repeat (first | (with_reducible first | exact HB.out | apply y5 | apply y18 | apply y6) | exact HB.out))); rintro e w15 ⟨rfl,hb⟩; have n0_ := y0.mk (y8 (by repeat (first | (with_reducible first | exact HB.out | apply y5 | apply y18 | apply y6) | exact HB.out)) hb); clear HB; have HB := n0_; clear n0_; (try clear hb); (try clear hb2); (try clear hk); (try clear hi)) | (go_at_call 72; (with_reducible refine (impl_numOf.calls a1 t598 _ ?side1 A13.out).mono ?_); (case side1 => exact Tb.below HT.out (by repeat (first | (with_reducible first | exact HB.out | apply y5 | apply y18 | apply y6) | exact HB.out))); rintro e w16 ⟨rfl,hb⟩; have n0_ := y0.mk (y8 (by repeat (first | (with_reducible first | exact HB.out | apply y5 | apply y18 | apply y6) | exact HB.out)) hb); clear HB; have HB := n0_; clear n0_; (try clear hb); (try clear hb2); (try clear hk); (try clear hi)) | (go_at_call 114; (with_reducible refine (cmp_Compare_int.calls t597 t598 t599 _ A14.out).mono ?_); rintro e w' ⟨rfl,⟨nd,rfl⟩⟩; (try first | exact ⟨rfl,_,World.drewN_drewN _ _ _⟩ | exact ⟨rfl,_,Eq.trans (World.drewN_drewN _ _ _) (congrArg (World.drewN _) (Nat.add_assoc _ _ _))⟩)))
      repeat (go_quiet (first | (go_at_call 72; (with_reducible refine (impl_numOf.calls a0 t597 _ ?side1 A12.out).mono ?_); (case side1 => exact Tb.below HT.out (by repeat (first | (with_reducible first | exact HB.out | apply y5 | apply y18 | apply y6) | exact HB.out))); rintro e w15 ⟨rfl,hb⟩; have n0_ := y0.mk (y8 (by repeat (first | (with_reducible first | exact HB.out | apply y5 | apply y18 | apply y6) | exact HB.out)) hb); clear HB; have HB := n0_; clear n0_; (try clear hb); (try clear hb2); (try clear hk); (try clear hi)) | (go_at_call 72; (with_reducible refine (impl_numOf.calls a1 t598 _ ?side1 A13.out).mono ?_); (case side1 => exact Tb.below HT.out (by repeat (first | (with_reducible first | exact HB.out | apply y5 | apply y18 | apply y6) | exact HB.out))); rintro e w16 ⟨rfl,hb⟩; have n0_ := y0.mk (y8 (by repeat (first | (with_reducible first | exact HB.out | apply y5 | apply y18 | apply y6) | exact HB.out)) hb); clear HB; have HB := n0_; clear n0_; (try clear hb); (try clear hb2); (try clear hk); (try clear hi)) | (go_at_call 114; (with_reducible refine (cmp_Compare_int.calls t597 t598 t599 _ A14.out).mono ?_); rintro e w' ⟨rfl,⟨nd,rfl⟩⟩; (try first | exact ⟨rfl,_,World.drewN_drewN _ _ _⟩ | exact ⟨rfl,_,Eq.trans (World.drewN_drewN _ _ _) (congrArg (World.drewN _) (Nat.add_assoc _ _ _))⟩))); try go_wp2_with (first | (go_at_call 72; (with_reducible refine (impl_numOf.calls a0 t597 _ ?side1 A12.out).mono ?_); (case side1 => exact Tb.below HT.out (by repeat (first | (with_reducible first | exact HB.out | apply y5 | apply y18 | apply y6) | exact HB.out))); rintro e w15 ⟨rfl,hb⟩; have n0_ := y0.mk (y8 (by repeat (first | (with_reducible first | exact HB.out | apply y5 | apply y18 | apply y6) | exact HB.out)) hb); clear HB; have HB := n0_; clear n0_; (try clear hb); (try clear hb2); (try clear hk); (try clear hi)) | (go_at_call 72; (with_reducible refine (impl_numOf.calls a1 t598 _ ?side1 A13.out).mono ?_); (case side1 => exact Tb.below HT.out (by repeat (first | (with_reducible first | exact HB.out | apply y5 | apply y18 | apply y6) | exact HB.out))); rintro e w16 ⟨rfl,hb⟩; have n0_ := y0.mk (y8 (by repeat (first | (with_reducible first | exact HB.out | apply y5 | apply y18 | apply y6) | exact HB.out)) hb); clear HB; have HB := n0_; clear n0_; (try clear hb); (try clear hb2); (try clear hk); (try clear hi)) | (go_at_call 114; (with_reducible refine (cmp_Compare_int.calls t597 t598 t599 _ A14.out).mono ?_); rintro e w' ⟨rfl,⟨nd,rfl⟩⟩; (try first | exact ⟨rfl,_,World.drewN_drewN _ _ _⟩ | exact ⟨rfl,_,Eq.trans (World.drewN_drewN _ _ _) (congrArg (World.drewN _) (Nat.add_assoc _ _ _))⟩))))
      go_ret
      exact ⟨by first | rfl | (simp [y9,y10] <;> rfl) | (simp [*,y9,y10] <;> rfl),by repeat (first | (with_reducible first | exact HB.out | apply y5 | apply y18 | apply y6) | exact HB.out)⟩
     ·rw [if_neg c11] at H
      have c11b0 : (t595 == 1) = false := beq_eq_false_iff_ne.mpr c11
      have c11b1 : (t595 != 1) = true := bne_iff_ne.mpr c11
      by_cases c17 : t595 = 2
      ·rw [if_pos c17] at H
       have c17b0 : (t595 == 2) = true := beq_iff_eq.mpr c17
       have c17b1 : (t595 != 2) = false := bne_eq_false_iff_eq.mpr c17
       clear c17
       by_cases c18 : 1 ≤ (wrap64 ((a0.size : Int) - 1))
       ·rw [if_pos c18] at H
        have c18b0 := eq_true c18
        have c18b1 : decide (1 ≤ (wrap64 ((a0.size : Int) - 1))) = true := decide_eq_true c18
        clear c18
        by_cases c19 : (wrap64 ((a0.size : Int) - 1)) ≤ (a0.size : Int)
        ·rw [if_pos c19] at H
         have c19b0 := eq_true c19
         have c19b1 : decide ((wrap64 ((a0.size : Int) - 1)) ≤ (a0.size : Int)) = true := decide_eq_true c19
         clear c19
         by_cases c20 : 1 ≤ (wrap64 ((a1.size : Int) - 1))
         ·rw [if_pos c20] at H
          have c20b0 := eq_true c20
          have c20b1 : decide (1 ≤ (wrap64 ((a1.size : Int) - 1))) = true := decide_eq_true c20
          clear c20
          by_cases c21 : (wrap64 ((a1.size : Int) - 1)) ≤ (a1.size : Int)
          ·rw [if_pos c21] at H
           have c21b0 := eq_true c21
           have c21b1 : decide ((wrap64 ((a1.size : Int) - 1)) ≤ (a1.size : Int)) = true := decide_eq_true c21
           clear c21
           replace H := Option.bind_eq_some_iff.mp H
           obtain ⟨t600,A220,H⟩ := H
           replace H : (some t600) = some r := H
           have A22 := y0.mk A220
           clear A220
           obtain rfl := Option.some.inj H
           go_wp2_with (first | (go_at_call 115; (with_reducible refine (cmp_Compare_string.calls (a0.extract 1 ((wrap64 ((a0.size : Int) - 1)) : Int).toNat) (a1.extract 1 ((wrap64 ((a1.size : Int) - 1)) : Int).toNat) t600 _ A22.out).mono ?_); rintro e w' ⟨rfl,⟨nd,rfl⟩⟩; (try first | exact ⟨rfl,_,World.drewN_drewN _ _ _⟩ | exact ⟨rfl,_,Eq.trans (World.drewN_drewN _ _ _) (congrArg (World.drewN _) (Nat.add_assoc _ _ _))⟩)))
           repeat (go_quiet (first | (go_at_call 115; (with_reducible refine (cmp_Compare_string.calls (a0.extract 1 ((wrap64 ((a0.size : Int) - 1)) : Int).toNat) (a1.extract 1 ((wrap64 ((a1.size : Int) - 1)) : Int).toNat) t600 _ A22.out).mono ?_); rintro e w' ⟨rfl,⟨nd,rfl⟩⟩; (try first | exact ⟨rfl,_,World.drewN_drewN _ _ _⟩ | exact ⟨rfl,_,Eq.trans (World.drewN_drewN _ _ _) (congrArg (World.drewN _) (Nat.add_assoc _ _ _))⟩))); try go_wp2_with (first | (go_at_call 115; (with_reducible refine (cmp_Compare_string.calls (a0.extract 1 ((wrap64 ((a0.size : Int) - 1)) : Int).toNat) (a1.extract 1 ((wrap64 ((a1.size : Int) - 1)) : Int).toNat) t600 _ A22.out).mono ?_); rintro e w' ⟨rfl,⟨nd,rfl⟩⟩; (try first | exact ⟨rfl,_,World.drewN_drewN _ _ _⟩ | exact ⟨rfl,_,Eq.trans (World.drewN_drewN _ _ _) (congrArg (World.drewN _) (Nat.add_assoc _ _ _))⟩))))
           go_ret
           exact ⟨by first | rfl | (simp [y9,y10] <;> rfl) | (simp [*,y9,y10] <;> rfl),by repeat (first | (with_reducible first | exact HB.out | apply y5 | apply y18 | apply y6) | exact HB.out)⟩
          ·rw [if_neg c21] at H
           exact absurd H (by simp)
         ·rw [if_neg c20] at H
          exact absurd H (by simp)
        ·rw [if_neg c19] at H
         exact absurd H (by simp)
       ·rw [if_neg c18] at H
        exact absurd H (by simp)
      ·rw [if_neg c17] at H
       have c17b0 : (t595 == 2) = false := beq_eq_false_iff_ne.mpr c17
       have c17b1 : (t595 != 2) = true := bne_iff_ne.mpr c17
       replace H := Option.bind_eq_some_iff.mp H
       obtain ⟨t601,A230,H⟩ := H
       replace H : (some t601) = some r := H
       have A23 := y0.mk A230
       clear A230
       obtain rfl := Option.some.inj H
       go_wp2_with (first | (go_at_call 116; (with_reducible refine (ih_impl_compareCons kj4 (by have := HJ4.out; omega) a0 a1 t601 _ ?side1 A23.out).mono ?_); (case side1 => exact Tb.below HT.out (by repeat (first | (with_reducible first | exact HB.out | apply y5 | apply y18 | apply y6) | exact HB.out))); rintro e w24 ⟨rfl,hb⟩; have n0_ := y0.mk (y8 (by repeat (first | (with_reducible first | exact HB.out | apply y5 | apply y18 | apply y6) | exact HB.out)) hb); clear HB; have HB := n0_; clear n0_; (try clear hb); (try clear hb2); (try clear hk); (try clear hi)))
       repeat (go_quiet (first | (go_at_call 116; (with_reducible refine (ih_impl_compareCons kj4 (by have := HJ4.out; omega) a0 a1 t601 _ ?side1 A23.out).mono ?_); (case side1 => exact Tb.below HT.out (by repeat (first | (with_reducible first | exact HB.out | apply y5 | apply y18 | apply y6) | exact HB.out))); rintro e w24 ⟨rfl,hb⟩; have n0_ := y0.mk (y8 (by repeat (first | (with_reducible first | exact HB.out | apply y5 | apply y18 | apply y6) | exact HB.out)) hb); clear HB; have HB := n0_; clear n0_; (try clear hb); (try clear hb2); (try clear hk); (try clear hi))); try go_wp2_with (first | (go_at_call 116; (with_reducible refine (ih_impl_compareCons kj4 (by have := HJ4.out; omega) a0 a1 t601 _ ?side1 A23.out).mono ?_); (case side1 => exact Tb.below HT.out (by repeat (first | (with_reducible first | exact HB.out | apply y5 | apply y18 | apply y6) | exact HB.out))); rintro e w24 ⟨rfl,hb⟩; have n0_ := y0.mk (y8 (by repeat (first | (with_reducible first | exact HB.out | apply y5 | apply y18 | apply y6) | exact HB.out)) hb); clear HB; have HB := n0_; clear n0_; (try clear hb); (try clear hb2); (try clear hk); (try clear hi))))
       go_ret
       exact ⟨by first | rfl | (simp [y9,y10] <;> rfl) | (simp [*,y9,y10] <;> rfl),by repeat (first | (with_reducible first | exact HB.out | apply y5 | apply y18 | apply y6) | exact HB.out)⟩
    ·rw [if_neg c10] at H
     have c10b0 : (t595 == t596) = false := beq_eq_false_iff_ne.mpr c10
     have c10b1 : (t595 != t596) = true := bne_iff_ne.mpr c10
     replace H := Option.bind_eq_some_iff.mp H
     obtain ⟨t602,A250,H⟩ := H
     replace H : (some t602) = some r := H
     have A25 := y0.mk A250
     clear A250
     obtain rfl := Option.some.inj H
     go_wp2_with (first | (go_at_call 114; (with_reducible refine (cmp_Compare_int.calls t595 t596 t602 _ A25.out).mono ?_); rintro e w' ⟨rfl,⟨nd,rfl⟩⟩; (try first | exact ⟨rfl,_,World.drewN_drewN _ _ _⟩ | exact ⟨rfl,_,Eq.trans (World.drewN_drewN _ _ _) (congrArg (World.drewN _) (Nat.add_assoc _ _ _))⟩)))
     repeat (go_quiet (first | (go_at_call 114; (with_reducible refine (cmp_Compare_int.calls t595 t596 t602 _ A25.out).mono ?_); rintro e w' ⟨rfl,⟨nd,rfl⟩⟩; (try first | exact ⟨rfl,_,World.drewN_drewN _ _ _⟩ | exact ⟨rfl,_,Eq.trans (World.drewN_drewN _ _ _) (congrArg (World.drewN _) (Nat.add_assoc _ _ _))⟩))); try go_wp2_with (first | (go_at_call 114; (with_reducible refine (cmp_Compare_int.calls t595 t596 t602 _ A25.out).mono ?_); rintro e w' ⟨rfl,⟨nd,rfl⟩⟩; (try first | exact ⟨rfl,_,World.drewN_drewN _ _ _⟩ | exact ⟨rfl,_,Eq.trans (World.drewN_drewN _ _ _) (congrArg (World.drewN _) (Nat.add_assoc _ _ _))⟩))))
     go_ret
     exact ⟨by first | rfl | (simp [y9,y10] <;> rfl) | (simp [*,y9,y10] <;> rfl),by repeat (first | (with_reducible first | exact HB.out | apply y5 | apply y18 | apply y6) | exact HB.out)⟩
theorem z0_.all.Stm : ∀ k,z0_.Stm k ∧ z1_.Stm k := by
 intro k
 induction k using Nat.strongRecOn with
 | _ k ih =>
 exact ⟨z0_.step k (fun m h => (ih m h).1) (fun m h => (ih m h).2),z1_.step k (fun m h => (ih m h).1) (fun m h => (ih m h).2)⟩
theorem z1_.calls (k : Nat) : ∀ (a0 : ByteArray) (a1 : ByteArray) (r : Int) (w : World) (hT : Tb w) (h : z1_.f k a0 a1 = some r),
  Calls Tryd.prog 92 #[.string a0,.string a1] w fun e w' => e = .returned (.int .i64 r) ∧ Below w.heap.size w w' := (z0_.all.Stm k).2
def impl_TermCmp.f (k : Nat) (a0 : ByteArray) (a1 : ByteArray) : Option (Int) := (z1_.f k a0 a1).bind fun t603 => (some t603)
set_option maxHeartbeats 8000000 in
set_option maxRecDepth 100000 in
theorem impl_TermCmp.calls (k : Nat) (a0 : ByteArray) (a1 : ByteArray) (r : Int) (w : World) (hT : Tb w) (h : impl_TermCmp.f k a0 a1 = some r) :
  Calls Tryd.prog 55 #[.string a0,.string a1] w fun e w' => e = .returned (.int .i64 r) ∧ Below w.heap.size w w' := by
 have HT := y0.mk hT
 clear hT
 have HB := y0.mk (Below.refl w.heap.size w)
 have H : ((z1_.f k a0 a1).bind fun t603 => (some t603)) = some r := h
 clear h
 replace H := Option.bind_eq_some_iff.mp H
 obtain ⟨t603,A30,H⟩ := H
 replace H : (some t603) = some r := H
 have A3 := y0.mk A30
 clear A30
 obtain rfl := Option.some.inj H
 go_enter Tryd.func55,Tryd.ntmps55
 go_wp2_with (first | ((with_reducible refine y11 (f := 92) rfl ?_); refine y12 (some 7) rfl rfl Tryd.func92 (by kernel_rfl) rfl #[.string a0,.string a1] rfl (by (try simp only [qM_,List.map_cons,List.map_nil]); first | done | rfl | (simp only [qD_,qT_]; rfl)) ?_; (with_reducible refine (z1_.calls k a0 a1 t603 _ ?side1 A3.out).mono ?_); (case side1 => exact Tb.below HT.out (by repeat (first | (with_reducible first | exact HB.out | apply y5 | apply y18 | apply y6) | exact HB.out))); rintro e w4 ⟨rfl,hb⟩; refine ⟨_,rfl, ?_⟩; have n0_ := y0.mk (y8 (by repeat (first | (with_reducible first | exact HB.out | apply y5 | apply y18 | apply y6) | exact HB.out)) hb); clear HB; have HB := n0_; clear n0_; (try clear hb); (try clear hb2); (try clear hk); (try clear hi)))
 go_ret
 exact ⟨by first | rfl | (simp [y9,y10] <;> rfl) | (simp [*,y9,y10] <;> rfl),by repeat (first | (with_reducible first | exact HB.out | apply y5 | apply y18 | apply y6) | exact HB.out)⟩
end Go.Proofs.YtebadckdihgklaaDoor.Pb
end
section
namespace Go.Proofs.YtebadckdihgklaaDoor.Pb
open Go.RowKit Go.Proofs.YtebadckdihgklaaDoorW.PrintWords Go.Proofs.YtebadckdihgklaaDoorW.PrintLast Go.Proofs.YtebadckdihgklaaDoorW.PrintMore
attribute [local go_sem] max2_int min2_int max_two min_two max_three min_three max_four min_four   -- for this text's walks alone
set_option linter.unusedVariables false
set_option linter.unusedSimpArgs false
mutual
def z7_.j0 : Nat → Int → Int → Bool → List Int → Int → Int → Option (ByteArray × Int × Int)
 | 0,_,_,_,_,_,_ => none
 | k + 1,x1,x5,x13,x1000,x1001,x1002 => if x13 = true then (z7_.j1 k x1 (wrap64 (x5 - 4)) x1000 x1001 x1002) else (z7_.j1 k x1 x5 x1000 x1001 x1002)
def z7_.j1 : Nat → Int → Int → List Int → Int → Int → Option (ByteArray × Int × Int)
 | 0,_,_,_,_,_ => none
 | k + 1,x1,x5,x1000,x1001,x1002 => if x5 = 0 then (z7_.j2 k x1 x5 (x5 == 0) x1000 x1001 x1002) else (if x5 = 1 then (z7_.j2 k x1 x5 (x5 == 1) x1000 x1001 x1002) else (z7_.j2 k x1 x5 (x5 == 2) x1000 x1001 x1002))
def z7_.j2 : Nat → Int → Int → Bool → List Int → Int → Int → Option (ByteArray × Int × Int)
 | 0,_,_,_,_,_,_ => none
 | k + 1,x1,x16,x17,x1000,x1001,x1002 => if x17 = true then ((some (([0,1,2,3,(-1),10,1000000,(-1000000)] : List Int) : List Int)).bind fun y609 => ((z6_.f x1000 x1001 x1002 8).bind fun bt612 => (if 0 ≤ bt612.1 then (if bt612.1 < (y609.length : Int) then ((spec_NumText.f k (rd y609 bt612.1)).bind fun t616 => (some (t616,bt612.2.1,bt612.2.2))) else (none)) else (none)))) else (if x16 = 3 then ((some (([(⟨#[34,34]⟩ : ByteArray),(⟨#[34,97,34]⟩ : ByteArray),(⟨#[34,98,32,99,34]⟩ : ByteArray),(⟨#[34,40,44,41,34]⟩ : ByteArray),(⟨#[34,120,34]⟩ : ByteArray)] : List ByteArray) : List ByteArray)).bind fun y617 => ((z6_.f x1000 x1001 x1002 5).bind fun bt620 => (if 0 ≤ bt620.1 then (if bt620.1 < (y617.length : Int) then (some (rdOf ByteArray.empty y617 bt620.1,bt620.2.1,bt620.2.2)) else (none)) else (none)))) else (if x16 = 4 then ((some (([(⟨#[78,105,108]⟩ : ByteArray),(⟨#[76,101,97,102]⟩ : ByteArray),(⟨#[65]⟩ : ByteArray),(⟨#[90,101,114,111]⟩ : ByteArray)] : List ByteArray) : List ByteArray)).bind fun y624 => ((z6_.f x1000 x1001 x1002 4).bind fun bt627 => (if 0 ≤ bt627.1 then (if bt627.1 < (y624.length : Int) then (some (rdOf ByteArray.empty y624 bt627.1,bt627.2.1,bt627.2.2)) else (none)) else (none)))) else (if x16 = 5 then (z7_.j3 k x1 x16 (x16 == 5) x1000 x1001 x1002) else (z7_.j3 k x1 x16 (x16 == 6) x1000 x1001 x1002))))
def z7_.j3 : Nat → Int → Int → Bool → List Int → Int → Int → Option (ByteArray × Int × Int)
 | 0,_,_,_,_,_,_ => none
 | k + 1,x1,x16,x41,x1000,x1001,x1002 => if x41 = true then ((z7_.f k x1000 x1001 x1002 (wrap64 (x1 - 1))).bind fun bt631 => (if 5 + bt631.1.size ≤ 9223372036854775807 then (if ((⟨#[67,111,110,115,40]⟩ : ByteArray) ++ bt631.1).size + 1 ≤ 9223372036854775807 then ((z7_.f k x1000 bt631.2.1 bt631.2.2 (wrap64 (x1 - 1))).bind fun bt634 => (if (((⟨#[67,111,110,115,40]⟩ : ByteArray) ++ bt631.1) ++ (⟨#[44]⟩ : ByteArray)).size + bt634.1.size ≤ 9223372036854775807 then (if ((((⟨#[67,111,110,115,40]⟩ : ByteArray) ++ bt631.1) ++ (⟨#[44]⟩ : ByteArray)) ++ bt634.1).size + 1 ≤ 9223372036854775807 then (some (((((⟨#[67,111,110,115,40]⟩ : ByteArray) ++ bt631.1) ++ (⟨#[44]⟩ : ByteArray)) ++ bt634.1) ++ (⟨#[41]⟩ : ByteArray),bt634.2.1,bt634.2.2)) else (none)) else (none))) else (none)) else (none))) else (if x16 = 7 then ((z7_.f k x1000 x1001 x1002 (wrap64 (x1 - 1))).bind fun bt637 => (if 2 + bt637.1.size ≤ 9223372036854775807 then (if ((⟨#[83,40]⟩ : ByteArray) ++ bt637.1).size + 1 ≤ 9223372036854775807 then (some (((⟨#[83,40]⟩ : ByteArray) ++ bt637.1) ++ (⟨#[41]⟩ : ByteArray),bt637.2.1,bt637.2.2)) else (none)) else (none))) else ((z7_.f k x1000 x1001 x1002 (wrap64 (x1 - 1))).bind fun bt640 => (if 5 + bt640.1.size ≤ 9223372036854775807 then (if ((⟨#[78,111,100,101,40]⟩ : ByteArray) ++ bt640.1).size + 1 ≤ 9223372036854775807 then ((z7_.f k x1000 bt640.2.1 bt640.2.2 (wrap64 (x1 - 1))).bind fun bt643 => (if (((⟨#[78,111,100,101,40]⟩ : ByteArray) ++ bt640.1) ++ (⟨#[44]⟩ : ByteArray)).size + bt643.1.size ≤ 9223372036854775807 then (if ((((⟨#[78,111,100,101,40]⟩ : ByteArray) ++ bt640.1) ++ (⟨#[44]⟩ : ByteArray)) ++ bt643.1).size + 1 ≤ 9223372036854775807 then ((z7_.f k x1000 bt643.2.1 bt643.2.2 (wrap64 (x1 - 1))).bind fun bt646 => (if (((((⟨#[78,111,100,101,40]⟩ : ByteArray) ++ bt640.1) ++ (⟨#[44]⟩ : ByteArray)) ++ bt643.1) ++ (⟨#[44]⟩ : ByteArray)).size + bt646.1.size ≤ 9223372036854775807 then (if ((((((⟨#[78,111,100,101,40]⟩ : ByteArray) ++ bt640.1) ++ (⟨#[44]⟩ : ByteArray)) ++ bt643.1) ++ (⟨#[44]⟩ : ByteArray)) ++ bt646.1).size + 1 ≤ 9223372036854775807 then (some (((((((⟨#[78,111,100,101,40]⟩ : ByteArray) ++ bt640.1) ++ (⟨#[44]⟩ : ByteArray)) ++ bt643.1) ++ (⟨#[44]⟩ : ByteArray)) ++ bt646.1) ++ (⟨#[41]⟩ : ByteArray),bt646.2.1,bt646.2.2)) else (none)) else (none))) else (none)) else (none))) else (none)) else (none))))
def z7_.f : Nat → List Int → Int → Int → Int → Option (ByteArray × Int × Int)
 | 0,_,_,_,_ => none
 | k + 1,s0_0,s0_1,s0_2,a1 => (z6_.f s0_0 s0_1 s0_2 9).bind fun bt606 => (if a1 ≤ 0 then (z7_.j0 k a1 bt606.1 (decide (bt606.1 > 4)) s0_0 bt606.2.1 bt606.2.2) else (z7_.j0 k a1 bt606.1 false s0_0 bt606.2.1 bt606.2.2))
end
set_option maxHeartbeats 8000000 in
set_option maxRecDepth 100000 in
theorem z7_.calls (k : Nat) : ∀ (g : Nat) (s0_0 : List Int) (s0_1 : Int) (s0_2 : Int) (a1 : Int) (r1 : ByteArray) (r2 : Int) (r3 : Int) (w0 w : World) (hI : y2 w0 w g s0_0 s0_1 s0_2) (hB : Below w0.heap.size w0 w) (h : z7_.f k s0_0 s0_1 s0_2 a1 = some (r1,r2,r3)),
  Calls Tryd.prog 117 #[.pointer (some ⟨g,0,none⟩),.int .i64 a1] w fun e w' => e = .returned (.string r1) ∧ y2 w0 w' g s0_0 r2 r3 ∧ Below w0.heap.size w0 w' ∧ y3 w w' g none := by
 induction k using Nat.strongRecOn with
 | _ k ih =>
 intro g s0_0 s0_1 s0_2 a1 r1 r2 r3 w0 w hI hB h
 cases k with
 | zero => exact absurd h (by simp [z7_.f])
 | succ k =>
 simp only [z7_.f] at h
 have HI0 := y0.mk hI
 have HK := y0.mk (y3.refl w g none)
 have HL := y0.mk hB.size
 clear hI
 have HW0 := y0.mk hB.size
 have HB := y0.mk hB
 clear hB
 have H : ((z6_.f s0_0 s0_1 s0_2 9).bind fun bt606 => (if a1 ≤ 0 then (z7_.j0 k a1 bt606.1 (decide (bt606.1 > 4)) s0_0 bt606.2.1 bt606.2.2) else (z7_.j0 k a1 bt606.1 false s0_0 bt606.2.1 bt606.2.2))) = some (r1,r2,r3) := h
 clear h
 replace H := Option.bind_eq_some_iff.mp H
 obtain ⟨⟨t606,t607,t608⟩,A30,H⟩ := H
 replace H : (if a1 ≤ 0 then (z7_.j0 k a1 t606 (decide (t606 > 4)) s0_0 t607 t608) else (z7_.j0 k a1 t606 false s0_0 t607 t608)) = some (r1,r2,r3) := H
 have A3 := y0.mk A30
 clear A30
 have HC4 := y0.mk H
 clear H
 go_enter Tryd.func117,Tryd.ntmps117
 go_upto_region 2 with (first | ((with_reducible refine y11 (f := 70) rfl ?_); refine y12 (some 7) rfl rfl Tryd.func70 (by kernel_rfl) rfl #[.pointer (some ⟨g,0,none⟩),.int .i64 9] rfl (by (try simp only [qM_,List.map_cons,List.map_nil]); first | done | rfl | (simp only [qD_,qT_]; rfl)) ?_; (with_reducible refine (z6_.calls g s0_0 s0_1 s0_2 9 t606 t607 t608 w0 _ ?side1 ?side2 A3.out).mono ?_); (case side1 => repeat (first | (with_reducible first | exact HI0.out | apply y2.alloc | apply y2.drewN | apply y2.drew | apply y2.set_1 | apply y2.set_2) | exact HI0.out)); (case side2 => repeat (first | (with_reducible first | exact HB.out | apply y5 | apply y18 | apply y6 | refine y7 ?_ (y2.ge HI0.out)) | exact HB.out)); rintro e w5 ⟨rfl,hi,hb,hk⟩; refine ⟨_,rfl, ?_⟩; have n0_ := y0.mk (y3.trans (by repeat (first | (with_reducible first | exact HK.out | apply y3.set_ | apply y17 | apply y16 | apply y15) | exact HK.out)) hk (.inl rfl)); have n1_ := y0.mk (hb); have n2_ := y0.mk (hi); clear HK; clear HB; clear HI0; have HK := n0_; have HB := n1_; have HI0 := n2_; clear n0_ n1_ n2_; (try clear hb); (try clear hb2); (try clear hk); (try clear hi)))
 (try simp only [Act.put,qS_,qZ_,qC_])
 go_cut [13] (fun v13 wc => ∃ (kq : Nat) (x13_3 : Bool),v13 = .bool x13_3 ∧ y0 (z7_.j0 kq a1 t606 x13_3 s0_0 t607 t608 = some (r1,r2,r3)) ∧ y0 (kq ≤ k) ∧ y0 (y2 w0 wc g s0_0 t607 t608) ∧ y0 (y3 w wc g none) ∧ y0 (Below w0.heap.size w0 wc))
 case first =>
  have H := HC4.out
  clear HC4
  by_cases c6 : a1 ≤ 0
  ·rw [if_pos c6] at H
   have c6b0 : decide (a1 ≤ 0) = true := decide_eq_true c6
   clear c6
   (first | rw [c6b0] | (simp only [y14,y13]; rw [c6b0]) | skip)
   have H' := y0.mk H
   clear H
   go_wp2
   go_meet
   case rel => exact ⟨_,(decide (t606 > 4)),(by first | rfl | (simp; done) | (simp [*]; done)),H',⟨by first | omega | exact Nat.le_refl _⟩,⟨by repeat (first | (with_reducible first | exact HI0.out | apply y2.alloc | apply y2.drewN | apply y2.drew | apply y2.set_1 | apply y2.set_2) | exact HI0.out)⟩,⟨by repeat (first | (with_reducible first | exact HK.out | apply y3.set_ | apply y17 | apply y16 | apply y15) | exact HK.out)⟩,⟨by repeat (first | (with_reducible first | exact HB.out | apply y5 | apply y18 | apply y6 | refine y7 ?_ (y2.ge HI0.out)) | exact HB.out)⟩⟩
  ·rw [if_neg c6] at H
   have c6b0 : decide (a1 ≤ 0) = false := decide_eq_false c6
   clear c6
   (first | rw [c6b0] | (simp only [y14,y13]; rw [c6b0]) | skip)
   have H' := y0.mk H
   clear H
   go_wp2
   go_meet
   case rel => exact ⟨_,(false),(by first | rfl | (simp; done) | (simp [*]; done)),H',⟨by first | omega | exact Nat.le_refl _⟩,⟨by repeat (first | (with_reducible first | exact HI0.out | apply y2.alloc | apply y2.drewN | apply y2.drew | apply y2.set_1 | apply y2.set_2) | exact HI0.out)⟩,⟨by repeat (first | (with_reducible first | exact HK.out | apply y3.set_ | apply y17 | apply y16 | apply y15) | exact HK.out)⟩,⟨by repeat (first | (with_reducible first | exact HB.out | apply y5 | apply y18 | apply y6 | refine y7 ?_ (y2.ge HI0.out)) | exact HB.out)⟩⟩
 case rest =>
  clear HC4
  try clear c1
  try clear p2
  try clear c6
  try clear c6b0
  obtain ⟨kq,x13_3,rfl,HA,HJ3,HI0,HK,HB⟩ := hcut
  cases kq with
  | zero => exact absurd HA.out (by simp [z7_.j0])
  | succ kj3 =>
   have H := HA.out
   clear HA
   simp only [z7_.j0] at H
   have HC7 := y0.mk H
   clear H
   go_upto_if 13 with (fail)
   go_cut [5] (fun v5 wc => ∃ (kq : Nat) (x5_6 : Int),v5 = .int .i64 x5_6 ∧ y0 (z7_.j1 kq a1 x5_6 s0_0 t607 t608 = some (r1,r2,r3)) ∧ y0 (kq ≤ kj3) ∧ y0 (y2 w0 wc g s0_0 t607 t608) ∧ y0 (y3 w wc g none) ∧ y0 (Below w0.heap.size w0 wc))
   case first =>
    have H := HC7.out
    clear HC7
    by_cases c8 : x13_3 = true
    ·subst c8
     have H1 : (z7_.j1 kj3 a1 (wrap64 (t606 - 4)) s0_0 t607 t608) = some (r1,r2,r3) := by rw [if_pos rfl] at H; exact H
     clear H
     have H := H1
     clear H1
     have H' := y0.mk H
     clear H
     go_wp2
     go_meet
     case rel => exact ⟨_,(wrap64 (t606 - 4)),(by first | rfl | (simp; done) | (simp [*]; done)),H',⟨by have := HJ3.out; first | omega | exact Nat.le_refl _⟩,⟨by repeat (first | (with_reducible first | exact HI0.out | apply y2.alloc | apply y2.drewN | apply y2.drew | apply y2.set_1 | apply y2.set_2) | exact HI0.out)⟩,⟨by repeat (first | (with_reducible first | exact HK.out | apply y3.set_ | apply y17 | apply y16 | apply y15) | exact HK.out)⟩,⟨by repeat (first | (with_reducible first | exact HB.out | apply y5 | apply y18 | apply y6 | refine y7 ?_ (y2.ge HI0.out)) | exact HB.out)⟩⟩
    ·replace c8 := Bool.eq_false_iff.mpr c8
     subst c8
     have H1 : (z7_.j1 kj3 a1 t606 s0_0 t607 t608) = some (r1,r2,r3) := by rw [if_neg (show ¬ (false = true) by decide)] at H; exact H
     clear H
     have H := H1
     clear H1
     have H' := y0.mk H
     clear H
     go_wp2
     go_meet
     case rel => exact ⟨_,(t606),(by first | rfl | (simp; done) | (simp [*]; done)),H',⟨by have := HJ3.out; first | omega | exact Nat.le_refl _⟩,⟨by repeat (first | (with_reducible first | exact HI0.out | apply y2.alloc | apply y2.drewN | apply y2.drew | apply y2.set_1 | apply y2.set_2) | exact HI0.out)⟩,⟨by repeat (first | (with_reducible first | exact HK.out | apply y3.set_ | apply y17 | apply y16 | apply y15) | exact HK.out)⟩,⟨by repeat (first | (with_reducible first | exact HB.out | apply y5 | apply y18 | apply y6 | refine y7 ?_ (y2.ge HI0.out)) | exact HB.out)⟩⟩
   case rest =>
    clear HC7
    try clear c1
    try clear p2
    try clear c6
    try clear c6b0
    try clear p6
    try clear c7
    try clear c8
    try clear p2
    obtain ⟨kq,x5_6,rfl,HA,HJ6,HI0,HK,HB⟩ := hcut
    cases kq with
    | zero => exact absurd HA.out (by simp [z7_.j1])
    | succ kj6 =>
     have H := HA.out
     clear HA
     simp only [z7_.j1] at H
     have HC9 := y0.mk H
     clear H
     go_upto_if 17 with (fail)
     go_cut [17] (fun v17 wc => ∃ (kq : Nat) (x17_8 : Bool),v17 = .bool x17_8 ∧ y0 (z7_.j2 kq a1 x5_6 x17_8 s0_0 t607 t608 = some (r1,r2,r3)) ∧ y0 (kq ≤ kj6) ∧ y0 (y2 w0 wc g s0_0 t607 t608) ∧ y0 (y3 w wc g none) ∧ y0 (Below w0.heap.size w0 wc))
     case first =>
      have H := HC9.out
      clear HC9
      by_cases c10 : x5_6 = 0
      ·rw [if_pos c10] at H
       have c10b0 : (x5_6 == 0) = true := beq_iff_eq.mpr c10
       have c10b1 : (x5_6 != 0) = false := bne_eq_false_iff_eq.mpr c10
       clear c10
       (first | rw [c10b0] | (simp only [y14,y13]; rw [c10b0]) | skip)
       have H' := y0.mk H
       clear H
       go_wp2
       go_meet
       case rel => exact ⟨_,((x5_6 == 0)),(by first | rfl | (simp; done) | (simp [*]; done)),H',⟨by have := HJ3.out; have := HJ6.out; first | omega | exact Nat.le_refl _⟩,⟨by repeat (first | (with_reducible first | exact HI0.out | apply y2.alloc | apply y2.drewN | apply y2.drew | apply y2.set_1 | apply y2.set_2) | exact HI0.out)⟩,⟨by repeat (first | (with_reducible first | exact HK.out | apply y3.set_ | apply y17 | apply y16 | apply y15) | exact HK.out)⟩,⟨by repeat (first | (with_reducible first | exact HB.out | apply y5 | apply y18 | apply y6 | refine y7 ?_ (y2.ge HI0.out)) | exact HB.out)⟩⟩
      ·rw [if_neg c10] at H
       have c10b0 : (x5_6 == 0) = false := beq_eq_false_iff_ne.mpr c10
       have c10b1 : (x5_6 != 0) = true := bne_iff_ne.mpr c10
       (first | rw [c10b0] | (simp only [y14,y13]; rw [c10b0]) | skip)
       by_cases c11 : x5_6 = 1
       ·rw [if_pos c11] at H
        have c11b0 : (x5_6 == 1) = true := beq_iff_eq.mpr c11
        have c11b1 : (x5_6 != 1) = false := bne_eq_false_iff_eq.mpr c11
        clear c11
        have H' := y0.mk H
        clear H
        go_wp2
        go_meet
        case rel => exact ⟨_,((x5_6 == 1)),(by first | rfl | (simp; done) | (simp [*]; done)),H',⟨by have := HJ3.out; have := HJ6.out; first | omega | exact Nat.le_refl _⟩,⟨by repeat (first | (with_reducible first | exact HI0.out | apply y2.alloc | apply y2.drewN | apply y2.drew | apply y2.set_1 | apply y2.set_2) | exact HI0.out)⟩,⟨by repeat (first | (with_reducible first | exact HK.out | apply y3.set_ | apply y17 | apply y16 | apply y15) | exact HK.out)⟩,⟨by repeat (first | (with_reducible first | exact HB.out | apply y5 | apply y18 | apply y6 | refine y7 ?_ (y2.ge HI0.out)) | exact HB.out)⟩⟩
       ·rw [if_neg c11] at H
        have c11b0 : (x5_6 == 1) = false := beq_eq_false_iff_ne.mpr c11
        have c11b1 : (x5_6 != 1) = true := bne_iff_ne.mpr c11
        have H' := y0.mk H
        clear H
        go_wp2
        go_meet
        case rel => exact ⟨_,((x5_6 == 2)),(by first | rfl | (simp; done) | (simp [*]; done)),H',⟨by have := HJ3.out; have := HJ6.out; first | omega | exact Nat.le_refl _⟩,⟨by repeat (first | (with_reducible first | exact HI0.out | apply y2.alloc | apply y2.drewN | apply y2.drew | apply y2.set_1 | apply y2.set_2) | exact HI0.out)⟩,⟨by repeat (first | (with_reducible first | exact HK.out | apply y3.set_ | apply y17 | apply y16 | apply y15) | exact HK.out)⟩,⟨by repeat (first | (with_reducible first | exact HB.out | apply y5 | apply y18 | apply y6 | refine y7 ?_ (y2.ge HI0.out)) | exact HB.out)⟩⟩
     case rest =>
      clear HC9
      try clear c1
      try clear p2
      try clear c6
      try clear c6b0
      try clear p6
      try clear c7
      try clear c8
      try clear c10
      try clear c10b0
      try clear c10b1
      try clear c11
      try clear c11b0
      try clear c11b1
      try clear p2
      try clear p6
      obtain ⟨kq,x17_8,rfl,HA,HJ8,HI0,HK,HB⟩ := hcut
      cases kq with
      | zero => exact absurd HA.out (by simp [z7_.j2])
      | succ kj8 =>
       have H := HA.out
       clear HA
       simp only [z7_.j2] at H
       by_cases c12 : x17_8 = true
       ·subst c12
        have H1 : ((some (([0,1,2,3,(-1),10,1000000,(-1000000)] : List Int) : List Int)).bind fun y609 => ((z6_.f s0_0 t607 t608 8).bind fun bt612 => (if 0 ≤ bt612.1 then (if bt612.1 < (y609.length : Int) then ((spec_NumText.f kj8 (rd y609 bt612.1)).bind fun t616 => (some (t616,bt612.2.1,bt612.2.2))) else (none)) else (none)))) = some (r1,r2,r3) := by rw [if_pos rfl] at H; exact H
        clear H
        have H := H1
        clear H1
        obtain ⟨y609,hy609⟩ : ∃ y_ : List Int,y_ = (([0,1,2,3,(-1),10,1000000,(-1000000)] : List Int)) := ⟨_,rfl⟩
        replace H : ((z6_.f s0_0 t607 t608 8).bind fun bt612 => (if 0 ≤ bt612.1 then (if bt612.1 < (y609.length : Int) then ((spec_NumText.f kj8 (rd y609 bt612.1)).bind fun t616 => (some (t616,bt612.2.1,bt612.2.2))) else (none)) else (none))) = some (r1,r2,r3) := by first | (rw [hy609]; with_reducible exact H) | (have H2_ := (Option.bind_some _ _).symm.trans H; rw [hy609]; with_reducible exact H2_) | (have H2_ := (Option.bind_some _ _).symm.trans H; with_reducible exact H2_) | with_reducible exact H | (rw [hy609]; exact H) | exact H
        have Ny609 := y0.mk hy609
        clear hy609
        replace H := Option.bind_eq_some_iff.mp H
        obtain ⟨⟨t612,t613,t614⟩,A130,H⟩ := H
        replace H : (if 0 ≤ t612 then (if t612 < (y609.length : Int) then ((spec_NumText.f kj8 (rd y609 t612)).bind fun t616 => (some (t616,t613,t614))) else (none)) else (none)) = some (r1,r2,r3) := H
        have A13 := y0.mk A130
        clear A130
        by_cases c14 : 0 ≤ t612
        ·rw [if_pos c14] at H
         have c14b0 : decide (0 ≤ t612) = true := decide_eq_true c14
         clear c14
         by_cases c15 : t612 < (y609.length : Int)
         ·rw [if_pos c15] at H
          have c15b0 : decide (t612 < (y609.length : Int)) = true := decide_eq_true c15
          clear c15
          replace H := Option.bind_eq_some_iff.mp H
          obtain ⟨t616,A160,H⟩ := H
          replace H : (some (t616,t613,t614)) = some (r1,r2,r3) := H
          have A16 := y0.mk A160
          clear A160
          simp only [Option.some.injEq,Prod.mk.injEq] at H
          obtain ⟨rfl,rfl,rfl⟩ := H
          go_wp2_with (first | ((with_reducible refine gate_dst (N := 21) rfl ?_); refine Kd.R_lit (Kd.int .i64) _ 3 ?hg (N := 21) ?hd (xs := ([0,1,2,3,(-1),10,1000000,(-1000000)] : List Int)) (inner := [.int .i64 0,.int .i64 1,.int .i64 2,.int .i64 3,.int .i64 (-1),.int .i64 10,.int .i64 1000000,.int .i64 (-1000000)]) (ok := fun _ => True) (okp := fun _ => True) ?hr ?hp (fun _ hk => hk) trivial (Below.refl _ _) (Nat.le_refl _) (by simp) ?_; (case hd => rfl); (case hg => rfl); (case hr => first | (go_simp; done) | (go_simp; rfl)); (case hp => exact (Reps.one (show Kd.M (Kd.int .i64) _ _ _ 0 [.int .i64 0] from rfl) (Reps.one (show Kd.M (Kd.int .i64) _ _ _ 1 [.int .i64 1] from rfl) (Reps.one (show Kd.M (Kd.int .i64) _ _ _ 2 [.int .i64 2] from rfl) (Reps.one (show Kd.M (Kd.int .i64) _ _ _ 3 [.int .i64 3] from rfl) (Reps.one (show Kd.M (Kd.int .i64) _ _ _ (-1) [.int .i64 (-1)] from rfl) (Reps.one (show Kd.M (Kd.int .i64) _ _ _ 10 [.int .i64 10] from rfl) (Reps.one (show Kd.M (Kd.int .i64) _ _ _ 1000000 [.int .i64 1000000] from rfl) (Reps.one (show Kd.M (Kd.int .i64) _ _ _ (-1000000) [.int .i64 (-1000000)] from rfl) (Reps.none _ _)))))))))); intro v610 w17 ho18 hb hg_ hnew_; clear hg_ hnew_; (first | rw [← Ny609.out] at ho18 | (simp only [Int.reduceToNat] at ho18; rw [← Ny609.out] at ho18)); have n0_ := y0.mk (Kd.R_lower ho18 (keep_size (w := w) (g := g) (row := none) (by repeat (first | (with_reducible first | exact HK.out | apply y3.set_ | apply y17 | apply y16 | apply y15) | exact HK.out)))); have n1_ := y0.mk (y2.below (by repeat (first | (with_reducible first | exact HI0.out | apply y2.alloc | apply y2.drewN | apply y2.drew | apply y2.set_1 | apply y2.set_2) | exact HI0.out)) hb); have n2_ := y0.mk (y3.trans (by repeat (first | (with_reducible first | exact HK.out | apply y3.set_ | apply y17 | apply y16 | apply y15) | exact HK.out)) (y3.of_below hb g none) (.inl rfl)); have n3_ := y0.mk (y8 (by repeat (first | (with_reducible first | exact HB.out | apply y5 | apply y18 | apply y6 | refine y7 ?_ (y2.ge HI0.out)) | exact HB.out)) hb); clear HI0; clear HK; clear HB; have HO611 := n0_; have HI0 := n1_; have HK := n2_; have HB := n3_; clear n0_ n1_ n2_ n3_; clear hb ho18) | ((with_reducible refine y11 (f := 70) rfl ?_); refine y12 (some 23) rfl rfl Tryd.func70 (by kernel_rfl) rfl #[.pointer (some ⟨g,0,none⟩),.int .i64 8] rfl (by (try simp only [qM_,List.map_cons,List.map_nil]); first | done | rfl | (simp only [qD_,qT_]; rfl)) ?_; (with_reducible refine (z6_.calls g s0_0 t607 t608 8 t612 t613 t614 w0 _ ?side1 ?side2 A13.out).mono ?_); (case side1 => repeat (first | (with_reducible first | exact HI0.out | apply y2.alloc | apply y2.drewN | apply y2.drew | apply y2.set_1 | apply y2.set_2) | exact HI0.out)); (case side2 => repeat (first | (with_reducible first | exact HB.out | apply y5 | apply y18 | apply y6 | refine y7 ?_ (y2.ge HI0.out)) | exact HB.out)); rintro e w19 ⟨rfl,hi,hb,hk⟩; refine ⟨_,rfl, ?_⟩; have n0_ := y0.mk (Kd.R_mono (Kd.R_keep (y2.apart (show y2 w0 _ g s0_0 t607 t608 from by repeat (first | (with_reducible first | exact HI0.out | apply y2.alloc | apply y2.drewN | apply y2.drew | apply y2.set_1 | apply y2.set_2) | exact HI0.out)) (by (with_reducible repeat (first | apply Kd.R_alloc | apply Kd.R_drewN | apply Kd.R_drew)); exact HO611.out) (by decide)) hk (fun _ h => h.2)) (fun _ h => h.1)); have n1_ := y0.mk (y3.trans (by repeat (first | (with_reducible first | exact HK.out | apply y3.set_ | apply y17 | apply y16 | apply y15) | exact HK.out)) hk (.inl rfl)); have n2_ := y0.mk (hb); have n3_ := y0.mk (hi); clear HO611; clear HK; clear HB; clear HI0; have HO611 := n0_; have HK := n1_; have HB := n2_; have HI0 := n3_; clear n0_ n1_ n2_ n3_; (try clear hb); (try clear hb2); (try clear hk); (try clear hi); obtain ⟨Ao20,co20,eo20⟩ := Kd.R_slice HO611.out; subst eo20; have p615 : 0 ≤ (t612 : Int) := of_decide_eq_true (by first | (with_reducible assumption) | assumption); have q615 : t612 < (y609.length : Int) := of_decide_eq_true (by first | (with_reducible assumption) | assumption); obtain ⟨ad615,e615,hx615_0⟩ := Kd.at_int (Kd.R_reads' HO611.out).2.2 t612 p615 q615; cases e615; replace p615 := eq_true p615; replace q615 := eq_true q615) | ((with_reducible refine y11 (f := 20) rfl ?_); refine y12 (some 26) rfl rfl Tryd.func20 (by kernel_rfl) rfl #[.int .i64 (rd y609 t612)] rfl (by (try simp only [qM_,List.map_cons,List.map_nil]); first | done | rfl | (simp only [qD_,qT_]; rfl)) ?_; (with_reducible refine (spec_NumText.calls kj8 (rd y609 t612) t616 _ A16.out).mono ?_); rintro e w21 ⟨rfl,hb⟩; refine ⟨_,rfl, ?_⟩; have n0_ := y0.mk (Kd.R_below (by (with_reducible repeat (first | apply Kd.R_alloc | apply Kd.R_drewN | apply Kd.R_drew)); exact HO611.out) hb); have n1_ := y0.mk (y2.below (by repeat (first | (with_reducible first | exact HI0.out | apply y2.alloc | apply y2.drewN | apply y2.drew | apply y2.set_1 | apply y2.set_2) | exact HI0.out)) hb); have n2_ := y0.mk (y3.trans (by repeat (first | (with_reducible first | exact HK.out | apply y3.set_ | apply y17 | apply y16 | apply y15) | exact HK.out)) (y3.of_below hb g none) (.inl rfl)); have n3_ := y0.mk (y8 (by repeat (first | (with_reducible first | exact HB.out | apply y5 | apply y18 | apply y6 | refine y7 ?_ (y2.ge HI0.out)) | exact HB.out)) hb); clear HO611; clear HI0; clear HK; clear HB; have HO611 := n0_; have HI0 := n1_; have HK := n2_; have HB := n3_; clear n0_ n1_ n2_ n3_; (try clear hb); (try clear hb2); (try clear hk); (try clear hi)))
          go_ret
          exact ⟨by first | rfl | (simp [y9,y10] <;> rfl) | (simp [*,y9,y10] <;> rfl),by repeat (first | (with_reducible first | exact HI0.out | apply y2.alloc | apply y2.drewN | apply y2.drew | apply y2.set_1 | apply y2.set_2) | exact HI0.out),by repeat (first | (with_reducible first | exact HB.out | apply y5 | apply y18 | apply y6 | refine y7 ?_ (y2.ge HI0.out)) | exact HB.out),by repeat (first | (with_reducible first | exact HK.out | apply y3.set_ | apply y17 | apply y16 | apply y15) | exact HK.out)⟩
         ·rw [if_neg c15] at H
          exact absurd H (by simp)
        ·rw [if_neg c14] at H
         exact absurd H (by simp)
       ·replace c12 := Bool.eq_false_iff.mpr c12
        subst c12
        have H1 : (if x5_6 = 3 then ((some (([(⟨#[34,34]⟩ : ByteArray),(⟨#[34,97,34]⟩ : ByteArray),(⟨#[34,98,32,99,34]⟩ : ByteArray),(⟨#[34,40,44,41,34]⟩ : ByteArray),(⟨#[34,120,34]⟩ : ByteArray)] : List ByteArray) : List ByteArray)).bind fun y617 => ((z6_.f s0_0 t607 t608 5).bind fun bt620 => (if 0 ≤ bt620.1 then (if bt620.1 < (y617.length : Int) then (some (rdOf ByteArray.empty y617 bt620.1,bt620.2.1,bt620.2.2)) else (none)) else (none)))) else (if x5_6 = 4 then ((some (([(⟨#[78,105,108]⟩ : ByteArray),(⟨#[76,101,97,102]⟩ : ByteArray),(⟨#[65]⟩ : ByteArray),(⟨#[90,101,114,111]⟩ : ByteArray)] : List ByteArray) : List ByteArray)).bind fun y624 => ((z6_.f s0_0 t607 t608 4).bind fun bt627 => (if 0 ≤ bt627.1 then (if bt627.1 < (y624.length : Int) then (some (rdOf ByteArray.empty y624 bt627.1,bt627.2.1,bt627.2.2)) else (none)) else (none)))) else (if x5_6 = 5 then (z7_.j3 kj8 a1 x5_6 (x5_6 == 5) s0_0 t607 t608) else (z7_.j3 kj8 a1 x5_6 (x5_6 == 6) s0_0 t607 t608)))) = some (r1,r2,r3) := by rw [if_neg (show ¬ (false = true) by decide)] at H; exact H
        clear H
        have H := H1
        clear H1
        by_cases c22 : x5_6 = 3
        ·rw [if_pos c22] at H
         have c22b0 : (x5_6 == 3) = true := beq_iff_eq.mpr c22
         have c22b1 : (x5_6 != 3) = false := bne_eq_false_iff_eq.mpr c22
         clear c22
         obtain ⟨y617,hy617⟩ : ∃ y_ : List ByteArray,y_ = (([(⟨#[34,34]⟩ : ByteArray),(⟨#[34,97,34]⟩ : ByteArray),(⟨#[34,98,32,99,34]⟩ : ByteArray),(⟨#[34,40,44,41,34]⟩ : ByteArray),(⟨#[34,120,34]⟩ : ByteArray)] : List ByteArray)) := ⟨_,rfl⟩
         replace H : ((z6_.f s0_0 t607 t608 5).bind fun bt620 => (if 0 ≤ bt620.1 then (if bt620.1 < (y617.length : Int) then (some (rdOf ByteArray.empty y617 bt620.1,bt620.2.1,bt620.2.2)) else (none)) else (none))) = some (r1,r2,r3) := by first | (rw [hy617]; with_reducible exact H) | (have H2_ := (Option.bind_some _ _).symm.trans H; rw [hy617]; with_reducible exact H2_) | (have H2_ := (Option.bind_some _ _).symm.trans H; with_reducible exact H2_) | with_reducible exact H | (rw [hy617]; exact H) | exact H
         have Ny617 := y0.mk hy617
         clear hy617
         replace H := Option.bind_eq_some_iff.mp H
         obtain ⟨⟨t620,t621,t622⟩,A230,H⟩ := H
         replace H : (if 0 ≤ t620 then (if t620 < (y617.length : Int) then (some (rdOf ByteArray.empty y617 t620,t621,t622)) else (none)) else (none)) = some (r1,r2,r3) := H
         have A23 := y0.mk A230
         clear A230
         by_cases c24 : 0 ≤ t620
         ·rw [if_pos c24] at H
          have c24b0 : decide (0 ≤ t620) = true := decide_eq_true c24
          clear c24
          by_cases c25 : t620 < (y617.length : Int)
          ·rw [if_pos c25] at H
           have c25b0 : decide (t620 < (y617.length : Int)) = true := decide_eq_true c25
           clear c25
           simp only [Option.some.injEq,Prod.mk.injEq] at H
           obtain ⟨rfl,rfl,rfl⟩ := H
           go_wp2_with (first | ((with_reducible refine gate_dst (N := 29) rfl ?_); refine Kd.R_lit Kd.string _ 9 ?hg (N := 29) ?hd (xs := ([(⟨#[34,34]⟩ : ByteArray),(⟨#[34,97,34]⟩ : ByteArray),(⟨#[34,98,32,99,34]⟩ : ByteArray),(⟨#[34,40,44,41,34]⟩ : ByteArray),(⟨#[34,120,34]⟩ : ByteArray)] : List ByteArray)) (inner := [.string (⟨#[34,34]⟩ : ByteArray),.string (⟨#[34,97,34]⟩ : ByteArray),.string (⟨#[34,98,32,99,34]⟩ : ByteArray),.string (⟨#[34,40,44,41,34]⟩ : ByteArray),.string (⟨#[34,120,34]⟩ : ByteArray)]) (ok := fun _ => True) (okp := fun _ => True) ?hr ?hp (fun _ hk => hk) trivial (Below.refl _ _) (Nat.le_refl _) (by simp) ?_; (case hd => rfl); (case hg => rfl); (case hr => first | (go_simp; done) | (go_simp; rfl)); (case hp => exact (Reps.one (show Kd.M Kd.string _ _ _ (⟨#[34,34]⟩ : ByteArray) [.string (⟨#[34,34]⟩ : ByteArray)] from rfl) (Reps.one (show Kd.M Kd.string _ _ _ (⟨#[34,97,34]⟩ : ByteArray) [.string (⟨#[34,97,34]⟩ : ByteArray)] from rfl) (Reps.one (show Kd.M Kd.string _ _ _ (⟨#[34,98,32,99,34]⟩ : ByteArray) [.string (⟨#[34,98,32,99,34]⟩ : ByteArray)] from rfl) (Reps.one (show Kd.M Kd.string _ _ _ (⟨#[34,40,44,41,34]⟩ : ByteArray) [.string (⟨#[34,40,44,41,34]⟩ : ByteArray)] from rfl) (Reps.one (show Kd.M Kd.string _ _ _ (⟨#[34,120,34]⟩ : ByteArray) [.string (⟨#[34,120,34]⟩ : ByteArray)] from rfl) (Reps.none _ _))))))); intro v618 w26 ho27 hb hg_ hnew_; clear hg_ hnew_; (first | rw [← Ny617.out] at ho27 | (simp only [Int.reduceToNat] at ho27; rw [← Ny617.out] at ho27)); have n0_ := y0.mk (Kd.R_lower ho27 (keep_size (w := w) (g := g) (row := none) (by repeat (first | (with_reducible first | exact HK.out | apply y3.set_ | apply y17 | apply y16 | apply y15) | exact HK.out)))); have n1_ := y0.mk (y2.below (by repeat (first | (with_reducible first | exact HI0.out | apply y2.alloc | apply y2.drewN | apply y2.drew | apply y2.set_1 | apply y2.set_2) | exact HI0.out)) hb); have n2_ := y0.mk (y3.trans (by repeat (first | (with_reducible first | exact HK.out | apply y3.set_ | apply y17 | apply y16 | apply y15) | exact HK.out)) (y3.of_below hb g none) (.inl rfl)); have n3_ := y0.mk (y8 (by repeat (first | (with_reducible first | exact HB.out | apply y5 | apply y18 | apply y6 | refine y7 ?_ (y2.ge HI0.out)) | exact HB.out)) hb); clear HI0; clear HK; clear HB; have HO619 := n0_; have HI0 := n1_; have HK := n2_; have HB := n3_; clear n0_ n1_ n2_ n3_; clear hb ho27) | ((with_reducible refine y11 (f := 70) rfl ?_); refine y12 (some 31) rfl rfl Tryd.func70 (by kernel_rfl) rfl #[.pointer (some ⟨g,0,none⟩),.int .i64 5] rfl (by (try simp only [qM_,List.map_cons,List.map_nil]); first | done | rfl | (simp only [qD_,qT_]; rfl)) ?_; (with_reducible refine (z6_.calls g s0_0 t607 t608 5 t620 t621 t622 w0 _ ?side1 ?side2 A23.out).mono ?_); (case side1 => repeat (first | (with_reducible first | exact HI0.out | apply y2.alloc | apply y2.drewN | apply y2.drew | apply y2.set_1 | apply y2.set_2) | exact HI0.out)); (case side2 => repeat (first | (with_reducible first | exact HB.out | apply y5 | apply y18 | apply y6 | refine y7 ?_ (y2.ge HI0.out)) | exact HB.out)); rintro e w28 ⟨rfl,hi,hb,hk⟩; refine ⟨_,rfl, ?_⟩; have n0_ := y0.mk (Kd.R_mono (Kd.R_keep (y2.apart (show y2 w0 _ g s0_0 t607 t608 from by repeat (first | (with_reducible first | exact HI0.out | apply y2.alloc | apply y2.drewN | apply y2.drew | apply y2.set_1 | apply y2.set_2) | exact HI0.out)) (by (with_reducible repeat (first | apply Kd.R_alloc | apply Kd.R_drewN | apply Kd.R_drew)); exact HO619.out) (by decide)) hk (fun _ h => h.2)) (fun _ h => h.1)); have n1_ := y0.mk (y3.trans (by repeat (first | (with_reducible first | exact HK.out | apply y3.set_ | apply y17 | apply y16 | apply y15) | exact HK.out)) hk (.inl rfl)); have n2_ := y0.mk (hb); have n3_ := y0.mk (hi); clear HO619; clear HK; clear HB; clear HI0; have HO619 := n0_; have HK := n1_; have HB := n2_; have HI0 := n3_; clear n0_ n1_ n2_ n3_; (try clear hb); (try clear hb2); (try clear hk); (try clear hi); obtain ⟨Ao29,co29,eo29⟩ := Kd.R_slice HO619.out; subst eo29; have p623 : 0 ≤ (t620 : Int) := of_decide_eq_true (by first | (with_reducible assumption) | assumption); have q623 : t620 < (y617.length : Int) := of_decide_eq_true (by first | (with_reducible assumption) | assumption); obtain ⟨ad623,e623,hx623_0⟩ := Kd.at_string (Kd.R_reads' HO619.out).2.2 t620 p623 q623; cases e623; replace p623 := eq_true p623; replace q623 := eq_true q623))
           go_ret
           exact ⟨by first | rfl | (simp [y9,y10] <;> rfl) | (simp [*,y9,y10] <;> rfl),by repeat (first | (with_reducible first | exact HI0.out | apply y2.alloc | apply y2.drewN | apply y2.drew | apply y2.set_1 | apply y2.set_2) | exact HI0.out),by repeat (first | (with_reducible first | exact HB.out | apply y5 | apply y18 | apply y6 | refine y7 ?_ (y2.ge HI0.out)) | exact HB.out),by repeat (first | (with_reducible first | exact HK.out | apply y3.set_ | apply y17 | apply y16 | apply y15) | exact HK.out)⟩
          ·rw [if_neg c25] at H
           exact absurd H (by simp)
         ·rw [if_neg c24] at H
          exact absurd H (by simp)
        ·rw [if_neg c22] at H
         have c22b0 : (x5_6 == 3) = false := beq_eq_false_iff_ne.mpr c22
         have c22b1 : (x5_6 != 3) = true := bne_iff_ne.mpr c22
         by_cases c30 : x5_6 = 4
         ·rw [if_pos c30] at H
          have c30b0 : (x5_6 == 4) = true := beq_iff_eq.mpr c30
          have c30b1 : (x5_6 != 4) = false := bne_eq_false_iff_eq.mpr c30
          clear c30
          obtain ⟨y624,hy624⟩ : ∃ y_ : List ByteArray,y_ = (([(⟨#[78,105,108]⟩ : ByteArray),(⟨#[76,101,97,102]⟩ : ByteArray),(⟨#[65]⟩ : ByteArray),(⟨#[90,101,114,111]⟩ : ByteArray)] : List ByteArray)) := ⟨_,rfl⟩
          replace H : ((z6_.f s0_0 t607 t608 4).bind fun bt627 => (if 0 ≤ bt627.1 then (if bt627.1 < (y624.length : Int) then (some (rdOf ByteArray.empty y624 bt627.1,bt627.2.1,bt627.2.2)) else (none)) else (none))) = some (r1,r2,r3) := by first | (rw [hy624]; with_reducible exact H) | (have H2_ := (Option.bind_some _ _).symm.trans H; rw [hy624]; with_reducible exact H2_) | (have H2_ := (Option.bind_some _ _).symm.trans H; with_reducible exact H2_) | with_reducible exact H | (rw [hy624]; exact H) | exact H
          have Ny624 := y0.mk hy624
          clear hy624
          replace H := Option.bind_eq_some_iff.mp H
          obtain ⟨⟨t627,t628,t629⟩,A310,H⟩ := H
          replace H : (if 0 ≤ t627 then (if t627 < (y624.length : Int) then (some (rdOf ByteArray.empty y624 t627,t628,t629)) else (none)) else (none)) = some (r1,r2,r3) := H
          have A31 := y0.mk A310
          clear A310
          by_cases c32 : 0 ≤ t627
          ·rw [if_pos c32] at H
           have c32b0 : decide (0 ≤ t627) = true := decide_eq_true c32
           clear c32
           by_cases c33 : t627 < (y624.length : Int)
           ·rw [if_pos c33] at H
            have c33b0 : decide (t627 < (y624.length : Int)) = true := decide_eq_true c33
            clear c33
            simp only [Option.some.injEq,Prod.mk.injEq] at H
            obtain ⟨rfl,rfl,rfl⟩ := H
            go_wp2_with (first | ((with_reducible refine gate_dst (N := 36) rfl ?_); refine Kd.R_lit Kd.string _ 9 ?hg (N := 36) ?hd (xs := ([(⟨#[78,105,108]⟩ : ByteArray),(⟨#[76,101,97,102]⟩ : ByteArray),(⟨#[65]⟩ : ByteArray),(⟨#[90,101,114,111]⟩ : ByteArray)] : List ByteArray)) (inner := [.string (⟨#[78,105,108]⟩ : ByteArray),.string (⟨#[76,101,97,102]⟩ : ByteArray),.string (⟨#[65]⟩ : ByteArray),.string (⟨#[90,101,114,111]⟩ : ByteArray)]) (ok := fun _ => True) (okp := fun _ => True) ?hr ?hp (fun _ hk => hk) trivial (Below.refl _ _) (Nat.le_refl _) (by simp) ?_; (case hd => rfl); (case hg => rfl); (case hr => first | (go_simp; done) | (go_simp; rfl)); (case hp => exact (Reps.one (show Kd.M Kd.string _ _ _ (⟨#[78,105,108]⟩ : ByteArray) [.string (⟨#[78,105,108]⟩ : ByteArray)] from rfl) (Reps.one (show Kd.M Kd.string _ _ _ (⟨#[76,101,97,102]⟩ : ByteArray) [.string (⟨#[76,101,97,102]⟩ : ByteArray)] from rfl) (Reps.one (show Kd.M Kd.string _ _ _ (⟨#[65]⟩ : ByteArray) [.string (⟨#[65]⟩ : ByteArray)] from rfl) (Reps.one (show Kd.M Kd.string _ _ _ (⟨#[90,101,114,111]⟩ : ByteArray) [.string (⟨#[90,101,114,111]⟩ : ByteArray)] from rfl) (Reps.none _ _)))))); intro v625 w34 ho35 hb hg_ hnew_; clear hg_ hnew_; (first | rw [← Ny624.out] at ho35 | (simp only [Int.reduceToNat] at ho35; rw [← Ny624.out] at ho35)); have n0_ := y0.mk (Kd.R_lower ho35 (keep_size (w := w) (g := g) (row := none) (by repeat (first | (with_reducible first | exact HK.out | apply y3.set_ | apply y17 | apply y16 | apply y15) | exact HK.out)))); have n1_ := y0.mk (y2.below (by repeat (first | (with_reducible first | exact HI0.out | apply y2.alloc | apply y2.drewN | apply y2.drew | apply y2.set_1 | apply y2.set_2) | exact HI0.out)) hb); have n2_ := y0.mk (y3.trans (by repeat (first | (with_reducible first | exact HK.out | apply y3.set_ | apply y17 | apply y16 | apply y15) | exact HK.out)) (y3.of_below hb g none) (.inl rfl)); have n3_ := y0.mk (y8 (by repeat (first | (with_reducible first | exact HB.out | apply y5 | apply y18 | apply y6 | refine y7 ?_ (y2.ge HI0.out)) | exact HB.out)) hb); clear HI0; clear HK; clear HB; have HO626 := n0_; have HI0 := n1_; have HK := n2_; have HB := n3_; clear n0_ n1_ n2_ n3_; clear hb ho35) | ((with_reducible refine y11 (f := 70) rfl ?_); refine y12 (some 38) rfl rfl Tryd.func70 (by kernel_rfl) rfl #[.pointer (some ⟨g,0,none⟩),.int .i64 4] rfl (by (try simp only [qM_,List.map_cons,List.map_nil]); first | done | rfl | (simp only [qD_,qT_]; rfl)) ?_; (with_reducible refine (z6_.calls g s0_0 t607 t608 4 t627 t628 t629 w0 _ ?side1 ?side2 A31.out).mono ?_); (case side1 => repeat (first | (with_reducible first | exact HI0.out | apply y2.alloc | apply y2.drewN | apply y2.drew | apply y2.set_1 | apply y2.set_2) | exact HI0.out)); (case side2 => repeat (first | (with_reducible first | exact HB.out | apply y5 | apply y18 | apply y6 | refine y7 ?_ (y2.ge HI0.out)) | exact HB.out)); rintro e w36 ⟨rfl,hi,hb,hk⟩; refine ⟨_,rfl, ?_⟩; have n0_ := y0.mk (Kd.R_mono (Kd.R_keep (y2.apart (show y2 w0 _ g s0_0 t607 t608 from by repeat (first | (with_reducible first | exact HI0.out | apply y2.alloc | apply y2.drewN | apply y2.drew | apply y2.set_1 | apply y2.set_2) | exact HI0.out)) (by (with_reducible repeat (first | apply Kd.R_alloc | apply Kd.R_drewN | apply Kd.R_drew)); exact HO626.out) (by decide)) hk (fun _ h => h.2)) (fun _ h => h.1)); have n1_ := y0.mk (y3.trans (by repeat (first | (with_reducible first | exact HK.out | apply y3.set_ | apply y17 | apply y16 | apply y15) | exact HK.out)) hk (.inl rfl)); have n2_ := y0.mk (hb); have n3_ := y0.mk (hi); clear HO626; clear HK; clear HB; clear HI0; have HO626 := n0_; have HK := n1_; have HB := n2_; have HI0 := n3_; clear n0_ n1_ n2_ n3_; (try clear hb); (try clear hb2); (try clear hk); (try clear hi); obtain ⟨Ao37,co37,eo37⟩ := Kd.R_slice HO626.out; subst eo37; have p630 : 0 ≤ (t627 : Int) := of_decide_eq_true (by first | (with_reducible assumption) | assumption); have q630 : t627 < (y624.length : Int) := of_decide_eq_true (by first | (with_reducible assumption) | assumption); obtain ⟨ad630,e630,hx630_0⟩ := Kd.at_string (Kd.R_reads' HO626.out).2.2 t627 p630 q630; cases e630; replace p630 := eq_true p630; replace q630 := eq_true q630))
            go_ret
            exact ⟨by first | rfl | (simp [y9,y10] <;> rfl) | (simp [*,y9,y10] <;> rfl),by repeat (first | (with_reducible first | exact HI0.out | apply y2.alloc | apply y2.drewN | apply y2.drew | apply y2.set_1 | apply y2.set_2) | exact HI0.out),by repeat (first | (with_reducible first | exact HB.out | apply y5 | apply y18 | apply y6 | refine y7 ?_ (y2.ge HI0.out)) | exact HB.out),by repeat (first | (with_reducible first | exact HK.out | apply y3.set_ | apply y17 | apply y16 | apply y15) | exact HK.out)⟩
           ·rw [if_neg c33] at H
            exact absurd H (by simp)
          ·rw [if_neg c32] at H
           exact absurd H (by simp)
         ·rw [if_neg c30] at H
          have c30b0 : (x5_6 == 4) = false := beq_eq_false_iff_ne.mpr c30
          have c30b1 : (x5_6 != 4) = true := bne_iff_ne.mpr c30
          have HC38 := y0.mk H
          clear H
          go_upto_if 41 with (fail)
          go_cut [41] (fun v41 wc => ∃ (kq : Nat) (x41_37 : Bool),v41 = .bool x41_37 ∧ y0 (z7_.j3 kq a1 x5_6 x41_37 s0_0 t607 t608 = some (r1,r2,r3)) ∧ y0 (kq ≤ kj8) ∧ y0 (y2 w0 wc g s0_0 t607 t608) ∧ y0 (y3 w wc g none) ∧ y0 (Below w0.heap.size w0 wc))
          case first =>
           have H := HC38.out
           clear HC38
           by_cases c39 : x5_6 = 5
           ·rw [if_pos c39] at H
            have c39b0 : (x5_6 == 5) = true := beq_iff_eq.mpr c39
            have c39b1 : (x5_6 != 5) = false := bne_eq_false_iff_eq.mpr c39
            clear c39
            (first | rw [c39b0] | (simp only [y14,y13]; rw [c39b0]) | skip)
            have H' := y0.mk H
            clear H
            go_wp2
            go_meet
            case rel => exact ⟨_,((x5_6 == 5)),(by first | rfl | (simp; done) | (simp [*]; done)),H',⟨by have := HJ3.out; have := HJ6.out; have := HJ8.out; first | omega | exact Nat.le_refl _⟩,⟨by repeat (first | (with_reducible first | exact HI0.out | apply y2.alloc | apply y2.drewN | apply y2.drew | apply y2.set_1 | apply y2.set_2) | exact HI0.out)⟩,⟨by repeat (first | (with_reducible first | exact HK.out | apply y3.set_ | apply y17 | apply y16 | apply y15) | exact HK.out)⟩,⟨by repeat (first | (with_reducible first | exact HB.out | apply y5 | apply y18 | apply y6 | refine y7 ?_ (y2.ge HI0.out)) | exact HB.out)⟩⟩
           ·rw [if_neg c39] at H
            have c39b0 : (x5_6 == 5) = false := beq_eq_false_iff_ne.mpr c39
            have c39b1 : (x5_6 != 5) = true := bne_iff_ne.mpr c39
            (first | rw [c39b0] | (simp only [y14,y13]; rw [c39b0]) | skip)
            have H' := y0.mk H
            clear H
            go_wp2
            go_meet
            case rel => exact ⟨_,((x5_6 == 6)),(by first | rfl | (simp; done) | (simp [*]; done)),H',⟨by have := HJ3.out; have := HJ6.out; have := HJ8.out; first | omega | exact Nat.le_refl _⟩,⟨by repeat (first | (with_reducible first | exact HI0.out | apply y2.alloc | apply y2.drewN | apply y2.drew | apply y2.set_1 | apply y2.set_2) | exact HI0.out)⟩,⟨by repeat (first | (with_reducible first | exact HK.out | apply y3.set_ | apply y17 | apply y16 | apply y15) | exact HK.out)⟩,⟨by repeat (first | (with_reducible first | exact HB.out | apply y5 | apply y18 | apply y6 | refine y7 ?_ (y2.ge HI0.out)) | exact HB.out)⟩⟩
          case rest =>
           clear HC38
           try clear c1
           try clear c2
           try clear p2
           try clear c3
           try clear c6
           try clear c6b0
           try clear p6
           try clear q6
           try clear hx6
           try clear c7
           try clear c8
           try clear c10
           try clear c10b0
           try clear c10b1
           try clear c11
           try clear c11b0
           try clear c11b1
           try clear c12
           try clear c14
           try clear c14b0
           try clear c15
           try clear c15b0
           try clear c20
           try clear c22
           try clear c22b0
           try clear c22b1
           try clear c24
           try clear c24b0
           try clear c25
           try clear c25b0
           try clear c30
           try clear c30b0
           try clear c30b1
           try clear c32
           try clear c32b0
           try clear c33
           try clear c33b0
           try clear c39
           try clear c39b0
           try clear c39b1
           try clear hx615_0
           try clear hx623_0
           try clear hx630_0
           try clear p2
           try clear p6
           try clear p615
           try clear p623
           try clear p630
           try clear q615
           try clear q623
           try clear q630
           obtain ⟨kq,x41_37,rfl,HA,HJ37,HI0,HK,HB⟩ := hcut
           cases kq with
           | zero => exact absurd HA.out (by simp [z7_.j3])
           | succ kj37 =>
            have H := HA.out
            clear HA
            simp only [z7_.j3] at H
            by_cases c40 : x41_37 = true
            ·subst c40
             have H1 : ((z7_.f kj37 s0_0 t607 t608 (wrap64 (a1 - 1))).bind fun bt631 => (if 5 + bt631.1.size ≤ 9223372036854775807 then (if ((⟨#[67,111,110,115,40]⟩ : ByteArray) ++ bt631.1).size + 1 ≤ 9223372036854775807 then ((z7_.f kj37 s0_0 bt631.2.1 bt631.2.2 (wrap64 (a1 - 1))).bind fun bt634 => (if (((⟨#[67,111,110,115,40]⟩ : ByteArray) ++ bt631.1) ++ (⟨#[44]⟩ : ByteArray)).size + bt634.1.size ≤ 9223372036854775807 then (if ((((⟨#[67,111,110,115,40]⟩ : ByteArray) ++ bt631.1) ++ (⟨#[44]⟩ : ByteArray)) ++ bt634.1).size + 1 ≤ 9223372036854775807 then (some (((((⟨#[67,111,110,115,40]⟩ : ByteArray) ++ bt631.1) ++ (⟨#[44]⟩ : ByteArray)) ++ bt634.1) ++ (⟨#[41]⟩ : ByteArray),bt634.2.1,bt634.2.2)) else (none)) else (none))) else (none)) else (none))) = some (r1,r2,r3) := by rw [if_pos rfl] at H; exact H
             clear H
             have H := H1
             clear H1
             replace H := Option.bind_eq_some_iff.mp H
             obtain ⟨⟨t631,t632,t633⟩,A410,H⟩ := H
             replace H : (if 5 + t631.size ≤ 9223372036854775807 then (if ((⟨#[67,111,110,115,40]⟩ : ByteArray) ++ t631).size + 1 ≤ 9223372036854775807 then ((z7_.f kj37 s0_0 t632 t633 (wrap64 (a1 - 1))).bind fun bt634 => (if (((⟨#[67,111,110,115,40]⟩ : ByteArray) ++ t631) ++ (⟨#[44]⟩ : ByteArray)).size + bt634.1.size ≤ 9223372036854775807 then (if ((((⟨#[67,111,110,115,40]⟩ : ByteArray) ++ t631) ++ (⟨#[44]⟩ : ByteArray)) ++ bt634.1).size + 1 ≤ 9223372036854775807 then (some (((((⟨#[67,111,110,115,40]⟩ : ByteArray) ++ t631) ++ (⟨#[44]⟩ : ByteArray)) ++ bt634.1) ++ (⟨#[41]⟩ : ByteArray),bt634.2.1,bt634.2.2)) else (none)) else (none))) else (none)) else (none)) = some (r1,r2,r3) := H
             have A41 := y0.mk A410
             clear A410
             by_cases c42 : 5 + t631.size ≤ 9223372036854775807
             ·rw [if_pos c42] at H
              have c42b0 := eq_true c42
              have c42b1 : decide (5 + t631.size ≤ 9223372036854775807) = true := decide_eq_true c42
              try have c42b2 : (9223372036854775807 < 5 + t631.size) = False := eq_false (Nat.not_lt.2 c42)
              by_cases c43 : ((⟨#[67,111,110,115,40]⟩ : ByteArray) ++ t631).size + 1 ≤ 9223372036854775807
              ·rw [if_pos c43] at H
               have c43b0 := eq_true c43
               have c43b1 : decide (((⟨#[67,111,110,115,40]⟩ : ByteArray) ++ t631).size + 1 ≤ 9223372036854775807) = true := decide_eq_true c43
               try have c43b2 : (9223372036854775807 < ((⟨#[67,111,110,115,40]⟩ : ByteArray) ++ t631).size + 1) = False := eq_false (Nat.not_lt.2 c43)
               try have c43b3 : (9223372036854775807 < 5 + t631.size + 1) = False := (congrArg (fun n_ => (9223372036854775807 < n_)) (show 5 + t631.size + 1 = ((⟨#[67,111,110,115,40]⟩ : ByteArray) ++ t631).size + 1 by (simp only [ByteArray.size_append]; try rfl))).trans c43b2
               replace H := Option.bind_eq_some_iff.mp H
               obtain ⟨⟨t634,t635,t636⟩,A440,H⟩ := H
               replace H : (if (((⟨#[67,111,110,115,40]⟩ : ByteArray) ++ t631) ++ (⟨#[44]⟩ : ByteArray)).size + t634.size ≤ 9223372036854775807 then (if ((((⟨#[67,111,110,115,40]⟩ : ByteArray) ++ t631) ++ (⟨#[44]⟩ : ByteArray)) ++ t634).size + 1 ≤ 9223372036854775807 then (some (((((⟨#[67,111,110,115,40]⟩ : ByteArray) ++ t631) ++ (⟨#[44]⟩ : ByteArray)) ++ t634) ++ (⟨#[41]⟩ : ByteArray),t635,t636)) else (none)) else (none)) = some (r1,r2,r3) := H
               have A44 := y0.mk A440
               clear A440
               by_cases c45 : (((⟨#[67,111,110,115,40]⟩ : ByteArray) ++ t631) ++ (⟨#[44]⟩ : ByteArray)).size + t634.size ≤ 9223372036854775807
               ·rw [if_pos c45] at H
                have c45b0 := eq_true c45
                have c45b1 : decide ((((⟨#[67,111,110,115,40]⟩ : ByteArray) ++ t631) ++ (⟨#[44]⟩ : ByteArray)).size + t634.size ≤ 9223372036854775807) = true := decide_eq_true c45
                try have c45b2 : (9223372036854775807 < (((⟨#[67,111,110,115,40]⟩ : ByteArray) ++ t631) ++ (⟨#[44]⟩ : ByteArray)).size + t634.size) = False := eq_false (Nat.not_lt.2 c45)
                try have c45b3 : (9223372036854775807 < 5 + t631.size + 1 + t634.size) = False := (congrArg (fun n_ => (9223372036854775807 < n_)) (show 5 + t631.size + 1 + t634.size = (((⟨#[67,111,110,115,40]⟩ : ByteArray) ++ t631) ++ (⟨#[44]⟩ : ByteArray)).size + t634.size by (simp only [ByteArray.size_append]; try rfl))).trans c45b2
                by_cases c46 : ((((⟨#[67,111,110,115,40]⟩ : ByteArray) ++ t631) ++ (⟨#[44]⟩ : ByteArray)) ++ t634).size + 1 ≤ 9223372036854775807
                ·rw [if_pos c46] at H
                 have c46b0 := eq_true c46
                 have c46b1 : decide (((((⟨#[67,111,110,115,40]⟩ : ByteArray) ++ t631) ++ (⟨#[44]⟩ : ByteArray)) ++ t634).size + 1 ≤ 9223372036854775807) = true := decide_eq_true c46
                 try have c46b2 : (9223372036854775807 < ((((⟨#[67,111,110,115,40]⟩ : ByteArray) ++ t631) ++ (⟨#[44]⟩ : ByteArray)) ++ t634).size + 1) = False := eq_false (Nat.not_lt.2 c46)
                 try have c46b3 : (9223372036854775807 < 5 + t631.size + 1 + t634.size + 1) = False := (congrArg (fun n_ => (9223372036854775807 < n_)) (show 5 + t631.size + 1 + t634.size + 1 = ((((⟨#[67,111,110,115,40]⟩ : ByteArray) ++ t631) ++ (⟨#[44]⟩ : ByteArray)) ++ t634).size + 1 by (simp only [ByteArray.size_append]; try rfl))).trans c46b2
                 simp only [Option.some.injEq,Prod.mk.injEq] at H
                 obtain ⟨rfl,rfl,rfl⟩ := H
                 go_wp2_with (first | ((with_reducible refine y11 (f := 117) rfl ?_); refine y12 (some 47) rfl rfl Tryd.func117 (by kernel_rfl) rfl #[.pointer (some ⟨g,0,none⟩),.int .i64 (wrap64 (a1 - 1))] rfl (by (try simp only [qM_,List.map_cons,List.map_nil]); first | done | rfl | (simp only [qD_,qT_]; rfl)) ?_; (with_reducible refine (ih kj37 (by have := HJ3.out; have := HJ6.out; have := HJ8.out; have := HJ37.out; omega) g s0_0 t607 t608 (wrap64 (a1 - 1)) t631 t632 t633 w0 _ ?side1 ?side2 A41.out).mono ?_); (case side1 => repeat (first | (with_reducible first | exact HI0.out | apply y2.alloc | apply y2.drewN | apply y2.drew | apply y2.set_1 | apply y2.set_2) | exact HI0.out)); (case side2 => repeat (first | (with_reducible first | exact HB.out | apply y5 | apply y18 | apply y6 | refine y7 ?_ (y2.ge HI0.out)) | exact HB.out)); rintro e w47 ⟨rfl,hi,hb,hk⟩; refine ⟨_,rfl, ?_⟩; have n0_ := y0.mk (y3.trans (by repeat (first | (with_reducible first | exact HK.out | apply y3.set_ | apply y17 | apply y16 | apply y15) | exact HK.out)) hk (.inl rfl)); have n1_ := y0.mk (hb); have n2_ := y0.mk (hi); clear HK; clear HB; clear HI0; have HK := n0_; have HB := n1_; have HI0 := n2_; clear n0_ n1_ n2_; (try clear hb); (try clear hb2); (try clear hk); (try clear hi)) | ((with_reducible refine y11 (f := 117) rfl ?_); refine y12 (some 53) rfl rfl Tryd.func117 (by kernel_rfl) rfl #[.pointer (some ⟨g,0,none⟩),.int .i64 (wrap64 (a1 - 1))] rfl (by (try simp only [qM_,List.map_cons,List.map_nil]); first | done | rfl | (simp only [qD_,qT_]; rfl)) ?_; (with_reducible refine (ih kj37 (by have := HJ3.out; have := HJ6.out; have := HJ8.out; have := HJ37.out; omega) g s0_0 t632 t633 (wrap64 (a1 - 1)) t634 t635 t636 w0 _ ?side1 ?side2 A44.out).mono ?_); (case side1 => repeat (first | (with_reducible first | exact HI0.out | apply y2.alloc | apply y2.drewN | apply y2.drew | apply y2.set_1 | apply y2.set_2) | exact HI0.out)); (case side2 => repeat (first | (with_reducible first | exact HB.out | apply y5 | apply y18 | apply y6 | refine y7 ?_ (y2.ge HI0.out)) | exact HB.out)); rintro e w48 ⟨rfl,hi,hb,hk⟩; refine ⟨_,rfl, ?_⟩; have n0_ := y0.mk (y3.trans (by repeat (first | (with_reducible first | exact HK.out | apply y3.set_ | apply y17 | apply y16 | apply y15) | exact HK.out)) hk (.inl rfl)); have n1_ := y0.mk (hb); have n2_ := y0.mk (hi); clear HK; clear HB; clear HI0; have HK := n0_; have HB := n1_; have HI0 := n2_; clear n0_ n1_ n2_; (try clear hb); (try clear hb2); (try clear hk); (try clear hi)))
                 go_ret
                 exact ⟨by first | rfl | (simp [y9,y10] <;> rfl) | (simp [*,y9,y10] <;> rfl),by repeat (first | (with_reducible first | exact HI0.out | apply y2.alloc | apply y2.drewN | apply y2.drew | apply y2.set_1 | apply y2.set_2) | exact HI0.out),by repeat (first | (with_reducible first | exact HB.out | apply y5 | apply y18 | apply y6 | refine y7 ?_ (y2.ge HI0.out)) | exact HB.out),by repeat (first | (with_reducible first | exact HK.out | apply y3.set_ | apply y17 | apply y16 | apply y15) | exact HK.out)⟩
                ·rw [if_neg c46] at H
                 exact absurd H (by simp)
               ·rw [if_neg c45] at H
                exact absurd H (by simp)
              ·rw [if_neg c43] at H
               exact absurd H (by simp)
             ·rw [if_neg c42] at H
              exact absurd H (by simp)
            ·replace c40 := Bool.eq_false_iff.mpr c40
             subst c40
             have H1 : (if x5_6 = 7 then ((z7_.f kj37 s0_0 t607 t608 (wrap64 (a1 - 1))).bind fun bt637 => (if 2 + bt637.1.size ≤ 9223372036854775807 then (if ((⟨#[83,40]⟩ : ByteArray) ++ bt637.1).size + 1 ≤ 9223372036854775807 then (some (((⟨#[83,40]⟩ : ByteArray) ++ bt637.1) ++ (⟨#[41]⟩ : ByteArray),bt637.2.1,bt637.2.2)) else (none)) else (none))) else ((z7_.f kj37 s0_0 t607 t608 (wrap64 (a1 - 1))).bind fun bt640 => (if 5 + bt640.1.size ≤ 9223372036854775807 then (if ((⟨#[78,111,100,101,40]⟩ : ByteArray) ++ bt640.1).size + 1 ≤ 9223372036854775807 then ((z7_.f kj37 s0_0 bt640.2.1 bt640.2.2 (wrap64 (a1 - 1))).bind fun bt643 => (if (((⟨#[78,111,100,101,40]⟩ : ByteArray) ++ bt640.1) ++ (⟨#[44]⟩ : ByteArray)).size + bt643.1.size ≤ 9223372036854775807 then (if ((((⟨#[78,111,100,101,40]⟩ : ByteArray) ++ bt640.1) ++ (⟨#[44]⟩ : ByteArray)) ++ bt643.1).size + 1 ≤ 9223372036854775807 then ((z7_.f kj37 s0_0 bt643.2.1 bt643.2.2 (wrap64 (a1 - 1))).bind fun bt646 => (if (((((⟨#[78,111,100,101,40]⟩ : ByteArray) ++ bt640.1) ++ (⟨#[44]⟩ : ByteArray)) ++ bt643.1) ++ (⟨#[44]⟩ : ByteArray)).size + bt646.1.size ≤ 9223372036854775807 then (if ((((((⟨#[78,111,100,101,40]⟩ : ByteArray) ++ bt640.1) ++ (⟨#[44]⟩ : ByteArray)) ++ bt643.1) ++ (⟨#[44]⟩ : ByteArray)) ++ bt646.1).size + 1 ≤ 9223372036854775807 then (some (((((((⟨#[78,111,100,101,40]⟩ : ByteArray) ++ bt640.1) ++ (⟨#[44]⟩ : ByteArray)) ++ bt643.1) ++ (⟨#[44]⟩ : ByteArray)) ++ bt646.1) ++ (⟨#[41]⟩ : ByteArray),bt646.2.1,bt646.2.2)) else (none)) else (none))) else (none)) else (none))) else (none)) else (none)))) = some (r1,r2,r3) := by rw [if_neg (show ¬ (false = true) by decide)] at H; exact H
             clear H
             have H := H1
             clear H1
             by_cases c49 : x5_6 = 7
             ·rw [if_pos c49] at H
              have c49b0 : (x5_6 == 7) = true := beq_iff_eq.mpr c49
              have c49b1 : (x5_6 != 7) = false := bne_eq_false_iff_eq.mpr c49
              clear c49
              replace H := Option.bind_eq_some_iff.mp H
              obtain ⟨⟨t637,t638,t639⟩,A500,H⟩ := H
              replace H : (if 2 + t637.size ≤ 9223372036854775807 then (if ((⟨#[83,40]⟩ : ByteArray) ++ t637).size + 1 ≤ 9223372036854775807 then (some (((⟨#[83,40]⟩ : ByteArray) ++ t637) ++ (⟨#[41]⟩ : ByteArray),t638,t639)) else (none)) else (none)) = some (r1,r2,r3) := H
              have A50 := y0.mk A500
              clear A500
              by_cases c51 : 2 + t637.size ≤ 9223372036854775807
              ·rw [if_pos c51] at H
               have c51b0 := eq_true c51
               have c51b1 : decide (2 + t637.size ≤ 9223372036854775807) = true := decide_eq_true c51
               try have c51b2 : (9223372036854775807 < 2 + t637.size) = False := eq_false (Nat.not_lt.2 c51)
               by_cases c52 : ((⟨#[83,40]⟩ : ByteArray) ++ t637).size + 1 ≤ 9223372036854775807
               ·rw [if_pos c52] at H
                have c52b0 := eq_true c52
                have c52b1 : decide (((⟨#[83,40]⟩ : ByteArray) ++ t637).size + 1 ≤ 9223372036854775807) = true := decide_eq_true c52
                try have c52b2 : (9223372036854775807 < ((⟨#[83,40]⟩ : ByteArray) ++ t637).size + 1) = False := eq_false (Nat.not_lt.2 c52)
                try have c52b3 : (9223372036854775807 < 2 + t637.size + 1) = False := (congrArg (fun n_ => (9223372036854775807 < n_)) (show 2 + t637.size + 1 = ((⟨#[83,40]⟩ : ByteArray) ++ t637).size + 1 by (simp only [ByteArray.size_append]; try rfl))).trans c52b2
                simp only [Option.some.injEq,Prod.mk.injEq] at H
                obtain ⟨rfl,rfl,rfl⟩ := H
                go_wp2_with (first | ((with_reducible refine y11 (f := 117) rfl ?_); refine y12 (some 61) rfl rfl Tryd.func117 (by kernel_rfl) rfl #[.pointer (some ⟨g,0,none⟩),.int .i64 (wrap64 (a1 - 1))] rfl (by (try simp only [qM_,List.map_cons,List.map_nil]); first | done | rfl | (simp only [qD_,qT_]; rfl)) ?_; (with_reducible refine (ih kj37 (by have := HJ3.out; have := HJ6.out; have := HJ8.out; have := HJ37.out; omega) g s0_0 t607 t608 (wrap64 (a1 - 1)) t637 t638 t639 w0 _ ?side1 ?side2 A50.out).mono ?_); (case side1 => repeat (first | (with_reducible first | exact HI0.out | apply y2.alloc | apply y2.drewN | apply y2.drew | apply y2.set_1 | apply y2.set_2) | exact HI0.out)); (case side2 => repeat (first | (with_reducible first | exact HB.out | apply y5 | apply y18 | apply y6 | refine y7 ?_ (y2.ge HI0.out)) | exact HB.out)); rintro e w53 ⟨rfl,hi,hb,hk⟩; refine ⟨_,rfl, ?_⟩; have n0_ := y0.mk (y3.trans (by repeat (first | (with_reducible first | exact HK.out | apply y3.set_ | apply y17 | apply y16 | apply y15) | exact HK.out)) hk (.inl rfl)); have n1_ := y0.mk (hb); have n2_ := y0.mk (hi); clear HK; clear HB; clear HI0; have HK := n0_; have HB := n1_; have HI0 := n2_; clear n0_ n1_ n2_; (try clear hb); (try clear hb2); (try clear hk); (try clear hi)))
                go_ret
                exact ⟨by first | rfl | (simp [y9,y10] <;> rfl) | (simp [*,y9,y10] <;> rfl),by repeat (first | (with_reducible first | exact HI0.out | apply y2.alloc | apply y2.drewN | apply y2.drew | apply y2.set_1 | apply y2.set_2) | exact HI0.out),by repeat (first | (with_reducible first | exact HB.out | apply y5 | apply y18 | apply y6 | refine y7 ?_ (y2.ge HI0.out)) | exact HB.out),by repeat (first | (with_reducible first | exact HK.out | apply y3.set_ | apply y17 | apply y16 | apply y15) | exact HK.out)⟩
               ·rw [if_neg c52] at H
                exact absurd H (by simp)
              ·rw [if_neg c51] at H
               exact absurd H (by simp)
             ·rw [if_neg c49] at H
              have c49b0 : (x5_6 == 7) = false := beq_eq_false_iff_ne.mpr c49
              have c49b1 : (x5_6 != 7) = true := bne_iff_ne.mpr c49
              replace H := Option.bind_eq_some_iff.mp H
              obtain ⟨⟨t640,t641,t642⟩,A540,H⟩ := H
              replace H : (if 5 + t640.size ≤ 9223372036854775807 then (if ((⟨#[78,111,100,101,40]⟩ : ByteArray) ++ t640).size + 1 ≤ 9223372036854775807 then ((z7_.f kj37 s0_0 t641 t642 (wrap64 (a1 - 1))).bind fun bt643 => (if (((⟨#[78,111,100,101,40]⟩ : ByteArray) ++ t640) ++ (⟨#[44]⟩ : ByteArray)).size + bt643.1.size ≤ 9223372036854775807 then (if ((((⟨#[78,111,100,101,40]⟩ : ByteArray) ++ t640) ++ (⟨#[44]⟩ : ByteArray)) ++ bt643.1).size + 1 ≤ 9223372036854775807 then ((z7_.f kj37 s0_0 bt643.2.1 bt643.2.2 (wrap64 (a1 - 1))).bind fun bt646 => (if (((((⟨#[78,111,100,101,40]⟩ : ByteArray) ++ t640) ++ (⟨#[44]⟩ : ByteArray)) ++ bt643.1) ++ (⟨#[44]⟩ : ByteArray)).size + bt646.1.size ≤ 9223372036854775807 then (if ((((((⟨#[78,111,100,101,40]⟩ : ByteArray) ++ t640) ++ (⟨#[44]⟩ : ByteArray)) ++ bt643.1) ++ (⟨#[44]⟩ : ByteArray)) ++ bt646.1).size + 1 ≤ 9223372036854775807 then (some (((((((⟨#[78,111,100,101,40]⟩ : ByteArray) ++ t640) ++ (⟨#[44]⟩ : ByteArray)) ++ bt643.1) ++ (⟨#[44]⟩ : ByteArray)) ++ bt646.1) ++ (⟨#[41]⟩ : ByteArray),bt646.2.1,bt646.2.2)) else (none)) else (none))) else (none)) else (none))) else (none)) else (none)) = some (r1,r2,r3) := H
              have A54 := y0.mk A540
              clear A540
              by_cases c55 : 5 + t640.size ≤ 9223372036854775807
              ·rw [if_pos c55] at H
               have c55b0 := eq_true c55
               have c55b1 : decide (5 + t640.size ≤ 9223372036854775807) = true := decide_eq_true c55
               try have c55b2 : (9223372036854775807 < 5 + t640.size) = False := eq_false (Nat.not_lt.2 c55)
               by_cases c56 : ((⟨#[78,111,100,101,40]⟩ : ByteArray) ++ t640).size + 1 ≤ 9223372036854775807
               ·rw [if_pos c56] at H
                have c56b0 := eq_true c56
                have c56b1 : decide (((⟨#[78,111,100,101,40]⟩ : ByteArray) ++ t640).size + 1 ≤ 9223372036854775807) = true := decide_eq_true c56
                try have c56b2 : (9223372036854775807 < ((⟨#[78,111,100,101,40]⟩ : ByteArray) ++ t640).size + 1) = False := eq_false (Nat.not_lt.2 c56)
                try have c56b3 : (9223372036854775807 < 5 + t640.size + 1) = False := (congrArg (fun n_ => (9223372036854775807 < n_)) (show 5 + t640.size + 1 = ((⟨#[78,111,100,101,40]⟩ : ByteArray) ++ t640).size + 1 by (simp only [ByteArray.size_append]; try rfl))).trans c56b2
                replace H := Option.bind_eq_some_iff.mp H
                obtain ⟨⟨t643,t644,t645⟩,A570,H⟩ := H
                replace H : (if (((⟨#[78,111,100,101,40]⟩ : ByteArray) ++ t640) ++ (⟨#[44]⟩ : ByteArray)).size + t643.size ≤ 9223372036854775807 then (if ((((⟨#[78,111,100,101,40]⟩ : ByteArray) ++ t640) ++ (⟨#[44]⟩ : ByteArray)) ++ t643).size + 1 ≤ 9223372036854775807 then ((z7_.f kj37 s0_0 t644 t645 (wrap64 (a1 - 1))).bind fun bt646 => (if (((((⟨#[78,111,100,101,40]⟩ : ByteArray) ++ t640) ++ (⟨#[44]⟩ : ByteArray)) ++ t643) ++ (⟨#[44]⟩ : ByteArray)).size + bt646.1.size ≤ 9223372036854775807 then (if ((((((⟨#[78,111,100,101,40]⟩ : ByteArray) ++ t640) ++ (⟨#[44]⟩ : ByteArray)) ++ t643) ++ (⟨#[44]⟩ : ByteArray)) ++ bt646.1).size + 1 ≤ 9223372036854775807 then (some (((((((⟨#[78,111,100,101,40]⟩ : ByteArray) ++ t640) ++ (⟨#[44]⟩ : ByteArray)) ++ t643) ++ (⟨#[44]⟩ : ByteArray)) ++ bt646.1) ++ (⟨#[41]⟩ : ByteArray),bt646.2.1,bt646.2.2)) else (none)) else (none))) else (none)) else (none)) = some (r1,r2,r3) := H
                have A57 := y0.mk A570
                clear A570
                by_cases c58 : (((⟨#[78,111,100,101,40]⟩ : ByteArray) ++ t640) ++ (⟨#[44]⟩ : ByteArray)).size + t643.size ≤ 9223372036854775807
                ·rw [if_pos c58] at H
                 have c58b0 := eq_true c58
                 have c58b1 : decide ((((⟨#[78,111,100,101,40]⟩ : ByteArray) ++ t640) ++ (⟨#[44]⟩ : ByteArray)).size + t643.size ≤ 9223372036854775807) = true := decide_eq_true c58
                 try have c58b2 : (9223372036854775807 < (((⟨#[78,111,100,101,40]⟩ : ByteArray) ++ t640) ++ (⟨#[44]⟩ : ByteArray)).size + t643.size) = False := eq_false (Nat.not_lt.2 c58)
                 try have c58b3 : (9223372036854775807 < 5 + t640.size + 1 + t643.size) = False := (congrArg (fun n_ => (9223372036854775807 < n_)) (show 5 + t640.size + 1 + t643.size = (((⟨#[78,111,100,101,40]⟩ : ByteArray) ++ t640) ++ (⟨#[44]⟩ : ByteArray)).size + t643.size by (simp only [ByteArray.size_append]; try rfl))).trans c58b2
                 by_cases c59 : ((((⟨#[78,111,100,101,40]⟩ : ByteArray) ++ t640) ++ (⟨#[44]⟩ : ByteArray)) ++ t643).size + 1 ≤ 9223372036854775807
                 ·rw [if_pos c59] at H
                  have c59b0 := eq_true c59
                  have c59b1 : decide (((((⟨#[78,111,100,101,40]⟩ : ByteArray) ++ t640) ++ (⟨#[44]⟩ : ByteArray)) ++ t643).size + 1 ≤ 9223372036854775807) = true := decide_eq_true c59
                  try have c59b2 : (9223372036854775807 < ((((⟨#[78,111,100,101,40]⟩ : ByteArray) ++ t640) ++ (⟨#[44]⟩ : ByteArray)) ++ t643).size + 1) = False := eq_false (Nat.not_lt.2 c59)
                  try have c59b3 : (9223372036854775807 < 5 + t640.size + 1 + t643.size + 1) = False := (congrArg (fun n_ => (9223372036854775807 < n_)) (show 5 + t640.size + 1 + t643.size + 1 = ((((⟨#[78,111,100,101,40]⟩ : ByteArray) ++ t640) ++ (⟨#[44]⟩ : ByteArray)) ++ t643).size + 1 by (simp only [ByteArray.size_append]; try rfl))).trans c59b2
                  replace H := Option.bind_eq_some_iff.mp H
                  obtain ⟨⟨t646,t647,t648⟩,A600,H⟩ := H
                  replace H : (if (((((⟨#[78,111,100,101,40]⟩ : ByteArray) ++ t640) ++ (⟨#[44]⟩ : ByteArray)) ++ t643) ++ (⟨#[44]⟩ : ByteArray)).size + t646.size ≤ 9223372036854775807 then (if ((((((⟨#[78,111,100,101,40]⟩ : ByteArray) ++ t640) ++ (⟨#[44]⟩ : ByteArray)) ++ t643) ++ (⟨#[44]⟩ : ByteArray)) ++ t646).size + 1 ≤ 9223372036854775807 then (some (((((((⟨#[78,111,100,101,40]⟩ : ByteArray) ++ t640) ++ (⟨#[44]⟩ : ByteArray)) ++ t643) ++ (⟨#[44]⟩ : ByteArray)) ++ t646) ++ (⟨#[41]⟩ : ByteArray),t647,t648)) else (none)) else (none)) = some (r1,r2,r3) := H
                  have A60 := y0.mk A600
                  clear A600
                  by_cases c61 : (((((⟨#[78,111,100,101,40]⟩ : ByteArray) ++ t640) ++ (⟨#[44]⟩ : ByteArray)) ++ t643) ++ (⟨#[44]⟩ : ByteArray)).size + t646.size ≤ 9223372036854775807
                  ·rw [if_pos c61] at H
                   have c61b0 := eq_true c61
                   have c61b1 : decide ((((((⟨#[78,111,100,101,40]⟩ : ByteArray) ++ t640) ++ (⟨#[44]⟩ : ByteArray)) ++ t643) ++ (⟨#[44]⟩ : ByteArray)).size + t646.size ≤ 9223372036854775807) = true := decide_eq_true c61
                   try have c61b2 : (9223372036854775807 < (((((⟨#[78,111,100,101,40]⟩ : ByteArray) ++ t640) ++ (⟨#[44]⟩ : ByteArray)) ++ t643) ++ (⟨#[44]⟩ : ByteArray)).size + t646.size) = False := eq_false (Nat.not_lt.2 c61)
                   try have c61b3 : (9223372036854775807 < 5 + t640.size + 1 + t643.size + 1 + t646.size) = False := (congrArg (fun n_ => (9223372036854775807 < n_)) (show 5 + t640.size + 1 + t643.size + 1 + t646.size = (((((⟨#[78,111,100,101,40]⟩ : ByteArray) ++ t640) ++ (⟨#[44]⟩ : ByteArray)) ++ t643) ++ (⟨#[44]⟩ : ByteArray)).size + t646.size by (simp only [ByteArray.size_append]; try rfl))).trans c61b2
                   by_cases c62 : ((((((⟨#[78,111,100,101,40]⟩ : ByteArray) ++ t640) ++ (⟨#[44]⟩ : ByteArray)) ++ t643) ++ (⟨#[44]⟩ : ByteArray)) ++ t646).size + 1 ≤ 9223372036854775807
                   ·rw [if_pos c62] at H
                    have c62b0 := eq_true c62
                    have c62b1 : decide (((((((⟨#[78,111,100,101,40]⟩ : ByteArray) ++ t640) ++ (⟨#[44]⟩ : ByteArray)) ++ t643) ++ (⟨#[44]⟩ : ByteArray)) ++ t646).size + 1 ≤ 9223372036854775807) = true := decide_eq_true c62
                    try have c62b2 : (9223372036854775807 < ((((((⟨#[78,111,100,101,40]⟩ : ByteArray) ++ t640) ++ (⟨#[44]⟩ : ByteArray)) ++ t643) ++ (⟨#[44]⟩ : ByteArray)) ++ t646).size + 1) = False := eq_false (Nat.not_lt.2 c62)
                    try have c62b3 : (9223372036854775807 < 5 + t640.size + 1 + t643.size + 1 + t646.size + 1) = False := (congrArg (fun n_ => (9223372036854775807 < n_)) (show 5 + t640.size + 1 + t643.size + 1 + t646.size + 1 = ((((((⟨#[78,111,100,101,40]⟩ : ByteArray) ++ t640) ++ (⟨#[44]⟩ : ByteArray)) ++ t643) ++ (⟨#[44]⟩ : ByteArray)) ++ t646).size + 1 by (simp only [ByteArray.size_append]; try rfl))).trans c62b2
                    simp only [Option.some.injEq,Prod.mk.injEq] at H
                    obtain ⟨rfl,rfl,rfl⟩ := H
                    go_wp2_with (first | ((with_reducible refine y11 (f := 117) rfl ?_); refine y12 (some 67) rfl rfl Tryd.func117 (by kernel_rfl) rfl #[.pointer (some ⟨g,0,none⟩),.int .i64 (wrap64 (a1 - 1))] rfl (by (try simp only [qM_,List.map_cons,List.map_nil]); first | done | rfl | (simp only [qD_,qT_]; rfl)) ?_; (with_reducible refine (ih kj37 (by have := HJ3.out; have := HJ6.out; have := HJ8.out; have := HJ37.out; omega) g s0_0 t607 t608 (wrap64 (a1 - 1)) t640 t641 t642 w0 _ ?side1 ?side2 A54.out).mono ?_); (case side1 => repeat (first | (with_reducible first | exact HI0.out | apply y2.alloc | apply y2.drewN | apply y2.drew | apply y2.set_1 | apply y2.set_2) | exact HI0.out)); (case side2 => repeat (first | (with_reducible first | exact HB.out | apply y5 | apply y18 | apply y6 | refine y7 ?_ (y2.ge HI0.out)) | exact HB.out)); rintro e w63 ⟨rfl,hi,hb,hk⟩; refine ⟨_,rfl, ?_⟩; have n0_ := y0.mk (y3.trans (by repeat (first | (with_reducible first | exact HK.out | apply y3.set_ | apply y17 | apply y16 | apply y15) | exact HK.out)) hk (.inl rfl)); have n1_ := y0.mk (hb); have n2_ := y0.mk (hi); clear HK; clear HB; clear HI0; have HK := n0_; have HB := n1_; have HI0 := n2_; clear n0_ n1_ n2_; (try clear hb); (try clear hb2); (try clear hk); (try clear hi)) | ((with_reducible refine y11 (f := 117) rfl ?_); refine y12 (some 73) rfl rfl Tryd.func117 (by kernel_rfl) rfl #[.pointer (some ⟨g,0,none⟩),.int .i64 (wrap64 (a1 - 1))] rfl (by (try simp only [qM_,List.map_cons,List.map_nil]); first | done | rfl | (simp only [qD_,qT_]; rfl)) ?_; (with_reducible refine (ih kj37 (by have := HJ3.out; have := HJ6.out; have := HJ8.out; have := HJ37.out; omega) g s0_0 t641 t642 (wrap64 (a1 - 1)) t643 t644 t645 w0 _ ?side1 ?side2 A57.out).mono ?_); (case side1 => repeat (first | (with_reducible first | exact HI0.out | apply y2.alloc | apply y2.drewN | apply y2.drew | apply y2.set_1 | apply y2.set_2) | exact HI0.out)); (case side2 => repeat (first | (with_reducible first | exact HB.out | apply y5 | apply y18 | apply y6 | refine y7 ?_ (y2.ge HI0.out)) | exact HB.out)); rintro e w64 ⟨rfl,hi,hb,hk⟩; refine ⟨_,rfl, ?_⟩; have n0_ := y0.mk (y3.trans (by repeat (first | (with_reducible first | exact HK.out | apply y3.set_ | apply y17 | apply y16 | apply y15) | exact HK.out)) hk (.inl rfl)); have n1_ := y0.mk (hb); have n2_ := y0.mk (hi); clear HK; clear HB; clear HI0; have HK := n0_; have HB := n1_; have HI0 := n2_; clear n0_ n1_ n2_; (try clear hb); (try clear hb2); (try clear hk); (try clear hi)) | ((with_reducible refine y11 (f := 117) rfl ?_); refine y12 (some 79) rfl rfl Tryd.func117 (by kernel_rfl) rfl #[.pointer (some ⟨g,0,none⟩),.int .i64 (wrap64 (a1 - 1))] rfl (by (try simp only [qM_,List.map_cons,List.map_nil]); first | done | rfl | (simp only [qD_,qT_]; rfl)) ?_; (with_reducible refine (ih kj37 (by have := HJ3.out; have := HJ6.out; have := HJ8.out; have := HJ37.out; omega) g s0_0 t644 t645 (wrap64 (a1 - 1)) t646 t647 t648 w0 _ ?side1 ?side2 A60.out).mono ?_); (case side1 => repeat (first | (with_reducible first | exact HI0.out | apply y2.alloc | apply y2.drewN | apply y2.drew | apply y2.set_1 | apply y2.set_2) | exact HI0.out)); (case side2 => repeat (first | (with_reducible first | exact HB.out | apply y5 | apply y18 | apply y6 | refine y7 ?_ (y2.ge HI0.out)) | exact HB.out)); rintro e w65 ⟨rfl,hi,hb,hk⟩; refine ⟨_,rfl, ?_⟩; have n0_ := y0.mk (y3.trans (by repeat (first | (with_reducible first | exact HK.out | apply y3.set_ | apply y17 | apply y16 | apply y15) | exact HK.out)) hk (.inl rfl)); have n1_ := y0.mk (hb); have n2_ := y0.mk (hi); clear HK; clear HB; clear HI0; have HK := n0_; have HB := n1_; have HI0 := n2_; clear n0_ n1_ n2_; (try clear hb); (try clear hb2); (try clear hk); (try clear hi)))
                    go_ret
                    exact ⟨by first | rfl | (simp [y9,y10] <;> rfl) | (simp [*,y9,y10] <;> rfl),by repeat (first | (with_reducible first | exact HI0.out | apply y2.alloc | apply y2.drewN | apply y2.drew | apply y2.set_1 | apply y2.set_2) | exact HI0.out),by repeat (first | (with_reducible first | exact HB.out | apply y5 | apply y18 | apply y6 | refine y7 ?_ (y2.ge HI0.out)) | exact HB.out),by repeat (first | (with_reducible first | exact HK.out | apply y3.set_ | apply y17 | apply y16 | apply y15) | exact HK.out)⟩
                   ·rw [if_neg c62] at H
                    exact absurd H (by simp)
                  ·rw [if_neg c61] at H
                   exact absurd H (by simp)
                 ·rw [if_neg c59] at H
                  exact absurd H (by simp)
                ·rw [if_neg c58] at H
                 exact absurd H (by simp)
               ·rw [if_neg c56] at H
                exact absurd H (by simp)
              ·rw [if_neg c55] at H
               exact absurd H (by simp)
def spec_l01Cur_once.f (s0_0 : List Int) (s0_1 : Int) (s0_2 : Int) (a1 : Int) : Option (Bool × Int × Int) := (z6_.f s0_0 s0_1 s0_2 a1).bind fun bt649 => (some ((bt649.1 == (wrap64 (a1 - 1))),bt649.2.1,bt649.2.2))
set_option maxHeartbeats 8000000 in
set_option maxRecDepth 100000 in
theorem spec_l01Cur_once.calls (g : Nat) (s0_0 : List Int) (s0_1 : Int) (s0_2 : Int) (a1 : Int) (r1 : Bool) (r2 : Int) (r3 : Int) (w0 w : World) (hI : y2 w0 w g s0_0 s0_1 s0_2) (hB : Below w0.heap.size w0 w) (h : spec_l01Cur_once.f s0_0 s0_1 s0_2 a1 = some (r1,r2,r3)) :
  Calls Tryd.prog 118 #[.pointer (some ⟨g,0,none⟩),.int .i64 a1] w fun e w' => e = .returned (.bool r1) ∧ y2 w0 w' g s0_0 r2 r3 ∧ Below w0.heap.size w0 w' ∧ y3 w w' g none := by
 have HI0 := y0.mk hI
 have HK := y0.mk (y3.refl w g none)
 have HL := y0.mk hB.size
 clear hI
 have HW0 := y0.mk hB.size
 have HB := y0.mk hB
 clear hB
 have H : ((z6_.f s0_0 s0_1 s0_2 a1).bind fun bt649 => (some ((bt649.1 == (wrap64 (a1 - 1))),bt649.2.1,bt649.2.2))) = some (r1,r2,r3) := h
 clear h
 replace H := Option.bind_eq_some_iff.mp H
 obtain ⟨⟨t649,t650,t651⟩,A30,H⟩ := H
 replace H : (some ((t649 == (wrap64 (a1 - 1))),t650,t651)) = some (r1,r2,r3) := H
 have A3 := y0.mk A30
 clear A30
 simp only [Option.some.injEq,Prod.mk.injEq] at H
 obtain ⟨rfl,rfl,rfl⟩ := H
 go_enter Tryd.func118,Tryd.ntmps118
 go_wp2_with (first | ((with_reducible refine y11 (f := 70) rfl ?_); refine y12 (some 7) rfl rfl Tryd.func70 (by kernel_rfl) rfl #[.pointer (some ⟨g,0,none⟩),.int .i64 a1] rfl (by (try simp only [qM_,List.map_cons,List.map_nil]); first | done | rfl | (simp only [qD_,qT_]; rfl)) ?_; (with_reducible refine (z6_.calls g s0_0 s0_1 s0_2 a1 t649 t650 t651 w0 _ ?side1 ?side2 A3.out).mono ?_); (case side1 => repeat (first | (with_reducible first | exact HI0.out | apply y2.alloc | apply y2.drewN | apply y2.drew | apply y2.set_1 | apply y2.set_2) | exact HI0.out)); (case side2 => repeat (first | (with_reducible first | exact HB.out | apply y5 | apply y18 | apply y6 | refine y7 ?_ (y2.ge HI0.out)) | exact HB.out)); rintro e w4 ⟨rfl,hi,hb,hk⟩; refine ⟨_,rfl, ?_⟩; have n0_ := y0.mk (y3.trans (by repeat (first | (with_reducible first | exact HK.out | apply y3.set_ | apply y17 | apply y16 | apply y15) | exact HK.out)) hk (.inl rfl)); have n1_ := y0.mk (hb); have n2_ := y0.mk (hi); clear HK; clear HB; clear HI0; have HK := n0_; have HB := n1_; have HI0 := n2_; clear n0_ n1_ n2_; (try clear hb); (try clear hb2); (try clear hk); (try clear hi)))
 go_ret
 exact ⟨by first | rfl | (simp [y9,y10] <;> rfl) | (simp [*,y9,y10] <;> rfl),by repeat (first | (with_reducible first | exact HI0.out | apply y2.alloc | apply y2.drewN | apply y2.drew | apply y2.set_1 | apply y2.set_2) | exact HI0.out),by repeat (first | (with_reducible first | exact HB.out | apply y5 | apply y18 | apply y6 | refine y7 ?_ (y2.ge HI0.out)) | exact HB.out),by repeat (first | (with_reducible first | exact HK.out | apply y3.set_ | apply y17 | apply y16 | apply y15) | exact HK.out)⟩
end Go.Proofs.YtebadckdihgklaaDoor.Pb
end

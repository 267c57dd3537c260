-- Cut by prune.py, a program of this session, out of the texts of this claim: Lean checks it.
import Derived.Test.YtocmfolajckaeaaGreatDoorVlsPex0
import Derived.Test.YtocmfolajckaeaaGreatDoorVlsPex15
import Derived.Test.YtocmfolajckaeaaGreatDoorVlsPex9
section
namespace Go.Proofs.YtocmfolajckaeaaGreatDoor.Pe
open Go.RowKit Go.Proofs.YtocmfolajckaeaaGreatDoorW.PrintWords Go.Proofs.YtocmfolajckaeaaGreatDoorW.PrintLast Go.Proofs.YtocmfolajckaeaaGreatDoorW.PrintMore
attribute [local go_sem] max2_int min2_int max_two min_two max_three min_three max_four min_four   -- for this text's walks alone
set_option linter.unusedVariables false
set_option linter.unusedSimpArgs false
def slices_Equal_string_string.l0 : Nat → List ByteArray → List ByteArray → Int → Int → Option (Bool)
 | 0,_,_,_,_ => none
 | k + 1,x0,x1,x12,x13 => if x13 < x12 then (if 0 ≤ x13 then (if x13 < (x0.length : Int) then (if x13 < (x1.length : Int) then (if (rdOf ByteArray.empty x0 x13).toList = (rdOf ByteArray.empty x1 x13).toList then (slices_Equal_string_string.l0 k x0 x1 x12 (wrap64 (x13 + 1))) else (some false)) else (none)) else (none)) else (none)) else (some true)
def slices_Equal_string_string.f (k : Nat) (l0 : List ByteArray) (l1 : List ByteArray) : Option (Bool) := if (l0.length : Int) = (l1.length : Int) then (slices_Equal_string_string.l0 k l0 l1 (l0.length : Int) 0) else (some false)
set_option maxHeartbeats 8000000 in
set_option maxRecDepth 100000 in
theorem slices_Equal_string_string.calls (k : Nat) (A0 : Option Addr) (c0 : Nat) (l0 : List ByteArray) (A1 : Option Addr) (c1 : Nat) (l1 : List ByteArray) (r : Bool) (w : World) (hr0 : Kd.C Kd.string w A0 l0.length l0) (hc0 : l0.length ≤ c0) (hr1 : Kd.C Kd.string w A1 l1.length l1) (hc1 : l1.length ≤ c1) (h : slices_Equal_string_string.f k l0 l1 = some r) :
  Calls Tryz.prog 38 #[.slice A0 l0.length c0,.slice A1 l1.length c1] w fun e w' => e = .returned (.bool r) ∧ y1 w w' := by
 have HR0 := y0.mk hr0
 have HC0 := y0.mk hc0
 clear hr0 hc0
 have HR1 := y0.mk hr1
 have HC1 := y0.mk hc1
 clear hr1 hc1
 have H : (if (l0.length : Int) = (l1.length : Int) then (slices_Equal_string_string.l0 k l0 l1 (l0.length : Int) 0) else (some false)) = some r := h
 clear h
 by_cases c3 : (l0.length : Int) = (l1.length : Int)
 ·rw [if_pos c3] at H
  have c3b0 : ((l0.length : Int) == (l1.length : Int)) = true := beq_iff_eq.mpr c3
  have c3b1 : ((l0.length : Int) != (l1.length : Int)) = false := bne_eq_false_iff_eq.mpr c3
  have c3b2 : (l0.length == l1.length) = true := by first | simpa using c3 | (simp at c3 ⊢; omega)
  clear c3
  have H' := y0.mk H
  clear H
  go_enter Tryz.func38,Tryz.ntmps38
  go_wp2
  repeat (go_quiet (fail); try go_wp2)
  go_loopg [13] k (fun kq v13 w' => ∃ (x13_1 : Int),v13 = .int .i64 x13_1 ∧ y0 (slices_Equal_string_string.l0 kq l0 l1 (l0.length : Int) x13_1 = some r) ∧ y0 (kq ≤ k) ∧ y1 w w')
  case atStart => exact ⟨(0),qy2,H',⟨Nat.le_refl _⟩,by repeat (first | exact y1.refl _ | apply y1.step)⟩
  case round =>
   clear H'
   (try clear c3b0 c3b1 c3b2)
   obtain ⟨x13_1,rfl,HA,HK1,⟨m1,rfl⟩⟩ := hrel
   cases gk with
   | zero => exact absurd HA.out (by simp [slices_Equal_string_string.l0])
   | succ k1 =>
    have H := HA.out
    clear HA
    simp only [slices_Equal_string_string.l0] at H
    by_cases c4 : x13_1 < (l0.length : Int)
    ·rw [if_pos c4] at H
     have c4b0 := decide_eq_true c4
     clear c4
     obtain ⟨c5,H⟩ := qo H
     have c5b0 : decide (0 ≤ x13_1) = true := decide_eq_true c5
     clear c5
     obtain ⟨c6,H⟩ := qo H
     have c6b0 : decide (x13_1 < (l0.length : Int)) = true := decide_eq_true c6
     clear c6
     obtain ⟨c7,H⟩ := qo H
     have c7b0 : decide (x13_1 < (l1.length : Int)) = true := decide_eq_true c7
     clear c7
     by_cases c8 : (rdOf ByteArray.empty l0 x13_1).toList = (rdOf ByteArray.empty l1 x13_1).toList
     ·rw [if_pos c8] at H
      have c8b0 : ((rdOf ByteArray.empty l0 x13_1).toList == (rdOf ByteArray.empty l1 x13_1).toList) = true := beq_iff_eq.mpr c8
      have c8b1 : ((rdOf ByteArray.empty l0 x13_1).toList != (rdOf ByteArray.empty l1 x13_1).toList) = false := bne_eq_false_iff_eq.mpr c8
      clear c8
      have H' := y0.mk H
      clear H
      have p355 : 0 ≤ (x13_1 : Int) := of_decide_eq_true qy1
      have q355 : x13_1 < (l0.length : Int) := of_decide_eq_true qy1
      obtain ⟨ad355,e355,hx355_0⟩ := Kd.at_string HR0.out x13_1 p355 q355
      cases e355
      replace p355 := eq_true p355
      replace q355 := eq_true q355
      have p356 : 0 ≤ (x13_1 : Int) := of_decide_eq_true qy1
      have q356 : x13_1 < (l1.length : Int) := of_decide_eq_true qy1
      obtain ⟨ad356,e356,hx356_0⟩ := Kd.at_string HR1.out x13_1 p356 q356
      cases e356
      replace p356 := eq_true p356
      replace q356 := eq_true q356
      go_wp2
      repeat (go_quiet (fail); try go_wp2)
      go_roundg k1
      case measure => have := HK1.out; omega
      exact ⟨(wrap64 (x13_1 + 1)),qy2,H',⟨by have := HK1.out; omega⟩,by repeat (first | exact y1.refl _ | apply y1.step)⟩
     ·rw [if_neg c8] at H
      have c8b0 : ((rdOf ByteArray.empty l0 x13_1).toList == (rdOf ByteArray.empty l1 x13_1).toList) = false := beq_eq_false_iff_ne.mpr c8
      have c8b1 : ((rdOf ByteArray.empty l0 x13_1).toList != (rdOf ByteArray.empty l1 x13_1).toList) = true := bne_iff_ne.mpr c8
      obtain rfl := Option.some.inj H
      have p355 : 0 ≤ (x13_1 : Int) := of_decide_eq_true qy1
      have q355 : x13_1 < (l0.length : Int) := of_decide_eq_true qy1
      obtain ⟨ad355,e355,hx355_0⟩ := Kd.at_string HR0.out x13_1 p355 q355
      cases e355
      replace p355 := eq_true p355
      replace q355 := eq_true q355
      have p356 : 0 ≤ (x13_1 : Int) := of_decide_eq_true qy1
      have q356 : x13_1 < (l1.length : Int) := of_decide_eq_true qy1
      obtain ⟨ad356,e356,hx356_0⟩ := Kd.at_string HR1.out x13_1 p356 q356
      cases e356
      replace p356 := eq_true p356
      replace q356 := eq_true q356
      go_wp2
      repeat (go_quiet (fail); try go_wp2)
      go_ret
      exact ⟨by first | rfl | (simp; done) | (simp [*]; done),by repeat (first | exact y1.refl _ | apply y1.step)⟩
    ·rw [if_neg c4] at H
     have c4b0 := decide_eq_false c4
     clear c4
     obtain rfl := Option.some.inj H
     go_wp2
     repeat (go_quiet (fail); try go_wp2)
     go_ret
     exact ⟨by first | rfl | (simp; done) | (simp [*]; done),by repeat (first | exact y1.refl _ | apply y1.step)⟩
 ·rw [if_neg c3] at H
  have c3b0 : ((l0.length : Int) == (l1.length : Int)) = false := beq_eq_false_iff_ne.mpr c3
  have c3b1 : ((l0.length : Int) != (l1.length : Int)) = true := bne_iff_ne.mpr c3
  have c3b2 : (l0.length == l1.length) = false := by first | simpa using c3 | (simp at c3 ⊢; omega)
  obtain rfl := Option.some.inj H
  go_enter Tryz.func38,Tryz.ntmps38
  go_wp2
  repeat (go_quiet (fail); try go_wp2)
  go_ret
  exact ⟨by first | rfl | (simp; done) | (simp [*]; done),by repeat (first | exact y1.refl _ | apply y1.step)⟩
def impl_copyTuple.f (l0_0 : List ByteArray) : Option (List ByteArray) := (some (([] : List ByteArray) : List ByteArray)).bind fun y359 => (if y359.length + l0_0.length < 8796093022208 then (some (y359 ++ l0_0)) else (none))
set_option maxHeartbeats 8000000 in
set_option maxRecDepth 100000 in
theorem impl_copyTuple.calls (A0_0 : Option Addr) (c0_0 : Nat) (l0_0 : List ByteArray) (r : List ByteArray) (w : World) (hr0_0 : Kd.C Kd.string w A0_0 l0_0.length l0_0) (hc0_0 : l0_0.length ≤ c0_0) (h : impl_copyTuple.f l0_0 = some r) :
  Calls Tryz.prog 39 #[.agg #[.slice A0_0 l0_0.length c0_0]] w fun e w' => ∃ v0_ : Value,e = .returned (.agg #[v0_]) ∧ Kd.R Kd.string 9 w' w.heap.size (fun _ => True) v0_ r ∧ Below w.heap.size w w' := by
 have hu48 := Tryz.underlying48
 have HR0_0 := y0.mk hr0_0
 have HC0_0 := y0.mk hc0_0
 clear hr0_0 hc0_0
 have HB := y0.mk (Below.refl w.heap.size w)
 have H : ((some (([] : List ByteArray) : List ByteArray)).bind fun y359 => (if y359.length + l0_0.length < 8796093022208 then (some (y359 ++ l0_0)) else (none))) = some r := h
 clear h
 obtain ⟨y359,hy359⟩ : ∃ y_ : List ByteArray,y_ = (([] : List ByteArray)) := ⟨_,rfl⟩
 replace H : (if y359.length + l0_0.length < 8796093022208 then (some (y359 ++ l0_0)) else (none)) = some r := by first | (rw [hy359]; with_reducible exact H) | (have H2_ := (Option.bind_some _ _).symm.trans H; rw [hy359]; with_reducible exact H2_) | (have H2_ := (Option.bind_some _ _).symm.trans H; with_reducible exact H2_) | with_reducible exact H | (rw [hy359]; exact H) | exact H
 have Ny359 := y0.mk hy359
 clear hy359
 obtain ⟨c2,H⟩ := qo H
 have LMc2 := y0.mk c2
 clear c2
 obtain ⟨y362,hy362⟩ : ∃ y_ : List ByteArray,y_ = (y359 ++ l0_0) := ⟨_,rfl⟩
 replace H : (some y362) = some r := by first | (rw [hy362]; with_reducible exact H) | (have H2_ := (Option.bind_some _ _).symm.trans H; rw [hy362]; with_reducible exact H2_) | (have H2_ := (Option.bind_some _ _).symm.trans H; with_reducible exact H2_) | with_reducible exact H | (rw [hy362]; exact H) | exact H
 have Ny362 := y0.mk hy362
 clear hy362
 obtain rfl := Option.some.inj H
 go_enter Tryz.func39,Tryz.ntmps39
 go_wp2_with (first | ((with_reducible refine y16 (N := 1) rfl ?_); refine qe 1 #[.slice A0_0 l0_0.length c0_0] 48 ?_; intro gb357 hg w3 hbox hb; have BK357 := y0.mk (hbox); have GW357 := y0.mk (qg (w := w) hg); have GE357 := y0.mk (qg (w := w) hg); replace HB := y0.mk (y5 qb hb); clear hb hbox hg) | ((with_reducible refine y16 (N := 2) rfl ?_); refine qe 2 #[.slice none 0 0] 48 ?_; intro gb358 hg w4 hbox hb; have BK358 := y0.mk (hbox); have GW358 := y0.mk (qg (w := w) hg); have GE358 := y0.mk (qg (w := w) hg); replace HB := y0.mk (y5 qb hb); have NB357_358 := y0.mk (qn BK357.out hg); have NB358_357 := y0.mk (qm BK357.out hg); replace BK357 := y0.mk (qK BK357.out hb); clear hb hbox hg) | ((with_reducible refine y16 (N := 3) rfl ?_); refine Kd.R_lit Kd.string _ 9 ?hg (N := 3) ?hd (xs := ([] : List ByteArray)) (inner := []) (ok := fun _ => True) (okp := fun _ => True) ?hr ?hp (fun _ hk => hk) trivial (Below.refl _ _) (Nat.le_refl _) (by simp) ?_; (case hd => rfl); (case hg => rfl); (case hr => first | (go_simp; done) | (go_simp; rfl)); (case hp => exact (Reps.none _ _)); intro v360 w5 ho6 hb hg_ hnew_; clear hg_ hnew_; (first | rw [← Ny359.out] at ho6 | (simp only [Int.reduceToNat] at ho6; rw [← Ny359.out] at ho6)); have HO361 := y0.mk (Kd.R_lower ho6 (y4 qb)); replace BK357 := y0.mk (qK BK357.out hb); replace BK358 := y0.mk (qK BK358.out hb); replace HB := y0.mk (y5 qb hb); clear hb ho6; have hnb7 := NB357_358.out; have hnc7 := NB358_357.out; obtain ⟨hcz8_0,hfz8_0⟩ := qz1 BK357.out) | ((with_reducible refine gate_builtin (b := .append) (xs := #[.tmp 3,.tmp 5]) rfl ?_); at_builtin; refine Kd.R_append_rows Kd.string (w0 := w) w.heap.size rfl (.tmp 3) (.tmp 5) 25 9 (.string ⟨#[]⟩) 16 rfl Tryz.underlying25 info9 rfl (by decide) (by omega) v360 y359 l0_0 _ _ _ (fun _ => True) (fun _ => False) rfl rfl ?aO ?aR (fun _ _ h => h) (fun _ h => h.elim) ?aF ?aB ?aS ?aL ?_; (case aR => repeat (first | exact (Kd.C_below HR0_0.out HB.out) | (with_reducible refine Kd.C_alloc ?_ _) | (with_reducible refine Kd.C_drewN ?_ _) | (with_reducible refine Kd.C_drew ?_))); (case aB => exact qb); (case aF => exact (fun _ _ => trivial)); (case aO => exact (qR HO361.out)); (case aS => exact (y4 qb)); (case aL => have := LMc2.out; omega); intro v363 w9 ho hb hg hat; rw [← Ny362.out] at ho; replace BK357 := y0.mk (blk_grown (qk BK357.out) hg (Kd.R_ne HO361.out BK357.out (by decide))); replace BK358 := y0.mk (blk_grown (qk BK358.out) hg (Kd.R_ne HO361.out BK358.out (by decide))); replace HB := y0.mk (hb); have HO364 := y0.mk (ho); clear HO361; clear ho hb hg hat; obtain ⟨Ao10,co10,eo10⟩ := Kd.R_slice HO364.out; subst eo10; obtain ⟨hcz11_0,hfz11_0⟩ := qz1 BK358.out))
 refine bodyPost_ret (results_cell_row rfl _ _ gb358 48 #[.slice Ao10 y362.length co10] (0,0) _ rfl (by (with_reducible repeat (first | refine y10 ?_ _ | refine y9 ?_ | refine y6 ?_ _)); refine blk_put (cs := #[.slice none 0 0]) ?_ 0 _ rfl; (with_reducible repeat (first | refine y10 ?_ _ | refine y9 ?_ | refine y6 ?_ _)); exact BK358.out) Tryz.underlying48 rfl (by kernel_rfl)) rfl ?_
 exact ⟨_,by first | rfl | (simp [y13,y14] <;> rfl) | (simp [*,y13,y14] <;> rfl),by (with_reducible repeat (first | apply Kd.R_alloc | apply Kd.R_drewN | apply Kd.R_drew)); exact Kd.R_mono (Kd.R_far (p := ⟨gb358,0,none⟩) (Kd.R_types HO364.out BK358.out (by decide)) (fun _ hk => hk.2) (.slice Ao10 y362.length co10)) (fun _ hk => trivial),qb⟩
def laws_eqStringS.l0 : Nat → List ByteArray → List ByteArray → Int → Option (Bool)
 | 0,_,_,_ => none
 | k + 1,x0,x1,x5 => if x5 < (x0.length : Int) then (if 0 ≤ x5 then (if x5 < (x1.length : Int) then (if (rdOf ByteArray.empty x0 x5).toList = (rdOf ByteArray.empty x1 x5).toList then (laws_eqStringS.l0 k x0 x1 (wrap64 (x5 + 1))) else (some false)) else (none)) else (none)) else (some true)
def laws_eqStringS.f (k : Nat) (l0 : List ByteArray) (l1 : List ByteArray) : Option (Bool) := if (l0.length : Int) = (l1.length : Int) then (laws_eqStringS.l0 k l0 l1 0) else (some false)
set_option maxHeartbeats 8000000 in
set_option maxRecDepth 100000 in
theorem laws_eqStringS.calls (k : Nat) (A0 : Option Addr) (c0 : Nat) (l0 : List ByteArray) (A1 : Option Addr) (c1 : Nat) (l1 : List ByteArray) (r : Bool) (w : World) (hr0 : Kd.C Kd.string w A0 l0.length l0) (hc0 : l0.length ≤ c0) (hr1 : Kd.C Kd.string w A1 l1.length l1) (hc1 : l1.length ≤ c1) (h : laws_eqStringS.f k l0 l1 = some r) :
  Calls Tryz.prog 15 #[.slice A0 l0.length c0,.slice A1 l1.length c1] w fun e w' => e = .returned (.bool r) ∧ y1 w w' := by
 have HR0 := y0.mk hr0
 have HC0 := y0.mk hc0
 clear hr0 hc0
 have HR1 := y0.mk hr1
 have HC1 := y0.mk hc1
 clear hr1 hc1
 have H : (if (l0.length : Int) = (l1.length : Int) then (laws_eqStringS.l0 k l0 l1 0) else (some false)) = some r := h
 clear h
 by_cases c3 : (l0.length : Int) = (l1.length : Int)
 ·rw [if_pos c3] at H
  have c3b0 : ((l0.length : Int) == (l1.length : Int)) = true := beq_iff_eq.mpr c3
  have c3b1 : ((l0.length : Int) != (l1.length : Int)) = false := bne_eq_false_iff_eq.mpr c3
  have c3b2 : (l0.length == l1.length) = true := by first | simpa using c3 | (simp at c3 ⊢; omega)
  clear c3
  have H' := y0.mk H
  clear H
  go_enter Tryz.func15,Tryz.ntmps15
  go_wp2
  repeat (go_quiet (fail); try go_wp2)
  go_loopg [5] k (fun kq v5 w' => ∃ (x5_1 : Int),v5 = .int .i64 x5_1 ∧ y0 (laws_eqStringS.l0 kq l0 l1 x5_1 = some r) ∧ y0 (kq ≤ k) ∧ y1 w w')
  case atStart => exact ⟨(0),qy2,H',⟨Nat.le_refl _⟩,by repeat (first | exact y1.refl _ | apply y1.step)⟩
  case round =>
   clear H'
   (try clear c3b0 c3b1 c3b2)
   obtain ⟨x5_1,rfl,HA,HK1,⟨m1,rfl⟩⟩ := hrel
   cases gk with
   | zero => exact absurd HA.out (by simp [laws_eqStringS.l0])
   | succ k1 =>
    have H := HA.out
    clear HA
    simp only [laws_eqStringS.l0] at H
    by_cases c4 : x5_1 < (l0.length : Int)
    ·rw [if_pos c4] at H
     have c4b0 := decide_eq_true c4
     clear c4
     obtain ⟨c5,H⟩ := qo H
     have c5b0 : decide (0 ≤ x5_1) = true := decide_eq_true c5
     clear c5
     obtain ⟨c6,H⟩ := qo H
     have c6b0 : decide (x5_1 < (l1.length : Int)) = true := decide_eq_true c6
     clear c6
     by_cases c7 : (rdOf ByteArray.empty l0 x5_1).toList = (rdOf ByteArray.empty l1 x5_1).toList
     ·rw [if_pos c7] at H
      have c7b0 : ((rdOf ByteArray.empty l0 x5_1).toList == (rdOf ByteArray.empty l1 x5_1).toList) = true := beq_iff_eq.mpr c7
      have c7b1 : ((rdOf ByteArray.empty l0 x5_1).toList != (rdOf ByteArray.empty l1 x5_1).toList) = false := bne_eq_false_iff_eq.mpr c7
      clear c7
      have H' := y0.mk H
      clear H
      have p380 : 0 ≤ (x5_1 : Int) := of_decide_eq_true qy1
      have q380 : x5_1 < (l0.length : Int) := of_decide_eq_true qy1
      obtain ⟨ad380,e380,hx380_0⟩ := Kd.at_string HR0.out x5_1 p380 q380
      cases e380
      replace p380 := eq_true p380
      replace q380 := eq_true q380
      have p381 : 0 ≤ (x5_1 : Int) := of_decide_eq_true qy1
      have q381 : x5_1 < (l1.length : Int) := of_decide_eq_true qy1
      obtain ⟨ad381,e381,hx381_0⟩ := Kd.at_string HR1.out x5_1 p381 q381
      cases e381
      replace p381 := eq_true p381
      replace q381 := eq_true q381
      go_wp2
      repeat (go_quiet (fail); try go_wp2)
      go_roundg k1
      case measure => have := HK1.out; omega
      exact ⟨(wrap64 (x5_1 + 1)),qy2,H',⟨by have := HK1.out; omega⟩,by repeat (first | exact y1.refl _ | apply y1.step)⟩
     ·rw [if_neg c7] at H
      have c7b0 : ((rdOf ByteArray.empty l0 x5_1).toList == (rdOf ByteArray.empty l1 x5_1).toList) = false := beq_eq_false_iff_ne.mpr c7
      have c7b1 : ((rdOf ByteArray.empty l0 x5_1).toList != (rdOf ByteArray.empty l1 x5_1).toList) = true := bne_iff_ne.mpr c7
      obtain rfl := Option.some.inj H
      have p380 : 0 ≤ (x5_1 : Int) := of_decide_eq_true qy1
      have q380 : x5_1 < (l0.length : Int) := of_decide_eq_true qy1
      obtain ⟨ad380,e380,hx380_0⟩ := Kd.at_string HR0.out x5_1 p380 q380
      cases e380
      replace p380 := eq_true p380
      replace q380 := eq_true q380
      have p381 : 0 ≤ (x5_1 : Int) := of_decide_eq_true qy1
      have q381 : x5_1 < (l1.length : Int) := of_decide_eq_true qy1
      obtain ⟨ad381,e381,hx381_0⟩ := Kd.at_string HR1.out x5_1 p381 q381
      cases e381
      replace p381 := eq_true p381
      replace q381 := eq_true q381
      go_wp2
      repeat (go_quiet (fail); try go_wp2)
      go_ret
      exact ⟨by first | rfl | (simp; done) | (simp [*]; done),by repeat (first | exact y1.refl _ | apply y1.step)⟩
    ·rw [if_neg c4] at H
     have c4b0 := decide_eq_false c4
     clear c4
     obtain rfl := Option.some.inj H
     go_wp2
     repeat (go_quiet (fail); try go_wp2)
     go_ret
     exact ⟨by first | rfl | (simp; done) | (simp [*]; done),by repeat (first | exact y1.refl _ | apply y1.step)⟩
 ·rw [if_neg c3] at H
  have c3b0 : ((l0.length : Int) == (l1.length : Int)) = false := beq_eq_false_iff_ne.mpr c3
  have c3b1 : ((l0.length : Int) != (l1.length : Int)) = true := bne_iff_ne.mpr c3
  have c3b2 : (l0.length == l1.length) = false := by first | simpa using c3 | (simp at c3 ⊢; omega)
  obtain rfl := Option.some.inj H
  go_enter Tryz.func15,Tryz.ntmps15
  go_wp2
  repeat (go_quiet (fail); try go_wp2)
  go_ret
  exact ⟨by first | rfl | (simp; done) | (simp [*]; done),by repeat (first | exact y1.refl _ | apply y1.step)⟩
def laws_eqTuple.f (k : Nat) (l0_0 : List ByteArray) (l1_0 : List ByteArray) : Option (Bool) := (laws_eqStringS.f k l0_0 l1_0).bind fun t384 => (if t384 = true then (some true) else (some false))
set_option maxHeartbeats 8000000 in
set_option maxRecDepth 100000 in
theorem laws_eqTuple.calls (k : Nat) (A0_0 : Option Addr) (c0_0 : Nat) (l0_0 : List ByteArray) (A1_0 : Option Addr) (c1_0 : Nat) (l1_0 : List ByteArray) (r : Bool) (w : World) (hr0_0 : Kd.C Kd.string w A0_0 l0_0.length l0_0) (hc0_0 : l0_0.length ≤ c0_0) (hr1_0 : Kd.C Kd.string w A1_0 l1_0.length l1_0) (hc1_0 : l1_0.length ≤ c1_0) (h : laws_eqTuple.f k l0_0 l1_0 = some r) :
  Calls Tryz.prog 31 #[.agg #[.slice A0_0 l0_0.length c0_0],.agg #[.slice A1_0 l1_0.length c1_0]] w fun e w' => e = .returned (.bool r) ∧ Below w.heap.size w w' := by
 have hu48 := Tryz.underlying48
 have HR0_0 := y0.mk hr0_0
 have HC0_0 := y0.mk hc0_0
 clear hr0_0 hc0_0
 have HR1_0 := y0.mk hr1_0
 have HC1_0 := y0.mk hc1_0
 clear hr1_0 hc1_0
 have HB := y0.mk (Below.refl w.heap.size w)
 have H : ((laws_eqStringS.f k l0_0 l1_0).bind fun t384 => (if t384 = true then (some true) else (some false))) = some r := h
 clear h
 obtain ⟨t384,A3,H⟩ := qB H
 by_cases c4 : t384 = true
 ·subst c4
  replace H := qT H
  obtain rfl := Option.some.inj H
  go_enter Tryz.func31,Tryz.ntmps31
  go_wp2_with (first | ((with_reducible refine y16 (N := 2) rfl ?_); refine qe 2 #[.slice A0_0 l0_0.length c0_0] 48 ?_; intro gb382 hg w5 hbox hb; have BK382 := y0.mk (hbox); have GW382 := y0.mk (qg (w := w) hg); have GE382 := y0.mk (qg (w := w) hg); replace HB := y0.mk (y5 qb hb); clear hb hbox hg) | ((with_reducible refine y16 (N := 3) rfl ?_); refine qe 3 #[.slice A1_0 l1_0.length c1_0] 48 ?_; intro gb383 hg w6 hbox hb; have BK383 := y0.mk (hbox); have GW383 := y0.mk (qg (w := w) hg); have GE383 := y0.mk (qg (w := w) hg); replace HB := y0.mk (y5 qb hb); have NB382_383 := y0.mk (qn BK382.out hg); have NB383_382 := y0.mk (qm BK382.out hg); replace BK382 := y0.mk (qK BK382.out hb); clear hb hbox hg; have hnb7 := NB382_383.out; have hnc7 := NB383_382.out; obtain ⟨hcz8_0,hfz8_0⟩ := qz1 BK382.out; obtain ⟨hcz9_0,hfz9_0⟩ := qz1 BK383.out) | ((with_reducible refine y15 (f := 15) rfl ?_); refine y17 (some 9) rfl rfl Tryz.func15 (by kernel_rfl) rfl #[.slice A0_0 l0_0.length c0_0,.slice A1_0 l1_0.length c1_0] rfl qy0 ?_; (with_reducible refine (laws_eqStringS.calls k _ _ l0_0 _ _ l1_0 true _ (qc (Kd.C_below HR0_0.out HB.out)) HC0_0.out (qc (Kd.C_below HR1_0.out HB.out)) HC1_0.out A3.out).mono ?_); rintro e w' ⟨rfl,⟨nd,rfl⟩⟩; refine ⟨_,rfl, ?_⟩))
  go_ret
  exact ⟨by first | rfl | (simp [y13,y14] <;> rfl) | (simp [*,y13,y14] <;> rfl),qb⟩
 ·replace c4 := Bool.eq_false_iff.mpr c4
  subst c4
  replace H := qF H
  obtain rfl := Option.some.inj H
  go_enter Tryz.func31,Tryz.ntmps31
  go_wp2_with (first | ((with_reducible refine y16 (N := 2) rfl ?_); refine qe 2 #[.slice A0_0 l0_0.length c0_0] 48 ?_; intro gb382 hg w10 hbox hb; have BK382 := y0.mk (hbox); have GW382 := y0.mk (qg (w := w) hg); have GE382 := y0.mk (qg (w := w) hg); replace HB := y0.mk (y5 qb hb); clear hb hbox hg) | ((with_reducible refine y16 (N := 3) rfl ?_); refine qe 3 #[.slice A1_0 l1_0.length c1_0] 48 ?_; intro gb383 hg w11 hbox hb; have BK383 := y0.mk (hbox); have GW383 := y0.mk (qg (w := w) hg); have GE383 := y0.mk (qg (w := w) hg); replace HB := y0.mk (y5 qb hb); have NB382_383 := y0.mk (qn BK382.out hg); have NB383_382 := y0.mk (qm BK382.out hg); replace BK382 := y0.mk (qK BK382.out hb); clear hb hbox hg; have hnb12 := NB382_383.out; have hnc12 := NB383_382.out; obtain ⟨hcz13_0,hfz13_0⟩ := qz1 BK382.out; obtain ⟨hcz14_0,hfz14_0⟩ := qz1 BK383.out) | ((with_reducible refine y15 (f := 15) rfl ?_); refine y17 (some 9) rfl rfl Tryz.func15 (by kernel_rfl) rfl #[.slice A0_0 l0_0.length c0_0,.slice A1_0 l1_0.length c1_0] rfl qy0 ?_; (with_reducible refine (laws_eqStringS.calls k _ _ l0_0 _ _ l1_0 false _ (qc (Kd.C_below HR0_0.out HB.out)) HC0_0.out (qc (Kd.C_below HR1_0.out HB.out)) HC1_0.out A3.out).mono ?_); rintro e w' ⟨rfl,⟨nd,rfl⟩⟩; refine ⟨_,rfl, ?_⟩))
  go_ret
  exact ⟨by first | rfl | (simp [y13,y14] <;> rfl) | (simp [*,y13,y14] <;> rfl),qb⟩
end Go.Proofs.YtocmfolajckaeaaGreatDoor.Pe
end
section
namespace Go.Proofs.YtocmfolajckaeaaGreatDoor.Pe
open Go.RowKit Go.Proofs.YtocmfolajckaeaaGreatDoorW.PrintWords Go.Proofs.YtocmfolajckaeaaGreatDoorW.PrintLast Go.Proofs.YtocmfolajckaeaaGreatDoorW.PrintMore
attribute [local go_sem] max2_int min2_int max_two min_two max_three min_three max_four min_four   -- for this text's walks alone
set_option linter.unusedVariables false
set_option linter.unusedSimpArgs false
def laws_eqTupleS.l0 : Nat → List (S48) → List (S48) → Int → Option (Bool)
 | 0,_,_,_ => none
 | k + 1,x0,x1,x5 => if x5 < (x0.length : Int) then (if 0 ≤ x5 then (if x5 < (x1.length : Int) then ((laws_eqTuple.f k ((y21 x0 x5).f0) ((y21 x1 x5).f0)).bind fun t387 => (if t387 = true then (laws_eqTupleS.l0 k x0 x1 (wrap64 (x5 + 1))) else (some false))) else (none)) else (none)) else (some true)
def laws_eqTupleS.f (k : Nat) (l0 : List (S48)) (l1 : List (S48)) : Option (Bool) := if (l0.length : Int) = (l1.length : Int) then (laws_eqTupleS.l0 k l0 l1 0) else (some false)
def laws_eqTupleS.T6 : Bool × List (List Nat × List Nat) := (true,[([],[]),([],[]),([0,1],[0,1]),([2],[2]),([],[]),([],[]),([4,5],[4,5]),([6],[6]),([3,7],[3,7]),([8],[8])])
def laws_eqTupleS.B6 : List Nat := [0,0,3,7,0,0,48,112,255,511]
theorem laws_eqTupleS.tab6 : rtab .any (opsOf Tryz.f13 6) = laws_eqTupleS.T6 := by kernel_rfl
theorem laws_eqTupleS.bits6 : waitsOk laws_eqTupleS.T6.2 laws_eqTupleS.B6 = true := by kernel_rfl
set_option maxHeartbeats 8000000 in
set_option maxRecDepth 100000 in
theorem laws_eqTupleS.calls (k : Nat) (A0 : Option Addr) (c0 : Nat) (l0 : List (S48)) (A1 : Option Addr) (c1 : Nat) (l1 : List (S48)) (r : Bool) (w : World) (hr0 : Kd.C k48 w A0 l0.length l0) (hc0 : l0.length ≤ c0) (hr1 : Kd.C k48 w A1 l1.length l1) (hc1 : l1.length ≤ c1) (h : laws_eqTupleS.f k l0 l1 = some r) :
  Calls Tryz.prog 13 #[.slice A0 l0.length c0,.slice A1 l1.length c1] w fun e w' => e = .returned (.bool r) ∧ Below w.heap.size w w' := by
 have hu48 := Tryz.underlying48
 have HR0 := y0.mk hr0
 have HC0 := y0.mk hc0
 clear hr0 hc0
 have HR1 := y0.mk hr1
 have HC1 := y0.mk hc1
 clear hr1 hc1
 have HB := y0.mk (Below.refl w.heap.size w)
 have H : (if (l0.length : Int) = (l1.length : Int) then (laws_eqTupleS.l0 k l0 l1 0) else (some false)) = some r := h
 clear h
 by_cases c3 : (l0.length : Int) = (l1.length : Int)
 ·rw [if_pos c3] at H
  have c3b0 : ((l0.length : Int) == (l1.length : Int)) = true := beq_iff_eq.mpr c3
  have c3b1 : ((l0.length : Int) != (l1.length : Int)) = false := bne_eq_false_iff_eq.mpr c3
  have c3b2 : (l0.length == l1.length) = true := by first | simpa using c3 | (simp at c3 ⊢; omega)
  clear c3
  have H' := y0.mk H
  clear H
  go_enter Tryz.func13,Tryz.ntmps13
  go_wp2
  go_loopg [5] k (fun kq v5 w' => ∃ (x5_1 : Int),v5 = .int .i64 x5_1 ∧ y0 (laws_eqTupleS.l0 kq l0 l1 x5_1 = some r) ∧ y0 (kq ≤ k) ∧ y0 (Below w.heap.size w w'))
  case atStart => exact ⟨(0),qy2,H',⟨Nat.le_refl _⟩,⟨qb⟩⟩
  case round =>
   clear H'
   (try clear c3b0 c3b1 c3b2)
   obtain ⟨x5_1,rfl,HA,HK1,HB⟩ := hrel
   cases gk with
   | zero => exact absurd HA.out (by simp [laws_eqTupleS.l0])
   | succ k1 =>
    have H := HA.out
    clear HA
    simp only [laws_eqTupleS.l0] at H
    by_cases c4 : x5_1 < (l0.length : Int)
    ·rw [if_pos c4] at H
     have c4b0 := decide_eq_true c4
     clear c4
     obtain ⟨c5,H⟩ := qo H
     have c5b0 : decide (0 ≤ x5_1) = true := decide_eq_true c5
     clear c5
     obtain ⟨c6,H⟩ := qo H
     have c6b0 : decide (x5_1 < (l1.length : Int)) = true := decide_eq_true c6
     clear c6
     obtain ⟨t387,A7,H⟩ := qB H
     by_cases c8 : t387 = true
     ·subst c8
      replace H := qT H
      have H' := y0.mk H
      clear H
      try go_wp2
      replace HB := y0.mk (y3 HB.out)
      have p385 : 0 ≤ (x5_1 : Int) := of_decide_eq_true qy1
      have q385 : x5_1 < (l0.length : Int) := of_decide_eq_true qy1
      obtain ⟨ad385,A385_0,c385_0,e385,hx385_0,hl385_0,hi385_0⟩ := at_T48 HR0.out x5_1 p385 q385
      have hw385_0 := hx385_0
      cases e385
      replace hx385_0 := (HB.out.cell (World.block_lt_of_cell? w _ hx385_0)).trans hx385_0
      have HR385_0 := y0.mk hi385_0
      have HC385_0 := y0.mk hl385_0
      clear hi385_0 hl385_0
      replace p385 := eq_true p385
      replace q385 := eq_true q385
      have p386 : 0 ≤ (x5_1 : Int) := of_decide_eq_true qy1
      have q386 : x5_1 < (l1.length : Int) := of_decide_eq_true qy1
      obtain ⟨ad386,A386_0,c386_0,e386,hx386_0,hl386_0,hi386_0⟩ := at_T48 HR1.out x5_1 p386 q386
      have hw386_0 := hx386_0
      cases e386
      replace hx386_0 := (HB.out.cell (World.block_lt_of_cell? w _ hx386_0)).trans hx386_0
      have HR386_0 := y0.mk hi386_0
      have HC386_0 := y0.mk hl386_0
      clear hi386_0 hl386_0
      replace p386 := eq_true p386
      replace q386 := eq_true q386
      refine start_ (n := 10) (S := fun w' => w'.cell? (ad385.add (x5_1).toNat) = some (.slice A385_0 ((y21 l0 x5_1).f0).length c385_0) ∧ w'.cell? (ad386.add (x5_1).toNat) = some (.slice A386_0 ((y21 l1 x5_1).f0).length c386_0)) (ds := []) (fl_ 10 0) (by kernel_rfl) rfl rfl ⟨((HB.out.cell (World.block_lt_of_cell? w _ hw385_0)).trans hw385_0),((HB.out.cell (World.block_lt_of_cell? w _ hw386_0)).trans hw386_0)⟩ (fun hHeld => ?_); refine with_tabW laws_eqTupleS.tab6 laws_eqTupleS.bits6 (fun HT_ HW_ => ?_)
      generalize wr.drew = w9 at HB HR385_0 HR386_0 hx385_0 hx386_0 hHeld ⊢
      refine qp 0 17 (fl_ 10 1) ?_
      refine qp 1 18 (fl_ 10 3) ?_
      refine qp 2 19 (fl_ 10 7) ?_
      refine qp 4 21 (fl_ 10 23) ?_
      refine qp 5 22 (fl_ 10 55) ?_
      refine qp 6 23 (fl_ 10 119) ?_
      refine qt 3 20 (fl_ 10 127) hHeld ?_
      refine qt 7 24 (fl_ 10 255) hHeld ?_
      refine one_ (i := 8) (N := some 25) (fl_ 10 511) rfl rfl (one_of HT_.out (by kernel_rfl)) (by decide) (fun K hK => ?_)
      refine goes_ Tryz.func31 (by kernel_rfl) rfl #[.agg #[.slice A385_0 ((y21 l0 x5_1).f0).length c385_0],.agg #[.slice A386_0 ((y21 l1 x5_1).f0).length c386_0]] (by rfl) rfl rfl qy0 ?_
      with_reducible refine (laws_eqTuple.calls k1 _ _ ((y21 l0 x5_1).f0) _ _ ((y21 l1 x5_1).f0) true _ (qc (Kd.C_below HR385_0.out HB.out)) HC385_0.out (qc (Kd.C_below HR386_0.out HB.out)) HC386_0.out A7.out).mono ?_
      rintro e w10 ⟨rfl,hb⟩
      refine ⟨_,rfl, ?_⟩
      replace HB := y0.mk (y5 qb hb)
      (try clear hb)
      (try clear hb2)
      (try clear hk)
      (try clear hi)
      refine hK.out _ _ ⟨((HB.out.cell (World.block_lt_of_cell? w _ hw385_0)).trans hw385_0),((HB.out.cell (World.block_lt_of_cell? w _ hw386_0)).trans hw386_0)⟩ (fun hHeld => ?_)
      clear hK K
      refine norm_ (a' := ?_) ?_ ?_
      rotate_left
      ·show Act.put _ (some 25) _ = _
       simp only [Act.put,qS_,qZ_,qC_,y19,y18]
       rfl
      refine qp 9 26 (fl_ 10 1023) ?_
      refine done_ (done_of HT_.out (by kernel_rfl)) ?_
      try go_wp2
      go_roundg k1
      case measure => have := HK1.out; omega
      exact ⟨(wrap64 (x5_1 + 1)),qy2,H',⟨by have := HK1.out; omega⟩,⟨qb⟩⟩
     ·replace c8 := Bool.eq_false_iff.mpr c8
      subst c8
      replace H := qF H
      obtain rfl := Option.some.inj H
      try go_wp2
      replace HB := y0.mk (y3 HB.out)
      have p385 : 0 ≤ (x5_1 : Int) := of_decide_eq_true qy1
      have q385 : x5_1 < (l0.length : Int) := of_decide_eq_true qy1
      obtain ⟨ad385,A385_0,c385_0,e385,hx385_0,hl385_0,hi385_0⟩ := at_T48 HR0.out x5_1 p385 q385
      have hw385_0 := hx385_0
      cases e385
      replace hx385_0 := (HB.out.cell (World.block_lt_of_cell? w _ hx385_0)).trans hx385_0
      have HR385_0 := y0.mk hi385_0
      have HC385_0 := y0.mk hl385_0
      clear hi385_0 hl385_0
      replace p385 := eq_true p385
      replace q385 := eq_true q385
      have p386 : 0 ≤ (x5_1 : Int) := of_decide_eq_true qy1
      have q386 : x5_1 < (l1.length : Int) := of_decide_eq_true qy1
      obtain ⟨ad386,A386_0,c386_0,e386,hx386_0,hl386_0,hi386_0⟩ := at_T48 HR1.out x5_1 p386 q386
      have hw386_0 := hx386_0
      cases e386
      replace hx386_0 := (HB.out.cell (World.block_lt_of_cell? w _ hx386_0)).trans hx386_0
      have HR386_0 := y0.mk hi386_0
      have HC386_0 := y0.mk hl386_0
      clear hi386_0 hl386_0
      replace p386 := eq_true p386
      replace q386 := eq_true q386
      refine start_ (n := 10) (S := fun w' => w'.cell? (ad385.add (x5_1).toNat) = some (.slice A385_0 ((y21 l0 x5_1).f0).length c385_0) ∧ w'.cell? (ad386.add (x5_1).toNat) = some (.slice A386_0 ((y21 l1 x5_1).f0).length c386_0)) (ds := []) (fl_ 10 0) (by kernel_rfl) rfl rfl ⟨((HB.out.cell (World.block_lt_of_cell? w _ hw385_0)).trans hw385_0),((HB.out.cell (World.block_lt_of_cell? w _ hw386_0)).trans hw386_0)⟩ (fun hHeld => ?_); refine with_tabW laws_eqTupleS.tab6 laws_eqTupleS.bits6 (fun HT_ HW_ => ?_)
      generalize wr.drew = w11 at HB HR385_0 HR386_0 hx385_0 hx386_0 hHeld ⊢
      refine qp 0 17 (fl_ 10 1) ?_
      refine qp 1 18 (fl_ 10 3) ?_
      refine qp 2 19 (fl_ 10 7) ?_
      refine qp 4 21 (fl_ 10 23) ?_
      refine qp 5 22 (fl_ 10 55) ?_
      refine qp 6 23 (fl_ 10 119) ?_
      refine qt 3 20 (fl_ 10 127) hHeld ?_
      refine qt 7 24 (fl_ 10 255) hHeld ?_
      refine one_ (i := 8) (N := some 25) (fl_ 10 511) rfl rfl (one_of HT_.out (by kernel_rfl)) (by decide) (fun K hK => ?_)
      refine goes_ Tryz.func31 (by kernel_rfl) rfl #[.agg #[.slice A385_0 ((y21 l0 x5_1).f0).length c385_0],.agg #[.slice A386_0 ((y21 l1 x5_1).f0).length c386_0]] (by rfl) rfl rfl qy0 ?_
      with_reducible refine (laws_eqTuple.calls k1 _ _ ((y21 l0 x5_1).f0) _ _ ((y21 l1 x5_1).f0) false _ (qc (Kd.C_below HR385_0.out HB.out)) HC385_0.out (qc (Kd.C_below HR386_0.out HB.out)) HC386_0.out A7.out).mono ?_
      rintro e w12 ⟨rfl,hb⟩
      refine ⟨_,rfl, ?_⟩
      replace HB := y0.mk (y5 qb hb)
      (try clear hb)
      (try clear hb2)
      (try clear hk)
      (try clear hi)
      refine hK.out _ _ ⟨((HB.out.cell (World.block_lt_of_cell? w _ hw385_0)).trans hw385_0),((HB.out.cell (World.block_lt_of_cell? w _ hw386_0)).trans hw386_0)⟩ (fun hHeld => ?_)
      clear hK K
      refine norm_ (a' := ?_) ?_ ?_
      rotate_left
      ·show Act.put _ (some 25) _ = _
       simp only [Act.put,qS_,qZ_,qC_,y19,y18]
       rfl
      refine qp 9 26 (fl_ 10 1023) ?_
      refine done_ (done_of HT_.out (by kernel_rfl)) ?_
      try go_wp2
      go_ret
      exact ⟨by first | rfl | (simp [y13,y14] <;> rfl) | (simp [*,y13,y14] <;> rfl),qb⟩
    ·rw [if_neg c4] at H
     have c4b0 := decide_eq_false c4
     clear c4
     obtain rfl := Option.some.inj H
     go_wp2
     go_ret
     exact ⟨by first | rfl | (simp [y13,y14] <;> rfl) | (simp [*,y13,y14] <;> rfl),qb⟩
 ·rw [if_neg c3] at H
  have c3b0 : ((l0.length : Int) == (l1.length : Int)) = false := beq_eq_false_iff_ne.mpr c3
  have c3b1 : ((l0.length : Int) != (l1.length : Int)) = true := bne_iff_ne.mpr c3
  have c3b2 : (l0.length == l1.length) = false := by first | simpa using c3 | (simp at c3 ⊢; omega)
  obtain rfl := Option.some.inj H
  go_enter Tryz.func13,Tryz.ntmps13
  go_wp2
  go_ret
  exact ⟨by first | rfl | (simp [y13,y14] <;> rfl) | (simp [*,y13,y14] <;> rfl),qb⟩
def laws_eqRel.f (k : Nat) (a0_0 : Int) (l0_1 : List (S48)) (a1_0 : Int) (l1_1 : List (S48)) : Option (Bool) := if a0_0 = a1_0 then ((laws_eqTupleS.f k l0_1 l1_1).bind fun t390 => (if t390 = true then (some true) else (some false))) else (some false)
set_option maxHeartbeats 8000000 in
set_option maxRecDepth 100000 in
theorem laws_eqRel.calls (k : Nat) (a0_0 : Int) (A0_1 : Option Addr) (c0_1 : Nat) (l0_1 : List (S48)) (a1_0 : Int) (A1_1 : Option Addr) (c1_1 : Nat) (l1_1 : List (S48)) (r : Bool) (w : World) (hr0_1 : Kd.C k48 w A0_1 l0_1.length l0_1) (hc0_1 : l0_1.length ≤ c0_1) (hr1_1 : Kd.C k48 w A1_1 l1_1.length l1_1) (hc1_1 : l1_1.length ≤ c1_1) (h : laws_eqRel.f k a0_0 l0_1 a1_0 l1_1 = some r) :
  Calls Tryz.prog 14 #[.agg #[.int .i64 a0_0,.slice A0_1 l0_1.length c0_1],.agg #[.int .i64 a1_0,.slice A1_1 l1_1.length c1_1]] w fun e w' => e = .returned (.bool r) ∧ Below w.heap.size w w' := by
 have hu31 := Tryz.underlying31
 have HR0_1 := y0.mk hr0_1
 have HC0_1 := y0.mk hc0_1
 clear hr0_1 hc0_1
 have HR1_1 := y0.mk hr1_1
 have HC1_1 := y0.mk hc1_1
 clear hr1_1 hc1_1
 have HB := y0.mk (Below.refl w.heap.size w)
 have H : (if a0_0 = a1_0 then ((laws_eqTupleS.f k l0_1 l1_1).bind fun t390 => (if t390 = true then (some true) else (some false))) else (some false)) = some r := h
 clear h
 by_cases c3 : a0_0 = a1_0
 ·rw [if_pos c3] at H
  have c3b0 : (a0_0 == a1_0) = true := beq_iff_eq.mpr c3
  have c3b1 : (a0_0 != a1_0) = false := bne_eq_false_iff_eq.mpr c3
  clear c3
  obtain ⟨t390,A4,H⟩ := qB H
  by_cases c5 : t390 = true
  ·subst c5
   replace H := qT H
   obtain rfl := Option.some.inj H
   go_enter Tryz.func14,Tryz.ntmps14
   go_wp2_with (first | ((with_reducible refine y16 (N := 2) rfl ?_); refine qe 2 #[.int .i64 a0_0,.slice A0_1 l0_1.length c0_1] 31 ?_; intro gb388 hg w6 hbox hb; have BK388 := y0.mk (hbox); have GW388 := y0.mk (qg (w := w) hg); have GE388 := y0.mk (qg (w := w) hg); replace HB := y0.mk (y5 qb hb); clear hb hbox hg) | ((with_reducible refine y16 (N := 3) rfl ?_); refine qe 3 #[.int .i64 a1_0,.slice A1_1 l1_1.length c1_1] 31 ?_; intro gb389 hg w7 hbox hb; have BK389 := y0.mk (hbox); have GW389 := y0.mk (qg (w := w) hg); have GE389 := y0.mk (qg (w := w) hg); replace HB := y0.mk (y5 qb hb); have NB388_389 := y0.mk (qn BK388.out hg); have NB389_388 := y0.mk (qm BK388.out hg); replace BK388 := y0.mk (qK BK388.out hb); clear hb hbox hg; have hnb8 := NB388_389.out; have hnc8 := NB389_388.out; obtain ⟨hcz9_0,hcz9_1,hfz9_0,hfz9_1⟩ := qz2 BK388.out; obtain ⟨hcz10_0,hcz10_1,hfz10_0,hfz10_1⟩ := qz2 BK389.out) | ((with_reducible refine y15 (f := 13) rfl ?_); refine y17 (some 14) rfl rfl Tryz.func13 (by kernel_rfl) rfl #[.slice A0_1 l0_1.length c0_1,.slice A1_1 l1_1.length c1_1] rfl qy0 ?_; (with_reducible refine (laws_eqTupleS.calls k _ _ l0_1 _ _ l1_1 true _ (qc (Kd.C_below HR0_1.out HB.out)) HC0_1.out (qc (Kd.C_below HR1_1.out HB.out)) HC1_1.out A4.out).mono ?_); rintro e w11 ⟨rfl,hb⟩; refine ⟨_,rfl, ?_⟩; replace BK388 := y0.mk (qK BK388.out hb); replace BK389 := y0.mk (qK BK389.out hb); replace HB := y0.mk (y5 qb hb); (try clear hb); (try clear hb2); (try clear hk); (try clear hi)))
   go_ret
   exact ⟨by first | rfl | (simp [y13,y14] <;> rfl) | (simp [*,y13,y14] <;> rfl),qb⟩
  ·replace c5 := Bool.eq_false_iff.mpr c5
   subst c5
   replace H := qF H
   obtain rfl := Option.some.inj H
   go_enter Tryz.func14,Tryz.ntmps14
   go_wp2_with (first | ((with_reducible refine y16 (N := 2) rfl ?_); refine qe 2 #[.int .i64 a0_0,.slice A0_1 l0_1.length c0_1] 31 ?_; intro gb388 hg w12 hbox hb; have BK388 := y0.mk (hbox); have GW388 := y0.mk (qg (w := w) hg); have GE388 := y0.mk (qg (w := w) hg); replace HB := y0.mk (y5 qb hb); clear hb hbox hg) | ((with_reducible refine y16 (N := 3) rfl ?_); refine qe 3 #[.int .i64 a1_0,.slice A1_1 l1_1.length c1_1] 31 ?_; intro gb389 hg w13 hbox hb; have BK389 := y0.mk (hbox); have GW389 := y0.mk (qg (w := w) hg); have GE389 := y0.mk (qg (w := w) hg); replace HB := y0.mk (y5 qb hb); have NB388_389 := y0.mk (qn BK388.out hg); have NB389_388 := y0.mk (qm BK388.out hg); replace BK388 := y0.mk (qK BK388.out hb); clear hb hbox hg; have hnb14 := NB388_389.out; have hnc14 := NB389_388.out; obtain ⟨hcz15_0,hcz15_1,hfz15_0,hfz15_1⟩ := qz2 BK388.out; obtain ⟨hcz16_0,hcz16_1,hfz16_0,hfz16_1⟩ := qz2 BK389.out) | ((with_reducible refine y15 (f := 13) rfl ?_); refine y17 (some 14) rfl rfl Tryz.func13 (by kernel_rfl) rfl #[.slice A0_1 l0_1.length c0_1,.slice A1_1 l1_1.length c1_1] rfl qy0 ?_; (with_reducible refine (laws_eqTupleS.calls k _ _ l0_1 _ _ l1_1 false _ (qc (Kd.C_below HR0_1.out HB.out)) HC0_1.out (qc (Kd.C_below HR1_1.out HB.out)) HC1_1.out A4.out).mono ?_); rintro e w17 ⟨rfl,hb⟩; refine ⟨_,rfl, ?_⟩; replace BK388 := y0.mk (qK BK388.out hb); replace BK389 := y0.mk (qK BK389.out hb); replace HB := y0.mk (y5 qb hb); (try clear hb); (try clear hb2); (try clear hk); (try clear hi)))
   go_ret
   exact ⟨by first | rfl | (simp [y13,y14] <;> rfl) | (simp [*,y13,y14] <;> rfl),qb⟩
 ·rw [if_neg c3] at H
  have c3b0 : (a0_0 == a1_0) = false := beq_eq_false_iff_ne.mpr c3
  have c3b1 : (a0_0 != a1_0) = true := bne_iff_ne.mpr c3
  obtain rfl := Option.some.inj H
  go_enter Tryz.func14,Tryz.ntmps14
  go_wp2_with (first | ((with_reducible refine y16 (N := 2) rfl ?_); refine qe 2 #[.int .i64 a0_0,.slice A0_1 l0_1.length c0_1] 31 ?_; intro gb388 hg w18 hbox hb; have BK388 := y0.mk (hbox); have GW388 := y0.mk (qg (w := w) hg); have GE388 := y0.mk (qg (w := w) hg); replace HB := y0.mk (y5 qb hb); clear hb hbox hg) | ((with_reducible refine y16 (N := 3) rfl ?_); refine qe 3 #[.int .i64 a1_0,.slice A1_1 l1_1.length c1_1] 31 ?_; intro gb389 hg w19 hbox hb; have BK389 := y0.mk (hbox); have GW389 := y0.mk (qg (w := w) hg); have GE389 := y0.mk (qg (w := w) hg); replace HB := y0.mk (y5 qb hb); have NB388_389 := y0.mk (qn BK388.out hg); have NB389_388 := y0.mk (qm BK388.out hg); replace BK388 := y0.mk (qK BK388.out hb); clear hb hbox hg; have hnb20 := NB388_389.out; have hnc20 := NB389_388.out; obtain ⟨hcz21_0,hcz21_1,hfz21_0,hfz21_1⟩ := qz2 BK388.out; obtain ⟨hcz22_0,hcz22_1,hfz22_0,hfz22_1⟩ := qz2 BK389.out))
  go_ret
  exact ⟨by first | rfl | (simp [y13,y14] <;> rfl) | (simp [*,y13,y14] <;> rfl),qb⟩
def laws_markText.l0 : Nat → Int → ByteArray → Option (ByteArray)
 | 0,_,_ => none
 | k + 1,x0,x3 => if x0 > 0 then ((some (([(wrap64 (48 + (Int.tmod x0 10))) % 256] : List Int) : List Int)).bind fun y391 => (if (strOfNums y391).size + x3.size ≤ 9223372036854775807 then (laws_markText.l0 k (wrap64 (Int.tdiv x0 10)) ((strOfNums y391) ++ x3)) else (none))) else (if 1 + x3.size ≤ 9223372036854775807 then (some ((⟨#[109]⟩ : ByteArray) ++ x3)) else (none))
def laws_markText.f (k : Nat) (a0 : Int) : Option (ByteArray) := if a0 ≤ 0 then (some (⟨#[109,48]⟩ : ByteArray)) else (laws_markText.l0 k a0 (⟨#[]⟩ : ByteArray))
set_option maxHeartbeats 8000000 in
set_option maxRecDepth 100000 in
theorem laws_markText.calls (k : Nat) (a0 : Int) (r : ByteArray) (w : World) (h : laws_markText.f k a0 = some r) :
  Calls Tryz.prog 40 #[.int .i64 a0] w fun e w' => e = .returned (.string r) ∧ Below w.heap.size w w' := by
 have HB := y0.mk (Below.refl w.heap.size w)
 have H : (if a0 ≤ 0 then (some (⟨#[109,48]⟩ : ByteArray)) else (laws_markText.l0 k a0 (⟨#[]⟩ : ByteArray))) = some r := h
 clear h
 by_cases c2 : a0 ≤ 0
 ·rw [if_pos c2] at H
  have c2b0 := decide_eq_true c2
  clear c2
  obtain rfl := Option.some.inj H
  go_enter Tryz.func40,Tryz.ntmps40
  go_wp2
  go_ret
  exact ⟨by first | rfl | (simp [y13,y14] <;> rfl) | (simp [*,y13,y14] <;> rfl),qb⟩
 ·rw [if_neg c2] at H
  have c2b0 := decide_eq_false c2
  clear c2
  have H' := y0.mk H
  clear H
  go_enter Tryz.func40,Tryz.ntmps40
  go_wp2
  go_loopg [0,3] k (fun kq v0 v3 w' => ∃ (x0_1 : Int) (x3_1 : ByteArray),v0 = .int .i64 x0_1 ∧ v3 = .string x3_1 ∧ y0 (laws_markText.l0 kq x0_1 x3_1 = some r) ∧ y0 (kq ≤ k) ∧ y0 (Below w.heap.size w w'))
  case atStart => exact ⟨(a0),((⟨#[]⟩ : ByteArray)),qy2,qy2,H',⟨Nat.le_refl _⟩,⟨qb⟩⟩
  case round =>
   clear H'
   (try clear c2b0)
   obtain ⟨x0_1,x3_1,rfl,rfl,HA,HK1,HB⟩ := hrel
   cases gk with
   | zero => exact absurd HA.out (by simp [laws_markText.l0])
   | succ k1 =>
    have H := HA.out
    clear HA
    simp only [laws_markText.l0] at H
    by_cases c3 : x0_1 > 0
    ·rw [if_pos c3] at H
     have c3b0 : decide (0 < x0_1) = true := decide_eq_true c3
     clear c3
     obtain ⟨y391,hy391⟩ : ∃ y_ : List Int,y_ = (([(wrap64 (48 + (Int.tmod x0_1 10))) % 256] : List Int)) := ⟨_,rfl⟩
     replace H : (if (strOfNums y391).size + x3_1.size ≤ 9223372036854775807 then (laws_markText.l0 k1 (wrap64 (Int.tdiv x0_1 10)) ((strOfNums y391) ++ x3_1)) else (none)) = some r := by first | (rw [hy391]; with_reducible exact H) | (have H2_ := (Option.bind_some _ _).symm.trans H; rw [hy391]; with_reducible exact H2_) | (have H2_ := (Option.bind_some _ _).symm.trans H; with_reducible exact H2_) | with_reducible exact H | (rw [hy391]; exact H) | exact H
     have Ny391 := y0.mk hy391
     clear hy391
     obtain ⟨c4,H⟩ := qo H
     have c4b0 := eq_true c4
     have c4b1 := decide_eq_true c4
     have c4b2 := eq_false (Nat.not_lt.2 c4)
     have H' := y0.mk H
     clear H
     go_wp2_with (first | ((with_reducible refine y16 (N := 12) rfl ?_); refine Kd.R_lit (Kd.int .u8) _ 5 ?hg (N := 12) ?hd (xs := ([(wrap64 (48 + (Int.tmod x0_1 10))) % 256] : List Int)) (inner := [.int .u8 ((wrap64 (48 + (Int.tmod x0_1 10))) % 256)]) (ok := fun _ => True) (okp := fun _ => True) ?hr ?hp (fun _ hk => hk) trivial (Below.refl _ _) (Nat.le_refl _) (by simp) ?_; (case hd => rfl); (case hg => rfl); (case hr => first | (go_simp; done) | (go_simp; rfl)); (case hp => exact (Reps.one (show Kd.M (Kd.int .u8) _ _ _ ((wrap64 (48 + (Int.tmod x0_1 10))) % 256) [.int .u8 ((wrap64 (48 + (Int.tmod x0_1 10))) % 256)] from rfl) (Reps.none _ _))); intro v392 w5 ho6 hb hg_ hnew_; clear hg_ hnew_; (first | rw [← Ny391.out] at ho6 | (simp only [Int.reduceToNat] at ho6; rw [← Ny391.out] at ho6)); have HO393 := y0.mk (Kd.R_lower ho6 (y4 qb)); replace HB := y0.mk (y5 qb hb); clear hb ho6; have hcv7 := own_string (P := Tryz.prog) Tryz.underlying42 Tryz.underlying5 Tryz.underlying9 (Kd.own_of_R HO393.out)))
     go_roundg k1
     case measure => have := HK1.out; omega
     exact ⟨(wrap64 (Int.tdiv x0_1 10)),((strOfNums y391) ++ x3_1),qy2,qy2,H',⟨by have := HK1.out; omega⟩,⟨qb⟩⟩
    ·rw [if_neg c3] at H
     have c3b0 : decide (0 < x0_1) = false := decide_eq_false c3
     clear c3
     obtain ⟨c8,H⟩ := qo H
     have c8b0 := eq_true c8
     have c8b1 := decide_eq_true c8
     have c8b2 := eq_false (Nat.not_lt.2 c8)
     obtain rfl := Option.some.inj H
     go_wp2
     go_ret
     exact ⟨by first | rfl | (simp [y13,y14] <;> rfl) | (simp [*,y13,y14] <;> rfl),qb⟩
def laws_markStringS.l0 : Nat → List ByteArray → Int → Int → Option (Int × List ByteArray)
 | 0,_,_,_ => none
 | k + 1,x0,x1,x5 => if x5 < (x0.length : Int) then ((laws_markText.f k x1).bind fun t394 => (if 0 ≤ x5 then (laws_markStringS.l0 k (x0.set (x5 : Int).toNat t394) (wrap64 (x1 + 1)) (wrap64 (x5 + 1))) else (none))) else (some (x1,x0))
def laws_markStringS.f (k : Nat) (l0 : List ByteArray) (a1 : Int) : Option (Int × List ByteArray) := laws_markStringS.l0 k l0 a1 0
set_option maxHeartbeats 8000000 in
set_option maxRecDepth 100000 in
theorem laws_markStringS.calls (k : Nat) (P0_ : Nat → Prop) (u9000_ : Value) (l0 : List ByteArray) (a1 : Int) (r1 : Int) (r2 : List ByteArray) (w0 w : World) (hB : Below w0.heap.size w0 w) (ho0 : Kd.R Kd.string 9 w w0.heap.size P0_ u9000_ l0) (h : laws_markStringS.f k l0 a1 = some (r1,r2)) :
  Calls Tryz.prog 17 #[u9000_,.int .i64 a1] w fun e w' => e = .returned (.int .i64 r1) ∧ Kd.R Kd.string 9 w' w0.heap.size (fun k_ => (P0_ k_ ∨ w.heap.size ≤ k_)) u9000_ r2 ∧ Below w0.heap.size w0 w' ∧ Kept w w' (fun k_ => P0_ k_) := by
 have HO0 := y0.mk (show Kd.R Kd.string 9 w w0.heap.size (fun k_ => (P0_ k_ ∨ w.heap.size ≤ k_)) u9000_ l0 from Kd.R_mono ho0 (fun k_ hk => (.inl hk)))
 have HK := y0.mk (Kept.refl w (fun k_ => P0_ k_))
 have HW0 := y0.mk hB.size
 have HB := y0.mk hB
 clear hB
 have H : (laws_markStringS.l0 k l0 a1 0) = some (r1,r2) := h
 clear h
 have H' := y0.mk H
 clear H
 go_enter Tryz.func17,Tryz.ntmps17
 go_wp2
 go_loopg [1,5] k (fun kq v1 v5 w' => ∃ (x0_1 : List ByteArray) (x1_1 : Int) (x5_1 : Int),v1 = .int .i64 x1_1 ∧ v5 = .int .i64 x5_1 ∧ y0 (laws_markStringS.l0 kq x0_1 x1_1 x5_1 = some (r1,r2)) ∧ y0 (kq ≤ k) ∧ y0 (Kd.R Kd.string 9 w' w0.heap.size (fun k_ => (P0_ k_ ∨ w.heap.size ≤ k_)) u9000_ x0_1) ∧ y0 (Kept w w' (fun k_ => P0_ k_)) ∧ y0 (Below w0.heap.size w0 w'))
 case atStart => exact ⟨(l0),(a1),(0),qy2,qy2,H',⟨Nat.le_refl _⟩,⟨qR HO0.out⟩,⟨by repeat (first | (with_reducible first | exact HK.out | apply Kept.alloc | apply Kept.drewN | apply Kept.drew) | exact HK.out)⟩,⟨qb⟩⟩
 case round =>
  clear H'
  obtain ⟨x0_1,x1_1,x5_1,rfl,rfl,HA,HK1,HO_0,HK,HB⟩ := hrel
  cases gk with
  | zero => exact absurd HA.out (by simp [laws_markStringS.l0])
  | succ k1 =>
   have H := HA.out
   clear HA
   simp only [laws_markStringS.l0] at H
   by_cases c3 : x5_1 < (x0_1.length : Int)
   ·rw [if_pos c3] at H
    have c3b0 := decide_eq_true c3
    clear c3
    obtain ⟨t394,A4,H⟩ := qB H
    obtain ⟨c5,H⟩ := qo H
    have c5b0 : decide (0 ≤ x5_1) = true := decide_eq_true c5
    clear c5
    obtain ⟨y395,hy395⟩ : ∃ y_ : List ByteArray,y_ = (x0_1.set (x5_1 : Int).toNat t394) := ⟨_,rfl⟩
    replace H : (laws_markStringS.l0 k1 y395 (wrap64 (x1_1 + 1)) (wrap64 (x5_1 + 1))) = some (r1,r2) := by first | (rw [hy395]; with_reducible exact H) | (have H2_ := (Option.bind_some _ _).symm.trans H; rw [hy395]; with_reducible exact H2_) | (have H2_ := (Option.bind_some _ _).symm.trans H; with_reducible exact H2_) | with_reducible exact H | (rw [hy395]; exact H) | exact H
    have Ny395 := y0.mk hy395
    clear hy395
    have H' := y0.mk H
    clear H
    obtain ⟨Ao7,co7,eo7⟩ := Kd.R_slice HO_0.out
    subst eo7
    go_wp2_with (first | ((with_reducible refine y15 (f := 40) rfl ?_); refine y17 (some 15) rfl rfl Tryz.func40 (by kernel_rfl) rfl #[.int .i64 x1_1] rfl qy0 ?_; (with_reducible refine (laws_markText.calls k1 x1_1 t394 _ A4.out).mono ?_); rintro e w8 ⟨rfl,hb⟩; refine ⟨_,rfl, ?_⟩; replace HO_0 := y0.mk (Kd.R_below (qR HO_0.out) hb); replace HK := y0.mk (Kept.below (S := (fun k_ => P0_ k_)) (by repeat (first | (with_reducible first | exact HK.out | apply Kept.alloc | apply Kept.drewN | apply Kept.drew) | exact HK.out)) hb); replace HB := y0.mk (y5 qb hb); (try clear hb); (try clear hb2); (try clear hk); (try clear hi); have p6 : 0 ≤ (x5_1 : Int) := of_decide_eq_true qy1; have q6 : (x5_1 : Int) < ((x0_1.length : Int) : Int) := of_decide_eq_true qy1; obtain ⟨go6,co6,eo6,gb6,gl6,cl6,HG6⟩ := Kd.R_form HO_0.out (by omega); (first | cases eo6 | (injection eo6 with ea_ en_ ec_; (first | subst ea_ | (injection ea_ with ea_; subst ea_)); subst ec_; clear en_)); have GB6 := y0.mk gb6; have GG6 := y0.mk HG6; clear gb6 gl6 HG6; have HMgo6 := y0.mk (show (P0_ go6 ∨ w.heap.size ≤ go6) from (HO_0.out.1 _ rfl)); obtain ⟨hx6_0,hf6_0⟩ := Kd.R_celln (⟨#[]⟩ : ByteArray) HO_0.out (x5_1 : Int) p6 q6; replace p6 := eq_true p6; replace q6 := eq_true q6; obtain ⟨hy9_,hz9_⟩ := Kd.R_celln (⟨#[]⟩ : ByteArray) HO_0.out (x5_1 : Int) (of_decide_eq_true qy1) (of_decide_eq_true qy1); have HP9 := Kd.R_putg HO_0.out (x5_1 : Int) t394) | ((with_reducible refine gate_store (t := 9) (p := 16) rfl ?_); refine store_event (t := 9) (p := 16) (v := ?vo_w10) (w1 := (w8.setCell ⟨go6,(x5_1 : Int).toNat,none⟩ (.string t394))) ?hg ?ho ?hn ?hr ?_; (case ho => rfl); (case hg => rfl); (case hn => rfl); (case hr => first | (go_simp; done) | (go_simp; rfl)); intro w10 hw; have hg : w8.grownBy w10 (some go6) := (by rw [hw]; exact HP9.2); have hp_ : Kd.R Kd.string 9 w10 w0.heap.size (fun k_ => (P0_ k_ ∨ w.heap.size ≤ k_)) (.slice (some ⟨go6,0,none⟩) x0_1.length co7) y395 := (by rw [hw,Ny395.out]; exact HP9.1); clear HP9; replace HB := y0.mk ((by rw [hw]; exact below_set (HB.out) GB6.out : Below w0.heap.size w0 w10)); replace HK := y0.mk (Kept.of_grown (S := (fun k_ => P0_ k_)) hg (by repeat (first | (with_reducible first | exact HK.out | apply Kept.alloc | apply Kept.drewN | apply Kept.drew) | exact HK.out)) (fun k_ e_ => (HO_0.out.1 k_ e_))); replace HO_0 := y0.mk (hp_); clear hg hw hp_))
    go_roundg k1
    case measure => have := HK1.out; omega
    exact ⟨(y395),(wrap64 (x1_1 + 1)),(wrap64 (x5_1 + 1)),qy2,qy2,H',⟨by have := HK1.out; omega⟩,⟨qR HO_0.out⟩,⟨by repeat (first | (with_reducible first | exact HK.out | apply Kept.alloc | apply Kept.drewN | apply Kept.drew) | exact HK.out)⟩,⟨qb⟩⟩
   ·rw [if_neg c3] at H
    have c3b0 := decide_eq_false c3
    clear c3
    simp only [Option.some.injEq,Prod.mk.injEq] at H
    obtain ⟨rfl,rfl⟩ := H
    obtain ⟨Ao11,co11,eo11⟩ := Kd.R_slice HO_0.out
    subst eo11
    go_wp2
    go_ret
    exact ⟨by first | rfl | (simp [y13,y14] <;> rfl) | (simp [*,y13,y14] <;> rfl),by (with_reducible repeat (first | apply Kd.R_alloc | apply Kd.R_drewN | apply Kd.R_drew)); exact HO_0.out,qb,by repeat (first | (with_reducible first | exact HK.out | apply Kept.alloc | apply Kept.drewN | apply Kept.drew) | exact HK.out)⟩
end Go.Proofs.YtocmfolajckaeaaGreatDoor.Pe
end
section
namespace Go.Proofs.YtocmfolajckaeaaGreatDoor.Pe
open Go.RowKit Go.Proofs.YtocmfolajckaeaaGreatDoorW.PrintWords Go.Proofs.YtocmfolajckaeaaGreatDoorW.PrintLast Go.Proofs.YtocmfolajckaeaaGreatDoorW.PrintMore
attribute [local go_sem] max2_int min2_int max_two min_two max_three min_three max_four min_four   -- for this text's walks alone
set_option linter.unusedVariables false
set_option linter.unusedSimpArgs false
def laws_markTupleS.l0 : Nat → List (S48) → Int → Int → Option (Int × List (S48))
 | 0,_,_,_ => none
 | k + 1,x0,x1,x5 => if x5 < (x0.length : Int) then (if 0 ≤ x5 then ((laws_markStringS.f k (y21 x0 x5).f0 x1).bind fun bt => laws_markTupleS.l0 k (x0.set x5.toNat (⟨bt.2⟩ : S48)) bt.1 (wrap64 (x5 + 1))) else none) else some (x1,x0)
def laws_markTupleS.f (k : Nat) (l0 : List (S48)) (a1 : Int) : Option (Int × List (S48)) := laws_markTupleS.l0 k l0 a1 0
set_option maxHeartbeats 8000000 in
set_option maxRecDepth 100000 in
theorem laws_markTupleS.calls (k : Nat) (lo hi : Nat) (A0 : Option Addr) (c0 : Nat) (l0 : List (S48)) (a1 : Int) (r1 : Int) (r2 : List (S48)) (w0 w : World) (hB : Below w0.heap.size w0 w) (hlo : w0.heap.size ≤ lo) (ho : QIv.OS k48 48 lo hi (.slice A0 l0.length c0) l0 w) (h : laws_markTupleS.f k l0 a1 = some (r1,r2)) :
  Calls Tryz.prog 18 #[.slice A0 l0.length c0,.int .i64 a1] w fun e w' => e = .returned (.int .i64 r1) ∧ QIv.OS k48 48 lo hi (.slice A0 l0.length c0) r2 w' ∧ Below w0.heap.size w0 w' ∧ QIv.KI lo hi w w' := by
 have hu48 := Tryz.underlying48
 have HO := y0.mk ho
 have HB := y0.mk hB
 have HL := y0.mk hlo
 have HK : y0 (QIv.KI lo hi w w) := ⟨Kept.refl w _⟩
 have H' : y0 (laws_markTupleS.l0 k l0 a1 0 = some (r1,r2)) := ⟨h⟩
 clear ho hB hlo h
 go_enter Tryz.func18,Tryz.ntmps18
 go_wp2
 go_loopg [1,5] k (fun kq v1 v5 w' => ∃ (x0 : List (S48)) (x1 x5 : Int),v1 = .int .i64 x1 ∧ v5 = .int .i64 x5 ∧ y0 (laws_markTupleS.l0 kq x0 x1 x5 = some (r1,r2)) ∧ y0 (kq ≤ k) ∧ y0 (QIv.OS k48 48 lo hi (.slice A0 l0.length c0) x0 w') ∧ y0 (QIv.KI lo hi w w') ∧ y0 (Below w0.heap.size w0 w'))
 case atStart => exact ⟨l0,a1,0,rfl,rfl,H',⟨Nat.le_refl _⟩,HO,HK,HB⟩
 case round =>
  clear H'
  obtain ⟨x0,x1,x5,rfl,rfl,HA,HK1,HO,HK,HB⟩ := hrel
  have hln : l0.length = x0.length := (Kd.S_reads' HO.out).1
  cases gk with
  | zero => exact absurd HA.out (by simp [laws_markTupleS.l0])
  | succ k1 =>
   have H := HA.out
   clear HA
   simp only [laws_markTupleS.l0] at H
   by_cases c3 : x5 < (x0.length : Int)
   ·rw [if_pos c3] at H
    have c3l : x5 < (l0.length : Int) := by omega
    have c3b : decide (x5 < (l0.length : Int)) = true := decide_eq_true c3l
    by_cases c4 : 0 ≤ x5
    ·rw [if_pos c4] at H
     replace H := Option.bind_eq_some_iff.mp H
     obtain ⟨⟨t1,t2⟩,A3,H⟩ := H
     replace H : laws_markTupleS.l0 k1 (x0.set x5.toNat (⟨t2⟩ : S48)) t1 (wrap64 (x5 + 1)) = some (r1,r2) := H
     have H' := y0.mk H
     clear H
     have A3 := y0.mk A3
     obtain ⟨ad,Ax,cx,e,hx0,hle,hCi⟩ := at_T48 HO.out.C x5 c4 c3
     cases e
     obtain ⟨oki,c,hcl,hM,hcc,hoki,hback⟩ := QIv.S_lendA HO.out z48 x5 c4 c3l
     obtain ⟨u,rfl,hR⟩ := k48_openM hM
     have hcu := hcc 0 u rfl
     rw [show x5.toNat * k48.sz + 0 = x5.toNat from by show x5.toNat * 1 + 0 = x5.toNat; omega] at hcu
     have hu : u = .slice Ax (y21 x0 x5).f0.length cx := Option.some.inj (hcu.symm.trans hx0)
     have hbk : ∀ (w5 : World) (hy : Kd.R Kd.string 9 w5 w0.heap.size (fun k_ => (oki k_ ∧ lo ≤ k_) ∨ wr.heap.size ≤ k_) u t2) (hkp : Kept wr w5 (fun k_ => oki k_ ∧ lo ≤ k_)),QIv.OS k48 48 lo hi (.slice (some ad) l0.length c0) (x0.set x5.toNat (⟨t2⟩ : S48)) w5 := by
      intro w5 hy hkp
      refine hback (fun k _ hn hlt => hkp.2 k hlt (fun h => hn h.1)) (k48_mkM _ _ _ (⟨t2⟩ : S48) (Kd.R_raise (d := Kd.string) (b := w0.heap.size) (b' := lo) (fun _ _ _ _ h => h) (Kd.R_tight rfl hy) (Kd.R_base hR))) (fun k hk => Or.inl (hR.1 k hk.symm))
     have hki : ∀ (w5 : World) (hkp : Kept wr w5 (fun k_ => oki k_ ∧ lo ≤ k_)),QIv.KI lo hi w w5 := by
      intro w5 hkp
      refine ⟨Nat.le_trans HK.out.1 hkp.1,fun k hk hn => (hkp.2 k (Nat.lt_of_lt_of_le hk HK.out.1) (fun hk2 => ?_)).trans (HK.out.2 k hk hn)⟩
      exact hn ⟨hk2.2,hoki k hk2.1⟩
     have HBK := y0.mk hbk
     have HKI := y0.mk hki
     have HR : y0 (Kd.R Kd.string 9 wr w0.heap.size (fun k_ => oki k_ ∧ lo ≤ k_) u (y21 x0 x5).f0) := ⟨Kd.R_lower (Kd.R_mono (Kd.R_bound hR) (ok' := fun k_ => oki k_ ∧ lo ≤ k_) (fun k hk => ⟨hk.1,hk.2.1⟩)) HL.out⟩
     subst hu
     clear hbk hki hback hM hcc hoki hR hcu hCi hle hcl
     have p5 := eq_true c4
     have q5 := eq_true c3l
     clear c3 c4 c3l hln
     go_wp2_with (first | (go_at_call 17; (with_reducible refine (laws_markStringS.calls k1 (fun k_ => oki k_ ∧ lo ≤ k_) _ _ x1 t1 t2 w0 _ HB.out HR.out A3.out).mono ?_); rintro e w5 ⟨rfl,hy,hb,hkp⟩; have n0_ := y0.mk (HBK.out w5 hy hkp); have n1_ := y0.mk (HKI.out w5 hkp); have n2_ := y0.mk hb; clear HO HK HB HBK HKI HR hy hb hkp; have HO := n0_; have HK := n1_; have HB := n2_; clear n0_ n1_ n2_))
     go_roundg k1
     case measure => have := HK1.out; omega
     exact ⟨_,t1,wrap64 (x5 + 1),rfl,qy2,H',⟨by have := HK1.out; omega⟩,HO,HK,HB⟩
    ·rw [if_neg c4] at H
     cases H
   ·rw [if_neg c3] at H
    have c3b : decide (x5 < (l0.length : Int)) = false := decide_eq_false (by omega)
    clear hln
    injection H with H
    obtain ⟨rfl,rfl⟩ := Prod.mk.inj H
    go_wp2
    go_ret
    exact ⟨by first | rfl | (simp [y13,y14] <;> rfl),HO.out,HB.out,HK.out⟩
def laws_markRel.f (k : Nat) (a0_0 : Int) (l0_1 : List (S48)) (a1 : Int) : Option (Int × List (S48)) := laws_markTupleS.f k l0_1 a1
set_option maxHeartbeats 8000000 in
set_option maxRecDepth 100000 in
theorem laws_markRel.calls (k : Nat) (lo hi : Nat) (a0 : Int) (A0 : Option Addr) (c0 : Nat) (l0 : List (S48)) (a1 : Int) (r1 : Int) (r2 : List (S48)) (w0 w : World) (hB : Below w0.heap.size w0 w) (hlo : w0.heap.size ≤ lo) (ho : QIv.OS k48 48 lo hi (.slice A0 l0.length c0) l0 w) (h : laws_markRel.f k a0 l0 a1 = some (r1,r2)) :
  Calls Tryz.prog 16 #[.agg #[.int .i64 a0,.slice A0 l0.length c0],.int .i64 a1] w fun e w' => e = .returned (.int .i64 r1) ∧ QIv.OS k48 48 lo hi (.slice A0 l0.length c0) r2 w' ∧ Below w0.heap.size w0 w' ∧ QIv.KI lo hi w w' := by
 have hu31 := Tryz.underlying31
 have HO := y0.mk ho
 have HB := y0.mk hB
 have HL := y0.mk hlo
 have HA : y0 (laws_markTupleS.f k l0 a1 = some (r1,r2)) := ⟨h⟩
 have HK := y0.mk (QIv.ki_refl lo hi w)
 clear ho hB hlo h
 go_enter Tryz.func16,Tryz.ntmps16
 go_wp2_with (first
  | ((with_reducible refine y16 (N := 2) rfl ?_); refine qe 2 #[.int .i64 a0,.slice A0 l0.length c0] 31 ?_; intro gb hg w2 hbox hb; have n0_ := y0.mk (HO.out.below hb); have n1_ := y0.mk (y5 HB.out hb); have n2_ := y0.mk (QIv.ki_below HK.out hb); clear HO HB HK; have HO := n0_; have HB := n1_; have HK := n2_; clear n0_ n1_ n2_ hb hg; have hc0 : w2.cell? ⟨gb,0,none⟩ = some (.int .i64 a0) := (y8 hbox 0).trans rfl; have hc1 : w2.cell? ⟨gb,1,none⟩ = some (.slice A0 l0.length c0) := (y8 hbox 1).trans rfl; have hf0 := y12 hbox 0; have hf1 := y12 hbox 1; clear hbox)
  | (go_at_call 18; (with_reducible refine (laws_markTupleS.calls k lo hi _ _ l0 a1 r1 r2 w0 _ HB.out HL.out HO.out HA.out).mono ?_); rintro e w5 ⟨rfl,ho,hb,hk⟩; have n0_ := y0.mk ho; have n1_ := y0.mk hb; have n2_ := y0.mk (QIv.ki_trans HK.out hk); clear HO HB HK ho hb hk hc0 hc1 hf0 hf1; have HO := n0_; have HB := n1_; have HK := n2_; clear n0_ n1_ n2_))
 go_ret
 exact ⟨by first | rfl | (simp [y13,y14] <;> rfl),HO.out,HB.out,HK.out⟩
def laws_heldStringS.l0 : Nat → List ByteArray → Int → Int → Option (Int)
 | 0,_,_,_ => none
 | k + 1,x0,x1,x5 => if x5 < (x0.length : Int) then (if 0 ≤ x5 then ((laws_markText.f k x1).bind fun t397 => (if (rdOf ByteArray.empty x0 x5).toList = t397.toList then (laws_heldStringS.l0 k x0 (wrap64 (x1 + 1)) (wrap64 (x5 + 1))) else (some (-1)))) else (none)) else (some x1)
def laws_heldStringS.f (k : Nat) (l0 : List ByteArray) (a1 : Int) : Option (Int) := laws_heldStringS.l0 k l0 a1 0
set_option maxHeartbeats 8000000 in
set_option maxRecDepth 100000 in
theorem laws_heldStringS.calls (k : Nat) (A0 : Option Addr) (c0 : Nat) (l0 : List ByteArray) (a1 : Int) (r : Int) (w : World) (hr0 : Kd.C Kd.string w A0 l0.length l0) (hc0 : l0.length ≤ c0) (h : laws_heldStringS.f k l0 a1 = some r) :
  Calls Tryz.prog 41 #[.slice A0 l0.length c0,.int .i64 a1] w fun e w' => e = .returned (.int .i64 r) ∧ Below w.heap.size w w' := by
 have HR0 := y0.mk hr0
 have HC0 := y0.mk hc0
 clear hr0 hc0
 have HB := y0.mk (Below.refl w.heap.size w)
 have H : (laws_heldStringS.l0 k l0 a1 0) = some r := h
 clear h
 have H' := y0.mk H
 clear H
 go_enter Tryz.func41,Tryz.ntmps41
 go_wp2
 go_loopg [1,5] k (fun kq v1 v5 w' => ∃ (x1_1 : Int) (x5_1 : Int),v1 = .int .i64 x1_1 ∧ v5 = .int .i64 x5_1 ∧ y0 (laws_heldStringS.l0 kq l0 x1_1 x5_1 = some r) ∧ y0 (kq ≤ k) ∧ y0 (Below w.heap.size w w'))
 case atStart => exact ⟨(a1),(0),qy2,qy2,H',⟨Nat.le_refl _⟩,⟨qb⟩⟩
 case round =>
  clear H'
  obtain ⟨x1_1,x5_1,rfl,rfl,HA,HK1,HB⟩ := hrel
  cases gk with
  | zero => exact absurd HA.out (by simp [laws_heldStringS.l0])
  | succ k1 =>
   have H := HA.out
   clear HA
   simp only [laws_heldStringS.l0] at H
   by_cases c3 : x5_1 < (l0.length : Int)
   ·rw [if_pos c3] at H
    have c3b0 := decide_eq_true c3
    clear c3
    obtain ⟨c4,H⟩ := qo H
    have c4b0 : decide (0 ≤ x5_1) = true := decide_eq_true c4
    clear c4
    obtain ⟨t397,A5,H⟩ := qB H
    by_cases c6 : (rdOf ByteArray.empty l0 x5_1).toList = t397.toList
    ·rw [if_pos c6] at H
     have c6b0 : ((rdOf ByteArray.empty l0 x5_1).toList == t397.toList) = true := beq_iff_eq.mpr c6
     have c6b1 : ((rdOf ByteArray.empty l0 x5_1).toList != t397.toList) = false := bne_eq_false_iff_eq.mpr c6
     clear c6
     have H' := y0.mk H
     clear H
     try go_wp2
     replace HB := y0.mk (y3 HB.out)
     have p396 : 0 ≤ (x5_1 : Int) := of_decide_eq_true qy1
     have q396 : x5_1 < (l0.length : Int) := of_decide_eq_true qy1
     obtain ⟨ad396,e396,hx396_0⟩ := Kd.at_string HR0.out x5_1 p396 q396
     have hw396_0 := hx396_0
     cases e396
     replace hx396_0 := (HB.out.cell (World.block_lt_of_cell? w _ hx396_0)).trans hx396_0
     replace p396 := eq_true p396
     replace q396 := eq_true q396
     refine start_ (n := 7) (S := fun w' => w'.cell? (ad396.add (x5_1).toNat) = some (.string (rdOf ByteArray.empty l0 x5_1))) (ds := []) #[false,false,false,false,false,false,false] (by kernel_rfl) rfl rfl (((HB.out.cell (World.block_lt_of_cell? w _ hw396_0)).trans hw396_0)) (fun hHeld => ?_)
     generalize wr.drew = w7 at HB hx396_0 hHeld ⊢
     refine y20 (i := 0) (N := some 12) (v := ?_) (a' := ?_) #[true,false,false,false,false,false,false] rfl rfl (by kernel_rfl) (fun _ _ _ h => h) (Or.inl ⟨by rfl, ?_⟩) ?_ ?_
     rotate_left
     ·intro w'
      go_simp
      with_reducible rfl
     rotate_left
     ·simp only [Act.put,qS_,qZ_,qC_,y19,y18]
      rfl
     refine y20 (i := 1) (N := some 13) (v := ?_) (a' := ?_) #[true,true,false,false,false,false,false] rfl rfl (by kernel_rfl) (fun _ _ _ h => h) (Or.inl ⟨by rfl, ?_⟩) ?_ ?_
     rotate_left
     ·intro w'
      go_simp
      with_reducible rfl
     rotate_left
     ·simp only [Act.put,qS_,qZ_,qC_,y19,y18]
      rfl
     refine y20 (i := 2) (N := some 14) (v := ?_) (a' := ?_) #[true,true,true,false,false,false,false] rfl rfl (by kernel_rfl) (fun _ _ _ h => h) (Or.inl ⟨by rfl, ?_⟩) ?_ ?_
     rotate_left
     ·intro w'
      go_simp
      with_reducible rfl
     rotate_left
     ·simp only [Act.put,qS_,qZ_,qC_,y19,y18]
      rfl
     refine y20 (i := 4) (N := some 16) (v := ?_) (a' := ?_) #[true,true,true,false,true,false,false] rfl rfl (by kernel_rfl) (fun _ _ _ h => h) (Or.inl ⟨by rfl, ?_⟩) ?_ ?_
     rotate_left
     ·intro w'
      go_simp
      with_reducible rfl
     rotate_left
     ·simp only [Act.put,qS_,qZ_,qC_,y19,y18]
      rfl
     refine take_ (i := 3) (N := some 15) (v := ?_) (a' := ?_) #[true,true,true,true,true,false,false] rfl rfl (by kernel_rfl) (fun _ _ _ h => h) (Or.inl ⟨by rfl, ?_⟩) hHeld ?_ ?_
     rotate_left
     ·intro w' s0
      go_simp
      with_reducible rfl
     rotate_left
     ·simp only [Act.put,qS_,qZ_,qC_,y19,y18]
      rfl
     refine one_ (i := 5) (N := some 17) #[true,true,true,true,true,true,false] rfl rfl (by kernel_rfl) (by decide) (fun K hK => ?_)
     refine goes_ Tryz.func40 (by kernel_rfl) rfl #[.int .i64 x1_1] (by rfl) rfl rfl qy0 ?_
     with_reducible refine (laws_markText.calls k1 x1_1 t397 _ A5.out).mono ?_
     rintro e w8 ⟨rfl,hb⟩
     refine ⟨_,rfl, ?_⟩
     replace HB := y0.mk (y5 qb hb)
     (try clear hb)
     (try clear hb2)
     (try clear hk)
     (try clear hi)
     refine hK.out _ _ (((HB.out.cell (World.block_lt_of_cell? w _ hw396_0)).trans hw396_0)) (fun hHeld => ?_)
     clear hK K
     refine norm_ (a' := ?_) ?_ ?_
     rotate_left
     ·show Act.put _ (some 17) _ = _
      simp only [Act.put,qS_,qZ_,qC_,y19,y18]
      rfl
     refine y20 (i := 6) (N := some 18) (v := ?_) (a' := ?_) #[true,true,true,true,true,true,true] rfl rfl (by kernel_rfl) (fun _ _ _ h => h) (Or.inl ⟨by rfl, ?_⟩) ?_ ?_
     rotate_left
     ·intro w'
      go_simp
      with_reducible rfl
     rotate_left
     ·simp only [Act.put,qS_,qZ_,qC_,y19,y18]
      rfl
     refine done_ (by kernel_rfl) ?_
     try go_wp2
     go_roundg k1
     case measure => have := HK1.out; omega
     exact ⟨(wrap64 (x1_1 + 1)),(wrap64 (x5_1 + 1)),qy2,qy2,H',⟨by have := HK1.out; omega⟩,⟨qb⟩⟩
    ·rw [if_neg c6] at H
     have c6b0 : ((rdOf ByteArray.empty l0 x5_1).toList == t397.toList) = false := beq_eq_false_iff_ne.mpr c6
     have c6b1 : ((rdOf ByteArray.empty l0 x5_1).toList != t397.toList) = true := bne_iff_ne.mpr c6
     obtain rfl := Option.some.inj H
     try go_wp2
     replace HB := y0.mk (y3 HB.out)
     have p396 : 0 ≤ (x5_1 : Int) := of_decide_eq_true qy1
     have q396 : x5_1 < (l0.length : Int) := of_decide_eq_true qy1
     obtain ⟨ad396,e396,hx396_0⟩ := Kd.at_string HR0.out x5_1 p396 q396
     have hw396_0 := hx396_0
     cases e396
     replace hx396_0 := (HB.out.cell (World.block_lt_of_cell? w _ hx396_0)).trans hx396_0
     replace p396 := eq_true p396
     replace q396 := eq_true q396
     refine start_ (n := 7) (S := fun w' => w'.cell? (ad396.add (x5_1).toNat) = some (.string (rdOf ByteArray.empty l0 x5_1))) (ds := []) #[false,false,false,false,false,false,false] (by kernel_rfl) rfl rfl (((HB.out.cell (World.block_lt_of_cell? w _ hw396_0)).trans hw396_0)) (fun hHeld => ?_)
     generalize wr.drew = w9 at HB hx396_0 hHeld ⊢
     refine y20 (i := 0) (N := some 12) (v := ?_) (a' := ?_) #[true,false,false,false,false,false,false] rfl rfl (by kernel_rfl) (fun _ _ _ h => h) (Or.inl ⟨by rfl, ?_⟩) ?_ ?_
     rotate_left
     ·intro w'
      go_simp
      with_reducible rfl
     rotate_left
     ·simp only [Act.put,qS_,qZ_,qC_,y19,y18]
      rfl
     refine y20 (i := 1) (N := some 13) (v := ?_) (a' := ?_) #[true,true,false,false,false,false,false] rfl rfl (by kernel_rfl) (fun _ _ _ h => h) (Or.inl ⟨by rfl, ?_⟩) ?_ ?_
     rotate_left
     ·intro w'
      go_simp
      with_reducible rfl
     rotate_left
     ·simp only [Act.put,qS_,qZ_,qC_,y19,y18]
      rfl
     refine y20 (i := 2) (N := some 14) (v := ?_) (a' := ?_) #[true,true,true,false,false,false,false] rfl rfl (by kernel_rfl) (fun _ _ _ h => h) (Or.inl ⟨by rfl, ?_⟩) ?_ ?_
     rotate_left
     ·intro w'
      go_simp
      with_reducible rfl
     rotate_left
     ·simp only [Act.put,qS_,qZ_,qC_,y19,y18]
      rfl
     refine y20 (i := 4) (N := some 16) (v := ?_) (a' := ?_) #[true,true,true,false,true,false,false] rfl rfl (by kernel_rfl) (fun _ _ _ h => h) (Or.inl ⟨by rfl, ?_⟩) ?_ ?_
     rotate_left
     ·intro w'
      go_simp
      with_reducible rfl
     rotate_left
     ·simp only [Act.put,qS_,qZ_,qC_,y19,y18]
      rfl
     refine take_ (i := 3) (N := some 15) (v := ?_) (a' := ?_) #[true,true,true,true,true,false,false] rfl rfl (by kernel_rfl) (fun _ _ _ h => h) (Or.inl ⟨by rfl, ?_⟩) hHeld ?_ ?_
     rotate_left
     ·intro w' s0
      go_simp
      with_reducible rfl
     rotate_left
     ·simp only [Act.put,qS_,qZ_,qC_,y19,y18]
      rfl
     refine one_ (i := 5) (N := some 17) #[true,true,true,true,true,true,false] rfl rfl (by kernel_rfl) (by decide) (fun K hK => ?_)
     refine goes_ Tryz.func40 (by kernel_rfl) rfl #[.int .i64 x1_1] (by rfl) rfl rfl qy0 ?_
     with_reducible refine (laws_markText.calls k1 x1_1 t397 _ A5.out).mono ?_
     rintro e w10 ⟨rfl,hb⟩
     refine ⟨_,rfl, ?_⟩
     replace HB := y0.mk (y5 qb hb)
     (try clear hb)
     (try clear hb2)
     (try clear hk)
     (try clear hi)
     refine hK.out _ _ (((HB.out.cell (World.block_lt_of_cell? w _ hw396_0)).trans hw396_0)) (fun hHeld => ?_)
     clear hK K
     refine norm_ (a' := ?_) ?_ ?_
     rotate_left
     ·show Act.put _ (some 17) _ = _
      simp only [Act.put,qS_,qZ_,qC_,y19,y18]
      rfl
     refine y20 (i := 6) (N := some 18) (v := ?_) (a' := ?_) #[true,true,true,true,true,true,true] rfl rfl (by kernel_rfl) (fun _ _ _ h => h) (Or.inl ⟨by rfl, ?_⟩) ?_ ?_
     rotate_left
     ·intro w'
      go_simp
      with_reducible rfl
     rotate_left
     ·simp only [Act.put,qS_,qZ_,qC_,y19,y18]
      rfl
     refine done_ (by kernel_rfl) ?_
     try go_wp2
     go_ret
     exact ⟨by first | rfl | (simp [y13,y14] <;> rfl) | (simp [*,y13,y14] <;> rfl),qb⟩
   ·rw [if_neg c3] at H
    have c3b0 := decide_eq_false c3
    clear c3
    obtain rfl := Option.some.inj H
    go_wp2
    go_ret
    exact ⟨by first | rfl | (simp [y13,y14] <;> rfl) | (simp [*,y13,y14] <;> rfl),qb⟩
def laws_heldTupleS.l0 : Nat → List (S48) → Int → Int → Option (Int)
 | 0,_,_,_ => none
 | k + 1,x0,x1,x5 => if x5 < (x0.length : Int) then (if 0 ≤ x5 then ((laws_heldStringS.f k ((y21 x0 x5).f0) x1).bind fun t399 => (if t399 < 0 then (some (-1)) else (laws_heldTupleS.l0 k x0 t399 (wrap64 (x5 + 1))))) else (none)) else (some x1)
def laws_heldTupleS.f (k : Nat) (l0 : List (S48)) (a1 : Int) : Option (Int) := laws_heldTupleS.l0 k l0 a1 0
set_option maxHeartbeats 8000000 in
set_option maxRecDepth 100000 in
theorem laws_heldTupleS.calls (k : Nat) (A0 : Option Addr) (c0 : Nat) (l0 : List (S48)) (a1 : Int) (r : Int) (w : World) (hr0 : Kd.C k48 w A0 l0.length l0) (hc0 : l0.length ≤ c0) (h : laws_heldTupleS.f k l0 a1 = some r) :
  Calls Tryz.prog 19 #[.slice A0 l0.length c0,.int .i64 a1] w fun e w' => e = .returned (.int .i64 r) ∧ Below w.heap.size w w' := by
 have HR0 := y0.mk hr0
 have HC0 := y0.mk hc0
 clear hr0 hc0
 have HB := y0.mk (Below.refl w.heap.size w)
 have H : (laws_heldTupleS.l0 k l0 a1 0) = some r := h
 clear h
 have H' := y0.mk H
 clear H
 go_enter Tryz.func19,Tryz.ntmps19
 go_wp2
 go_loopg [1,5] k (fun kq v1 v5 w' => ∃ (x1_1 : Int) (x5_1 : Int),v1 = .int .i64 x1_1 ∧ v5 = .int .i64 x5_1 ∧ y0 (laws_heldTupleS.l0 kq l0 x1_1 x5_1 = some r) ∧ y0 (kq ≤ k) ∧ y0 (Below w.heap.size w w'))
 case atStart => exact ⟨(a1),(0),qy2,qy2,H',⟨Nat.le_refl _⟩,⟨qb⟩⟩
 case round =>
  clear H'
  obtain ⟨x1_1,x5_1,rfl,rfl,HA,HK1,HB⟩ := hrel
  cases gk with
  | zero => exact absurd HA.out (by simp [laws_heldTupleS.l0])
  | succ k1 =>
   have H := HA.out
   clear HA
   simp only [laws_heldTupleS.l0] at H
   by_cases c3 : x5_1 < (l0.length : Int)
   ·rw [if_pos c3] at H
    have c3b0 := decide_eq_true c3
    clear c3
    obtain ⟨c4,H⟩ := qo H
    have c4b0 : decide (0 ≤ x5_1) = true := decide_eq_true c4
    clear c4
    obtain ⟨t399,A5,H⟩ := qB H
    by_cases c6 : t399 < 0
    ·rw [if_pos c6] at H
     have c6b0 := decide_eq_true c6
     clear c6
     obtain rfl := Option.some.inj H
     have p398 : 0 ≤ (x5_1 : Int) := of_decide_eq_true qy1
     have q398 : x5_1 < (l0.length : Int) := of_decide_eq_true qy1
     obtain ⟨ad398,A398_0,c398_0,e398,hx398_0,hl398_0,hi398_0⟩ := at_T48 HR0.out x5_1 p398 q398
     cases e398
     replace hx398_0 := (HB.out.cell (World.block_lt_of_cell? w _ hx398_0)).trans hx398_0
     have HR398_0 := y0.mk hi398_0
     have HC398_0 := y0.mk hl398_0
     clear hi398_0 hl398_0
     replace p398 := eq_true p398
     replace q398 := eq_true q398
     go_wp2_with (first | ((with_reducible refine y15 (f := 41) rfl ?_); refine y17 (some 18) rfl rfl Tryz.func41 (by kernel_rfl) rfl #[.slice A398_0 ((y21 l0 x5_1).f0).length c398_0,.int .i64 x1_1] rfl qy0 ?_; (with_reducible refine (laws_heldStringS.calls k1 _ _ ((y21 l0 x5_1).f0) x1_1 t399 _ (qc (Kd.C_below HR398_0.out HB.out)) HC398_0.out A5.out).mono ?_); rintro e w7 ⟨rfl,hb⟩; refine ⟨_,rfl, ?_⟩; replace HB := y0.mk (y5 qb hb); (try clear hb); (try clear hb2); (try clear hk); (try clear hi)))
     go_ret
     exact ⟨by first | rfl | (simp [y13,y14] <;> rfl) | (simp [*,y13,y14] <;> rfl),qb⟩
    ·rw [if_neg c6] at H
     have c6b0 := decide_eq_false c6
     clear c6
     have H' := y0.mk H
     clear H
     have p398 : 0 ≤ (x5_1 : Int) := of_decide_eq_true qy1
     have q398 : x5_1 < (l0.length : Int) := of_decide_eq_true qy1
     obtain ⟨ad398,A398_0,c398_0,e398,hx398_0,hl398_0,hi398_0⟩ := at_T48 HR0.out x5_1 p398 q398
     cases e398
     replace hx398_0 := (HB.out.cell (World.block_lt_of_cell? w _ hx398_0)).trans hx398_0
     have HR398_0 := y0.mk hi398_0
     have HC398_0 := y0.mk hl398_0
     clear hi398_0 hl398_0
     replace p398 := eq_true p398
     replace q398 := eq_true q398
     go_wp2_with (first | ((with_reducible refine y15 (f := 41) rfl ?_); refine y17 (some 18) rfl rfl Tryz.func41 (by kernel_rfl) rfl #[.slice A398_0 ((y21 l0 x5_1).f0).length c398_0,.int .i64 x1_1] rfl qy0 ?_; (with_reducible refine (laws_heldStringS.calls k1 _ _ ((y21 l0 x5_1).f0) x1_1 t399 _ (qc (Kd.C_below HR398_0.out HB.out)) HC398_0.out A5.out).mono ?_); rintro e w8 ⟨rfl,hb⟩; refine ⟨_,rfl, ?_⟩; replace HB := y0.mk (y5 qb hb); (try clear hb); (try clear hb2); (try clear hk); (try clear hi)))
     go_roundg k1
     case measure => have := HK1.out; omega
     exact ⟨(t399),(wrap64 (x5_1 + 1)),qy2,qy2,H',⟨by have := HK1.out; omega⟩,⟨qb⟩⟩
   ·rw [if_neg c3] at H
    have c3b0 := decide_eq_false c3
    clear c3
    obtain rfl := Option.some.inj H
    go_wp2
    go_ret
    exact ⟨by first | rfl | (simp [y13,y14] <;> rfl) | (simp [*,y13,y14] <;> rfl),qb⟩
end Go.Proofs.YtocmfolajckaeaaGreatDoor.Pe
end
section
namespace Go.Proofs.YtocmfolajckaeaaGreatDoor.Pe
open Go.RowKit Go.Proofs.YtocmfolajckaeaaGreatDoorW.PrintWords Go.Proofs.YtocmfolajckaeaaGreatDoorW.PrintLast Go.Proofs.YtocmfolajckaeaaGreatDoorW.PrintMore
attribute [local go_sem] max2_int min2_int max_two min_two max_three min_three max_four min_four   -- for this text's walks alone
set_option linter.unusedVariables false
set_option linter.unusedSimpArgs false
def spec_l02Has.l0 : Nat → List (S48) → Int → List ByteArray → Option (Bool)
 | 0,_,_,_ => none
 | k + 1,x0,x5,x401000 => if x5 < (x0.length : Int) then (if 0 ≤ x5 then ((spec_l02Same.f k ((y21 x0 x5).f0) x401000).bind fun t402 => (if t402 = true then (some true) else (spec_l02Has.l0 k x0 (wrap64 (x5 + 1)) x401000))) else (none)) else (some false)
def spec_l02Has.f (k : Nat) (l0 : List (S48)) (l1_0 : List ByteArray) : Option (Bool) := spec_l02Has.l0 k l0 0 l1_0
set_option maxHeartbeats 8000000 in
set_option maxRecDepth 100000 in
theorem spec_l02Has.calls (k : Nat) (A0 : Option Addr) (c0 : Nat) (l0 : List (S48)) (A1_0 : Option Addr) (c1_0 : Nat) (l1_0 : List ByteArray) (r : Bool) (w : World) (hr0 : Kd.C k48 w A0 l0.length l0) (hc0 : l0.length ≤ c0) (hr1_0 : Kd.C Kd.string w A1_0 l1_0.length l1_0) (hc1_0 : l1_0.length ≤ c1_0) (h : spec_l02Has.f k l0 l1_0 = some r) :
  Calls Tryz.prog 42 #[.slice A0 l0.length c0,.agg #[.slice A1_0 l1_0.length c1_0]] w fun e w' => e = .returned (.bool r) ∧ Below w.heap.size w w' := by
 have hu48 := Tryz.underlying48
 have HR0 := y0.mk hr0
 have HC0 := y0.mk hc0
 clear hr0 hc0
 have HR1_0 := y0.mk hr1_0
 have HC1_0 := y0.mk hc1_0
 clear hr1_0 hc1_0
 have HB := y0.mk (Below.refl w.heap.size w)
 have H : (spec_l02Has.l0 k l0 0 l1_0) = some r := h
 clear h
 have H' := y0.mk H
 clear H
 go_enter Tryz.func42,Tryz.ntmps42
 go_wp2_with (first | ((with_reducible refine y16 (N := 3) rfl ?_); refine qe 3 #[.slice A1_0 l1_0.length c1_0] 48 ?_; intro gb400 hg w3 hbox hb; have BK400 := y0.mk (hbox); have GW400 := y0.mk (qg (w := w) hg); have GE400 := y0.mk (qg (w := w) hg); replace HB := y0.mk (y5 qb hb); clear hb hbox hg))
 go_loopg [5] k (fun kq v5 w' => ∃ (x5_1 : Int),v5 = .int .i64 x5_1 ∧ y0 (spec_l02Has.l0 kq l0 x5_1 l1_0 = some r) ∧ y0 (kq ≤ k) ∧ y0 (w'.heap[gb400]? = some (.cells #[(.slice A1_0 l1_0.length c1_0)] 48 (0,0))) ∧ y0 (Below w.heap.size w w'))
 case atStart => exact ⟨(0),qy2,H',⟨Nat.le_refl _⟩,⟨qk BK400.out⟩,⟨qb⟩⟩
 case round =>
  clear H'
  obtain ⟨x5_1,rfl,HA,HK1,BK400,HB⟩ := hrel
  cases gk with
  | zero => exact absurd HA.out (by simp [spec_l02Has.l0])
  | succ k1 =>
   have H := HA.out
   clear HA
   simp only [spec_l02Has.l0] at H
   by_cases c4 : x5_1 < (l0.length : Int)
   ·rw [if_pos c4] at H
    have c4b0 := decide_eq_true c4
    clear c4
    obtain ⟨c5,H⟩ := qo H
    have c5b0 : decide (0 ≤ x5_1) = true := decide_eq_true c5
    clear c5
    obtain ⟨t402,A6,H⟩ := qB H
    by_cases c7 : t402 = true
    ·subst c7
     replace H := qT H
     obtain rfl := Option.some.inj H
     try go_wp2
     replace BK400 := y0.mk (y9 BK400.out)
     replace HB := y0.mk (y3 HB.out)
     have p401 : 0 ≤ (x5_1 : Int) := of_decide_eq_true qy1
     have q401 : x5_1 < (l0.length : Int) := of_decide_eq_true qy1
     obtain ⟨ad401,A401_0,c401_0,e401,hx401_0,hl401_0,hi401_0⟩ := at_T48 HR0.out x5_1 p401 q401
     have hw401_0 := hx401_0
     cases e401
     replace hx401_0 := (HB.out.cell (World.block_lt_of_cell? w _ hx401_0)).trans hx401_0
     have HR401_0 := y0.mk hi401_0
     have HC401_0 := y0.mk hl401_0
     clear hi401_0 hl401_0
     replace p401 := eq_true p401
     replace q401 := eq_true q401
     refine start_ (n := 6) (S := fun w' => w'.cell? ⟨gb400,0,none⟩ = some (.slice A1_0 l1_0.length c1_0) ∧ w'.cell? (ad401.add (x5_1).toNat) = some (.slice A401_0 ((y21 l0 x5_1).f0).length c401_0)) (ds := []) #[false,false,false,false,false,false] (by kernel_rfl) rfl rfl ⟨(y8 BK400.out 0).trans rfl,((HB.out.cell (World.block_lt_of_cell? w _ hw401_0)).trans hw401_0)⟩ (fun hHeld => ?_)
     generalize wr.drew = w8 at BK400 HB HR401_0 hx401_0 hHeld ⊢
     refine y20 (i := 0) (N := some 12) (v := ?_) (a' := ?_) #[true,false,false,false,false,false] rfl rfl (by kernel_rfl) (fun _ _ _ h => h) (Or.inl ⟨by rfl, ?_⟩) ?_ ?_
     rotate_left
     ·intro w'
      go_simp
      with_reducible rfl
     rotate_left
     ·simp only [Act.put,qS_,qZ_,qC_,y19,y18]
      rfl
     refine y20 (i := 1) (N := some 13) (v := ?_) (a' := ?_) #[true,true,false,false,false,false] rfl rfl (by kernel_rfl) (fun _ _ _ h => h) (Or.inl ⟨by rfl, ?_⟩) ?_ ?_
     rotate_left
     ·intro w'
      go_simp
      with_reducible rfl
     rotate_left
     ·simp only [Act.put,qS_,qZ_,qC_,y19,y18]
      rfl
     refine y20 (i := 2) (N := some 14) (v := ?_) (a' := ?_) #[true,true,true,false,false,false] rfl rfl (by kernel_rfl) (fun _ _ _ h => h) (Or.inl ⟨by rfl, ?_⟩) ?_ ?_
     rotate_left
     ·intro w'
      go_simp
      with_reducible rfl
     rotate_left
     ·simp only [Act.put,qS_,qZ_,qC_,y19,y18]
      rfl
     refine take_ (i := 3) (N := some 15) (v := ?_) (a' := ?_) #[true,true,true,true,false,false] rfl rfl (by kernel_rfl) (fun _ _ _ h => h) (Or.inl ⟨by rfl, ?_⟩) hHeld ?_ ?_
     rotate_left
     ·rintro w' ⟨s0,s1⟩
      go_simp
      with_reducible rfl
     rotate_left
     ·simp only [Act.put,qS_,qZ_,qC_,y19,y18]
      rfl
     refine take_ (i := 4) (N := some 16) (v := ?_) (a' := ?_) #[true,true,true,true,true,false] rfl rfl (by kernel_rfl) (fun _ _ _ h => h) (Or.inl ⟨by rfl, ?_⟩) hHeld ?_ ?_
     rotate_left
     ·rintro w' ⟨s0,s1⟩
      go_simp
      with_reducible rfl
     rotate_left
     ·simp only [Act.put,qS_,qZ_,qC_,y19,y18]
      rfl
     refine one_ (i := 5) (N := some 17) #[true,true,true,true,true,true] rfl rfl (by kernel_rfl) (by decide) (fun K hK => ?_)
     refine goes_ Tryz.func34 (by kernel_rfl) rfl #[.agg #[.slice A401_0 ((y21 l0 x5_1).f0).length c401_0],.agg #[.slice A1_0 l1_0.length c1_0]] (by rfl) rfl rfl qy0 ?_
     with_reducible refine (spec_l02Same.calls k1 _ _ ((y21 l0 x5_1).f0) _ _ l1_0 true _ (qc (Kd.C_below HR401_0.out HB.out)) HC401_0.out (qc (Kd.C_below HR1_0.out HB.out)) HC1_0.out A6.out).mono ?_
     rintro e w9 ⟨rfl,hb⟩
     refine ⟨_,rfl, ?_⟩
     replace BK400 := y0.mk (qK BK400.out hb)
     replace HB := y0.mk (y5 qb hb)
     (try clear hb)
     (try clear hb2)
     (try clear hk)
     (try clear hi)
     refine hK.out _ _ ⟨(y8 BK400.out 0).trans rfl,((HB.out.cell (World.block_lt_of_cell? w _ hw401_0)).trans hw401_0)⟩ (fun hHeld => ?_)
     clear hK K
     refine norm_ (a' := ?_) ?_ ?_
     rotate_left
     ·show Act.put _ (some 17) _ = _
      simp only [Act.put,qS_,qZ_,qC_,y19,y18]
      rfl
     refine done_ (by kernel_rfl) ?_
     try go_wp2
     go_ret
     exact ⟨by first | rfl | (simp [y13,y14] <;> rfl) | (simp [*,y13,y14] <;> rfl),qb⟩
    ·replace c7 := Bool.eq_false_iff.mpr c7
     subst c7
     replace H := qF H
     have H' := y0.mk H
     clear H
     try go_wp2
     replace BK400 := y0.mk (y9 BK400.out)
     replace HB := y0.mk (y3 HB.out)
     have p401 : 0 ≤ (x5_1 : Int) := of_decide_eq_true qy1
     have q401 : x5_1 < (l0.length : Int) := of_decide_eq_true qy1
     obtain ⟨ad401,A401_0,c401_0,e401,hx401_0,hl401_0,hi401_0⟩ := at_T48 HR0.out x5_1 p401 q401
     have hw401_0 := hx401_0
     cases e401
     replace hx401_0 := (HB.out.cell (World.block_lt_of_cell? w _ hx401_0)).trans hx401_0
     have HR401_0 := y0.mk hi401_0
     have HC401_0 := y0.mk hl401_0
     clear hi401_0 hl401_0
     replace p401 := eq_true p401
     replace q401 := eq_true q401
     refine start_ (n := 6) (S := fun w' => w'.cell? ⟨gb400,0,none⟩ = some (.slice A1_0 l1_0.length c1_0) ∧ w'.cell? (ad401.add (x5_1).toNat) = some (.slice A401_0 ((y21 l0 x5_1).f0).length c401_0)) (ds := []) #[false,false,false,false,false,false] (by kernel_rfl) rfl rfl ⟨(y8 BK400.out 0).trans rfl,((HB.out.cell (World.block_lt_of_cell? w _ hw401_0)).trans hw401_0)⟩ (fun hHeld => ?_)
     generalize wr.drew = w10 at BK400 HB HR401_0 hx401_0 hHeld ⊢
     refine y20 (i := 0) (N := some 12) (v := ?_) (a' := ?_) #[true,false,false,false,false,false] rfl rfl (by kernel_rfl) (fun _ _ _ h => h) (Or.inl ⟨by rfl, ?_⟩) ?_ ?_
     rotate_left
     ·intro w'
      go_simp
      with_reducible rfl
     rotate_left
     ·simp only [Act.put,qS_,qZ_,qC_,y19,y18]
      rfl
     refine y20 (i := 1) (N := some 13) (v := ?_) (a' := ?_) #[true,true,false,false,false,false] rfl rfl (by kernel_rfl) (fun _ _ _ h => h) (Or.inl ⟨by rfl, ?_⟩) ?_ ?_
     rotate_left
     ·intro w'
      go_simp
      with_reducible rfl
     rotate_left
     ·simp only [Act.put,qS_,qZ_,qC_,y19,y18]
      rfl
     refine y20 (i := 2) (N := some 14) (v := ?_) (a' := ?_) #[true,true,true,false,false,false] rfl rfl (by kernel_rfl) (fun _ _ _ h => h) (Or.inl ⟨by rfl, ?_⟩) ?_ ?_
     rotate_left
     ·intro w'
      go_simp
      with_reducible rfl
     rotate_left
     ·simp only [Act.put,qS_,qZ_,qC_,y19,y18]
      rfl
     refine take_ (i := 3) (N := some 15) (v := ?_) (a' := ?_) #[true,true,true,true,false,false] rfl rfl (by kernel_rfl) (fun _ _ _ h => h) (Or.inl ⟨by rfl, ?_⟩) hHeld ?_ ?_
     rotate_left
     ·rintro w' ⟨s0,s1⟩
      go_simp
      with_reducible rfl
     rotate_left
     ·simp only [Act.put,qS_,qZ_,qC_,y19,y18]
      rfl
     refine take_ (i := 4) (N := some 16) (v := ?_) (a' := ?_) #[true,true,true,true,true,false] rfl rfl (by kernel_rfl) (fun _ _ _ h => h) (Or.inl ⟨by rfl, ?_⟩) hHeld ?_ ?_
     rotate_left
     ·rintro w' ⟨s0,s1⟩
      go_simp
      with_reducible rfl
     rotate_left
     ·simp only [Act.put,qS_,qZ_,qC_,y19,y18]
      rfl
     refine one_ (i := 5) (N := some 17) #[true,true,true,true,true,true] rfl rfl (by kernel_rfl) (by decide) (fun K hK => ?_)
     refine goes_ Tryz.func34 (by kernel_rfl) rfl #[.agg #[.slice A401_0 ((y21 l0 x5_1).f0).length c401_0],.agg #[.slice A1_0 l1_0.length c1_0]] (by rfl) rfl rfl qy0 ?_
     with_reducible refine (spec_l02Same.calls k1 _ _ ((y21 l0 x5_1).f0) _ _ l1_0 false _ (qc (Kd.C_below HR401_0.out HB.out)) HC401_0.out (qc (Kd.C_below HR1_0.out HB.out)) HC1_0.out A6.out).mono ?_
     rintro e w11 ⟨rfl,hb⟩
     refine ⟨_,rfl, ?_⟩
     replace BK400 := y0.mk (qK BK400.out hb)
     replace HB := y0.mk (y5 qb hb)
     (try clear hb)
     (try clear hb2)
     (try clear hk)
     (try clear hi)
     refine hK.out _ _ ⟨(y8 BK400.out 0).trans rfl,((HB.out.cell (World.block_lt_of_cell? w _ hw401_0)).trans hw401_0)⟩ (fun hHeld => ?_)
     clear hK K
     refine norm_ (a' := ?_) ?_ ?_
     rotate_left
     ·show Act.put _ (some 17) _ = _
      simp only [Act.put,qS_,qZ_,qC_,y19,y18]
      rfl
     refine done_ (by kernel_rfl) ?_
     try go_wp2
     go_roundg k1
     case measure => have := HK1.out; omega
     exact ⟨(wrap64 (x5_1 + 1)),qy2,H',⟨by have := HK1.out; omega⟩,⟨qk BK400.out⟩,⟨qb⟩⟩
   ·rw [if_neg c4] at H
    have c4b0 := decide_eq_false c4
    clear c4
    obtain rfl := Option.some.inj H
    go_wp2
    go_ret
    exact ⟨by first | rfl | (simp [y13,y14] <;> rfl) | (simp [*,y13,y14] <;> rfl),qb⟩
end Go.Proofs.YtocmfolajckaeaaGreatDoor.Pe
end
section
namespace Go.Proofs.YtocmfolajckaeaaGreatDoor.Pe
open Go.RowKit Go.Proofs.YtocmfolajckaeaaGreatDoorW.PrintWords Go.Proofs.YtocmfolajckaeaaGreatDoorW.PrintLast Go.Proofs.YtocmfolajckaeaaGreatDoorW.PrintMore
attribute [local go_sem] max2_int min2_int max_two min_two max_three min_three max_four min_four   -- for this text's walks alone
set_option linter.unusedVariables false
set_option linter.unusedSimpArgs false
mutual
def z3_.j0 : Nat → Bool → Int → List (S48) → Int → List (S48) → Option (Int × (List (S48)))
 | 0,_,_,_,_,_ => none
 | k + 1,x21,x404000,x404001,x405000,x405001 => if x21 = true then (some (0,([] : List (S48)))) else (z3_.l0 k 0 x404000 x404001 x405000 x405001 x404000 ([] : List (S48)))
def z3_.l0 : Nat → Int → Int → List (S48) → Int → List (S48) → Int → List (S48) → Option (Int × (List (S48)))
 | 0,_,_,_,_,_,_,_ => none
 | k + 1,x6,x404000,x404001,x405000,x405001,x409000,x409001 => if x6 < (x404001.length : Int) then (if 0 ≤ x6 then ((spec_l02Has.f k x405001 ((y21 x404001 x6).f0)).bind fun t410 => (if t410 = true then (z3_.l0 k (wrap64 (x6 + 1)) x404000 x404001 x405000 x405001 x409000 x409001) else ((spec_l02Tuple.f ((y21 x404001 x6).f0)).bind fun t412 => (if x409001.length < 5864062014805 then (z3_.l0 k (wrap64 (x6 + 1)) x404000 x404001 x405000 x405001 x409000 (x409001 ++ [(⟨t412⟩ : S48)])) else (none))))) else (none)) else (some (x409000,x409001))
end
def z3_.f (k : Nat) (a0_0 : Int) (l0_1 : List (S48)) (a1_0 : Int) (l1_1 : List (S48)) : Option (Int × (List (S48))) := (spec_RelOk.f k a0_0 l0_1).bind fun t406 => (if t406 = true then ((spec_RelOk.f k a1_0 l1_1).bind fun t407 => (if t407 = true then (z3_.j0 k (a0_0 != a1_0) a0_0 l0_1 a1_0 l1_1) else (z3_.j0 k true a0_0 l0_1 a1_0 l1_1))) else (z3_.j0 k true a0_0 l0_1 a1_0 l1_1))
def z3_.T7 : Bool × List (List Nat × List Nat) := (true,[([],[]),([0],[0]),([],[]),([2],[2]),([],[]),([3,4],[3,4]),([5],[5]),([1,6],[1,6]),([7],[7])])
def z3_.B7 : List Nat := [0,1,0,4,0,28,60,127,255]
theorem z3_.tab7 : rtab .any (opsOf Tryz.f20 7) = z3_.T7 := by kernel_rfl
theorem z3_.bits7 : waitsOk z3_.T7.2 z3_.B7 = true := by kernel_rfl
def z3_.T8 : Bool × List (List Nat × List Nat) := (true,[([],[]),([0],[0]),([],[]),([2],[2]),([],[]),([3,4],[3,4]),([5],[5]),([6],[6]),([7],[7]),([1,8,7],[1,8]),([0,1,2,3,4,5,6,7,8,9],[]),([10,9,9,0,1,2,3,4,5,6,7,8,9],[9,10])])
def z3_.B8 : List Nat := [0,1,0,4,0,28,60,124,252,511,1023,2047]
theorem z3_.tab8 : rtab .any (opsOf Tryz.f20 8) = z3_.T8 := by kernel_rfl
theorem z3_.bits8 : waitsOk z3_.T8.2 z3_.B8 = true := by kernel_rfl
set_option maxHeartbeats 8000000 in
set_option maxRecDepth 100000 in
theorem z3_.calls (k : Nat) (a0_0 : Int) (A0_1 : Option Addr) (c0_1 : Nat) (l0_1 : List (S48)) (a1_0 : Int) (A1_1 : Option Addr) (c1_1 : Nat) (l1_1 : List (S48)) (r1 : Int) (r2 : List (S48)) (w : World) (hr0_1 : Kd.C k48 w A0_1 l0_1.length l0_1) (hc0_1 : l0_1.length ≤ c0_1) (hr1_1 : Kd.C k48 w A1_1 l1_1.length l1_1) (hc1_1 : l1_1.length ≤ c1_1) (h : z3_.f k a0_0 l0_1 a1_0 l1_1 = some (r1,r2)) :
  Calls Tryz.prog 20 #[.agg #[.int .i64 a0_0,.slice A0_1 l0_1.length c0_1],.agg #[.int .i64 a1_0,.slice A1_1 l1_1.length c1_1]] w fun e w' => ∃ v1_ : Value,e = .returned (.agg #[.int .i64 r1,v1_]) ∧ Kd.S k48 48 w' w.heap.size (fun _ => True) v1_ r2 ∧ Below w.heap.size w w' := by
 have hu31 := Tryz.underlying31
 have hu48 := Tryz.underlying48
 have HR0_1 := y0.mk hr0_1
 have HC0_1 := y0.mk hc0_1
 clear hr0_1 hc0_1
 have HR1_1 := y0.mk hr1_1
 have HC1_1 := y0.mk hc1_1
 clear hr1_1 hc1_1
 have HB := y0.mk (Below.refl w.heap.size w)
 have H : ((spec_RelOk.f k a0_0 l0_1).bind fun t406 => (if t406 = true then ((spec_RelOk.f k a1_0 l1_1).bind fun t407 => (if t407 = true then (z3_.j0 k (a0_0 != a1_0) a0_0 l0_1 a1_0 l1_1) else (z3_.j0 k true a0_0 l0_1 a1_0 l1_1))) else (z3_.j0 k true a0_0 l0_1 a1_0 l1_1))) = some (r1,r2) := h
 clear h
 have HC3 := y0.mk H
 clear H
 go_enter Tryz.func20,Tryz.ntmps20
 go_upto_region 1 with (first | ((with_reducible refine y16 (N := 2) rfl ?_); refine qe 2 #[.int .i64 a0_0,.slice A0_1 l0_1.length c0_1] 31 ?_; intro gb403 hg w4 hbox hb; have BK403 := y0.mk (hbox); have GW403 := y0.mk (qg (w := w) hg); have GE403 := y0.mk (qg (w := w) hg); replace HB := y0.mk (y5 qb hb); clear hb hbox hg) | ((with_reducible refine y16 (N := 3) rfl ?_); refine qe 3 #[.int .i64 a1_0,.slice A1_1 l1_1.length c1_1] 31 ?_; intro gb404 hg w5 hbox hb; have BK404 := y0.mk (hbox); have GW404 := y0.mk (qg (w := w) hg); have GE404 := y0.mk (qg (w := w) hg); replace HB := y0.mk (y5 qb hb); have NB403_404 := y0.mk (qn BK403.out hg); have NB404_403 := y0.mk (qm BK403.out hg); replace BK403 := y0.mk (qK BK403.out hb); clear hb hbox hg) | ((with_reducible refine y16 (N := 4) rfl ?_); refine qe 4 #[.int .i64 0,.slice none 0 0] 31 ?_; intro gb405 hg w6 hbox hb; have BK405 := y0.mk (hbox); have GW405 := y0.mk (qg (w := w) hg); have GE405 := y0.mk (qg (w := w) hg); replace HB := y0.mk (y5 qb hb); have NB403_405 := y0.mk (qn BK403.out hg); have NB405_403 := y0.mk (qm BK403.out hg); replace BK403 := y0.mk (qK BK403.out hb); have NB404_405 := y0.mk (qn BK404.out hg); have NB405_404 := y0.mk (qm BK404.out hg); replace BK404 := y0.mk (qK BK404.out hb); clear hb hbox hg))
 (try simp only [Act.put,qS_,qZ_,qC_])
 go_cut [21] (fun v21 wc => ∃ (kq : Nat) (x21_2 : Bool),v21 = .bool x21_2 ∧ y0 (z3_.j0 kq x21_2 a0_0 l0_1 a1_0 l1_1 = some (r1,r2)) ∧ y0 (kq ≤ k) ∧ y0 (wc.heap[gb403]? = some (.cells #[.int .i64 a0_0,(.slice A0_1 l0_1.length c0_1)] 31 (0,0))) ∧ y0 (wc.heap[gb404]? = some (.cells #[.int .i64 a1_0,(.slice A1_1 l1_1.length c1_1)] 31 (0,0))) ∧ y0 (wc.heap[gb405]? = some (.cells #[.int .i64 0,(.slice none 0 0)] 31 (0,0))) ∧ y0 (Below w.heap.size w wc))
 case first =>
  have H := HC3.out
  clear HC3
  obtain ⟨t406,A7,H⟩ := qB H
  by_cases c8 : t406 = true
  ·subst c8
   replace H := qT H
   obtain ⟨t407,A9,H⟩ := qB H
   by_cases c10 : t407 = true
   ·subst c10
    replace H := qT H
    have H' := y0.mk H
    clear H
    have hnb11 := NB403_404.out
    have hnc11 := NB404_403.out
    have hnb12 := NB403_405.out
    have hnc12 := NB405_403.out
    obtain ⟨hcz13_0,hcz13_1,hfz13_0,hfz13_1⟩ := qz2 BK403.out
    go_wp2_with (first | ((with_reducible refine y15 (f := 25) rfl ?_); refine y17 (some 8) rfl rfl Tryz.func25 (by kernel_rfl) rfl #[.agg #[.int .i64 a0_0,.slice A0_1 l0_1.length c0_1]] rfl qy0 ?_; (with_reducible refine (spec_RelOk.calls k a0_0 _ _ l0_1 true _ (qc (Kd.C_below HR0_1.out HB.out)) HC0_1.out A7.out).mono ?_); rintro e w14 ⟨rfl,hb⟩; refine ⟨_,rfl, ?_⟩; replace BK403 := y0.mk (qK BK403.out hb); replace BK404 := y0.mk (qK BK404.out hb); replace BK405 := y0.mk (qK BK405.out hb); replace HB := y0.mk (y5 qb hb); (try clear hb); (try clear hb2); (try clear hk); (try clear hi); have hnb15 := NB404_405.out; have hnc15 := NB405_404.out; obtain ⟨hcz16_0,hcz16_1,hfz16_0,hfz16_1⟩ := qz2 BK404.out) | (go_at_call 25; (with_reducible refine (spec_RelOk.calls k a1_0 _ _ l1_1 true _ (qc (Kd.C_below HR1_1.out HB.out)) HC1_1.out A9.out).mono ?_); rintro e w17 ⟨rfl,hb⟩; replace BK403 := y0.mk (qK BK403.out hb); replace BK404 := y0.mk (qK BK404.out hb); replace BK405 := y0.mk (qK BK405.out hb); replace HB := y0.mk (y5 qb hb); (try clear hb); (try clear hb2); (try clear hk); (try clear hi); obtain ⟨hcz18_0,hcz18_1,hfz18_0,hfz18_1⟩ := qz2 BK403.out; obtain ⟨hcz19_0,hcz19_1,hfz19_0,hfz19_1⟩ := qz2 BK404.out))
    go_meet
    exact ⟨_,((a0_0 != a1_0)),qy2,H',⟨by first | omega | exact Nat.le_refl _⟩,⟨qk BK403.out⟩,⟨qk BK404.out⟩,⟨qk BK405.out⟩,⟨qb⟩⟩
   ·replace c10 := Bool.eq_false_iff.mpr c10
    subst c10
    replace H := qF H
    have H' := y0.mk H
    clear H
    have hnb20 := NB403_404.out
    have hnc20 := NB404_403.out
    have hnb21 := NB403_405.out
    have hnc21 := NB405_403.out
    obtain ⟨hcz22_0,hcz22_1,hfz22_0,hfz22_1⟩ := qz2 BK403.out
    go_wp2_with (first | ((with_reducible refine y15 (f := 25) rfl ?_); refine y17 (some 8) rfl rfl Tryz.func25 (by kernel_rfl) rfl #[.agg #[.int .i64 a0_0,.slice A0_1 l0_1.length c0_1]] rfl qy0 ?_; (with_reducible refine (spec_RelOk.calls k a0_0 _ _ l0_1 true _ (qc (Kd.C_below HR0_1.out HB.out)) HC0_1.out A7.out).mono ?_); rintro e w23 ⟨rfl,hb⟩; refine ⟨_,rfl, ?_⟩; replace BK403 := y0.mk (qK BK403.out hb); replace BK404 := y0.mk (qK BK404.out hb); replace BK405 := y0.mk (qK BK405.out hb); replace HB := y0.mk (y5 qb hb); (try clear hb); (try clear hb2); (try clear hk); (try clear hi); have hnb24 := NB404_405.out; have hnc24 := NB405_404.out; obtain ⟨hcz25_0,hcz25_1,hfz25_0,hfz25_1⟩ := qz2 BK404.out) | (go_at_call 25; (with_reducible refine (spec_RelOk.calls k a1_0 _ _ l1_1 false _ (qc (Kd.C_below HR1_1.out HB.out)) HC1_1.out A9.out).mono ?_); rintro e w26 ⟨rfl,hb⟩; replace BK403 := y0.mk (qK BK403.out hb); replace BK404 := y0.mk (qK BK404.out hb); replace BK405 := y0.mk (qK BK405.out hb); replace HB := y0.mk (y5 qb hb); (try clear hb); (try clear hb2); (try clear hk); (try clear hi)))
    go_meet
    exact ⟨_,(true),qy2,H',⟨by first | omega | exact Nat.le_refl _⟩,⟨qk BK403.out⟩,⟨qk BK404.out⟩,⟨qk BK405.out⟩,⟨qb⟩⟩
  ·replace c8 := Bool.eq_false_iff.mpr c8
   subst c8
   replace H := qF H
   have H' := y0.mk H
   clear H
   have hnb27 := NB403_404.out
   have hnc27 := NB404_403.out
   have hnb28 := NB403_405.out
   have hnc28 := NB405_403.out
   obtain ⟨hcz29_0,hcz29_1,hfz29_0,hfz29_1⟩ := qz2 BK403.out
   go_wp2_with (first | ((with_reducible refine y15 (f := 25) rfl ?_); refine y17 (some 8) rfl rfl Tryz.func25 (by kernel_rfl) rfl #[.agg #[.int .i64 a0_0,.slice A0_1 l0_1.length c0_1]] rfl qy0 ?_; (with_reducible refine (spec_RelOk.calls k a0_0 _ _ l0_1 false _ (qc (Kd.C_below HR0_1.out HB.out)) HC0_1.out A7.out).mono ?_); rintro e w30 ⟨rfl,hb⟩; refine ⟨_,rfl, ?_⟩; replace BK403 := y0.mk (qK BK403.out hb); replace BK404 := y0.mk (qK BK404.out hb); replace BK405 := y0.mk (qK BK405.out hb); replace HB := y0.mk (y5 qb hb); (try clear hb); (try clear hb2); (try clear hk); (try clear hi)))
   go_meet
   exact ⟨_,(true),qy2,H',⟨by first | omega | exact Nat.le_refl _⟩,⟨qk BK403.out⟩,⟨qk BK404.out⟩,⟨qk BK405.out⟩,⟨qb⟩⟩
 case rest =>
  clear HC3
  obtain ⟨kq,x21_2,rfl,HA,HJ2,BK403,BK404,BK405,HB⟩ := hcut
  cases kq with
  | zero => exact absurd HA.out (by simp [z3_.j0])
  | succ kj2 =>
   have H := HA.out
   clear HA
   simp only [z3_.j0] at H
   by_cases c31 : x21_2 = true
   ·subst c31
    replace H := qT H
    simp only [Option.some.injEq,Prod.mk.injEq] at H
    obtain ⟨rfl,rfl⟩ := H
    have hnb32 := NB405_403.out
    have hnc32 := NB403_405.out
    have hnb33 := NB405_404.out
    have hnc33 := NB404_405.out
    obtain ⟨hcz34_0,hcz34_1,hfz34_0,hfz34_1⟩ := qz2 BK405.out
    go_wp2
    refine bodyPost_ret (results_cell_row rfl _ _ gb405 31 #[.int .i64 0,.slice none 0 0] (0,0) _ rfl (by (with_reducible repeat (first | refine y10 ?_ _ | refine y9 ?_ | refine y6 ?_ _)); refine blk_put (cs := #[.int .i64 0,.slice none 0 0]) ?_ 1 _ rfl; (with_reducible repeat (first | refine y10 ?_ _ | refine y9 ?_ | refine y6 ?_ _)); refine blk_put (cs := #[.int .i64 0,.slice none 0 0]) ?_ 0 _ rfl; (with_reducible repeat (first | refine y10 ?_ _ | refine y9 ?_ | refine y6 ?_ _)); exact BK405.out) Tryz.underlying31 rfl (by kernel_rfl)) rfl ?_
    exact ⟨_,by first | rfl | (simp [y13,y14] <;> rfl) | (simp [*,y13,y14] <;> rfl),by first | exact Kd.S_nil _ _ _ _ _ | exact Kd.N_nil _ _ _ _ _ | exact Kd.V_nil _ _ _ _ _ | exact Kd.Q_nil _ _ _ _ _ | exact Kd.R_nil _ _ _ _ _,qb⟩
   ·replace c31 := Bool.eq_false_iff.mpr c31
    subst c31
    replace H := qF H
    have H' := y0.mk H
    clear H
    have hnb35 := NB403_404.out
    have hnc35 := NB404_403.out
    have hnb36 := NB403_405.out
    have hnc36 := NB405_403.out
    obtain ⟨hcz37_0,hcz37_1,hfz37_0,hfz37_1⟩ := qz2 BK403.out
    go_wp2_with (first | ((with_reducible refine y16 (N := 5) rfl ?_); refine qe 5 #[.int .i64 0,.slice none 0 0] 31 ?_; intro gb408 hg w38 hbox hb; have BK408 := y0.mk (hbox); have GW408 := y0.mk (qg (w := w) hg); have GE408 := y0.mk (qg (w := w) hg); replace HB := y0.mk (y5 qb hb); have NB403_408 := y0.mk (qn BK403.out hg); have NB408_403 := y0.mk (qm BK403.out hg); replace BK403 := y0.mk (qK BK403.out hb); have NB404_408 := y0.mk (qn BK404.out hg); have NB408_404 := y0.mk (qm BK404.out hg); replace BK404 := y0.mk (qK BK404.out hb); have NB405_408 := y0.mk (qn BK405.out hg); have NB408_405 := y0.mk (qm BK405.out hg); replace BK405 := y0.mk (qK BK405.out hb); clear hb hbox hg; have hnb39 := NB408_403.out; have hnc39 := NB403_408.out; have hnb40 := NB408_404.out; have hnc40 := NB404_408.out; have hnb41 := NB408_405.out; have hnc41 := NB405_408.out; obtain ⟨hcz42_0,hcz42_1,hfz42_0,hfz42_1⟩ := qz2 BK408.out))
    go_loopg [6] kj2 (fun kq v6 w' => ∃ (x6_2 : Int) (x409001_2 : List (S48)) (u409001 : Value),v6 = .int .i64 x6_2 ∧ y0 (z3_.l0 kq x6_2 a0_0 l0_1 a1_0 l1_1 a0_0 x409001_2 = some (r1,r2)) ∧ y0 (kq ≤ kj2) ∧ y0 (Kd.S k48 48 w' w.heap.size (fun _ => True) u409001 x409001_2) ∧ y0 (w'.heap[gb403]? = some (.cells #[.int .i64 a0_0,(.slice A0_1 l0_1.length c0_1)] 31 (0,0))) ∧ y0 (w'.heap[gb404]? = some (.cells #[.int .i64 a1_0,(.slice A1_1 l1_1.length c1_1)] 31 (0,0))) ∧ y0 (w'.heap[gb405]? = some (.cells #[.int .i64 0,(.slice none 0 0)] 31 (0,0))) ∧ y0 (w'.heap[gb408]? = some (.cells #[.int .i64 a0_0,u409001] 31 (0,0))) ∧ y0 (Below w.heap.size w w'))
    case atStart => exact ⟨(0),(([] : List (S48))),(.slice none 0 0),qy2,H',⟨Nat.le_refl _⟩,⟨by first | exact Kd.S_nil _ _ _ _ _ | exact Kd.N_nil _ _ _ _ _ | exact Kd.V_nil _ _ _ _ _ | exact Kd.Q_nil _ _ _ _ _ | exact Kd.R_nil _ _ _ _ _⟩,⟨by (with_reducible repeat (first | refine y10 ?_ _ | refine y9 ?_ | refine y6 ?_ _)); refine y11 ?_ NB403_408.out _; (with_reducible repeat (first | refine y10 ?_ _ | refine y9 ?_ | refine y6 ?_ _)); refine y11 ?_ NB403_408.out _; (with_reducible repeat (first | refine y10 ?_ _ | refine y9 ?_ | refine y6 ?_ _)); exact BK403.out⟩,⟨by (with_reducible repeat (first | refine y10 ?_ _ | refine y9 ?_ | refine y6 ?_ _)); refine y11 ?_ NB404_408.out _; (with_reducible repeat (first | refine y10 ?_ _ | refine y9 ?_ | refine y6 ?_ _)); refine y11 ?_ NB404_408.out _; (with_reducible repeat (first | refine y10 ?_ _ | refine y9 ?_ | refine y6 ?_ _)); exact BK404.out⟩,⟨by (with_reducible repeat (first | refine y10 ?_ _ | refine y9 ?_ | refine y6 ?_ _)); refine y11 ?_ NB405_408.out _; (with_reducible repeat (first | refine y10 ?_ _ | refine y9 ?_ | refine y6 ?_ _)); refine y11 ?_ NB405_408.out _; (with_reducible repeat (first | refine y10 ?_ _ | refine y9 ?_ | refine y6 ?_ _)); exact BK405.out⟩,⟨by (with_reducible repeat (first | refine y10 ?_ _ | refine y9 ?_ | refine y6 ?_ _)); refine blk_put (cs := #[.int .i64 a0_0,.slice none 0 0]) ?_ 1 _ rfl; (with_reducible repeat (first | refine y10 ?_ _ | refine y9 ?_ | refine y6 ?_ _)); refine blk_put (cs := #[.int .i64 0,.slice none 0 0]) ?_ 0 _ rfl; (with_reducible repeat (first | refine y10 ?_ _ | refine y9 ?_ | refine y6 ?_ _)); exact BK408.out⟩,⟨qb⟩⟩
    case round =>
     clear H'
     (try clear c31 hcz37_0 hcz37_1 hcz42_0 hcz42_1 hfz37_0 hfz37_1 hfz42_0 hfz42_1)
     obtain ⟨x6_2,x409001_2,u409001,rfl,HA,HK2,HO_409001,BK403,BK404,BK405,BK408,HB⟩ := hrel
     cases gk with
     | zero => exact absurd HA.out (by simp [z3_.l0])
     | succ k2 =>
      have H := HA.out
      clear HA
      simp only [z3_.l0] at H
      by_cases c43 : x6_2 < (l0_1.length : Int)
      ·rw [if_pos c43] at H
       have c43b0 := decide_eq_true c43
       clear c43
       obtain ⟨c44,H⟩ := qo H
       have c44b0 : decide (0 ≤ x6_2) = true := decide_eq_true c44
       clear c44
       obtain ⟨t410,A45,H⟩ := qB H
       by_cases c46 : t410 = true
       ·subst c46
        replace H := qT H
        have H' := y0.mk H
        clear H
        have hnb47 := NB403_404.out
        have hnc47 := NB404_403.out
        have hnb48 := NB403_405.out
        have hnc48 := NB405_403.out
        have hnb49 := NB403_408.out
        have hnc49 := NB408_403.out
        obtain ⟨hcz50_0,hcz50_1,hfz50_0,hfz50_1⟩ := qz2 BK403.out
        try go_wp2
        replace HO_409001 := y0.mk (Kd.S_drew HO_409001.out)
        replace BK403 := y0.mk (y9 BK403.out)
        replace BK404 := y0.mk (y9 BK404.out)
        replace BK405 := y0.mk (y9 BK405.out)
        replace BK408 := y0.mk (y9 BK408.out)
        replace HB := y0.mk (y3 HB.out)
        have p409 : 0 ≤ (x6_2 : Int) := of_decide_eq_true qy1
        have q409 : x6_2 < (l0_1.length : Int) := of_decide_eq_true qy1
        obtain ⟨ad409,A409_0,c409_0,e409,hx409_0,hl409_0,hi409_0⟩ := at_T48 HR0_1.out x6_2 p409 q409
        have hw409_0 := hx409_0
        cases e409
        replace hx409_0 := (HB.out.cell (World.block_lt_of_cell? w _ hx409_0)).trans hx409_0
        have HR409_0 := y0.mk hi409_0
        have HC409_0 := y0.mk hl409_0
        clear hi409_0 hl409_0
        replace p409 := eq_true p409
        replace q409 := eq_true q409
        refine start_ (n := 9) (S := fun w' => w'.cell? ⟨gb404,0,none⟩ = some (.int .i64 a1_0) ∧ w'.cell? ⟨gb404,1,none⟩ = some (.slice A1_1 l1_1.length c1_1) ∧ w'.cell? ⟨gb403,0,none⟩ = some (.int .i64 a0_0) ∧ w'.cell? ⟨gb403,1,none⟩ = some (.slice (some ad409) l0_1.length c0_1) ∧ w'.cell? (ad409.add (x6_2).toNat) = some (.slice A409_0 ((y21 l0_1 x6_2).f0).length c409_0)) (ds := []) (fl_ 9 0) (by kernel_rfl) rfl rfl ⟨(y8 BK404.out 0).trans rfl,(y8 BK404.out 1).trans rfl,(y8 BK403.out 0).trans rfl,(y8 BK403.out 1).trans rfl,((HB.out.cell (World.block_lt_of_cell? w _ hw409_0)).trans hw409_0)⟩ (fun hHeld => ?_); refine with_tabW z3_.tab7 z3_.bits7 (fun HT_ HW_ => ?_)
        generalize wr.drew = w51 at HO_409001 BK403 BK404 BK405 BK408 HB HR409_0 hx409_0 hHeld ⊢
        refine qp 0 33 (fl_ 9 1) ?_
        refine qp 2 35 (fl_ 9 5) ?_
        refine qp 4 37 (fl_ 9 21) ?_
        refine qt 1 34 (fl_ 9 23) hHeld ?_
        refine qt 3 36 (fl_ 9 31) hHeld ?_
        refine qp 5 38 (fl_ 9 63) ?_
        refine qt 6 39 (fl_ 9 127) hHeld ?_
        refine one_ (i := 7) (N := some 40) (fl_ 9 255) rfl rfl (one_of HT_.out (by kernel_rfl)) (by decide) (fun K hK => ?_)
        refine goes_ Tryz.func42 (by kernel_rfl) rfl #[.slice A1_1 l1_1.length c1_1,.agg #[.slice A409_0 ((y21 l0_1 x6_2).f0).length c409_0]] (by rfl) rfl rfl qy0 ?_
        with_reducible refine (spec_l02Has.calls k2 _ _ l1_1 _ _ ((y21 l0_1 x6_2).f0) true _ (qc (Kd.C_below HR1_1.out HB.out)) HC1_1.out (qc (Kd.C_below HR409_0.out HB.out)) HC409_0.out A45.out).mono ?_
        rintro e w52 ⟨rfl,hb⟩
        refine ⟨_,rfl, ?_⟩
        replace HO_409001 := y0.mk (Kd.S_below (qS HO_409001.out) hb)
        replace BK403 := y0.mk (qK BK403.out hb)
        replace BK404 := y0.mk (qK BK404.out hb)
        replace BK405 := y0.mk (qK BK405.out hb)
        replace BK408 := y0.mk (qK BK408.out hb)
        replace HB := y0.mk (y5 qb hb)
        (try clear hb)
        (try clear hb2)
        (try clear hk)
        (try clear hi)
        refine hK.out _ _ ⟨(y8 BK404.out 0).trans rfl,(y8 BK404.out 1).trans rfl,(y8 BK403.out 0).trans rfl,(y8 BK403.out 1).trans rfl,((HB.out.cell (World.block_lt_of_cell? w _ hw409_0)).trans hw409_0)⟩ (fun hHeld => ?_)
        clear hK K
        refine norm_ (a' := ?_) ?_ ?_
        rotate_left
        ·show Act.put _ (some 40) _ = _
         simp only [Act.put,qS_,qZ_,qC_,y19,y18]
         rfl
        refine qp 8 41 (fl_ 9 511) ?_
        refine done_ (done_of HT_.out (by kernel_rfl)) ?_
        try go_wp2
        go_roundg k2
        case measure => have := HJ2.out; have := HK2.out; omega
        exact ⟨(wrap64 (x6_2 + 1)),(x409001_2),(u409001),qy2,H',⟨by have := HJ2.out; have := HK2.out; omega⟩,⟨qS HO_409001.out⟩,⟨qk BK403.out⟩,⟨qk BK404.out⟩,⟨qk BK405.out⟩,⟨qk BK408.out⟩,⟨qb⟩⟩
       ·replace c46 := Bool.eq_false_iff.mpr c46
        subst c46
        replace H := qF H
        obtain ⟨t412,A53,H⟩ := qB H
        obtain ⟨c54,H⟩ := qo H
        have LMc54 := y0.mk c54
        clear c54
        obtain ⟨y415,hy415⟩ : ∃ y_ : List (S48),y_ = (x409001_2 ++ [(⟨t412⟩ : S48)]) := ⟨_,rfl⟩
        replace H : (z3_.l0 k2 (wrap64 (x6_2 + 1)) a0_0 l0_1 a1_0 l1_1 a0_0 y415) = some (r1,r2) := by first | (rw [hy415]; with_reducible exact H) | (have H2_ := (Option.bind_some _ _).symm.trans H; rw [hy415]; with_reducible exact H2_) | (have H2_ := (Option.bind_some _ _).symm.trans H; with_reducible exact H2_) | with_reducible exact H | (rw [hy415]; exact H) | exact H
        have Ny415 := y0.mk hy415
        clear hy415
        have H' := y0.mk H
        clear H
        have hnb55 := NB403_404.out
        have hnc55 := NB404_403.out
        have hnb56 := NB403_405.out
        have hnc56 := NB405_403.out
        have hnb57 := NB403_408.out
        have hnc57 := NB408_403.out
        obtain ⟨hcz58_0,hcz58_1,hfz58_0,hfz58_1⟩ := qz2 BK403.out
        try go_wp2
        replace HO_409001 := y0.mk (Kd.S_drew HO_409001.out)
        replace BK403 := y0.mk (y9 BK403.out)
        replace BK404 := y0.mk (y9 BK404.out)
        replace BK405 := y0.mk (y9 BK405.out)
        replace BK408 := y0.mk (y9 BK408.out)
        replace HB := y0.mk (y3 HB.out)
        have p409 : 0 ≤ (x6_2 : Int) := of_decide_eq_true qy1
        have q409 : x6_2 < (l0_1.length : Int) := of_decide_eq_true qy1
        obtain ⟨ad409,A409_0,c409_0,e409,hx409_0,hl409_0,hi409_0⟩ := at_T48 HR0_1.out x6_2 p409 q409
        have hw409_0 := hx409_0
        cases e409
        replace hx409_0 := (HB.out.cell (World.block_lt_of_cell? w _ hx409_0)).trans hx409_0
        have HR409_0 := y0.mk hi409_0
        have HC409_0 := y0.mk hl409_0
        clear hi409_0 hl409_0
        replace p409 := eq_true p409
        replace q409 := eq_true q409
        refine start_ (n := 9) (S := fun w' => w'.cell? ⟨gb404,0,none⟩ = some (.int .i64 a1_0) ∧ w'.cell? ⟨gb404,1,none⟩ = some (.slice A1_1 l1_1.length c1_1) ∧ w'.cell? ⟨gb403,0,none⟩ = some (.int .i64 a0_0) ∧ w'.cell? ⟨gb403,1,none⟩ = some (.slice (some ad409) l0_1.length c0_1) ∧ w'.cell? (ad409.add (x6_2).toNat) = some (.slice A409_0 ((y21 l0_1 x6_2).f0).length c409_0)) (ds := []) (fl_ 9 0) (by kernel_rfl) rfl rfl ⟨(y8 BK404.out 0).trans rfl,(y8 BK404.out 1).trans rfl,(y8 BK403.out 0).trans rfl,(y8 BK403.out 1).trans rfl,((HB.out.cell (World.block_lt_of_cell? w _ hw409_0)).trans hw409_0)⟩ (fun hHeld => ?_); refine with_tabW z3_.tab7 z3_.bits7 (fun HT_ HW_ => ?_)
        generalize wr.drew = w59 at HO_409001 BK403 BK404 BK405 BK408 HB HR409_0 hx409_0 hHeld ⊢
        refine qp 0 33 (fl_ 9 1) ?_
        refine qp 2 35 (fl_ 9 5) ?_
        refine qp 4 37 (fl_ 9 21) ?_
        refine qt 1 34 (fl_ 9 23) hHeld ?_
        refine qt 3 36 (fl_ 9 31) hHeld ?_
        refine qp 5 38 (fl_ 9 63) ?_
        refine qt 6 39 (fl_ 9 127) hHeld ?_
        refine one_ (i := 7) (N := some 40) (fl_ 9 255) rfl rfl (one_of HT_.out (by kernel_rfl)) (by decide) (fun K hK => ?_)
        refine goes_ Tryz.func42 (by kernel_rfl) rfl #[.slice A1_1 l1_1.length c1_1,.agg #[.slice A409_0 ((y21 l0_1 x6_2).f0).length c409_0]] (by rfl) rfl rfl qy0 ?_
        with_reducible refine (spec_l02Has.calls k2 _ _ l1_1 _ _ ((y21 l0_1 x6_2).f0) false _ (qc (Kd.C_below HR1_1.out HB.out)) HC1_1.out (qc (Kd.C_below HR409_0.out HB.out)) HC409_0.out A45.out).mono ?_
        rintro e w60 ⟨rfl,hb⟩
        refine ⟨_,rfl, ?_⟩
        replace HO_409001 := y0.mk (Kd.S_below (qS HO_409001.out) hb)
        replace BK403 := y0.mk (qK BK403.out hb)
        replace BK404 := y0.mk (qK BK404.out hb)
        replace BK405 := y0.mk (qK BK405.out hb)
        replace BK408 := y0.mk (qK BK408.out hb)
        replace HB := y0.mk (y5 qb hb)
        (try clear hb)
        (try clear hb2)
        (try clear hk)
        (try clear hi)
        refine hK.out _ _ ⟨(y8 BK404.out 0).trans rfl,(y8 BK404.out 1).trans rfl,(y8 BK403.out 0).trans rfl,(y8 BK403.out 1).trans rfl,((HB.out.cell (World.block_lt_of_cell? w _ hw409_0)).trans hw409_0)⟩ (fun hHeld => ?_)
        clear hK K
        refine norm_ (a' := ?_) ?_ ?_
        rotate_left
        ·show Act.put _ (some 40) _ = _
         simp only [Act.put,qS_,qZ_,qC_,y19,y18]
         rfl
        refine qp 8 41 (fl_ 9 511) ?_
        refine done_ (done_of HT_.out (by kernel_rfl)) ?_
        try go_wp2
        replace HO_409001 := y0.mk (Kd.S_drew HO_409001.out)
        replace BK403 := y0.mk (y9 BK403.out)
        replace BK404 := y0.mk (y9 BK404.out)
        replace BK405 := y0.mk (y9 BK405.out)
        replace BK408 := y0.mk (y9 BK408.out)
        replace HB := y0.mk (y3 HB.out)
        have p411 : 0 ≤ (x6_2 : Int) := of_decide_eq_true qy1
        have q411 : x6_2 < (l0_1.length : Int) := of_decide_eq_true qy1
        obtain ⟨ad411,A411_0,c411_0,e411,hx411_0,hl411_0,hi411_0⟩ := at_T48 HR0_1.out x6_2 p411 q411
        have hw411_0 := hx411_0
        obtain rfl : ad409 = ad411 := (by injection e411)
        replace hx411_0 := (HB.out.cell (World.block_lt_of_cell? w _ hx411_0)).trans hx411_0
        have HR411_0 := y0.mk hi411_0
        have HC411_0 := y0.mk hl411_0
        clear hi411_0 hl411_0
        replace p411 := eq_true p411
        replace q411 := eq_true q411
        refine start_ (n := 12) (S := fun w' => w'.cell? ⟨gb408,0,none⟩ = some (.int .i64 a0_0) ∧ w'.cell? ⟨gb408,1,none⟩ = some (u409001) ∧ w'.cell? ⟨gb403,0,none⟩ = some (.int .i64 a0_0) ∧ w'.cell? ⟨gb403,1,none⟩ = some (.slice (some ad409) l0_1.length c0_1) ∧ w'.cell? (ad409.add (x6_2).toNat) = some (.slice A411_0 ((y21 l0_1 x6_2).f0).length c411_0)) (ds := [11]) (fl_ 12 0) (by kernel_rfl) rfl rfl ⟨(y8 BK408.out 0).trans rfl,(y8 BK408.out 1).trans rfl,(y8 BK403.out 0).trans rfl,(y8 BK403.out 1).trans rfl,((HB.out.cell (World.block_lt_of_cell? w _ hw411_0)).trans hw411_0)⟩ (fun hHeld => ?_); refine with_tabW z3_.tab8 z3_.bits8 (fun HT_ HW_ => ?_)
        generalize w60.drew = w61 at HO_409001 BK403 BK404 BK405 BK408 HB HR411_0 hx411_0 hHeld ⊢
        refine qp 0 42 (fl_ 12 1) ?_
        refine qp 2 44 (fl_ 12 5) ?_
        refine qp 4 46 (fl_ 12 21) ?_
        refine qt 1 43 (fl_ 12 23) hHeld ?_
        refine qt 3 45 (fl_ 12 31) hHeld ?_
        refine qp 5 47 (fl_ 12 63) ?_
        refine qt 6 48 (fl_ 12 127) hHeld ?_
        refine one_ (i := 7) (N := some 49) (fl_ 12 255) rfl rfl (one_of HT_.out (by kernel_rfl)) (by decide) (fun K hK => ?_)
        refine goes_ Tryz.func35 (by kernel_rfl) rfl #[.agg #[.slice A411_0 ((y21 l0_1 x6_2).f0).length c411_0]] (by rfl) rfl rfl qy0 ?_
        with_reducible refine (spec_l02Tuple.calls _ _ ((y21 l0_1 x6_2).f0) t412 _ (qc (Kd.C_below HR411_0.out HB.out)) HC411_0.out A53.out).mono ?_
        rintro e w62 ⟨v413,rfl,ho0,hb⟩
        refine ⟨_,rfl, ?_⟩
        replace HO_409001 := y0.mk (Kd.S_elder' (qS HO_409001.out) (Kd.R_base ho0) hb)
        have HO414 := y0.mk (Kd.R_lower ho0 (y4 qb))
        replace BK403 := y0.mk (qK BK403.out hb)
        replace BK404 := y0.mk (qK BK404.out hb)
        replace BK405 := y0.mk (qK BK405.out hb)
        replace BK408 := y0.mk (qK BK408.out hb)
        replace HB := y0.mk (y5 qb hb)
        (try clear hb)
        (try clear hb2)
        (try clear hk)
        (try clear hi)
        (try clear ho0)
        obtain ⟨Ao64,co64,eo64⟩ := Kd.R_slice HO414.out
        (first | subst eo64 | (injection eo64 with f1_ f2_ f3_; have f4_ := f1_.symm; have f5_ := f3_.symm; clear f1_ f2_ f3_; subst f4_; subst f5_))
        refine hK.out _ _ ⟨(y8 BK408.out 0).trans rfl,(y8 BK408.out 1).trans rfl,(y8 BK403.out 0).trans rfl,(y8 BK403.out 1).trans rfl,((HB.out.cell (World.block_lt_of_cell? w _ hw411_0)).trans hw411_0)⟩ (fun hHeld => ?_)
        clear hK K
        refine norm_ (a' := ?_) ?_ ?_
        rotate_left
        ·show Act.put _ (some 49) _ = _
         simp only [Act.put,qS_,qZ_,qC_,y19,y18]
         rfl
        refine one_ (i := 8) (N := some 50) (fl_ 12 511) rfl rfl (one_of HT_.out (by kernel_rfl)) (by decide) (fun K hK => ?_)
        refine value_ (w1 := ?_) (v := ?_) (by rfl) rfl ?_ ?_
        rotate_left 2
        ·go_simp
         constructor
         ·rfl
         ·rfl
        refine hK.out _ _ ⟨(y8 (y6 BK408.out _) 0).trans rfl,(y8 (y6 BK408.out _) 1).trans rfl,(y8 (y6 BK403.out _) 0).trans rfl,(y8 (y6 BK403.out _) 1).trans rfl,(World.cell?_alloc_lt _ _ _ (World.block_lt_of_cell? _ _ (((HB.out.cell (World.block_lt_of_cell? w _ hw411_0)).trans hw411_0)))).trans (((HB.out.cell (World.block_lt_of_cell? w _ hw411_0)).trans hw411_0))⟩ (fun hHeld => ?_)
        clear hK K
        refine norm_ (a' := ?_) ?_ ?_
        rotate_left
        ·show Act.put _ (some 50) _ = _
         simp only [Act.put,qS_,qZ_,qC_,y19,y18]
         rfl
        refine one_ (i := 9) (N := some 51) (fl_ 12 1023) rfl rfl (one_of HT_.out (by kernel_rfl)) (by decide) (fun K hK => ?_)
        refine Kd.S_append_step k48 (w0 := w) w.heap.size (by rfl) (.tmp 43) (.tmp 50) 28 48 (.agg #[(.slice none 0 0)]) 24 rfl Tryz.underlying28 info48 rfl (by decide) (by omega) u409001 x409001_2 (⟨t412⟩ : S48) [.slice Ao64 t412.length co64] (fun _ => True) (fun k_ => some k_ = (.slice Ao64 t412.length co64 : Value).ownBlock) rfl rfl ?aP (fun k_ hk_ => ((Kd.R_mono (ok' := fun k_ => ((fun _ => True)) k_ ∧ some k_ ≠ (u409001 : Value).ownBlock) (Kd.R_apart' (HO414.out) (Kd.S_typed HO_409001.out) (by decide)) (fun k_ hk => ⟨trivial,hk.2⟩))).1 k_ hk_.symm) ?aF ?aO ?aB ?aS ?aL ?_
        (case aP => exact k48_mkM _ _ _ (⟨t412⟩ : S48) (Kd.R_mono (Kd.R_tight rfl (Kd.R_mono (ok' := fun k_ => ((fun _ => True)) k_ ∧ some k_ ≠ (u409001 : Value).ownBlock) (Kd.R_apart' (HO414.out) (Kd.S_typed HO_409001.out) (by decide)) (fun k_ hk => ⟨trivial,hk.2⟩))) (fun _ h_ => h_)))
        (case aB => exact qb)
        (case aF => exact (fun _ _ => trivial))
        (case aO => exact (qS (Kd.S_mono HO_409001.out (fun k_ hk => ⟨trivial,fun e_ => hk.2 e_⟩))))
        (case aS => exact (y4 qb))
        (case aL => have := LMc54.out; omega)
        intro v416 w63 ho hb hg hat
        rw [← Ny415.out] at ho
        replace BK403 := y0.mk (blk_grown (qk BK403.out) hg (Kd.S_ne HO_409001.out BK403.out (by decide)))
        replace BK404 := y0.mk (blk_grown (qk BK404.out) hg (Kd.S_ne HO_409001.out BK404.out (by decide)))
        replace BK405 := y0.mk (blk_grown (qk BK405.out) hg (Kd.S_ne HO_409001.out BK405.out (by decide)))
        replace BK408 := y0.mk (blk_grown (qk BK408.out) hg (Kd.S_ne HO_409001.out BK408.out (by decide)))
        replace HB := y0.mk (hb)
        have HO417 := y0.mk (ho)
        clear HO_409001 HO414
        clear ho hb hg hat
        obtain ⟨Ao65,co65,eo65⟩ := Kd.S_slice HO417.out
        (first | subst eo65 | (injection eo65 with f1_ f2_ f3_; have f4_ := f1_.symm; have f5_ := f3_.symm; clear f1_ f2_ f3_; subst f4_; subst f5_))
        refine hK.out _ _ ⟨(y8 BK408.out 0).trans rfl,(y8 BK408.out 1).trans rfl,(y8 BK403.out 0).trans rfl,(y8 BK403.out 1).trans rfl,((HB.out.cell (World.block_lt_of_cell? w _ hw411_0)).trans hw411_0)⟩ (fun hHeld => ?_)
        clear hK K
        refine norm_ (a' := ?_) ?_ ?_
        rotate_left
        ·show Act.put _ (some 51) _ = _
         simp only [Act.put,qS_,qZ_,qC_,y19,y18]
         rfl
        refine qp 10 52 (fl_ 12 2047) ?_
        refine last_ (i := 11) (N := none) (fl_ 12 4095) rfl rfl (one_of HT_.out (by kernel_rfl)) (by decide) (fun K hK => ?_)
        have hs66 : w63.cell? ⟨gb408,1,none⟩ = some (u409001) := (y8 BK408.out 1).trans rfl
        have hfs66 := y12 BK408.out 1
        have hns66_0 := NB403_408.out
        have hns66_1 := NB404_408.out
        have hns66_2 := NB405_408.out
        have hms66_0 := NB408_403.out
        have hms66_1 := NB408_404.out
        have hms66_2 := NB408_405.out
        refine skip_ (w1 := ?_) (by rfl) rfl ?_ ?_
        rotate_left
        ·go_simp
         rfl
        refine hK.out _ _ ?_
        clear hK K
        refine done_ (done_of HT_.out (by kernel_rfl)) ?_
        try go_wp2
        go_roundg k2
        case measure => have := HJ2.out; have := HK2.out; omega
        exact ⟨(wrap64 (x6_2 + 1)),(y415),(.slice Ao65 y415.length co65),qy2,H',⟨by have := HJ2.out; have := HK2.out; omega⟩,⟨qS (Kd.S_mono (Kd.S_far (p := ⟨gb408,1,none⟩) (Kd.S_types HO417.out BK408.out (by decide)) (fun _ hk => hk.2) (.slice Ao65 y415.length co65)) (fun _ hk => trivial))⟩,⟨by (with_reducible repeat (first | refine y10 ?_ _ | refine y9 ?_ | refine y6 ?_ _)); refine y11 ?_ NB403_408.out _; (with_reducible repeat (first | refine y10 ?_ _ | refine y9 ?_ | refine y6 ?_ _)); exact BK403.out⟩,⟨by (with_reducible repeat (first | refine y10 ?_ _ | refine y9 ?_ | refine y6 ?_ _)); refine y11 ?_ NB404_408.out _; (with_reducible repeat (first | refine y10 ?_ _ | refine y9 ?_ | refine y6 ?_ _)); exact BK404.out⟩,⟨by (with_reducible repeat (first | refine y10 ?_ _ | refine y9 ?_ | refine y6 ?_ _)); refine y11 ?_ NB405_408.out _; (with_reducible repeat (first | refine y10 ?_ _ | refine y9 ?_ | refine y6 ?_ _)); exact BK405.out⟩,⟨by (with_reducible repeat (first | refine y10 ?_ _ | refine y9 ?_ | refine y6 ?_ _)); refine blk_put (cs := #[.int .i64 a0_0,u409001]) ?_ 1 _ rfl; (with_reducible repeat (first | refine y10 ?_ _ | refine y9 ?_ | refine y6 ?_ _)); exact BK408.out⟩,⟨qb⟩⟩
      ·rw [if_neg c43] at H
       have c43b0 := decide_eq_false c43
       clear c43
       simp only [Option.some.injEq,Prod.mk.injEq] at H
       obtain ⟨rfl,rfl⟩ := H
       have hnb67 := NB403_404.out
       have hnc67 := NB404_403.out
       have hnb68 := NB403_405.out
       have hnc68 := NB405_403.out
       have hnb69 := NB403_408.out
       have hnc69 := NB408_403.out
       obtain ⟨hcz70_0,hcz70_1,hfz70_0,hfz70_1⟩ := qz2 BK403.out
       have hnb71 := NB408_404.out
       have hnc71 := NB404_408.out
       have hnb72 := NB408_405.out
       have hnc72 := NB405_408.out
       obtain ⟨hcz73_0,hcz73_1,hfz73_0,hfz73_1⟩ := qz2 BK408.out
       have hnb74 := NB405_404.out
       have hnc74 := NB404_405.out
       obtain ⟨hcz75_0,hcz75_1,hfz75_0,hfz75_1⟩ := qz2 BK405.out
       obtain ⟨Ao76,co76,eo76⟩ := Kd.S_slice HO_409001.out
       subst eo76
       go_wp2
       refine bodyPost_ret (results_cell_row rfl _ _ gb405 31 #[.int .i64 a0_0,.slice Ao76 x409001_2.length co76] (0,0) _ rfl (by (with_reducible repeat (first | refine y10 ?_ _ | refine y9 ?_ | refine y6 ?_ _)); refine blk_put (cs := #[.int .i64 a0_0,.slice none 0 0]) ?_ 1 _ rfl; (with_reducible repeat (first | refine y10 ?_ _ | refine y9 ?_ | refine y6 ?_ _)); refine blk_put (cs := #[.int .i64 0,.slice none 0 0]) ?_ 0 _ rfl; (with_reducible repeat (first | refine y10 ?_ _ | refine y9 ?_ | refine y6 ?_ _)); exact BK405.out) Tryz.underlying31 rfl (by kernel_rfl)) rfl ?_
       exact ⟨_,by first | rfl | (simp [y13,y14] <;> rfl) | (simp [*,y13,y14] <;> rfl),by (with_reducible repeat (first | apply Kd.S_alloc | apply Kd.S_drewN | apply Kd.S_drew)); exact Kd.S_mono (Kd.S_far (p := ⟨gb405,1,none⟩) (Kd.S_far (p := ⟨gb405,0,none⟩) (Kd.S_types HO_409001.out BK405.out (by decide)) (fun _ hk => hk.2) (.int .i64 a0_0)) (fun _ hk => hk.2) (.slice Ao76 x409001_2.length co76)) (fun _ hk => trivial),qb⟩
end Go.Proofs.YtocmfolajckaeaaGreatDoor.Pe
end

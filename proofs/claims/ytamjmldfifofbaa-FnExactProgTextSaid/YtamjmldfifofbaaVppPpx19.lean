-- Cut by prune.py, a program of this session, out of the texts of this claim: Lean checks it.
import Derived.Test.YtamjmldfifofbaaVppPpx0
import Derived.Test.YtamjmldfifofbaaVppPpx17
import Derived.Test.YtamjmldfifofbaaVppPpx9
import Derived.Test.YtamjmldfifofbaaVppPpx14
import Derived.Test.YtamjmldfifofbaaVppPpx15
import Derived.Test.YtamjmldfifofbaaVppPpx16
section
namespace Go.Proofs.Ytamjmldfifofbaa.Pp
open Go.RowKit Go.Proofs.YtamjmldfifofbaaW.PrintWords Go.Proofs.YtamjmldfifofbaaW.PrintLast Go.Proofs.YtamjmldfifofbaaW.PrintMore
attribute [local go_sem] max2_int min2_int max_two min_two max_three min_three max_four min_four   -- for this text's walks alone
set_option linter.unusedVariables false
set_option linter.unusedSimpArgs false
def laws_eqTypeDeclS.l0 : Nat → List (S78) → List (S78) → Int → Option (Bool)
 | 0,_,_,_ => none
 | k + 1,x0,x1,x5 => if x5 < (x0.length : Int) then (if 0 ≤ x5 then (if x5 < (x1.length : Int) then ((laws_eqTypeDecl.f k ((y21 x0 x5).f0) ((y21 x0 x5).f1) ((y21 x1 x5).f0) ((y21 x1 x5).f1)).bind fun t545 => (if t545 = true then (laws_eqTypeDeclS.l0 k x0 x1 (wrap64 (x5 + 1))) else (some false))) else (none)) else (none)) else (some true)
def laws_eqTypeDeclS.f (k : Nat) (l0 : List (S78)) (l1 : List (S78)) : Option (Bool) := if (l0.length : Int) = (l1.length : Int) then (laws_eqTypeDeclS.l0 k l0 l1 0) else (some false)
def laws_eqTypeDeclS.T6 : Bool × List (List Nat × List Nat) := (true,[([],[]),([],[]),([0,1],[0,1]),([2],[2]),([],[]),([],[]),([4,5],[4,5]),([6],[6]),([3,7],[3,7]),([8],[8])])
def laws_eqTypeDeclS.B6 : List Nat := [0,0,3,7,0,0,48,112,255,511]
theorem laws_eqTypeDeclS.tab6 : rtab .any (opsOf Try.f43 6) = laws_eqTypeDeclS.T6 := by kernel_rfl
theorem laws_eqTypeDeclS.bits6 : waitsOk laws_eqTypeDeclS.T6.2 laws_eqTypeDeclS.B6 = true := by kernel_rfl
set_option maxHeartbeats 8000000 in
set_option maxRecDepth 100000 in
theorem laws_eqTypeDeclS.calls (k : Nat) (A0 : Option Addr) (c0 : Nat) (l0 : List (S78)) (A1 : Option Addr) (c1 : Nat) (l1 : List (S78)) (r : Bool) (w : World) (hr0 : Kd.C k78 w A0 l0.length l0) (hc0 : l0.length ≤ c0) (hr1 : Kd.C k78 w A1 l1.length l1) (hc1 : l1.length ≤ c1) (h : laws_eqTypeDeclS.f k l0 l1 = some r) (htrue_ : r = true) :
  Calls Try.prog 43 #[.slice A0 l0.length c0,.slice A1 l1.length c1] w fun e w' => e = .returned (.bool r) ∧ Below w.heap.size w w' := by
 have hu78 := Try.underlying78
 have HR0 := y0.mk hr0
 have HC0 := y0.mk hc0
 clear hr0 hc0
 have HR1 := y0.mk hr1
 have HC1 := y0.mk hc1
 clear hr1 hc1
 have HB := y0.mk (Below.refl w.heap.size w)
 have H : (if (l0.length : Int) = (l1.length : Int) then (laws_eqTypeDeclS.l0 k l0 l1 0) else (some false)) = some r := h
 clear h
 by_cases c3 : (l0.length : Int) = (l1.length : Int)
 ·rw [if_pos c3] at H
  have c3b0 : ((l0.length : Int) == (l1.length : Int)) = true := beq_iff_eq.mpr c3
  have c3b1 : ((l0.length : Int) != (l1.length : Int)) = false := bne_eq_false_iff_eq.mpr c3
  have c3b2 : (l0.length == l1.length) = true := by first | simpa using c3 | (simp at c3 ⊢; omega)
  clear c3
  have H' := y0.mk H
  clear H
  go_enter Try.func43,Try.ntmps43
  go_wp2
  go_loopg [5] k (fun kq v5 w' => ∃ (x5_1 : Int),v5 = .int .i64 x5_1 ∧ y0 (laws_eqTypeDeclS.l0 kq l0 l1 x5_1 = some r) ∧ y0 (kq ≤ k) ∧ y0 (Below w.heap.size w w'))
  case atStart => exact ⟨(0),qy2,H',⟨Nat.le_refl _⟩,⟨qb⟩⟩
  case round =>
   clear H'
   (try clear c3b0 c3b1 c3b2)
   obtain ⟨x5_1,rfl,HA,HK1,HB⟩ := hrel
   cases gk with
   | zero => exact absurd HA.out (by simp [laws_eqTypeDeclS.l0])
   | succ k1 =>
    have H := HA.out
    clear HA
    simp only [laws_eqTypeDeclS.l0] at H
    by_cases c4 : x5_1 < (l0.length : Int)
    ·rw [if_pos c4] at H
     have c4b0 := decide_eq_true c4
     clear c4
     obtain ⟨c5,H⟩ := qo H
     have c5b0 : decide (0 ≤ x5_1) = true := decide_eq_true c5
     clear c5
     obtain ⟨c6,H⟩ := qo H
     have c6b0 : decide (x5_1 < (l1.length : Int)) = true := decide_eq_true c6
     clear c6
     obtain ⟨t545,A7,H⟩ := qB H
     by_cases c8 : t545 = true
     ·subst c8
      replace H := qT H
      have H' := y0.mk H
      clear H
      try go_wp2
      replace HB := y0.mk (below_drew1 HB.out)
      have p543 : 0 ≤ (x5_1 : Int) := of_decide_eq_true qy1
      have q543 : x5_1 < (l0.length : Int) := of_decide_eq_true qy1
      obtain ⟨ad543,A543_1,c543_1,e543,hx543_0,hx543_1,hl543_1,hi543_1⟩ := at_T78 HR0.out x5_1 p543 q543
      have hw543_1 := hx543_1
      have hw543_0 := hx543_0
      cases e543
      replace hx543_0 := (HB.out.cell (World.block_lt_of_cell? w _ hx543_0)).trans hx543_0
      replace hx543_1 := (HB.out.cell (World.block_lt_of_cell? w _ hx543_1)).trans hx543_1
      have HR543_1 := y0.mk hi543_1
      have HC543_1 := y0.mk hl543_1
      clear hi543_1 hl543_1
      replace p543 := eq_true p543
      replace q543 := eq_true q543
      have p544 : 0 ≤ (x5_1 : Int) := of_decide_eq_true qy1
      have q544 : x5_1 < (l1.length : Int) := of_decide_eq_true qy1
      obtain ⟨ad544,A544_1,c544_1,e544,hx544_0,hx544_1,hl544_1,hi544_1⟩ := at_T78 HR1.out x5_1 p544 q544
      have hw544_1 := hx544_1
      have hw544_0 := hx544_0
      cases e544
      replace hx544_0 := (HB.out.cell (World.block_lt_of_cell? w _ hx544_0)).trans hx544_0
      replace hx544_1 := (HB.out.cell (World.block_lt_of_cell? w _ hx544_1)).trans hx544_1
      have HR544_1 := y0.mk hi544_1
      have HC544_1 := y0.mk hl544_1
      clear hi544_1 hl544_1
      replace p544 := eq_true p544
      replace q544 := eq_true q544
      refine start_ (n := 10) (S := fun w' => w'.cell? (ad543.add ((x5_1).toNat * 2)) = some (.string ((y21 l0 x5_1).f0)) ∧ w'.cell? ⟨(ad543.add ((x5_1).toNat * 2)).block,(ad543.add ((x5_1).toNat * 2)).off + 1,none⟩ = some (.slice A543_1 ((y21 l0 x5_1).f1).length c543_1) ∧ w'.cell? (ad544.add ((x5_1).toNat * 2)) = some (.string ((y21 l1 x5_1).f0)) ∧ w'.cell? ⟨(ad544.add ((x5_1).toNat * 2)).block,(ad544.add ((x5_1).toNat * 2)).off + 1,none⟩ = some (.slice A544_1 ((y21 l1 x5_1).f1).length c544_1)) (ds := []) (fl_ 10 0) (by kernel_rfl) rfl rfl ⟨((HB.out.cell (World.block_lt_of_cell? w _ hw543_0)).trans hw543_0),((HB.out.cell (World.block_lt_of_cell? w _ hw543_1)).trans hw543_1),((HB.out.cell (World.block_lt_of_cell? w _ hw544_0)).trans hw544_0),((HB.out.cell (World.block_lt_of_cell? w _ hw544_1)).trans hw544_1)⟩ (fun hHeld => ?_); refine with_tabW laws_eqTypeDeclS.tab6 laws_eqTypeDeclS.bits6 (fun HT_ HW_ => ?_)
      generalize wr.drew = w9 at HB HR543_1 HR544_1 hx543_0 hx543_1 hx544_0 hx544_1 hHeld ⊢
      refine qp 0 17 (fl_ 10 1) ?_
      refine qp 1 18 (fl_ 10 3) ?_
      refine qp 2 19 (fl_ 10 7) ?_
      refine qp 4 21 (fl_ 10 23) ?_
      refine qp 5 22 (fl_ 10 55) ?_
      refine qp 6 23 (fl_ 10 119) ?_
      refine qt 3 20 (fl_ 10 127) hHeld ?_
      refine qt 7 24 (fl_ 10 255) hHeld ?_
      refine one_ (i := 8) (N := some 25) (fl_ 10 511) rfl rfl (one_of HT_.out (by kernel_rfl)) (by decide) (fun K hK => ?_)
      refine goes_ Try.func69 (by kernel_rfl) rfl #[.agg #[.string ((y21 l0 x5_1).f0),.slice A543_1 ((y21 l0 x5_1).f1).length c543_1],.agg #[.string ((y21 l1 x5_1).f0),.slice A544_1 ((y21 l1 x5_1).f1).length c544_1]] (by rfl) rfl rfl qy0 ?_
      with_reducible refine (laws_eqTypeDecl.calls k1 ((y21 l0 x5_1).f0) _ _ ((y21 l0 x5_1).f1) ((y21 l1 x5_1).f0) _ _ ((y21 l1 x5_1).f1) true _ (qc (Kd.C_below HR543_1.out HB.out)) HC543_1.out (qc (Kd.C_below HR544_1.out HB.out)) HC544_1.out A7.out rfl).mono ?_
      rintro e w10 ⟨rfl,hb⟩
      refine ⟨_,rfl, ?_⟩
      replace HB := y0.mk (y4 qb hb)
      (try clear hb)
      (try clear hb2)
      (try clear hk)
      (try clear hi)
      refine hK.out _ _ ⟨((HB.out.cell (World.block_lt_of_cell? w _ hw543_0)).trans hw543_0),((HB.out.cell (World.block_lt_of_cell? w _ hw543_1)).trans hw543_1),((HB.out.cell (World.block_lt_of_cell? w _ hw544_0)).trans hw544_0),((HB.out.cell (World.block_lt_of_cell? w _ hw544_1)).trans hw544_1)⟩ (fun hHeld => ?_)
      clear hK K
      refine norm_ (a' := ?_) ?_ ?_
      rotate_left
      ·show Act.put _ (some 25) _ = _
       simp only [Act.put,qS_,qZ_,qC_,i64_w,i32_w]
       rfl
      refine qp 9 26 (fl_ 10 1023) ?_
      refine done_ (done_of HT_.out (by kernel_rfl)) ?_
      try go_wp2
      go_roundg k1
      case measure => have := HK1.out; omega
      exact ⟨(wrap64 (x5_1 + 1)),qy2,H',⟨by have := HK1.out; omega⟩,⟨qb⟩⟩
     ·replace c8 := Bool.eq_false_iff.mpr c8
      subst c8
      replace H := qF H
      exact absurd ((Option.some.inj H).trans htrue_) (by decide)
    ·rw [if_neg c4] at H
     have c4b0 := decide_eq_false c4
     clear c4
     obtain rfl := Option.some.inj H
     go_wp2
     go_ret
     exact ⟨by first | rfl | (simp [y12,y13] <;> rfl) | (simp [*,y12,y13] <;> rfl),qb⟩
 ·rw [if_neg c3] at H
  have c3b0 : ((l0.length : Int) == (l1.length : Int)) = false := beq_eq_false_iff_ne.mpr c3
  have c3b1 : ((l0.length : Int) != (l1.length : Int)) = true := bne_iff_ne.mpr c3
  have c3b2 : (l0.length == l1.length) = false := by first | simpa using c3 | (simp at c3 ⊢; omega)
  exact absurd ((Option.some.inj H).trans htrue_) (by decide)
def laws_eqRelDecl.f (k : Nat) (a0_0 : ByteArray) (l0_1 : List ByteArray) (a0_2 : Int) (a1_0 : ByteArray) (l1_1 : List ByteArray) (a1_2 : Int) : Option (Bool) := if a0_0.toList = a1_0.toList then ((laws_eqStringS.f k l0_1 l1_1).bind fun t548 => (if t548 = true then (if a0_2 = a1_2 then (some true) else (some false)) else (some false))) else (some false)
set_option maxHeartbeats 8000000 in
set_option maxRecDepth 100000 in
theorem laws_eqRelDecl.calls (k : Nat) (a0_0 : ByteArray) (A0_1 : Option Addr) (c0_1 : Nat) (l0_1 : List ByteArray) (a0_2 : Int) (a1_0 : ByteArray) (A1_1 : Option Addr) (c1_1 : Nat) (l1_1 : List ByteArray) (a1_2 : Int) (r : Bool) (w : World) (hr0_1 : Kd.C Kd.string w A0_1 l0_1.length l0_1) (hc0_1 : l0_1.length ≤ c0_1) (hr1_1 : Kd.C Kd.string w A1_1 l1_1.length l1_1) (hc1_1 : l1_1.length ≤ c1_1) (h : laws_eqRelDecl.f k a0_0 l0_1 a0_2 a1_0 l1_1 a1_2 = some r) (htrue_ : r = true) :
  Calls Try.prog 70 #[.agg #[.string a0_0,.slice A0_1 l0_1.length c0_1,.int .i64 a0_2],.agg #[.string a1_0,.slice A1_1 l1_1.length c1_1,.int .i64 a1_2]] w fun e w' => e = .returned (.bool r) ∧ Below w.heap.size w w' := by
 have hu84 := Try.underlying84
 have HR0_1 := y0.mk hr0_1
 have HC0_1 := y0.mk hc0_1
 clear hr0_1 hc0_1
 have HR1_1 := y0.mk hr1_1
 have HC1_1 := y0.mk hc1_1
 clear hr1_1 hc1_1
 have HB := y0.mk (Below.refl w.heap.size w)
 have H : (if a0_0.toList = a1_0.toList then ((laws_eqStringS.f k l0_1 l1_1).bind fun t548 => (if t548 = true then (if a0_2 = a1_2 then (some true) else (some false)) else (some false))) else (some false)) = some r := h
 clear h
 by_cases c3 : a0_0.toList = a1_0.toList
 ·rw [if_pos c3] at H
  have c3b0 : (a0_0.toList == a1_0.toList) = true := beq_iff_eq.mpr c3
  have c3b1 : (a0_0.toList != a1_0.toList) = false := bne_eq_false_iff_eq.mpr c3
  clear c3
  obtain ⟨t548,A4,H⟩ := qB H
  by_cases c5 : t548 = true
  ·subst c5
   replace H := qT H
   by_cases c6 : a0_2 = a1_2
   ·rw [if_pos c6] at H
    have c6b0 : (a0_2 == a1_2) = true := beq_iff_eq.mpr c6
    have c6b1 : (a0_2 != a1_2) = false := bne_eq_false_iff_eq.mpr c6
    clear c6
    obtain rfl := Option.some.inj H
    go_enter Try.func70,Try.ntmps70
    go_wp2_with (first | ((with_reducible refine y16 (N := 2) rfl ?_); refine qe 2 #[.string a0_0,.slice A0_1 l0_1.length c0_1,.int .i64 a0_2] 84 ?_; intro gb546 hg w7 hbox hb; have BK546 := y0.mk (hbox); have GW546 := y0.mk (qg (w := w) hg); have GE546 := y0.mk (qg (w := w) hg); replace HB := y0.mk (y4 qb hb); clear hb hbox hg) | ((with_reducible refine y16 (N := 3) rfl ?_); refine qe 3 #[.string a1_0,.slice A1_1 l1_1.length c1_1,.int .i64 a1_2] 84 ?_; intro gb547 hg w8 hbox hb; have BK547 := y0.mk (hbox); have GW547 := y0.mk (qg (w := w) hg); have GE547 := y0.mk (qg (w := w) hg); replace HB := y0.mk (y4 qb hb); have NB546_547 := y0.mk (qn BK546.out hg); have NB547_546 := y0.mk (qm BK546.out hg); replace BK546 := y0.mk (qK BK546.out hb); clear hb hbox hg; have hnb9 := NB546_547.out; have hnc9 := NB547_546.out; obtain ⟨hcz10_0,hcz10_1,hcz10_2,hfz10_0,hfz10_1,hfz10_2⟩ := qz3 BK546.out; obtain ⟨hcz11_0,hcz11_1,hcz11_2,hfz11_0,hfz11_1,hfz11_2⟩ := qz3 BK547.out) | ((with_reducible refine y15 (f := 18) rfl ?_); refine y17 (some 14) rfl rfl Try.func18 (by kernel_rfl) rfl #[.slice A0_1 l0_1.length c0_1,.slice A1_1 l1_1.length c1_1] rfl qy0 ?_; (with_reducible refine (laws_eqStringS.calls k _ _ l0_1 _ _ l1_1 true _ (qc (Kd.C_below HR0_1.out HB.out)) HC0_1.out (qc (Kd.C_below HR1_1.out HB.out)) HC1_1.out A4.out rfl).mono ?_); rintro e w' ⟨rfl,⟨nd,rfl⟩⟩; refine ⟨_,rfl, ?_⟩))
    go_ret
    exact ⟨by first | rfl | (simp [y12,y13] <;> rfl) | (simp [*,y12,y13] <;> rfl),qb⟩
   ·rw [if_neg c6] at H
    have c6b0 : (a0_2 == a1_2) = false := beq_eq_false_iff_ne.mpr c6
    have c6b1 : (a0_2 != a1_2) = true := bne_iff_ne.mpr c6
    exact absurd ((Option.some.inj H).trans htrue_) (by decide)
  ·replace c5 := Bool.eq_false_iff.mpr c5
   subst c5
   replace H := qF H
   exact absurd ((Option.some.inj H).trans htrue_) (by decide)
 ·rw [if_neg c3] at H
  have c3b0 : (a0_0.toList == a1_0.toList) = false := beq_eq_false_iff_ne.mpr c3
  have c3b1 : (a0_0.toList != a1_0.toList) = true := bne_iff_ne.mpr c3
  exact absurd ((Option.some.inj H).trans htrue_) (by decide)
def laws_eqRelDeclS.l0 : Nat → List (S84) → List (S84) → Int → Option (Bool)
 | 0,_,_,_ => none
 | k + 1,x0,x1,x5 => if x5 < (x0.length : Int) then (if 0 ≤ x5 then (if x5 < (x1.length : Int) then ((laws_eqRelDecl.f k ((y23 x0 x5).f0) ((y23 x0 x5).f1) ((y23 x0 x5).f2) ((y23 x1 x5).f0) ((y23 x1 x5).f1) ((y23 x1 x5).f2)).bind fun t551 => (if t551 = true then (laws_eqRelDeclS.l0 k x0 x1 (wrap64 (x5 + 1))) else (some false))) else (none)) else (none)) else (some true)
def laws_eqRelDeclS.f (k : Nat) (l0 : List (S84)) (l1 : List (S84)) : Option (Bool) := if (l0.length : Int) = (l1.length : Int) then (laws_eqRelDeclS.l0 k l0 l1 0) else (some false)
def laws_eqRelDeclS.T6 : Bool × List (List Nat × List Nat) := (true,[([],[]),([],[]),([0,1],[0,1]),([2],[2]),([],[]),([],[]),([4,5],[4,5]),([6],[6]),([3,7],[3,7]),([8],[8])])
def laws_eqRelDeclS.B6 : List Nat := [0,0,3,7,0,0,48,112,255,511]
theorem laws_eqRelDeclS.tab6 : rtab .any (opsOf Try.f44 6) = laws_eqRelDeclS.T6 := by kernel_rfl
theorem laws_eqRelDeclS.bits6 : waitsOk laws_eqRelDeclS.T6.2 laws_eqRelDeclS.B6 = true := by kernel_rfl
set_option maxHeartbeats 8000000 in
set_option maxRecDepth 100000 in
theorem laws_eqRelDeclS.calls (k : Nat) (A0 : Option Addr) (c0 : Nat) (l0 : List (S84)) (A1 : Option Addr) (c1 : Nat) (l1 : List (S84)) (r : Bool) (w : World) (hr0 : Kd.C k84 w A0 l0.length l0) (hc0 : l0.length ≤ c0) (hr1 : Kd.C k84 w A1 l1.length l1) (hc1 : l1.length ≤ c1) (h : laws_eqRelDeclS.f k l0 l1 = some r) (htrue_ : r = true) :
  Calls Try.prog 44 #[.slice A0 l0.length c0,.slice A1 l1.length c1] w fun e w' => e = .returned (.bool r) ∧ Below w.heap.size w w' := by
 have hu84 := Try.underlying84
 have HR0 := y0.mk hr0
 have HC0 := y0.mk hc0
 clear hr0 hc0
 have HR1 := y0.mk hr1
 have HC1 := y0.mk hc1
 clear hr1 hc1
 have HB := y0.mk (Below.refl w.heap.size w)
 have H : (if (l0.length : Int) = (l1.length : Int) then (laws_eqRelDeclS.l0 k l0 l1 0) else (some false)) = some r := h
 clear h
 by_cases c3 : (l0.length : Int) = (l1.length : Int)
 ·rw [if_pos c3] at H
  have c3b0 : ((l0.length : Int) == (l1.length : Int)) = true := beq_iff_eq.mpr c3
  have c3b1 : ((l0.length : Int) != (l1.length : Int)) = false := bne_eq_false_iff_eq.mpr c3
  have c3b2 : (l0.length == l1.length) = true := by first | simpa using c3 | (simp at c3 ⊢; omega)
  clear c3
  have H' := y0.mk H
  clear H
  go_enter Try.func44,Try.ntmps44
  go_wp2
  go_loopg [5] k (fun kq v5 w' => ∃ (x5_1 : Int),v5 = .int .i64 x5_1 ∧ y0 (laws_eqRelDeclS.l0 kq l0 l1 x5_1 = some r) ∧ y0 (kq ≤ k) ∧ y0 (Below w.heap.size w w'))
  case atStart => exact ⟨(0),qy2,H',⟨Nat.le_refl _⟩,⟨qb⟩⟩
  case round =>
   clear H'
   (try clear c3b0 c3b1 c3b2)
   obtain ⟨x5_1,rfl,HA,HK1,HB⟩ := hrel
   cases gk with
   | zero => exact absurd HA.out (by simp [laws_eqRelDeclS.l0])
   | succ k1 =>
    have H := HA.out
    clear HA
    simp only [laws_eqRelDeclS.l0] at H
    by_cases c4 : x5_1 < (l0.length : Int)
    ·rw [if_pos c4] at H
     have c4b0 := decide_eq_true c4
     clear c4
     obtain ⟨c5,H⟩ := qo H
     have c5b0 : decide (0 ≤ x5_1) = true := decide_eq_true c5
     clear c5
     obtain ⟨c6,H⟩ := qo H
     have c6b0 : decide (x5_1 < (l1.length : Int)) = true := decide_eq_true c6
     clear c6
     obtain ⟨t551,A7,H⟩ := qB H
     by_cases c8 : t551 = true
     ·subst c8
      replace H := qT H
      have H' := y0.mk H
      clear H
      try go_wp2
      replace HB := y0.mk (below_drew1 HB.out)
      have p549 : 0 ≤ (x5_1 : Int) := of_decide_eq_true qy1
      have q549 : x5_1 < (l0.length : Int) := of_decide_eq_true qy1
      obtain ⟨ad549,A549_1,c549_1,e549,hx549_0,hx549_1,hx549_2,hl549_1,hi549_1⟩ := at_T84 HR0.out x5_1 p549 q549
      have hw549_2 := hx549_2
      have hw549_1 := hx549_1
      have hw549_0 := hx549_0
      cases e549
      replace hx549_0 := (HB.out.cell (World.block_lt_of_cell? w _ hx549_0)).trans hx549_0
      replace hx549_1 := (HB.out.cell (World.block_lt_of_cell? w _ hx549_1)).trans hx549_1
      replace hx549_2 := (HB.out.cell (World.block_lt_of_cell? w _ hx549_2)).trans hx549_2
      have HR549_1 := y0.mk hi549_1
      have HC549_1 := y0.mk hl549_1
      clear hi549_1 hl549_1
      replace p549 := eq_true p549
      replace q549 := eq_true q549
      have p550 : 0 ≤ (x5_1 : Int) := of_decide_eq_true qy1
      have q550 : x5_1 < (l1.length : Int) := of_decide_eq_true qy1
      obtain ⟨ad550,A550_1,c550_1,e550,hx550_0,hx550_1,hx550_2,hl550_1,hi550_1⟩ := at_T84 HR1.out x5_1 p550 q550
      have hw550_2 := hx550_2
      have hw550_1 := hx550_1
      have hw550_0 := hx550_0
      cases e550
      replace hx550_0 := (HB.out.cell (World.block_lt_of_cell? w _ hx550_0)).trans hx550_0
      replace hx550_1 := (HB.out.cell (World.block_lt_of_cell? w _ hx550_1)).trans hx550_1
      replace hx550_2 := (HB.out.cell (World.block_lt_of_cell? w _ hx550_2)).trans hx550_2
      have HR550_1 := y0.mk hi550_1
      have HC550_1 := y0.mk hl550_1
      clear hi550_1 hl550_1
      replace p550 := eq_true p550
      replace q550 := eq_true q550
      refine start_ (n := 10) (S := fun w' => w'.cell? (ad549.add ((x5_1).toNat * 3)) = some (.string ((y23 l0 x5_1).f0)) ∧ w'.cell? ⟨(ad549.add ((x5_1).toNat * 3)).block,(ad549.add ((x5_1).toNat * 3)).off + 1,none⟩ = some (.slice A549_1 ((y23 l0 x5_1).f1).length c549_1) ∧ w'.cell? ⟨(ad549.add ((x5_1).toNat * 3)).block,(ad549.add ((x5_1).toNat * 3)).off + 2,none⟩ = some (.int .i64 ((y23 l0 x5_1).f2)) ∧ w'.cell? (ad550.add ((x5_1).toNat * 3)) = some (.string ((y23 l1 x5_1).f0)) ∧ w'.cell? ⟨(ad550.add ((x5_1).toNat * 3)).block,(ad550.add ((x5_1).toNat * 3)).off + 1,none⟩ = some (.slice A550_1 ((y23 l1 x5_1).f1).length c550_1) ∧ w'.cell? ⟨(ad550.add ((x5_1).toNat * 3)).block,(ad550.add ((x5_1).toNat * 3)).off + 2,none⟩ = some (.int .i64 ((y23 l1 x5_1).f2))) (ds := []) (fl_ 10 0) (by kernel_rfl) rfl rfl ⟨((HB.out.cell (World.block_lt_of_cell? w _ hw549_0)).trans hw549_0),((HB.out.cell (World.block_lt_of_cell? w _ hw549_1)).trans hw549_1),((HB.out.cell (World.block_lt_of_cell? w _ hw549_2)).trans hw549_2),((HB.out.cell (World.block_lt_of_cell? w _ hw550_0)).trans hw550_0),((HB.out.cell (World.block_lt_of_cell? w _ hw550_1)).trans hw550_1),((HB.out.cell (World.block_lt_of_cell? w _ hw550_2)).trans hw550_2)⟩ (fun hHeld => ?_); refine with_tabW laws_eqRelDeclS.tab6 laws_eqRelDeclS.bits6 (fun HT_ HW_ => ?_)
      generalize wr.drew = w9 at HB HR549_1 HR550_1 hx549_0 hx549_1 hx549_2 hx550_0 hx550_1 hx550_2 hHeld ⊢
      refine qp 0 17 (fl_ 10 1) ?_
      refine qp 1 18 (fl_ 10 3) ?_
      refine qp 2 19 (fl_ 10 7) ?_
      refine qp 4 21 (fl_ 10 23) ?_
      refine qp 5 22 (fl_ 10 55) ?_
      refine qp 6 23 (fl_ 10 119) ?_
      refine qt 3 20 (fl_ 10 127) hHeld ?_
      refine qt 7 24 (fl_ 10 255) hHeld ?_
      refine one_ (i := 8) (N := some 25) (fl_ 10 511) rfl rfl (one_of HT_.out (by kernel_rfl)) (by decide) (fun K hK => ?_)
      refine goes_ Try.func70 (by kernel_rfl) rfl #[.agg #[.string ((y23 l0 x5_1).f0),.slice A549_1 ((y23 l0 x5_1).f1).length c549_1,.int .i64 ((y23 l0 x5_1).f2)],.agg #[.string ((y23 l1 x5_1).f0),.slice A550_1 ((y23 l1 x5_1).f1).length c550_1,.int .i64 ((y23 l1 x5_1).f2)]] (by rfl) rfl rfl qy0 ?_
      with_reducible refine (laws_eqRelDecl.calls k1 ((y23 l0 x5_1).f0) _ _ ((y23 l0 x5_1).f1) ((y23 l0 x5_1).f2) ((y23 l1 x5_1).f0) _ _ ((y23 l1 x5_1).f1) ((y23 l1 x5_1).f2) true _ (qc (Kd.C_below HR549_1.out HB.out)) HC549_1.out (qc (Kd.C_below HR550_1.out HB.out)) HC550_1.out A7.out rfl).mono ?_
      rintro e w10 ⟨rfl,hb⟩
      refine ⟨_,rfl, ?_⟩
      replace HB := y0.mk (y4 qb hb)
      (try clear hb)
      (try clear hb2)
      (try clear hk)
      (try clear hi)
      refine hK.out _ _ ⟨((HB.out.cell (World.block_lt_of_cell? w _ hw549_0)).trans hw549_0),((HB.out.cell (World.block_lt_of_cell? w _ hw549_1)).trans hw549_1),((HB.out.cell (World.block_lt_of_cell? w _ hw549_2)).trans hw549_2),((HB.out.cell (World.block_lt_of_cell? w _ hw550_0)).trans hw550_0),((HB.out.cell (World.block_lt_of_cell? w _ hw550_1)).trans hw550_1),((HB.out.cell (World.block_lt_of_cell? w _ hw550_2)).trans hw550_2)⟩ (fun hHeld => ?_)
      clear hK K
      refine norm_ (a' := ?_) ?_ ?_
      rotate_left
      ·show Act.put _ (some 25) _ = _
       simp only [Act.put,qS_,qZ_,qC_,i64_w,i32_w]
       rfl
      refine qp 9 26 (fl_ 10 1023) ?_
      refine done_ (done_of HT_.out (by kernel_rfl)) ?_
      try go_wp2
      go_roundg k1
      case measure => have := HK1.out; omega
      exact ⟨(wrap64 (x5_1 + 1)),qy2,H',⟨by have := HK1.out; omega⟩,⟨qb⟩⟩
     ·replace c8 := Bool.eq_false_iff.mpr c8
      subst c8
      replace H := qF H
      exact absurd ((Option.some.inj H).trans htrue_) (by decide)
    ·rw [if_neg c4] at H
     have c4b0 := decide_eq_false c4
     clear c4
     obtain rfl := Option.some.inj H
     go_wp2
     go_ret
     exact ⟨by first | rfl | (simp [y12,y13] <;> rfl) | (simp [*,y12,y13] <;> rfl),qb⟩
 ·rw [if_neg c3] at H
  have c3b0 : ((l0.length : Int) == (l1.length : Int)) = false := beq_eq_false_iff_ne.mpr c3
  have c3b1 : ((l0.length : Int) != (l1.length : Int)) = true := bne_iff_ne.mpr c3
  have c3b2 : (l0.length == l1.length) = false := by first | simpa using c3 | (simp at c3 ⊢; omega)
  exact absurd ((Option.some.inj H).trans htrue_) (by decide)
end Go.Proofs.Ytamjmldfifofbaa.Pp
end
section
namespace Go.Proofs.Ytamjmldfifofbaa.Pp
open Go.RowKit Go.Proofs.YtamjmldfifofbaaW.PrintWords Go.Proofs.YtamjmldfifofbaaW.PrintLast Go.Proofs.YtamjmldfifofbaaW.PrintMore
attribute [local go_sem] max2_int min2_int max_two min_two max_three min_three max_four min_four   -- for this text's walks alone
set_option linter.unusedVariables false
set_option linter.unusedSimpArgs false
def laws_eqRuleS.l0 : Nat → List (S35) → List (S35) → Int → Option (Bool)
 | 0,_,_,_ => none
 | k + 1,x0,x1,x5 => if x5 < (x0.length : Int) then (if 0 ≤ x5 then (if x5 < (x1.length : Int) then ((laws_eqRule.f k ((y20 x0 x5).f0) ((y20 x0 x5).f1.f0) ((y20 x0 x5).f1.f1) ((y20 x0 x5).f1.f2) ((y20 x0 x5).f2) ((y20 x1 x5).f0) ((y20 x1 x5).f1.f0) ((y20 x1 x5).f1.f1) ((y20 x1 x5).f1.f2) ((y20 x1 x5).f2)).bind fun t554 => (if t554 = true then (laws_eqRuleS.l0 k x0 x1 (wrap64 (x5 + 1))) else (some false))) else (none)) else (none)) else (some true)
def laws_eqRuleS.f (k : Nat) (l0 : List (S35)) (l1 : List (S35)) : Option (Bool) := if (l0.length : Int) = (l1.length : Int) then (laws_eqRuleS.l0 k l0 l1 0) else (some false)
def laws_eqRuleS.T6 : Bool × List (List Nat × List Nat) := (true,[([],[]),([],[]),([0,1],[0,1]),([2],[2]),([],[]),([],[]),([4,5],[4,5]),([6],[6]),([3,7],[3,7]),([8],[8])])
def laws_eqRuleS.B6 : List Nat := [0,0,3,7,0,0,48,112,255,511]
theorem laws_eqRuleS.tab6 : rtab .any (opsOf Try.f45 6) = laws_eqRuleS.T6 := by kernel_rfl
theorem laws_eqRuleS.bits6 : waitsOk laws_eqRuleS.T6.2 laws_eqRuleS.B6 = true := by kernel_rfl
set_option maxHeartbeats 8000000 in
set_option maxRecDepth 100000 in
theorem laws_eqRuleS.calls (k : Nat) (A0 : Option Addr) (c0 : Nat) (l0 : List (S35)) (A1 : Option Addr) (c1 : Nat) (l1 : List (S35)) (r : Bool) (w : World) (hr0 : Kd.C k35 w A0 l0.length l0) (hc0 : l0.length ≤ c0) (hr1 : Kd.C k35 w A1 l1.length l1) (hc1 : l1.length ≤ c1) (h : laws_eqRuleS.f k l0 l1 = some r) (htrue_ : r = true) :
  Calls Try.prog 45 #[.slice A0 l0.length c0,.slice A1 l1.length c1] w fun e w' => e = .returned (.bool r) ∧ Below w.heap.size w w' := by
 have hu35 := Try.underlying35
 have HR0 := y0.mk hr0
 have HC0 := y0.mk hc0
 clear hr0 hc0
 have HR1 := y0.mk hr1
 have HC1 := y0.mk hc1
 clear hr1 hc1
 have HB := y0.mk (Below.refl w.heap.size w)
 have H : (if (l0.length : Int) = (l1.length : Int) then (laws_eqRuleS.l0 k l0 l1 0) else (some false)) = some r := h
 clear h
 by_cases c3 : (l0.length : Int) = (l1.length : Int)
 ·rw [if_pos c3] at H
  have c3b0 : ((l0.length : Int) == (l1.length : Int)) = true := beq_iff_eq.mpr c3
  have c3b1 : ((l0.length : Int) != (l1.length : Int)) = false := bne_eq_false_iff_eq.mpr c3
  have c3b2 : (l0.length == l1.length) = true := by first | simpa using c3 | (simp at c3 ⊢; omega)
  clear c3
  have H' := y0.mk H
  clear H
  go_enter Try.func45,Try.ntmps45
  go_wp2
  go_loopg [5] k (fun kq v5 w' => ∃ (x5_1 : Int),v5 = .int .i64 x5_1 ∧ y0 (laws_eqRuleS.l0 kq l0 l1 x5_1 = some r) ∧ y0 (kq ≤ k) ∧ y0 (Below w.heap.size w w'))
  case atStart => exact ⟨(0),qy2,H',⟨Nat.le_refl _⟩,⟨qb⟩⟩
  case round =>
   clear H'
   (try clear c3b0 c3b1 c3b2)
   obtain ⟨x5_1,rfl,HA,HK1,HB⟩ := hrel
   cases gk with
   | zero => exact absurd HA.out (by simp [laws_eqRuleS.l0])
   | succ k1 =>
    have H := HA.out
    clear HA
    simp only [laws_eqRuleS.l0] at H
    by_cases c4 : x5_1 < (l0.length : Int)
    ·rw [if_pos c4] at H
     have c4b0 := decide_eq_true c4
     clear c4
     obtain ⟨c5,H⟩ := qo H
     have c5b0 : decide (0 ≤ x5_1) = true := decide_eq_true c5
     clear c5
     obtain ⟨c6,H⟩ := qo H
     have c6b0 : decide (x5_1 < (l1.length : Int)) = true := decide_eq_true c6
     clear c6
     obtain ⟨t554,A7,H⟩ := qB H
     by_cases c8 : t554 = true
     ·subst c8
      replace H := qT H
      have H' := y0.mk H
      clear H
      try go_wp2
      replace HB := y0.mk (below_drew1 HB.out)
      have p552 : 0 ≤ (x5_1 : Int) := of_decide_eq_true qy1
      have q552 : x5_1 < (l0.length : Int) := of_decide_eq_true qy1
      obtain ⟨ad552,A552_0,c552_0,A552_3,c552_3,A552_4,c552_4,e552,hx552_0,hx552_1,hx552_2,hx552_3,hx552_4,hl552_0,hi552_0,hl552_3,hi552_3,hl552_4,hi552_4⟩ := at_T35 HR0.out x5_1 p552 q552
      have hw552_4 := hx552_4
      have hw552_3 := hx552_3
      have hw552_2 := hx552_2
      have hw552_1 := hx552_1
      have hw552_0 := hx552_0
      cases e552
      replace hx552_0 := (HB.out.cell (World.block_lt_of_cell? w _ hx552_0)).trans hx552_0
      replace hx552_1 := (HB.out.cell (World.block_lt_of_cell? w _ hx552_1)).trans hx552_1
      replace hx552_2 := (HB.out.cell (World.block_lt_of_cell? w _ hx552_2)).trans hx552_2
      replace hx552_3 := (HB.out.cell (World.block_lt_of_cell? w _ hx552_3)).trans hx552_3
      replace hx552_4 := (HB.out.cell (World.block_lt_of_cell? w _ hx552_4)).trans hx552_4
      have HR552_0 := y0.mk hi552_0
      have HC552_0 := y0.mk hl552_0
      clear hi552_0 hl552_0
      have HR552_3 := y0.mk hi552_3
      have HC552_3 := y0.mk hl552_3
      clear hi552_3 hl552_3
      have HR552_4 := y0.mk hi552_4
      have HC552_4 := y0.mk hl552_4
      clear hi552_4 hl552_4
      replace p552 := eq_true p552
      replace q552 := eq_true q552
      have p553 : 0 ≤ (x5_1 : Int) := of_decide_eq_true qy1
      have q553 : x5_1 < (l1.length : Int) := of_decide_eq_true qy1
      obtain ⟨ad553,A553_0,c553_0,A553_3,c553_3,A553_4,c553_4,e553,hx553_0,hx553_1,hx553_2,hx553_3,hx553_4,hl553_0,hi553_0,hl553_3,hi553_3,hl553_4,hi553_4⟩ := at_T35 HR1.out x5_1 p553 q553
      have hw553_4 := hx553_4
      have hw553_3 := hx553_3
      have hw553_2 := hx553_2
      have hw553_1 := hx553_1
      have hw553_0 := hx553_0
      cases e553
      replace hx553_0 := (HB.out.cell (World.block_lt_of_cell? w _ hx553_0)).trans hx553_0
      replace hx553_1 := (HB.out.cell (World.block_lt_of_cell? w _ hx553_1)).trans hx553_1
      replace hx553_2 := (HB.out.cell (World.block_lt_of_cell? w _ hx553_2)).trans hx553_2
      replace hx553_3 := (HB.out.cell (World.block_lt_of_cell? w _ hx553_3)).trans hx553_3
      replace hx553_4 := (HB.out.cell (World.block_lt_of_cell? w _ hx553_4)).trans hx553_4
      have HR553_0 := y0.mk hi553_0
      have HC553_0 := y0.mk hl553_0
      clear hi553_0 hl553_0
      have HR553_3 := y0.mk hi553_3
      have HC553_3 := y0.mk hl553_3
      clear hi553_3 hl553_3
      have HR553_4 := y0.mk hi553_4
      have HC553_4 := y0.mk hl553_4
      clear hi553_4 hl553_4
      replace p553 := eq_true p553
      replace q553 := eq_true q553
      refine start_ (n := 10) (S := fun w' => w'.cell? (ad552.add ((x5_1).toNat * 5)) = some (.slice A552_0 ((y20 l0 x5_1).f0).length c552_0) ∧ w'.cell? ⟨(ad552.add ((x5_1).toNat * 5)).block,(ad552.add ((x5_1).toNat * 5)).off + 1,none⟩ = some (.int .i64 ((y20 l0 x5_1).f1.f0)) ∧ w'.cell? ⟨(ad552.add ((x5_1).toNat * 5)).block,(ad552.add ((x5_1).toNat * 5)).off + 2,none⟩ = some (.string ((y20 l0 x5_1).f1.f1)) ∧ w'.cell? ⟨(ad552.add ((x5_1).toNat * 5)).block,(ad552.add ((x5_1).toNat * 5)).off + 3,none⟩ = some (.slice A552_3 ((y20 l0 x5_1).f1.f2).length c552_3) ∧ w'.cell? ⟨(ad552.add ((x5_1).toNat * 5)).block,(ad552.add ((x5_1).toNat * 5)).off + 4,none⟩ = some (.slice A552_4 ((y20 l0 x5_1).f2).length c552_4) ∧ w'.cell? (ad553.add ((x5_1).toNat * 5)) = some (.slice A553_0 ((y20 l1 x5_1).f0).length c553_0) ∧ w'.cell? ⟨(ad553.add ((x5_1).toNat * 5)).block,(ad553.add ((x5_1).toNat * 5)).off + 1,none⟩ = some (.int .i64 ((y20 l1 x5_1).f1.f0)) ∧ w'.cell? ⟨(ad553.add ((x5_1).toNat * 5)).block,(ad553.add ((x5_1).toNat * 5)).off + 2,none⟩ = some (.string ((y20 l1 x5_1).f1.f1)) ∧ w'.cell? ⟨(ad553.add ((x5_1).toNat * 5)).block,(ad553.add ((x5_1).toNat * 5)).off + 3,none⟩ = some (.slice A553_3 ((y20 l1 x5_1).f1.f2).length c553_3) ∧ w'.cell? ⟨(ad553.add ((x5_1).toNat * 5)).block,(ad553.add ((x5_1).toNat * 5)).off + 4,none⟩ = some (.slice A553_4 ((y20 l1 x5_1).f2).length c553_4)) (ds := []) (fl_ 10 0) (by kernel_rfl) rfl rfl ⟨((HB.out.cell (World.block_lt_of_cell? w _ hw552_0)).trans hw552_0),((HB.out.cell (World.block_lt_of_cell? w _ hw552_1)).trans hw552_1),((HB.out.cell (World.block_lt_of_cell? w _ hw552_2)).trans hw552_2),((HB.out.cell (World.block_lt_of_cell? w _ hw552_3)).trans hw552_3),((HB.out.cell (World.block_lt_of_cell? w _ hw552_4)).trans hw552_4),((HB.out.cell (World.block_lt_of_cell? w _ hw553_0)).trans hw553_0),((HB.out.cell (World.block_lt_of_cell? w _ hw553_1)).trans hw553_1),((HB.out.cell (World.block_lt_of_cell? w _ hw553_2)).trans hw553_2),((HB.out.cell (World.block_lt_of_cell? w _ hw553_3)).trans hw553_3),((HB.out.cell (World.block_lt_of_cell? w _ hw553_4)).trans hw553_4)⟩ (fun hHeld => ?_); refine with_tabW laws_eqRuleS.tab6 laws_eqRuleS.bits6 (fun HT_ HW_ => ?_)
      generalize wr.drew = w9 at HB HR552_0 HR552_3 HR552_4 HR553_0 HR553_3 HR553_4 hx552_0 hx552_1 hx552_2 hx552_3 hx552_4 hx553_0 hx553_1 hx553_2 hx553_3 hx553_4 hHeld ⊢
      refine qp 0 17 (fl_ 10 1) ?_
      refine qp 1 18 (fl_ 10 3) ?_
      refine qp 2 19 (fl_ 10 7) ?_
      refine qp 4 21 (fl_ 10 23) ?_
      refine qp 5 22 (fl_ 10 55) ?_
      refine qp 6 23 (fl_ 10 119) ?_
      refine qt 3 20 (fl_ 10 127) hHeld ?_
      refine qt 7 24 (fl_ 10 255) hHeld ?_
      refine one_ (i := 8) (N := some 25) (fl_ 10 511) rfl rfl (one_of HT_.out (by kernel_rfl)) (by decide) (fun K hK => ?_)
      refine goes_ Try.func10 (by kernel_rfl) rfl #[.agg #[.slice A552_0 ((y20 l0 x5_1).f0).length c552_0,.int .i64 ((y20 l0 x5_1).f1.f0),.string ((y20 l0 x5_1).f1.f1),.slice A552_3 ((y20 l0 x5_1).f1.f2).length c552_3,.slice A552_4 ((y20 l0 x5_1).f2).length c552_4],.agg #[.slice A553_0 ((y20 l1 x5_1).f0).length c553_0,.int .i64 ((y20 l1 x5_1).f1.f0),.string ((y20 l1 x5_1).f1.f1),.slice A553_3 ((y20 l1 x5_1).f1.f2).length c553_3,.slice A553_4 ((y20 l1 x5_1).f2).length c553_4]] (by rfl) rfl rfl qy0 ?_
      with_reducible refine (laws_eqRule.calls k1 _ _ ((y20 l0 x5_1).f0) ((y20 l0 x5_1).f1.f0) ((y20 l0 x5_1).f1.f1) _ _ ((y20 l0 x5_1).f1.f2) _ _ ((y20 l0 x5_1).f2) _ _ ((y20 l1 x5_1).f0) ((y20 l1 x5_1).f1.f0) ((y20 l1 x5_1).f1.f1) _ _ ((y20 l1 x5_1).f1.f2) _ _ ((y20 l1 x5_1).f2) true _ ?side1 ?side2 ?side3 ?side4 ?side5 ?side6 ?side7 ?side8 ?side9 ?side10 ?side11 ?side12 A7.out rfl).mono ?_
      (case side1 => repeat (first | exact (Kd.C_below HR552_0.out HB.out) | (with_reducible refine Kd.C_alloc ?_ _) | (with_reducible refine Kd.C_drewN ?_ _) | (with_reducible refine Kd.C_drew ?_)))
      (case side2 => exact HC552_0.out)
      (case side3 => repeat (first | exact (Kd.C_below HR552_3.out HB.out) | (with_reducible refine Kd.C_alloc ?_ _) | (with_reducible refine Kd.C_drewN ?_ _) | (with_reducible refine Kd.C_drew ?_)))
      (case side4 => exact HC552_3.out)
      (case side5 => repeat (first | exact (Kd.C_below HR552_4.out HB.out) | (with_reducible refine Kd.C_alloc ?_ _) | (with_reducible refine Kd.C_drewN ?_ _) | (with_reducible refine Kd.C_drew ?_)))
      (case side6 => exact HC552_4.out)
      (case side7 => repeat (first | exact (Kd.C_below HR553_0.out HB.out) | (with_reducible refine Kd.C_alloc ?_ _) | (with_reducible refine Kd.C_drewN ?_ _) | (with_reducible refine Kd.C_drew ?_)))
      (case side8 => exact HC553_0.out)
      (case side9 => repeat (first | exact (Kd.C_below HR553_3.out HB.out) | (with_reducible refine Kd.C_alloc ?_ _) | (with_reducible refine Kd.C_drewN ?_ _) | (with_reducible refine Kd.C_drew ?_)))
      (case side10 => exact HC553_3.out)
      (case side11 => repeat (first | exact (Kd.C_below HR553_4.out HB.out) | (with_reducible refine Kd.C_alloc ?_ _) | (with_reducible refine Kd.C_drewN ?_ _) | (with_reducible refine Kd.C_drew ?_)))
      (case side12 => exact HC553_4.out)
      rintro e w10 ⟨rfl,hb⟩
      refine ⟨_,rfl, ?_⟩
      replace HB := y0.mk (y4 qb hb)
      (try clear hb)
      (try clear hb2)
      (try clear hk)
      (try clear hi)
      refine hK.out _ _ ⟨((HB.out.cell (World.block_lt_of_cell? w _ hw552_0)).trans hw552_0),((HB.out.cell (World.block_lt_of_cell? w _ hw552_1)).trans hw552_1),((HB.out.cell (World.block_lt_of_cell? w _ hw552_2)).trans hw552_2),((HB.out.cell (World.block_lt_of_cell? w _ hw552_3)).trans hw552_3),((HB.out.cell (World.block_lt_of_cell? w _ hw552_4)).trans hw552_4),((HB.out.cell (World.block_lt_of_cell? w _ hw553_0)).trans hw553_0),((HB.out.cell (World.block_lt_of_cell? w _ hw553_1)).trans hw553_1),((HB.out.cell (World.block_lt_of_cell? w _ hw553_2)).trans hw553_2),((HB.out.cell (World.block_lt_of_cell? w _ hw553_3)).trans hw553_3),((HB.out.cell (World.block_lt_of_cell? w _ hw553_4)).trans hw553_4)⟩ (fun hHeld => ?_)
      clear hK K
      refine norm_ (a' := ?_) ?_ ?_
      rotate_left
      ·show Act.put _ (some 25) _ = _
       simp only [Act.put,qS_,qZ_,qC_,i64_w,i32_w]
       rfl
      refine qp 9 26 (fl_ 10 1023) ?_
      refine done_ (done_of HT_.out (by kernel_rfl)) ?_
      try go_wp2
      go_roundg k1
      case measure => have := HK1.out; omega
      exact ⟨(wrap64 (x5_1 + 1)),qy2,H',⟨by have := HK1.out; omega⟩,⟨qb⟩⟩
     ·replace c8 := Bool.eq_false_iff.mpr c8
      subst c8
      replace H := qF H
      exact absurd ((Option.some.inj H).trans htrue_) (by decide)
    ·rw [if_neg c4] at H
     have c4b0 := decide_eq_false c4
     clear c4
     obtain rfl := Option.some.inj H
     go_wp2
     go_ret
     exact ⟨by first | rfl | (simp [y12,y13] <;> rfl) | (simp [*,y12,y13] <;> rfl),qb⟩
 ·rw [if_neg c3] at H
  have c3b0 : ((l0.length : Int) == (l1.length : Int)) = false := beq_eq_false_iff_ne.mpr c3
  have c3b1 : ((l0.length : Int) != (l1.length : Int)) = true := bne_iff_ne.mpr c3
  have c3b2 : (l0.length == l1.length) = false := by first | simpa using c3 | (simp at c3 ⊢; omega)
  exact absurd ((Option.some.inj H).trans htrue_) (by decide)
def laws_eqProg.f (k : Nat) (l0_0 : List (S78)) (l0_1 : List (S84)) (l0_2 : List (S35)) (l1_0 : List (S78)) (l1_1 : List (S84)) (l1_2 : List (S35)) : Option (Bool) := (laws_eqTypeDeclS.f k l0_0 l1_0).bind fun t557 => (if t557 = true then ((laws_eqRelDeclS.f k l0_1 l1_1).bind fun t558 => (if t558 = true then ((laws_eqRuleS.f k l0_2 l1_2).bind fun t559 => (if t559 = true then (some true) else (some false))) else (some false))) else (some false))
set_option maxHeartbeats 8000000 in
set_option maxRecDepth 100000 in
theorem laws_eqProg.calls (k : Nat) (A0_0 : Option Addr) (c0_0 : Nat) (l0_0 : List (S78)) (A0_1 : Option Addr) (c0_1 : Nat) (l0_1 : List (S84)) (A0_2 : Option Addr) (c0_2 : Nat) (l0_2 : List (S35)) (A1_0 : Option Addr) (c1_0 : Nat) (l1_0 : List (S78)) (A1_1 : Option Addr) (c1_1 : Nat) (l1_1 : List (S84)) (A1_2 : Option Addr) (c1_2 : Nat) (l1_2 : List (S35)) (r : Bool) (w : World) (hr0_0 : Kd.C k78 w A0_0 l0_0.length l0_0) (hc0_0 : l0_0.length ≤ c0_0) (hr0_1 : Kd.C k84 w A0_1 l0_1.length l0_1) (hc0_1 : l0_1.length ≤ c0_1) (hr0_2 : Kd.C k35 w A0_2 l0_2.length l0_2) (hc0_2 : l0_2.length ≤ c0_2) (hr1_0 : Kd.C k78 w A1_0 l1_0.length l1_0) (hc1_0 : l1_0.length ≤ c1_0) (hr1_1 : Kd.C k84 w A1_1 l1_1.length l1_1) (hc1_1 : l1_1.length ≤ c1_1) (hr1_2 : Kd.C k35 w A1_2 l1_2.length l1_2) (hc1_2 : l1_2.length ≤ c1_2) (h : laws_eqProg.f k l0_0 l0_1 l0_2 l1_0 l1_1 l1_2 = some r) (htrue_ : r = true) :
  Calls Try.prog 15 #[.agg #[.slice A0_0 l0_0.length c0_0,.slice A0_1 l0_1.length c0_1,.slice A0_2 l0_2.length c0_2],.agg #[.slice A1_0 l1_0.length c1_0,.slice A1_1 l1_1.length c1_1,.slice A1_2 l1_2.length c1_2]] w fun e w' => e = .returned (.bool r) ∧ Below w.heap.size w w' := by
 have hu50 := Try.underlying50
 have HR0_0 := y0.mk hr0_0
 have HC0_0 := y0.mk hc0_0
 clear hr0_0 hc0_0
 have HR0_1 := y0.mk hr0_1
 have HC0_1 := y0.mk hc0_1
 clear hr0_1 hc0_1
 have HR0_2 := y0.mk hr0_2
 have HC0_2 := y0.mk hc0_2
 clear hr0_2 hc0_2
 have HR1_0 := y0.mk hr1_0
 have HC1_0 := y0.mk hc1_0
 clear hr1_0 hc1_0
 have HR1_1 := y0.mk hr1_1
 have HC1_1 := y0.mk hc1_1
 clear hr1_1 hc1_1
 have HR1_2 := y0.mk hr1_2
 have HC1_2 := y0.mk hc1_2
 clear hr1_2 hc1_2
 have HB := y0.mk (Below.refl w.heap.size w)
 have H : ((laws_eqTypeDeclS.f k l0_0 l1_0).bind fun t557 => (if t557 = true then ((laws_eqRelDeclS.f k l0_1 l1_1).bind fun t558 => (if t558 = true then ((laws_eqRuleS.f k l0_2 l1_2).bind fun t559 => (if t559 = true then (some true) else (some false))) else (some false))) else (some false))) = some r := h
 clear h
 obtain ⟨t557,A3,H⟩ := qB H
 by_cases c4 : t557 = true
 ·subst c4
  replace H := qT H
  obtain ⟨t558,A5,H⟩ := qB H
  by_cases c6 : t558 = true
  ·subst c6
   replace H := qT H
   obtain ⟨t559,A7,H⟩ := qB H
   by_cases c8 : t559 = true
   ·subst c8
    replace H := qT H
    obtain rfl := Option.some.inj H
    go_enter Try.func15,Try.ntmps15
    go_wp2_with (first | ((with_reducible refine y16 (N := 2) rfl ?_); refine qe 2 #[.slice A0_0 l0_0.length c0_0,.slice A0_1 l0_1.length c0_1,.slice A0_2 l0_2.length c0_2] 50 ?_; intro gb555 hg w9 hbox hb; have BK555 := y0.mk (hbox); have GW555 := y0.mk (qg (w := w) hg); have GE555 := y0.mk (qg (w := w) hg); replace HB := y0.mk (y4 qb hb); clear hb hbox hg) | ((with_reducible refine y16 (N := 3) rfl ?_); refine qe 3 #[.slice A1_0 l1_0.length c1_0,.slice A1_1 l1_1.length c1_1,.slice A1_2 l1_2.length c1_2] 50 ?_; intro gb556 hg w10 hbox hb; have BK556 := y0.mk (hbox); have GW556 := y0.mk (qg (w := w) hg); have GE556 := y0.mk (qg (w := w) hg); replace HB := y0.mk (y4 qb hb); have NB555_556 := y0.mk (qn BK555.out hg); have NB556_555 := y0.mk (qm BK555.out hg); replace BK555 := y0.mk (qK BK555.out hb); clear hb hbox hg; have hnb11 := NB555_556.out; have hnc11 := NB556_555.out; obtain ⟨hcz12_0,hcz12_1,hcz12_2,hfz12_0,hfz12_1,hfz12_2⟩ := qz3 BK555.out; obtain ⟨hcz13_0,hcz13_1,hcz13_2,hfz13_0,hfz13_1,hfz13_2⟩ := qz3 BK556.out) | ((with_reducible refine y15 (f := 43) rfl ?_); refine y17 (some 9) rfl rfl Try.func43 (by kernel_rfl) rfl #[.slice A0_0 l0_0.length c0_0,.slice A1_0 l1_0.length c1_0] rfl qy0 ?_; (with_reducible refine (laws_eqTypeDeclS.calls k _ _ l0_0 _ _ l1_0 true _ (qc (Kd.C_below HR0_0.out HB.out)) HC0_0.out (qc (Kd.C_below HR1_0.out HB.out)) HC1_0.out A3.out rfl).mono ?_); rintro e w14 ⟨rfl,hb⟩; refine ⟨_,rfl, ?_⟩; replace BK555 := y0.mk (qK BK555.out hb); replace BK556 := y0.mk (qK BK556.out hb); replace HB := y0.mk (y4 qb hb); (try clear hb); (try clear hb2); (try clear hk); (try clear hi); obtain ⟨hcz15_0,hcz15_1,hcz15_2,hfz15_0,hfz15_1,hfz15_2⟩ := qz3 BK555.out; obtain ⟨hcz16_0,hcz16_1,hcz16_2,hfz16_0,hfz16_1,hfz16_2⟩ := qz3 BK556.out) | ((with_reducible refine y15 (f := 44) rfl ?_); refine y17 (some 15) rfl rfl Try.func44 (by kernel_rfl) rfl #[.slice A0_1 l0_1.length c0_1,.slice A1_1 l1_1.length c1_1] rfl qy0 ?_; (with_reducible refine (laws_eqRelDeclS.calls k _ _ l0_1 _ _ l1_1 true _ (qc (Kd.C_below HR0_1.out HB.out)) HC0_1.out (qc (Kd.C_below HR1_1.out HB.out)) HC1_1.out A5.out rfl).mono ?_); rintro e w17 ⟨rfl,hb⟩; refine ⟨_,rfl, ?_⟩; replace BK555 := y0.mk (qK BK555.out hb); replace BK556 := y0.mk (qK BK556.out hb); replace HB := y0.mk (y4 qb hb); (try clear hb); (try clear hb2); (try clear hk); (try clear hi); obtain ⟨hcz18_0,hcz18_1,hcz18_2,hfz18_0,hfz18_1,hfz18_2⟩ := qz3 BK555.out; obtain ⟨hcz19_0,hcz19_1,hcz19_2,hfz19_0,hfz19_1,hfz19_2⟩ := qz3 BK556.out) | ((with_reducible refine y15 (f := 45) rfl ?_); refine y17 (some 21) rfl rfl Try.func45 (by kernel_rfl) rfl #[.slice A0_2 l0_2.length c0_2,.slice A1_2 l1_2.length c1_2] rfl qy0 ?_; (with_reducible refine (laws_eqRuleS.calls k _ _ l0_2 _ _ l1_2 true _ (qc (Kd.C_below HR0_2.out HB.out)) HC0_2.out (qc (Kd.C_below HR1_2.out HB.out)) HC1_2.out A7.out rfl).mono ?_); rintro e w20 ⟨rfl,hb⟩; refine ⟨_,rfl, ?_⟩; replace BK555 := y0.mk (qK BK555.out hb); replace BK556 := y0.mk (qK BK556.out hb); replace HB := y0.mk (y4 qb hb); (try clear hb); (try clear hb2); (try clear hk); (try clear hi)))
    go_ret
    exact ⟨by first | rfl | (simp [y12,y13] <;> rfl) | (simp [*,y12,y13] <;> rfl),qb⟩
   ·replace c8 := Bool.eq_false_iff.mpr c8
    subst c8
    replace H := qF H
    exact absurd ((Option.some.inj H).trans htrue_) (by decide)
  ·replace c6 := Bool.eq_false_iff.mpr c6
   subst c6
   replace H := qF H
   exact absurd ((Option.some.inj H).trans htrue_) (by decide)
 ·replace c4 := Bool.eq_false_iff.mpr c4
  subst c4
  replace H := qF H
  exact absurd ((Option.some.inj H).trans htrue_) (by decide)
end Go.Proofs.Ytamjmldfifofbaa.Pp
end
section
namespace Go.Proofs.Ytamjmldfifofbaa.Pp
open Go.RowKit Go.Proofs.YtamjmldfifofbaaW.PrintWords Go.Proofs.YtamjmldfifofbaaW.PrintLast Go.Proofs.YtamjmldfifofbaaW.PrintMore
attribute [local go_sem] max2_int min2_int max_two min_two max_three min_three max_four min_four   -- for this text's walks alone
set_option linter.unusedVariables false
set_option linter.unusedSimpArgs false
def laws_FnExactProgText.f (k : Nat) (l0_0 : List (S112)) (l0_1 : List (S114)) (l0_2 : List (S28)) : Option (Bool) := (laws_szProg.f k l0_0 l0_1 l0_2 1048576).bind fun t561 => (if t561 < 0 then (some true) else ((laws_toProg.f k l0_0 l0_1 l0_2).bind fun bt562 => ((z6_.f k bt562.1 bt562.2.1 bt562.2.2).bind fun t571 => ((laws_toProg.f k l0_0 l0_1 l0_2).bind fun bt572 => ((impl_ProgText.f k bt572.1 bt572.2.1 bt572.2.2).bind fun t582 => (if t582.toList = t571.toList then ((laws_toProg.f k l0_0 l0_1 l0_2).bind fun bt583 => ((laws_eqProg.f k bt572.1 bt572.2.1 bt572.2.2 bt583.1 bt583.2.1 bt583.2.2).bind fun t592 => (if t592 = true then (some true) else (some false)))) else (some false)))))))
set_option maxHeartbeats 8000000 in
set_option maxRecDepth 100000 in
theorem laws_FnExactProgText.calls (k : Nat) (A0_0 : Option Addr) (c0_0 : Nat) (l0_0 : List (S112)) (A0_1 : Option Addr) (c0_1 : Nat) (l0_1 : List (S114)) (A0_2 : Option Addr) (c0_2 : Nat) (l0_2 : List (S28)) (r : Bool) (w : World) (hr0_0 : Kd.C k112 w A0_0 l0_0.length l0_0) (hc0_0 : l0_0.length ≤ c0_0) (hr0_1 : Kd.C k114 w A0_1 l0_1.length l0_1) (hc0_1 : l0_1.length ≤ c0_1) (hr0_2 : Kd.C k28 w A0_2 l0_2.length l0_2) (hc0_2 : l0_2.length ≤ c0_2) (h : laws_FnExactProgText.f k l0_0 l0_1 l0_2 = some r) (htrue_ : r = true) :
  Calls Try.prog 4 #[.agg #[.slice A0_0 l0_0.length c0_0,.slice A0_1 l0_1.length c0_1,.slice A0_2 l0_2.length c0_2]] w fun e w' => e = .returned (.bool r) ∧ Below w.heap.size w w' := by
 have hu43 := Try.underlying43
 have hu50 := Try.underlying50
 have HR0_0 := y0.mk hr0_0
 have HC0_0 := y0.mk hc0_0
 clear hr0_0 hc0_0
 have HR0_1 := y0.mk hr0_1
 have HC0_1 := y0.mk hc0_1
 clear hr0_1 hc0_1
 have HR0_2 := y0.mk hr0_2
 have HC0_2 := y0.mk hc0_2
 clear hr0_2 hc0_2
 have HB := y0.mk (Below.refl w.heap.size w)
 have H : ((laws_szProg.f k l0_0 l0_1 l0_2 1048576).bind fun t561 => (if t561 < 0 then (some true) else ((laws_toProg.f k l0_0 l0_1 l0_2).bind fun bt562 => ((z6_.f k bt562.1 bt562.2.1 bt562.2.2).bind fun t571 => ((laws_toProg.f k l0_0 l0_1 l0_2).bind fun bt572 => ((impl_ProgText.f k bt572.1 bt572.2.1 bt572.2.2).bind fun t582 => (if t582.toList = t571.toList then ((laws_toProg.f k l0_0 l0_1 l0_2).bind fun bt583 => ((laws_eqProg.f k bt572.1 bt572.2.1 bt572.2.2 bt583.1 bt583.2.1 bt583.2.2).bind fun t592 => (if t592 = true then (some true) else (some false)))) else (some false)))))))) = some r := h
 clear h
 obtain ⟨t561,A2,H⟩ := qB H
 by_cases c3 : t561 < 0
 ·rw [if_pos c3] at H
  have c3b0 := decide_eq_true c3
  clear c3
  obtain rfl := Option.some.inj H
  go_enter Try.func4,Try.ntmps4
  go_wp2_with (first | ((with_reducible refine y16 (N := 1) rfl ?_); refine qe 1 #[.slice A0_0 l0_0.length c0_0,.slice A0_1 l0_1.length c0_1,.slice A0_2 l0_2.length c0_2] 43 ?_; intro gb560 hg w4 hbox hb; have BK560 := y0.mk (hbox); have GW560 := y0.mk (qg (w := w) hg); have GE560 := y0.mk (qg (w := w) hg); replace HB := y0.mk (y4 qb hb); clear hb hbox hg; obtain ⟨hcz5_0,hcz5_1,hcz5_2,hfz5_0,hfz5_1,hfz5_2⟩ := qz3 BK560.out) | ((with_reducible refine y15 (f := 11) rfl ?_); refine y17 (some 9) rfl rfl Try.func11 (by kernel_rfl) rfl #[.agg #[.slice A0_0 l0_0.length c0_0,.slice A0_1 l0_1.length c0_1,.slice A0_2 l0_2.length c0_2],.int .i64 1048576] rfl qy0 ?_; (with_reducible refine (laws_szProg.calls k _ _ l0_0 _ _ l0_1 _ _ l0_2 1048576 t561 _ (qc (Kd.C_below HR0_0.out HB.out)) HC0_0.out (qc (Kd.C_below HR0_1.out HB.out)) HC0_1.out (qc (Kd.C_below HR0_2.out HB.out)) HC0_2.out A2.out).mono ?_); rintro e w6 ⟨rfl,hb⟩; refine ⟨_,rfl, ?_⟩; replace BK560 := y0.mk (qK BK560.out hb); replace HB := y0.mk (y4 qb hb); (try clear hb); (try clear hb2); (try clear hk); (try clear hi)))
  go_ret
  exact ⟨by first | rfl | (simp [y12,y13] <;> rfl) | (simp [*,y12,y13] <;> rfl),qb⟩
 ·rw [if_neg c3] at H
  have c3b0 := decide_eq_false c3
  clear c3
  obtain ⟨⟨t562,t565,t568⟩,A7,H⟩ := qB H
  replace H : ((z6_.f k t562 t565 t568).bind fun t571 => ((laws_toProg.f k l0_0 l0_1 l0_2).bind fun bt572 => ((impl_ProgText.f k bt572.1 bt572.2.1 bt572.2.2).bind fun t582 => (if t582.toList = t571.toList then ((laws_toProg.f k l0_0 l0_1 l0_2).bind fun bt583 => ((laws_eqProg.f k bt572.1 bt572.2.1 bt572.2.2 bt583.1 bt583.2.1 bt583.2.2).bind fun t592 => (if t592 = true then (some true) else (some false)))) else (some false))))) = some r := H
  obtain ⟨t571,A8,H⟩ := qB H
  obtain ⟨⟨t572,t575,t578⟩,A9,H⟩ := qB H
  replace H : ((impl_ProgText.f k t572 t575 t578).bind fun t582 => (if t582.toList = t571.toList then ((laws_toProg.f k l0_0 l0_1 l0_2).bind fun bt583 => ((laws_eqProg.f k t572 t575 t578 bt583.1 bt583.2.1 bt583.2.2).bind fun t592 => (if t592 = true then (some true) else (some false)))) else (some false))) = some r := H
  obtain ⟨t582,A10,H⟩ := qB H
  by_cases c11 : t582.toList = t571.toList
  ·rw [if_pos c11] at H
   have c11b0 : (t582.toList == t571.toList) = true := beq_iff_eq.mpr c11
   have c11b1 : (t582.toList != t571.toList) = false := bne_eq_false_iff_eq.mpr c11
   clear c11
   obtain ⟨⟨t583,t586,t589⟩,A12,H⟩ := qB H
   replace H : ((laws_eqProg.f k t572 t575 t578 t583 t586 t589).bind fun t592 => (if t592 = true then (some true) else (some false))) = some r := H
   obtain ⟨t592,A13,H⟩ := qB H
   by_cases c14 : t592 = true
   ·subst c14
    replace H := qT H
    obtain rfl := Option.some.inj H
    go_enter Try.func4,Try.ntmps4
    try go_wp2_with (first | ((with_reducible refine y16 (N := 1) rfl ?_); refine qe 1 #[.slice A0_0 l0_0.length c0_0,.slice A0_1 l0_1.length c0_1,.slice A0_2 l0_2.length c0_2] 43 ?_; intro gb560 hg w15 hbox hb; have BK560 := y0.mk (hbox); have GW560 := y0.mk (qg (w := w) hg); have GE560 := y0.mk (qg (w := w) hg); replace HB := y0.mk (y4 qb hb); clear hb hbox hg; obtain ⟨hcz16_0,hcz16_1,hcz16_2,hfz16_0,hfz16_1,hfz16_2⟩ := qz3 BK560.out) | ((with_reducible refine y15 (f := 11) rfl ?_); refine y17 (some 9) rfl rfl Try.func11 (by kernel_rfl) rfl #[.agg #[.slice A0_0 l0_0.length c0_0,.slice A0_1 l0_1.length c0_1,.slice A0_2 l0_2.length c0_2],.int .i64 1048576] rfl qy0 ?_; (with_reducible refine (laws_szProg.calls k _ _ l0_0 _ _ l0_1 _ _ l0_2 1048576 t561 _ (qc (Kd.C_below HR0_0.out HB.out)) HC0_0.out (qc (Kd.C_below HR0_1.out HB.out)) HC0_1.out (qc (Kd.C_below HR0_2.out HB.out)) HC0_2.out A2.out).mono ?_); rintro e w17 ⟨rfl,hb⟩; refine ⟨_,rfl, ?_⟩; replace BK560 := y0.mk (qK BK560.out hb); replace HB := y0.mk (y4 qb hb); (try clear hb); (try clear hb2); (try clear hk); (try clear hi); obtain ⟨hcz18_0,hcz18_1,hcz18_2,hfz18_0,hfz18_1,hfz18_2⟩ := qz3 BK560.out) | ((with_reducible refine y15 (f := 13) rfl ?_); refine y17 (some 13) rfl rfl Try.func13 (by kernel_rfl) rfl #[.agg #[.slice A0_0 l0_0.length c0_0,.slice A0_1 l0_1.length c0_1,.slice A0_2 l0_2.length c0_2]] rfl qy0 ?_; (with_reducible refine (laws_toProg.calls k _ _ l0_0 _ _ l0_1 _ _ l0_2 t562 t565 t568 _ (qc (Kd.C_below HR0_0.out HB.out)) HC0_0.out (qc (Kd.C_below HR0_1.out HB.out)) HC0_1.out (qc (Kd.C_below HR0_2.out HB.out)) HC0_2.out A7.out).mono ?_); rintro e w19 ⟨v563,v566,v569,rfl,ho0,ho1,ho2,hb⟩; refine ⟨_,rfl, ?_⟩; have HO564 := y0.mk (Kd.R_lower ho0 (y3 qb)); have HO567 := y0.mk (Kd.S_lower ho1 (y3 qb)); have HO570 := y0.mk (Kd.R_lower ho2 (y3 qb)); replace BK560 := y0.mk (qK BK560.out hb); replace HB := y0.mk (y4 qb hb); (try clear hb); (try clear hb2); (try clear hk); (try clear hi); (try clear ho0); (try clear ho1); (try clear ho2); obtain ⟨Ao20,co20,eo20⟩ := Kd.R_slice HO564.out; subst eo20; obtain ⟨Ao21,co21,eo21⟩ := Kd.S_slice HO567.out; subst eo21; obtain ⟨Ao22,co22,eo22⟩ := Kd.R_slice HO570.out; subst eo22) | ((with_reducible refine y15 (f := 12) rfl ?_); refine y17 (some 14) rfl rfl Try.func12 (by kernel_rfl) rfl #[.agg #[.slice Ao20 t562.length co20,.slice Ao21 t565.length co21,.slice Ao22 t568.length co22]] rfl qy0 ?_; (with_reducible refine (z6_.calls k _ _ t562 _ _ t565 _ _ t568 t571 _ (qc ((Kd.R_reads' HO564.out).2.2)) (by exact (Kd.R_reads' HO564.out).2.1) (qc ((Kd.S_reads' HO567.out).2.2)) (by exact (Kd.S_reads' HO567.out).2.1) (qc ((Kd.R_reads' HO570.out).2.2)) (by exact (Kd.R_reads' HO570.out).2.1) A8.out).mono ?_); rintro e w23 ⟨rfl,hb⟩; refine ⟨_,rfl, ?_⟩; replace HO564 := y0.mk (Kd.R_below (qR HO564.out) hb); replace HO567 := y0.mk (Kd.S_below (qS HO567.out) hb); replace HO570 := y0.mk (Kd.R_below (qR HO570.out) hb); replace BK560 := y0.mk (qK BK560.out hb); replace HB := y0.mk (y4 qb hb); (try clear hb); (try clear hb2); (try clear hk); (try clear hi); obtain ⟨hcz24_0,hcz24_1,hcz24_2,hfz24_0,hfz24_1,hfz24_2⟩ := qz3 BK560.out) | ((with_reducible refine y15 (f := 13) rfl ?_); refine y17 (some 16) rfl rfl Try.func13 (by kernel_rfl) rfl #[.agg #[.slice A0_0 l0_0.length c0_0,.slice A0_1 l0_1.length c0_1,.slice A0_2 l0_2.length c0_2]] rfl qy0 ?_; (with_reducible refine (laws_toProg.calls k _ _ l0_0 _ _ l0_1 _ _ l0_2 t572 t575 t578 _ (qc (Kd.C_below HR0_0.out HB.out)) HC0_0.out (qc (Kd.C_below HR0_1.out HB.out)) HC0_1.out (qc (Kd.C_below HR0_2.out HB.out)) HC0_2.out A9.out).mono ?_); rintro e w25 ⟨v573,v576,v579,rfl,ho0,ho1,ho2,hb⟩; refine ⟨_,rfl, ?_⟩; have HO574 := y0.mk (Kd.R_lower (Kd.R_new' ho0 (Kd.R_lt (qR HO564.out))) (y3 qb)); replace HO564 := y0.mk (Kd.R_elder' (qR HO564.out) (Kd.R_base ho0) hb); have HO577 := y0.mk (Kd.S_lower (Kd.S_new' ho1 (Kd.S_lt (qS HO567.out))) (y3 qb)); replace HO567 := y0.mk (Kd.S_elder' (qS HO567.out) (Kd.S_base ho1) hb); have HO580 := y0.mk (Kd.R_lower (Kd.R_new' ho2 (Kd.R_lt (qR HO570.out))) (y3 qb)); replace HO570 := y0.mk (Kd.R_elder' (qR HO570.out) (Kd.R_base ho2) hb); replace BK560 := y0.mk (qK BK560.out hb); replace HB := y0.mk (y4 qb hb); (try clear hb); (try clear hb2); (try clear hk); (try clear hi); (try clear ho0); (try clear ho1); (try clear ho2)) | ((with_reducible refine y16 (N := 5) rfl ?_); refine qe 5 #[.slice none 0 0,.slice none 0 0,.slice none 0 0] 50 ?_; intro gb581 hg w26 hbox hb; replace HO564 := y0.mk (Kd.R_below (qR HO564.out) hb); replace HO567 := y0.mk (Kd.S_below (qS HO567.out) hb); replace HO570 := y0.mk (Kd.R_below (qR HO570.out) hb); replace HO574 := y0.mk (Kd.R_below (qR HO574.out) hb); replace HO577 := y0.mk (Kd.S_below (qS HO577.out) hb); replace HO580 := y0.mk (Kd.R_below (qR HO580.out) hb); have BK581 := y0.mk (hbox); have GW581 := y0.mk (qg (w := w) hg); have GE581 := y0.mk (qg (w := w) hg); replace HB := y0.mk (y4 qb hb); have NB560_581 := y0.mk (qn BK560.out hg); have NB581_560 := y0.mk (qm BK560.out hg); replace BK560 := y0.mk (qK BK560.out hb); clear hb hbox hg; obtain ⟨Ao27,co27,eo27⟩ := Kd.R_slice HO574.out; subst eo27; have hnb28 := NB581_560.out; have hnc28 := NB560_581.out; obtain ⟨hcz29_0,hcz29_1,hcz29_2,hfz29_0,hfz29_1,hfz29_2⟩ := qz3 BK581.out; obtain ⟨Ao30,co30,eo30⟩ := Kd.S_slice HO577.out; subst eo30; obtain ⟨Ao31,co31,eo31⟩ := Kd.R_slice HO580.out; subst eo31) | ((with_reducible refine y15 (f := 14) rfl ?_); refine y17 (some 18) rfl rfl Try.func14 (by kernel_rfl) rfl #[.agg #[.slice Ao27 t572.length co27,.slice Ao30 t575.length co30,.slice Ao31 t578.length co31]] rfl qy0 ?_; (with_reducible refine (impl_ProgText.calls k _ _ t572 _ _ t575 _ _ t578 t582 _ (by refine (Kd.R_reads' (e := 78) (base := w.heap.size) (ok := fun k_ => (True ∧ some k_ ≠ (.slice Ao20 t562.length co20 : Value).ownBlock)) (n := t572.length) (c := co27) ?_).2.2; exact (qR ((Kd.R_mono (Kd.R_far (p := ⟨gb581,2,none⟩) (Kd.R_far (p := ⟨gb581,1,none⟩) (Kd.R_far (p := ⟨gb581,0,none⟩) (Kd.R_types HO574.out BK581.out (by decide)) (fun _ hk => hk.2) (.slice Ao27 t572.length co27)) (fun _ hk => hk.2) (.slice Ao30 t575.length co30)) (fun _ hk => hk.2) (.slice Ao31 t578.length co31)) (fun _ h_ => h_.1))))) (by exact (Kd.R_reads' HO574.out).2.1) (by refine (Kd.S_reads' (e := 84) (base := w.heap.size) (ok := fun k_ => (True ∧ some k_ ≠ (.slice Ao21 t565.length co21 : Value).ownBlock)) (n := t575.length) (c := co30) ?_).2.2; exact (qS ((Kd.S_mono (Kd.S_far (p := ⟨gb581,2,none⟩) (Kd.S_far (p := ⟨gb581,1,none⟩) (Kd.S_far (p := ⟨gb581,0,none⟩) (Kd.S_types HO577.out BK581.out (by decide)) (fun _ hk => hk.2) (.slice Ao27 t572.length co27)) (fun _ hk => hk.2) (.slice Ao30 t575.length co30)) (fun _ hk => hk.2) (.slice Ao31 t578.length co31)) (fun _ h_ => h_.1))))) (by exact (Kd.S_reads' HO577.out).2.1) (by refine (Kd.R_reads' (e := 35) (base := w.heap.size) (ok := fun k_ => (True ∧ some k_ ≠ (.slice Ao22 t568.length co22 : Value).ownBlock)) (n := t578.length) (c := co31) ?_).2.2; exact (qR ((Kd.R_mono (Kd.R_far (p := ⟨gb581,2,none⟩) (Kd.R_far (p := ⟨gb581,1,none⟩) (Kd.R_far (p := ⟨gb581,0,none⟩) (Kd.R_types HO580.out BK581.out (by decide)) (fun _ hk => hk.2) (.slice Ao27 t572.length co27)) (fun _ hk => hk.2) (.slice Ao30 t575.length co30)) (fun _ hk => hk.2) (.slice Ao31 t578.length co31)) (fun _ h_ => h_.1))))) (by exact (Kd.R_reads' HO580.out).2.1) A10.out).mono ?_); rintro e w32 ⟨rfl,hb⟩; refine ⟨_,rfl, ?_⟩; replace HO564 := y0.mk (Kd.R_below (qR ((Kd.R_mono (Kd.R_far (p := ⟨gb581,2,none⟩) (Kd.R_far (p := ⟨gb581,1,none⟩) (Kd.R_far (p := ⟨gb581,0,none⟩) (Kd.R_types HO564.out BK581.out (by decide)) (fun _ hk => hk.2) (.slice Ao27 t572.length co27)) (fun _ hk => hk.2) (.slice Ao30 t575.length co30)) (fun _ hk => hk.2) (.slice Ao31 t578.length co31)) (fun _ h_ => h_.1)))) hb); replace HO567 := y0.mk (Kd.S_below (qS ((Kd.S_mono (Kd.S_far (p := ⟨gb581,2,none⟩) (Kd.S_far (p := ⟨gb581,1,none⟩) (Kd.S_far (p := ⟨gb581,0,none⟩) (Kd.S_types HO567.out BK581.out (by decide)) (fun _ hk => hk.2) (.slice Ao27 t572.length co27)) (fun _ hk => hk.2) (.slice Ao30 t575.length co30)) (fun _ hk => hk.2) (.slice Ao31 t578.length co31)) (fun _ h_ => h_.1)))) hb); replace HO570 := y0.mk (Kd.R_below (qR ((Kd.R_mono (Kd.R_far (p := ⟨gb581,2,none⟩) (Kd.R_far (p := ⟨gb581,1,none⟩) (Kd.R_far (p := ⟨gb581,0,none⟩) (Kd.R_types HO570.out BK581.out (by decide)) (fun _ hk => hk.2) (.slice Ao27 t572.length co27)) (fun _ hk => hk.2) (.slice Ao30 t575.length co30)) (fun _ hk => hk.2) (.slice Ao31 t578.length co31)) (fun _ h_ => h_.1)))) hb); replace HO574 := y0.mk (Kd.R_below (qR ((Kd.R_mono (Kd.R_far (p := ⟨gb581,2,none⟩) (Kd.R_far (p := ⟨gb581,1,none⟩) (Kd.R_far (p := ⟨gb581,0,none⟩) (Kd.R_types HO574.out BK581.out (by decide)) (fun _ hk => hk.2) (.slice Ao27 t572.length co27)) (fun _ hk => hk.2) (.slice Ao30 t575.length co30)) (fun _ hk => hk.2) (.slice Ao31 t578.length co31)) (fun _ h_ => h_.1)))) hb); replace HO577 := y0.mk (Kd.S_below (qS ((Kd.S_mono (Kd.S_far (p := ⟨gb581,2,none⟩) (Kd.S_far (p := ⟨gb581,1,none⟩) (Kd.S_far (p := ⟨gb581,0,none⟩) (Kd.S_types HO577.out BK581.out (by decide)) (fun _ hk => hk.2) (.slice Ao27 t572.length co27)) (fun _ hk => hk.2) (.slice Ao30 t575.length co30)) (fun _ hk => hk.2) (.slice Ao31 t578.length co31)) (fun _ h_ => h_.1)))) hb); replace HO580 := y0.mk (Kd.R_below (qR ((Kd.R_mono (Kd.R_far (p := ⟨gb581,2,none⟩) (Kd.R_far (p := ⟨gb581,1,none⟩) (Kd.R_far (p := ⟨gb581,0,none⟩) (Kd.R_types HO580.out BK581.out (by decide)) (fun _ hk => hk.2) (.slice Ao27 t572.length co27)) (fun _ hk => hk.2) (.slice Ao30 t575.length co30)) (fun _ hk => hk.2) (.slice Ao31 t578.length co31)) (fun _ h_ => h_.1)))) hb); replace BK560 := y0.mk (y6 (g := gb560) (o := .cells #[.slice A0_0 l0_0.length c0_0,.slice A0_1 l0_1.length c0_1,.slice A0_2 l0_2.length c0_2] 43 (0,0)) (by (with_reducible repeat (first | refine y9 ?_ _ | refine y8 ?_ | refine y5 ?_ _)); refine y10 ?_ NB560_581.out _; (with_reducible repeat (first | refine y9 ?_ _ | refine y8 ?_ | refine y5 ?_ _)); refine y10 ?_ NB560_581.out _; (with_reducible repeat (first | refine y9 ?_ _ | refine y8 ?_ | refine y5 ?_ _)); refine y10 ?_ NB560_581.out _; (with_reducible repeat (first | refine y9 ?_ _ | refine y8 ?_ | refine y5 ?_ _)); exact BK560.out) hb); replace BK581 := y0.mk (y6 (g := gb581) (o := .cells #[.slice Ao27 t572.length co27,.slice Ao30 t575.length co30,.slice Ao31 t578.length co31] 50 (0,0)) (by (with_reducible repeat (first | refine y9 ?_ _ | refine y8 ?_ | refine y5 ?_ _)); refine y11 (cs := #[.slice Ao27 t572.length co27,.slice Ao30 t575.length co30,.slice none 0 0]) ?_ 2 _ rfl; (with_reducible repeat (first | refine y9 ?_ _ | refine y8 ?_ | refine y5 ?_ _)); refine y11 (cs := #[.slice Ao27 t572.length co27,.slice none 0 0,.slice none 0 0]) ?_ 1 _ rfl; (with_reducible repeat (first | refine y9 ?_ _ | refine y8 ?_ | refine y5 ?_ _)); refine y11 (cs := #[.slice none 0 0,.slice none 0 0,.slice none 0 0]) ?_ 0 _ rfl; (with_reducible repeat (first | refine y9 ?_ _ | refine y8 ?_ | refine y5 ?_ _)); exact BK581.out) hb); replace HB := y0.mk (y4 qb hb); (try clear hb); (try clear hb2); (try clear hk); (try clear hi)))
    replace HO564 := y0.mk (Kd.R_drew HO564.out)
    replace HO567 := y0.mk (Kd.S_drew HO567.out)
    replace HO570 := y0.mk (Kd.R_drew HO570.out)
    replace HO574 := y0.mk (Kd.R_drew HO574.out)
    replace HO577 := y0.mk (Kd.S_drew HO577.out)
    replace HO580 := y0.mk (Kd.R_drew HO580.out)
    replace BK560 := y0.mk (y8 BK560.out)
    replace BK581 := y0.mk (y8 BK581.out)
    replace HB := y0.mk (below_drew1 HB.out)
    refine start_ (n := 5) (S := fun w' => w'.cell? ⟨gb581,0,none⟩ = some (.slice Ao27 t572.length co27) ∧ w'.cell? ⟨gb581,1,none⟩ = some (.slice Ao30 t575.length co30) ∧ w'.cell? ⟨gb581,2,none⟩ = some (.slice Ao31 t578.length co31) ∧ w'.cell? ⟨gb560,0,none⟩ = some (.slice A0_0 l0_0.length c0_0) ∧ w'.cell? ⟨gb560,1,none⟩ = some (.slice A0_1 l0_1.length c0_1) ∧ w'.cell? ⟨gb560,2,none⟩ = some (.slice A0_2 l0_2.length c0_2)) (ds := []) #[false,false,false,false,false] (by kernel_rfl) rfl rfl ⟨(y7 BK581.out 0).trans rfl,(y7 BK581.out 1).trans rfl,(y7 BK581.out 2).trans rfl,(y7 BK560.out 0).trans rfl,(y7 BK560.out 1).trans rfl,(y7 BK560.out 2).trans rfl⟩ (fun hHeld => ?_)
    generalize w32.drew = w33 at HO564 HO567 HO570 HO574 HO577 HO580 BK560 BK581 HB hHeld ⊢
    refine take_ (i := 0) (N := some 22) (v := ?_) (a' := ?_) #[true,false,false,false,false] rfl rfl (by kernel_rfl) (fun _ _ _ h => h) (Or.inl ⟨by rfl, ?_⟩) hHeld ?_ ?_
    rotate_left
    ·rintro w' ⟨s0,s1,s2,s3,s4,s5⟩
     go_simp
     with_reducible rfl
    rotate_left
    ·simp only [Act.put,qS_,qZ_,qC_,i64_w,i32_w]
     rfl
    refine take_ (i := 1) (N := some 23) (v := ?_) (a' := ?_) #[true,true,false,false,false] rfl rfl (by kernel_rfl) (fun _ _ _ h => h) (Or.inl ⟨by rfl, ?_⟩) hHeld ?_ ?_
    rotate_left
    ·rintro w' ⟨s0,s1,s2,s3,s4,s5⟩
     go_simp
     with_reducible rfl
    rotate_left
    ·simp only [Act.put,qS_,qZ_,qC_,i64_w,i32_w]
     rfl
    refine one_ (i := 2) (N := some 24) #[true,true,true,false,false] rfl rfl (by kernel_rfl) (by decide) (fun K hK => ?_)
    refine goes_ Try.func13 (by kernel_rfl) rfl #[.agg #[.slice A0_0 l0_0.length c0_0,.slice A0_1 l0_1.length c0_1,.slice A0_2 l0_2.length c0_2]] (by rfl) rfl rfl qy0 ?_
    with_reducible refine (laws_toProg.calls k _ _ l0_0 _ _ l0_1 _ _ l0_2 t583 t586 t589 _ (qc (Kd.C_below HR0_0.out HB.out)) HC0_0.out (qc (Kd.C_below HR0_1.out HB.out)) HC0_1.out (qc (Kd.C_below HR0_2.out HB.out)) HC0_2.out A12.out).mono ?_
    rintro e w34 ⟨v584,v587,v590,rfl,ho0,ho1,ho2,hb⟩
    refine ⟨_,rfl, ?_⟩
    have HO585 := y0.mk (Kd.R_lower (Kd.R_new' (Kd.R_new' ho0 (Kd.R_lt (qR HO564.out))) (Kd.R_lt (qR HO574.out))) (y3 qb))
    replace HO564 := y0.mk (Kd.R_elder' (qR HO564.out) (Kd.R_base ho0) hb)
    replace HO574 := y0.mk (Kd.R_elder' (qR HO574.out) (Kd.R_base ho0) hb)
    have HO588 := y0.mk (Kd.S_lower (Kd.S_new' (Kd.S_new' ho1 (Kd.S_lt (qS HO567.out))) (Kd.S_lt (qS HO577.out))) (y3 qb))
    replace HO567 := y0.mk (Kd.S_elder' (qS HO567.out) (Kd.S_base ho1) hb)
    replace HO577 := y0.mk (Kd.S_elder' (qS HO577.out) (Kd.S_base ho1) hb)
    have HO591 := y0.mk (Kd.R_lower (Kd.R_new' (Kd.R_new' ho2 (Kd.R_lt (qR HO570.out))) (Kd.R_lt (qR HO580.out))) (y3 qb))
    replace HO570 := y0.mk (Kd.R_elder' (qR HO570.out) (Kd.R_base ho2) hb)
    replace HO580 := y0.mk (Kd.R_elder' (qR HO580.out) (Kd.R_base ho2) hb)
    replace BK560 := y0.mk (qK BK560.out hb)
    replace BK581 := y0.mk (qK BK581.out hb)
    replace HB := y0.mk (y4 qb hb)
    (try clear hb)
    (try clear hb2)
    (try clear hk)
    (try clear hi)
    (try clear ho0)
    (try clear ho1)
    (try clear ho2)
    obtain ⟨Ao35,co35,eo35⟩ := Kd.R_slice HO585.out
    (first | subst eo35 | (injection eo35 with f1_ f2_ f3_; have f4_ := f1_.symm; have f5_ := f3_.symm; clear f1_ f2_ f3_; subst f4_; subst f5_))
    obtain ⟨Ao36,co36,eo36⟩ := Kd.S_slice HO588.out
    (first | subst eo36 | (injection eo36 with f1_ f2_ f3_; have f4_ := f1_.symm; have f5_ := f3_.symm; clear f1_ f2_ f3_; subst f4_; subst f5_))
    obtain ⟨Ao37,co37,eo37⟩ := Kd.R_slice HO591.out
    (first | subst eo37 | (injection eo37 with f1_ f2_ f3_; have f4_ := f1_.symm; have f5_ := f3_.symm; clear f1_ f2_ f3_; subst f4_; subst f5_))
    refine hK.out _ _ ⟨(y7 BK581.out 0).trans rfl,(y7 BK581.out 1).trans rfl,(y7 BK581.out 2).trans rfl,(y7 BK560.out 0).trans rfl,(y7 BK560.out 1).trans rfl,(y7 BK560.out 2).trans rfl⟩ (fun hHeld => ?_)
    clear hK K
    refine norm_ (a' := ?_) ?_ ?_
    rotate_left
    ·show Act.put _ (some 24) _ = _
     simp only [Act.put,qS_,qZ_,qC_,i64_w,i32_w]
     rfl
    refine one_ (i := 3) (N := some 25) #[true,true,true,true,false] rfl rfl (by kernel_rfl) (by decide) (fun K hK => ?_)
    refine goes_ Try.func15 (by kernel_rfl) rfl #[.agg #[.slice Ao27 t572.length co27,.slice Ao30 t575.length co30,.slice Ao31 t578.length co31],.agg #[.slice Ao35 t583.length co35,.slice Ao36 t586.length co36,.slice Ao37 t589.length co37]] (by rfl) rfl rfl qy0 ?_
    with_reducible refine (laws_eqProg.calls k _ _ t572 _ _ t575 _ _ t578 _ _ t583 _ _ t586 _ _ t589 true _ ?side1 ?side2 ?side3 ?side4 ?side5 ?side6 ?side7 ?side8 ?side9 ?side10 ?side11 ?side12 A13.out rfl).mono ?_
    (case side1 => repeat (first | exact (Kd.R_reads' HO574.out).2.2 | (with_reducible refine Kd.C_alloc ?_ _) | (with_reducible refine Kd.C_drewN ?_ _) | (with_reducible refine Kd.C_drew ?_)))
    (case side2 => exact (Kd.R_reads' HO574.out).2.1)
    (case side3 => repeat (first | exact (Kd.S_reads' HO577.out).2.2 | (with_reducible refine Kd.C_alloc ?_ _) | (with_reducible refine Kd.C_drewN ?_ _) | (with_reducible refine Kd.C_drew ?_)))
    (case side4 => exact (Kd.S_reads' HO577.out).2.1)
    (case side5 => repeat (first | exact (Kd.R_reads' HO580.out).2.2 | (with_reducible refine Kd.C_alloc ?_ _) | (with_reducible refine Kd.C_drewN ?_ _) | (with_reducible refine Kd.C_drew ?_)))
    (case side6 => exact (Kd.R_reads' HO580.out).2.1)
    (case side7 => repeat (first | exact (Kd.R_reads' HO585.out).2.2 | (with_reducible refine Kd.C_alloc ?_ _) | (with_reducible refine Kd.C_drewN ?_ _) | (with_reducible refine Kd.C_drew ?_)))
    (case side8 => exact (Kd.R_reads' HO585.out).2.1)
    (case side9 => repeat (first | exact (Kd.S_reads' HO588.out).2.2 | (with_reducible refine Kd.C_alloc ?_ _) | (with_reducible refine Kd.C_drewN ?_ _) | (with_reducible refine Kd.C_drew ?_)))
    (case side10 => exact (Kd.S_reads' HO588.out).2.1)
    (case side11 => repeat (first | exact (Kd.R_reads' HO591.out).2.2 | (with_reducible refine Kd.C_alloc ?_ _) | (with_reducible refine Kd.C_drewN ?_ _) | (with_reducible refine Kd.C_drew ?_)))
    (case side12 => exact (Kd.R_reads' HO591.out).2.1)
    rintro e w38 ⟨rfl,hb⟩
    refine ⟨_,rfl, ?_⟩
    replace HO564 := y0.mk (Kd.R_below (qR HO564.out) hb)
    replace HO567 := y0.mk (Kd.S_below (qS HO567.out) hb)
    replace HO570 := y0.mk (Kd.R_below (qR HO570.out) hb)
    replace HO574 := y0.mk (Kd.R_below (qR HO574.out) hb)
    replace HO577 := y0.mk (Kd.S_below (qS HO577.out) hb)
    replace HO580 := y0.mk (Kd.R_below (qR HO580.out) hb)
    replace HO585 := y0.mk (Kd.R_below (qR HO585.out) hb)
    replace HO588 := y0.mk (Kd.S_below (qS HO588.out) hb)
    replace HO591 := y0.mk (Kd.R_below (qR HO591.out) hb)
    replace BK560 := y0.mk (qK BK560.out hb)
    replace BK581 := y0.mk (qK BK581.out hb)
    replace HB := y0.mk (y4 qb hb)
    (try clear hb)
    (try clear hb2)
    (try clear hk)
    (try clear hi)
    refine hK.out _ _ ⟨(y7 BK581.out 0).trans rfl,(y7 BK581.out 1).trans rfl,(y7 BK581.out 2).trans rfl,(y7 BK560.out 0).trans rfl,(y7 BK560.out 1).trans rfl,(y7 BK560.out 2).trans rfl⟩ (fun hHeld => ?_)
    clear hK K
    refine norm_ (a' := ?_) ?_ ?_
    rotate_left
    ·show Act.put _ (some 25) _ = _
     simp only [Act.put,qS_,qZ_,qC_,i64_w,i32_w]
     rfl
    refine pure_ (i := 4) (N := some 26) (v := ?_) (a' := ?_) #[true,true,true,true,true] rfl rfl (by kernel_rfl) (fun _ _ _ h => h) (Or.inl ⟨by rfl, ?_⟩) ?_ ?_
    rotate_left
    ·intro w'
     go_simp
     with_reducible rfl
    rotate_left
    ·simp only [Act.put,qS_,qZ_,qC_,i64_w,i32_w]
     rfl
    refine done_ (by kernel_rfl) ?_
    try go_wp2
    go_ret
    exact ⟨by first | rfl | (simp [y12,y13] <;> rfl) | (simp [*,y12,y13] <;> rfl),qb⟩
   ·replace c14 := Bool.eq_false_iff.mpr c14
    subst c14
    replace H := qF H
    exact absurd ((Option.some.inj H).trans htrue_) (by decide)
  ·rw [if_neg c11] at H
   have c11b0 : (t582.toList == t571.toList) = false := beq_eq_false_iff_ne.mpr c11
   have c11b1 : (t582.toList != t571.toList) = true := bne_iff_ne.mpr c11
   exact absurd ((Option.some.inj H).trans htrue_) (by decide)
/-- THE ONE PURE STATEMENT of laws_FnExactProgText. -/
def laws_FnExactProgText.Pure : Prop := ∀ (x0 : S43),okT43 x0 → ∃ k,laws_FnExactProgText.f k x0.f0 x0.f1 x0.f2 = some true
theorem laws_FnExactProgText.walk (P : laws_FnExactProgText.Pure) (x0 : S43) (A0_0 : Option Addr) (c0_0 : Nat) (A0_1 : Option Addr) (c0_1 : Nat) (A0_2 : Option Addr) (c0_2 : Nat) (w : World) (hr0_0 : Kd.C k112 w A0_0 x0.f0.length x0.f0) (hc0_0 : x0.f0.length ≤ c0_0) (hr0_1 : Kd.C k114 w A0_1 x0.f1.length x0.f1) (hc0_1 : x0.f1.length ≤ c0_1) (hr0_2 : Kd.C k28 w A0_2 x0.f2.length x0.f2) (hc0_2 : x0.f2.length ≤ c0_2) (k0 : okT43 x0) :
  Calls Try.prog 4 #[.agg #[.slice A0_0 x0.f0.length c0_0,.slice A0_1 x0.f1.length c0_1,.slice A0_2 x0.f2.length c0_2]] w fun e w' => e = .returned (.bool true) ∧ Below w.heap.size w w' := by
 obtain ⟨k,h⟩ := P x0 k0
 refine (laws_FnExactProgText.calls k A0_0 c0_0 x0.f0 A0_1 c0_1 x0.f1 A0_2 c0_2 x0.f2 true w hr0_0 hc0_0 hr0_1 hc0_1 hr0_2 hc0_2 h rfl).mono ?_
 rintro e w' ⟨rfl,hd⟩
 exact ⟨rfl,hd⟩
end Go.Proofs.Ytamjmldfifofbaa.Pp
end

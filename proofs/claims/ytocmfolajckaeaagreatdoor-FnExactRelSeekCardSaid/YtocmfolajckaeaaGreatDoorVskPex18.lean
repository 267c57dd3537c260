-- Cut by prune.py, a program of this session, out of the texts of this claim: Lean checks it.
import Derived.Test.YtocmfolajckaeaaGreatDoorVskPex0
import Derived.Test.YtocmfolajckaeaaGreatDoorVskPex16
import Derived.Test.YtocmfolajckaeaaGreatDoorVskPex10
section
namespace Go.Proofs.YtocmfolajckaeaaGreatDoor.Pe
open Go.RowKit Go.Proofs.YtocmfolajckaeaaGreatDoorW.PrintWords Go.Proofs.YtocmfolajckaeaaGreatDoorW.PrintLast Go.Proofs.YtocmfolajckaeaaGreatDoorW.PrintMore
attribute [local go_sem] max2_int min2_int max_two min_two max_three min_three max_four min_four   -- for this text's walks alone
set_option linter.unusedVariables false
set_option linter.unusedSimpArgs false
def laws_eqTupleS.l0 : Nat → List (S48) → List (S48) → Int → Option (Bool)
 | 0,_,_,_ => none
 | k + 1,x0,x1,x5 => if x5 < (x0.length : Int) then (if 0 ≤ x5 then (if x5 < (x1.length : Int) then ((laws_eqTuple.f k ((y19 x0 x5).f0) ((y19 x1 x5).f0)).bind fun t387 => (if t387 = true then (laws_eqTupleS.l0 k x0 x1 (wrap64 (x5 + 1))) else (some false))) else (none)) else (none)) else (some true)
def laws_eqTupleS.f (k : Nat) (l0 : List (S48)) (l1 : List (S48)) : Option (Bool) := if (l0.length : Int) = (l1.length : Int) then (laws_eqTupleS.l0 k l0 l1 0) else (some false)
def laws_eqTupleS.T6 : Bool × List (List Nat × List Nat) := (true,[([],[]),([],[]),([0,1],[0,1]),([2],[2]),([],[]),([],[]),([4,5],[4,5]),([6],[6]),([3,7],[3,7]),([8],[8])])
def laws_eqTupleS.B6 : List Nat := [0,0,3,7,0,0,48,112,255,511]
theorem laws_eqTupleS.tab6 : rtab .any (opsOf Tryz.f13 6) = laws_eqTupleS.T6 := by kernel_rfl
theorem laws_eqTupleS.bits6 : waitsOk laws_eqTupleS.T6.2 laws_eqTupleS.B6 = true := by kernel_rfl
set_option maxHeartbeats 8000000 in
set_option maxRecDepth 100000 in
theorem laws_eqTupleS.calls (k : Nat) (A0 : Option Addr) (c0 : Nat) (l0 : List (S48)) (A1 : Option Addr) (c1 : Nat) (l1 : List (S48)) (r : Bool) (w : World) (hr0 : Kd.C k48 w A0 l0.length l0) (hc0 : l0.length ≤ c0) (hr1 : Kd.C k48 w A1 l1.length l1) (hc1 : l1.length ≤ c1) (h : laws_eqTupleS.f k l0 l1 = some r) :
  Calls Tryz.prog 13 #[.slice A0 l0.length c0,.slice A1 l1.length c1] w fun e w' => e = .returned (.bool r) ∧ Below w.heap.size w w' := by
 have hu48 := Tryz.underlying48
 have HR0 := y0.mk hr0
 have HC0 := y0.mk hc0
 clear hr0 hc0
 have HR1 := y0.mk hr1
 have HC1 := y0.mk hc1
 clear hr1 hc1
 have HB := y0.mk (Below.refl w.heap.size w)
 have H : (if (l0.length : Int) = (l1.length : Int) then (laws_eqTupleS.l0 k l0 l1 0) else (some false)) = some r := h
 clear h
 by_cases c3 : (l0.length : Int) = (l1.length : Int)
 ·rw [if_pos c3] at H
  have c3b0 : ((l0.length : Int) == (l1.length : Int)) = true := beq_iff_eq.mpr c3
  have c3b1 : ((l0.length : Int) != (l1.length : Int)) = false := bne_eq_false_iff_eq.mpr c3
  have c3b2 : (l0.length == l1.length) = true := by first | simpa using c3 | (simp at c3 ⊢; omega)
  clear c3
  have H' := y0.mk H
  clear H
  go_enter Tryz.func13,Tryz.ntmps13
  go_wp2
  go_loopg [5] k (fun kq v5 w' => ∃ (x5_1 : Int),v5 = .int .i64 x5_1 ∧ y0 (laws_eqTupleS.l0 kq l0 l1 x5_1 = some r) ∧ y0 (kq ≤ k) ∧ y0 (Below w.heap.size w w'))
  case atStart => exact ⟨(0),qy2,H',⟨Nat.le_refl _⟩,⟨qb⟩⟩
  case round =>
   clear H'
   (try clear c3b0 c3b1 c3b2)
   obtain ⟨x5_1,rfl,HA,HK1,HB⟩ := hrel
   cases gk with
   | zero => exact absurd HA.out (by simp [laws_eqTupleS.l0])
   | succ k1 =>
    have H := HA.out
    clear HA
    simp only [laws_eqTupleS.l0] at H
    by_cases c4 : x5_1 < (l0.length : Int)
    ·rw [if_pos c4] at H
     have c4b0 := decide_eq_true c4
     clear c4
     obtain ⟨c5,H⟩ := qo H
     have c5b0 : decide (0 ≤ x5_1) = true := decide_eq_true c5
     clear c5
     obtain ⟨c6,H⟩ := qo H
     have c6b0 : decide (x5_1 < (l1.length : Int)) = true := decide_eq_true c6
     clear c6
     obtain ⟨t387,A7,H⟩ := qB H
     by_cases c8 : t387 = true
     ·subst c8
      replace H := qT H
      have H' := y0.mk H
      clear H
      try go_wp2
      replace HB := y0.mk (y3 HB.out)
      have p385 : 0 ≤ (x5_1 : Int) := of_decide_eq_true qy1
      have q385 : x5_1 < (l0.length : Int) := of_decide_eq_true qy1
      obtain ⟨ad385,A385_0,c385_0,e385,hx385_0,hl385_0,hi385_0⟩ := at_T48 HR0.out x5_1 p385 q385
      have hw385_0 := hx385_0
      cases e385
      replace hx385_0 := (HB.out.cell (World.block_lt_of_cell? w _ hx385_0)).trans hx385_0
      have HR385_0 := y0.mk hi385_0
      have HC385_0 := y0.mk hl385_0
      clear hi385_0 hl385_0
      replace p385 := eq_true p385
      replace q385 := eq_true q385
      have p386 : 0 ≤ (x5_1 : Int) := of_decide_eq_true qy1
      have q386 : x5_1 < (l1.length : Int) := of_decide_eq_true qy1
      obtain ⟨ad386,A386_0,c386_0,e386,hx386_0,hl386_0,hi386_0⟩ := at_T48 HR1.out x5_1 p386 q386
      have hw386_0 := hx386_0
      cases e386
      replace hx386_0 := (HB.out.cell (World.block_lt_of_cell? w _ hx386_0)).trans hx386_0
      have HR386_0 := y0.mk hi386_0
      have HC386_0 := y0.mk hl386_0
      clear hi386_0 hl386_0
      replace p386 := eq_true p386
      replace q386 := eq_true q386
      refine start_ (n := 10) (S := fun w' => w'.cell? (ad385.add (x5_1).toNat) = some (.slice A385_0 ((y19 l0 x5_1).f0).length c385_0) ∧ w'.cell? (ad386.add (x5_1).toNat) = some (.slice A386_0 ((y19 l1 x5_1).f0).length c386_0)) (ds := []) (fl_ 10 0) (by kernel_rfl) rfl rfl ⟨((HB.out.cell (World.block_lt_of_cell? w _ hw385_0)).trans hw385_0),((HB.out.cell (World.block_lt_of_cell? w _ hw386_0)).trans hw386_0)⟩ (fun hHeld => ?_); refine with_tabW laws_eqTupleS.tab6 laws_eqTupleS.bits6 (fun HT_ HW_ => ?_)
      generalize wr.drew = w9 at HB HR385_0 HR386_0 hx385_0 hx386_0 hHeld ⊢
      refine qp 0 17 (fl_ 10 1) ?_
      refine qp 1 18 (fl_ 10 3) ?_
      refine qp 2 19 (fl_ 10 7) ?_
      refine qp 4 21 (fl_ 10 23) ?_
      refine qp 5 22 (fl_ 10 55) ?_
      refine qp 6 23 (fl_ 10 119) ?_
      refine qt 3 20 (fl_ 10 127) hHeld ?_
      refine qt 7 24 (fl_ 10 255) hHeld ?_
      refine one_ (i := 8) (N := some 25) (fl_ 10 511) rfl rfl (one_of HT_.out (by kernel_rfl)) (by decide) (fun K hK => ?_)
      refine goes_ Tryz.func31 (by kernel_rfl) rfl #[.agg #[.slice A385_0 ((y19 l0 x5_1).f0).length c385_0],.agg #[.slice A386_0 ((y19 l1 x5_1).f0).length c386_0]] (by rfl) rfl rfl qy0 ?_
      with_reducible refine (laws_eqTuple.calls k1 _ _ ((y19 l0 x5_1).f0) _ _ ((y19 l1 x5_1).f0) true _ (qc (Kd.C_below HR385_0.out HB.out)) HC385_0.out (qc (Kd.C_below HR386_0.out HB.out)) HC386_0.out A7.out).mono ?_
      rintro e w10 ⟨rfl,hb⟩
      refine ⟨_,rfl, ?_⟩
      replace HB := y0.mk (y5 qb hb)
      (try clear hb)
      (try clear hb2)
      (try clear hk)
      (try clear hi)
      refine hK.out _ _ ⟨((HB.out.cell (World.block_lt_of_cell? w _ hw385_0)).trans hw385_0),((HB.out.cell (World.block_lt_of_cell? w _ hw386_0)).trans hw386_0)⟩ (fun hHeld => ?_)
      clear hK K
      refine norm_ (a' := ?_) ?_ ?_
      rotate_left
      ·show Act.put _ (some 25) _ = _
       simp only [Act.put,qS_,qZ_,qC_,y18,y17]
       rfl
      refine qp 9 26 (fl_ 10 1023) ?_
      refine done_ (done_of HT_.out (by kernel_rfl)) ?_
      try go_wp2
      go_roundg k1
      case measure => have := HK1.out; omega
      exact ⟨(wrap64 (x5_1 + 1)),qy2,H',⟨by have := HK1.out; omega⟩,⟨qb⟩⟩
     ·replace c8 := Bool.eq_false_iff.mpr c8
      subst c8
      replace H := qF H
      obtain rfl := Option.some.inj H
      try go_wp2
      replace HB := y0.mk (y3 HB.out)
      have p385 : 0 ≤ (x5_1 : Int) := of_decide_eq_true qy1
      have q385 : x5_1 < (l0.length : Int) := of_decide_eq_true qy1
      obtain ⟨ad385,A385_0,c385_0,e385,hx385_0,hl385_0,hi385_0⟩ := at_T48 HR0.out x5_1 p385 q385
      have hw385_0 := hx385_0
      cases e385
      replace hx385_0 := (HB.out.cell (World.block_lt_of_cell? w _ hx385_0)).trans hx385_0
      have HR385_0 := y0.mk hi385_0
      have HC385_0 := y0.mk hl385_0
      clear hi385_0 hl385_0
      replace p385 := eq_true p385
      replace q385 := eq_true q385
      have p386 : 0 ≤ (x5_1 : Int) := of_decide_eq_true qy1
      have q386 : x5_1 < (l1.length : Int) := of_decide_eq_true qy1
      obtain ⟨ad386,A386_0,c386_0,e386,hx386_0,hl386_0,hi386_0⟩ := at_T48 HR1.out x5_1 p386 q386
      have hw386_0 := hx386_0
      cases e386
      replace hx386_0 := (HB.out.cell (World.block_lt_of_cell? w _ hx386_0)).trans hx386_0
      have HR386_0 := y0.mk hi386_0
      have HC386_0 := y0.mk hl386_0
      clear hi386_0 hl386_0
      replace p386 := eq_true p386
      replace q386 := eq_true q386
      refine start_ (n := 10) (S := fun w' => w'.cell? (ad385.add (x5_1).toNat) = some (.slice A385_0 ((y19 l0 x5_1).f0).length c385_0) ∧ w'.cell? (ad386.add (x5_1).toNat) = some (.slice A386_0 ((y19 l1 x5_1).f0).length c386_0)) (ds := []) (fl_ 10 0) (by kernel_rfl) rfl rfl ⟨((HB.out.cell (World.block_lt_of_cell? w _ hw385_0)).trans hw385_0),((HB.out.cell (World.block_lt_of_cell? w _ hw386_0)).trans hw386_0)⟩ (fun hHeld => ?_); refine with_tabW laws_eqTupleS.tab6 laws_eqTupleS.bits6 (fun HT_ HW_ => ?_)
      generalize wr.drew = w11 at HB HR385_0 HR386_0 hx385_0 hx386_0 hHeld ⊢
      refine qp 0 17 (fl_ 10 1) ?_
      refine qp 1 18 (fl_ 10 3) ?_
      refine qp 2 19 (fl_ 10 7) ?_
      refine qp 4 21 (fl_ 10 23) ?_
      refine qp 5 22 (fl_ 10 55) ?_
      refine qp 6 23 (fl_ 10 119) ?_
      refine qt 3 20 (fl_ 10 127) hHeld ?_
      refine qt 7 24 (fl_ 10 255) hHeld ?_
      refine one_ (i := 8) (N := some 25) (fl_ 10 511) rfl rfl (one_of HT_.out (by kernel_rfl)) (by decide) (fun K hK => ?_)
      refine goes_ Tryz.func31 (by kernel_rfl) rfl #[.agg #[.slice A385_0 ((y19 l0 x5_1).f0).length c385_0],.agg #[.slice A386_0 ((y19 l1 x5_1).f0).length c386_0]] (by rfl) rfl rfl qy0 ?_
      with_reducible refine (laws_eqTuple.calls k1 _ _ ((y19 l0 x5_1).f0) _ _ ((y19 l1 x5_1).f0) false _ (qc (Kd.C_below HR385_0.out HB.out)) HC385_0.out (qc (Kd.C_below HR386_0.out HB.out)) HC386_0.out A7.out).mono ?_
      rintro e w12 ⟨rfl,hb⟩
      refine ⟨_,rfl, ?_⟩
      replace HB := y0.mk (y5 qb hb)
      (try clear hb)
      (try clear hb2)
      (try clear hk)
      (try clear hi)
      refine hK.out _ _ ⟨((HB.out.cell (World.block_lt_of_cell? w _ hw385_0)).trans hw385_0),((HB.out.cell (World.block_lt_of_cell? w _ hw386_0)).trans hw386_0)⟩ (fun hHeld => ?_)
      clear hK K
      refine norm_ (a' := ?_) ?_ ?_
      rotate_left
      ·show Act.put _ (some 25) _ = _
       simp only [Act.put,qS_,qZ_,qC_,y18,y17]
       rfl
      refine qp 9 26 (fl_ 10 1023) ?_
      refine done_ (done_of HT_.out (by kernel_rfl)) ?_
      try go_wp2
      go_ret
      exact ⟨by first | rfl | (simp [y12,y13] <;> rfl) | (simp [*,y12,y13] <;> rfl),qb⟩
    ·rw [if_neg c4] at H
     have c4b0 := decide_eq_false c4
     clear c4
     obtain rfl := Option.some.inj H
     go_wp2
     go_ret
     exact ⟨by first | rfl | (simp [y12,y13] <;> rfl) | (simp [*,y12,y13] <;> rfl),qb⟩
 ·rw [if_neg c3] at H
  have c3b0 : ((l0.length : Int) == (l1.length : Int)) = false := beq_eq_false_iff_ne.mpr c3
  have c3b1 : ((l0.length : Int) != (l1.length : Int)) = true := bne_iff_ne.mpr c3
  have c3b2 : (l0.length == l1.length) = false := by first | simpa using c3 | (simp at c3 ⊢; omega)
  obtain rfl := Option.some.inj H
  go_enter Tryz.func13,Tryz.ntmps13
  go_wp2
  go_ret
  exact ⟨by first | rfl | (simp [y12,y13] <;> rfl) | (simp [*,y12,y13] <;> rfl),qb⟩
def laws_eqRel.f (k : Nat) (a0_0 : Int) (l0_1 : List (S48)) (a1_0 : Int) (l1_1 : List (S48)) : Option (Bool) := if a0_0 = a1_0 then ((laws_eqTupleS.f k l0_1 l1_1).bind fun t390 => (if t390 = true then (some true) else (some false))) else (some false)
set_option maxHeartbeats 8000000 in
set_option maxRecDepth 100000 in
theorem laws_eqRel.calls (k : Nat) (a0_0 : Int) (A0_1 : Option Addr) (c0_1 : Nat) (l0_1 : List (S48)) (a1_0 : Int) (A1_1 : Option Addr) (c1_1 : Nat) (l1_1 : List (S48)) (r : Bool) (w : World) (hr0_1 : Kd.C k48 w A0_1 l0_1.length l0_1) (hc0_1 : l0_1.length ≤ c0_1) (hr1_1 : Kd.C k48 w A1_1 l1_1.length l1_1) (hc1_1 : l1_1.length ≤ c1_1) (h : laws_eqRel.f k a0_0 l0_1 a1_0 l1_1 = some r) :
  Calls Tryz.prog 14 #[.agg #[.int .i64 a0_0,.slice A0_1 l0_1.length c0_1],.agg #[.int .i64 a1_0,.slice A1_1 l1_1.length c1_1]] w fun e w' => e = .returned (.bool r) ∧ Below w.heap.size w w' := by
 have hu31 := Tryz.underlying31
 have HR0_1 := y0.mk hr0_1
 have HC0_1 := y0.mk hc0_1
 clear hr0_1 hc0_1
 have HR1_1 := y0.mk hr1_1
 have HC1_1 := y0.mk hc1_1
 clear hr1_1 hc1_1
 have HB := y0.mk (Below.refl w.heap.size w)
 have H : (if a0_0 = a1_0 then ((laws_eqTupleS.f k l0_1 l1_1).bind fun t390 => (if t390 = true then (some true) else (some false))) else (some false)) = some r := h
 clear h
 by_cases c3 : a0_0 = a1_0
 ·rw [if_pos c3] at H
  have c3b0 : (a0_0 == a1_0) = true := beq_iff_eq.mpr c3
  have c3b1 : (a0_0 != a1_0) = false := bne_eq_false_iff_eq.mpr c3
  clear c3
  obtain ⟨t390,A4,H⟩ := qB H
  by_cases c5 : t390 = true
  ·subst c5
   replace H := qT H
   obtain rfl := Option.some.inj H
   go_enter Tryz.func14,Tryz.ntmps14
   go_wp2_with (first | ((with_reducible refine y15 (N := 2) rfl ?_); refine qe 2 #[.int .i64 a0_0,.slice A0_1 l0_1.length c0_1] 31 ?_; intro gb388 hg w6 hbox hb; have BK388 := y0.mk (hbox); have GW388 := y0.mk (qg (w := w) hg); have GE388 := y0.mk (qg (w := w) hg); replace HB := y0.mk (y5 qb hb); clear hb hbox hg) | ((with_reducible refine y15 (N := 3) rfl ?_); refine qe 3 #[.int .i64 a1_0,.slice A1_1 l1_1.length c1_1] 31 ?_; intro gb389 hg w7 hbox hb; have BK389 := y0.mk (hbox); have GW389 := y0.mk (qg (w := w) hg); have GE389 := y0.mk (qg (w := w) hg); replace HB := y0.mk (y5 qb hb); have NB388_389 := y0.mk (qn BK388.out hg); have NB389_388 := y0.mk (qm BK388.out hg); replace BK388 := y0.mk (qK BK388.out hb); clear hb hbox hg; have hnb8 := NB388_389.out; have hnc8 := NB389_388.out; obtain ⟨hcz9_0,hcz9_1,hfz9_0,hfz9_1⟩ := qz2 BK388.out; obtain ⟨hcz10_0,hcz10_1,hfz10_0,hfz10_1⟩ := qz2 BK389.out) | ((with_reducible refine y14 (f := 13) rfl ?_); refine y16 (some 14) rfl rfl Tryz.func13 (by kernel_rfl) rfl #[.slice A0_1 l0_1.length c0_1,.slice A1_1 l1_1.length c1_1] rfl qy0 ?_; (with_reducible refine (laws_eqTupleS.calls k _ _ l0_1 _ _ l1_1 true _ (qc (Kd.C_below HR0_1.out HB.out)) HC0_1.out (qc (Kd.C_below HR1_1.out HB.out)) HC1_1.out A4.out).mono ?_); rintro e w11 ⟨rfl,hb⟩; refine ⟨_,rfl, ?_⟩; replace BK388 := y0.mk (qK BK388.out hb); replace BK389 := y0.mk (qK BK389.out hb); replace HB := y0.mk (y5 qb hb); (try clear hb); (try clear hb2); (try clear hk); (try clear hi)))
   go_ret
   exact ⟨by first | rfl | (simp [y12,y13] <;> rfl) | (simp [*,y12,y13] <;> rfl),qb⟩
  ·replace c5 := Bool.eq_false_iff.mpr c5
   subst c5
   replace H := qF H
   obtain rfl := Option.some.inj H
   go_enter Tryz.func14,Tryz.ntmps14
   go_wp2_with (first | ((with_reducible refine y15 (N := 2) rfl ?_); refine qe 2 #[.int .i64 a0_0,.slice A0_1 l0_1.length c0_1] 31 ?_; intro gb388 hg w12 hbox hb; have BK388 := y0.mk (hbox); have GW388 := y0.mk (qg (w := w) hg); have GE388 := y0.mk (qg (w := w) hg); replace HB := y0.mk (y5 qb hb); clear hb hbox hg) | ((with_reducible refine y15 (N := 3) rfl ?_); refine qe 3 #[.int .i64 a1_0,.slice A1_1 l1_1.length c1_1] 31 ?_; intro gb389 hg w13 hbox hb; have BK389 := y0.mk (hbox); have GW389 := y0.mk (qg (w := w) hg); have GE389 := y0.mk (qg (w := w) hg); replace HB := y0.mk (y5 qb hb); have NB388_389 := y0.mk (qn BK388.out hg); have NB389_388 := y0.mk (qm BK388.out hg); replace BK388 := y0.mk (qK BK388.out hb); clear hb hbox hg; have hnb14 := NB388_389.out; have hnc14 := NB389_388.out; obtain ⟨hcz15_0,hcz15_1,hfz15_0,hfz15_1⟩ := qz2 BK388.out; obtain ⟨hcz16_0,hcz16_1,hfz16_0,hfz16_1⟩ := qz2 BK389.out) | ((with_reducible refine y14 (f := 13) rfl ?_); refine y16 (some 14) rfl rfl Tryz.func13 (by kernel_rfl) rfl #[.slice A0_1 l0_1.length c0_1,.slice A1_1 l1_1.length c1_1] rfl qy0 ?_; (with_reducible refine (laws_eqTupleS.calls k _ _ l0_1 _ _ l1_1 false _ (qc (Kd.C_below HR0_1.out HB.out)) HC0_1.out (qc (Kd.C_below HR1_1.out HB.out)) HC1_1.out A4.out).mono ?_); rintro e w17 ⟨rfl,hb⟩; refine ⟨_,rfl, ?_⟩; replace BK388 := y0.mk (qK BK388.out hb); replace BK389 := y0.mk (qK BK389.out hb); replace HB := y0.mk (y5 qb hb); (try clear hb); (try clear hb2); (try clear hk); (try clear hi)))
   go_ret
   exact ⟨by first | rfl | (simp [y12,y13] <;> rfl) | (simp [*,y12,y13] <;> rfl),qb⟩
 ·rw [if_neg c3] at H
  have c3b0 : (a0_0 == a1_0) = false := beq_eq_false_iff_ne.mpr c3
  have c3b1 : (a0_0 != a1_0) = true := bne_iff_ne.mpr c3
  obtain rfl := Option.some.inj H
  go_enter Tryz.func14,Tryz.ntmps14
  go_wp2_with (first | ((with_reducible refine y15 (N := 2) rfl ?_); refine qe 2 #[.int .i64 a0_0,.slice A0_1 l0_1.length c0_1] 31 ?_; intro gb388 hg w18 hbox hb; have BK388 := y0.mk (hbox); have GW388 := y0.mk (qg (w := w) hg); have GE388 := y0.mk (qg (w := w) hg); replace HB := y0.mk (y5 qb hb); clear hb hbox hg) | ((with_reducible refine y15 (N := 3) rfl ?_); refine qe 3 #[.int .i64 a1_0,.slice A1_1 l1_1.length c1_1] 31 ?_; intro gb389 hg w19 hbox hb; have BK389 := y0.mk (hbox); have GW389 := y0.mk (qg (w := w) hg); have GE389 := y0.mk (qg (w := w) hg); replace HB := y0.mk (y5 qb hb); have NB388_389 := y0.mk (qn BK388.out hg); have NB389_388 := y0.mk (qm BK388.out hg); replace BK388 := y0.mk (qK BK388.out hb); clear hb hbox hg; have hnb20 := NB388_389.out; have hnc20 := NB389_388.out; obtain ⟨hcz21_0,hcz21_1,hfz21_0,hfz21_1⟩ := qz2 BK388.out; obtain ⟨hcz22_0,hcz22_1,hfz22_0,hfz22_1⟩ := qz2 BK389.out))
  go_ret
  exact ⟨by first | rfl | (simp [y12,y13] <;> rfl) | (simp [*,y12,y13] <;> rfl),qb⟩
def laws_markText.l0 : Nat → Int → ByteArray → Option (ByteArray)
 | 0,_,_ => none
 | k + 1,x0,x3 => if x0 > 0 then ((some (([(wrap64 (48 + (Int.tmod x0 10))) % 256] : List Int) : List Int)).bind fun y391 => (if (strOfNums y391).size + x3.size ≤ 9223372036854775807 then (laws_markText.l0 k (wrap64 (Int.tdiv x0 10)) ((strOfNums y391) ++ x3)) else (none))) else (if 1 + x3.size ≤ 9223372036854775807 then (some ((⟨#[109]⟩ : ByteArray) ++ x3)) else (none))
def laws_markText.f (k : Nat) (a0 : Int) : Option (ByteArray) := if a0 ≤ 0 then (some (⟨#[109,48]⟩ : ByteArray)) else (laws_markText.l0 k a0 (⟨#[]⟩ : ByteArray))
set_option maxHeartbeats 8000000 in
set_option maxRecDepth 100000 in
theorem laws_markText.calls (k : Nat) (a0 : Int) (r : ByteArray) (w : World) (h : laws_markText.f k a0 = some r) :
  Calls Tryz.prog 40 #[.int .i64 a0] w fun e w' => e = .returned (.string r) ∧ Below w.heap.size w w' := by
 have HB := y0.mk (Below.refl w.heap.size w)
 have H : (if a0 ≤ 0 then (some (⟨#[109,48]⟩ : ByteArray)) else (laws_markText.l0 k a0 (⟨#[]⟩ : ByteArray))) = some r := h
 clear h
 by_cases c2 : a0 ≤ 0
 ·rw [if_pos c2] at H
  have c2b0 := decide_eq_true c2
  clear c2
  obtain rfl := Option.some.inj H
  go_enter Tryz.func40,Tryz.ntmps40
  go_wp2
  go_ret
  exact ⟨by first | rfl | (simp [y12,y13] <;> rfl) | (simp [*,y12,y13] <;> rfl),qb⟩
 ·rw [if_neg c2] at H
  have c2b0 := decide_eq_false c2
  clear c2
  have H' := y0.mk H
  clear H
  go_enter Tryz.func40,Tryz.ntmps40
  go_wp2
  go_loopg [0,3] k (fun kq v0 v3 w' => ∃ (x0_1 : Int) (x3_1 : ByteArray),v0 = .int .i64 x0_1 ∧ v3 = .string x3_1 ∧ y0 (laws_markText.l0 kq x0_1 x3_1 = some r) ∧ y0 (kq ≤ k) ∧ y0 (Below w.heap.size w w'))
  case atStart => exact ⟨(a0),((⟨#[]⟩ : ByteArray)),qy2,qy2,H',⟨Nat.le_refl _⟩,⟨qb⟩⟩
  case round =>
   clear H'
   (try clear c2b0)
   obtain ⟨x0_1,x3_1,rfl,rfl,HA,HK1,HB⟩ := hrel
   cases gk with
   | zero => exact absurd HA.out (by simp [laws_markText.l0])
   | succ k1 =>
    have H := HA.out
    clear HA
    simp only [laws_markText.l0] at H
    by_cases c3 : x0_1 > 0
    ·rw [if_pos c3] at H
     have c3b0 : decide (0 < x0_1) = true := decide_eq_true c3
     clear c3
     obtain ⟨y391,hy391⟩ : ∃ y_ : List Int,y_ = (([(wrap64 (48 + (Int.tmod x0_1 10))) % 256] : List Int)) := ⟨_,rfl⟩
     replace H : (if (strOfNums y391).size + x3_1.size ≤ 9223372036854775807 then (laws_markText.l0 k1 (wrap64 (Int.tdiv x0_1 10)) ((strOfNums y391) ++ x3_1)) else (none)) = some r := by first | (rw [hy391]; with_reducible exact H) | (have H2_ := (Option.bind_some _ _).symm.trans H; rw [hy391]; with_reducible exact H2_) | (have H2_ := (Option.bind_some _ _).symm.trans H; with_reducible exact H2_) | with_reducible exact H | (rw [hy391]; exact H) | exact H
     have Ny391 := y0.mk hy391
     clear hy391
     obtain ⟨c4,H⟩ := qo H
     have c4b0 := eq_true c4
     have c4b1 := decide_eq_true c4
     have c4b2 := eq_false (Nat.not_lt.2 c4)
     have H' := y0.mk H
     clear H
     go_wp2_with (first | ((with_reducible refine y15 (N := 12) rfl ?_); refine Kd.R_lit (Kd.int .u8) _ 5 ?hg (N := 12) ?hd (xs := ([(wrap64 (48 + (Int.tmod x0_1 10))) % 256] : List Int)) (inner := [.int .u8 ((wrap64 (48 + (Int.tmod x0_1 10))) % 256)]) (ok := fun _ => True) (okp := fun _ => True) ?hr ?hp (fun _ hk => hk) trivial (Below.refl _ _) (Nat.le_refl _) (by simp) ?_; (case hd => rfl); (case hg => rfl); (case hr => first | (go_simp; done) | (go_simp; rfl)); (case hp => exact (Reps.one (show Kd.M (Kd.int .u8) _ _ _ ((wrap64 (48 + (Int.tmod x0_1 10))) % 256) [.int .u8 ((wrap64 (48 + (Int.tmod x0_1 10))) % 256)] from rfl) (Reps.none _ _))); intro v392 w5 ho6 hb hg_ hnew_; clear hg_ hnew_; (first | rw [← Ny391.out] at ho6 | (simp only [Int.reduceToNat] at ho6; rw [← Ny391.out] at ho6)); have HO393 := y0.mk (Kd.R_lower ho6 (y4 qb)); replace HB := y0.mk (y5 qb hb); clear hb ho6; have hcv7 := own_string (P := Tryz.prog) Tryz.underlying42 Tryz.underlying5 Tryz.underlying9 (Kd.own_of_R HO393.out)))
     go_roundg k1
     case measure => have := HK1.out; omega
     exact ⟨(wrap64 (Int.tdiv x0_1 10)),((strOfNums y391) ++ x3_1),qy2,qy2,H',⟨by have := HK1.out; omega⟩,⟨qb⟩⟩
    ·rw [if_neg c3] at H
     have c3b0 : decide (0 < x0_1) = false := decide_eq_false c3
     clear c3
     obtain ⟨c8,H⟩ := qo H
     have c8b0 := eq_true c8
     have c8b1 := decide_eq_true c8
     have c8b2 := eq_false (Nat.not_lt.2 c8)
     obtain rfl := Option.some.inj H
     go_wp2
     go_ret
     exact ⟨by first | rfl | (simp [y12,y13] <;> rfl) | (simp [*,y12,y13] <;> rfl),qb⟩
def laws_markStringS.l0 : Nat → List ByteArray → Int → Int → Option (Int × List ByteArray)
 | 0,_,_,_ => none
 | k + 1,x0,x1,x5 => if x5 < (x0.length : Int) then ((laws_markText.f k x1).bind fun t394 => (if 0 ≤ x5 then (laws_markStringS.l0 k (x0.set (x5 : Int).toNat t394) (wrap64 (x1 + 1)) (wrap64 (x5 + 1))) else (none))) else (some (x1,x0))
def laws_markStringS.f (k : Nat) (l0 : List ByteArray) (a1 : Int) : Option (Int × List ByteArray) := laws_markStringS.l0 k l0 a1 0
set_option maxHeartbeats 8000000 in
set_option maxRecDepth 100000 in
theorem laws_markStringS.calls (k : Nat) (P0_ : Nat → Prop) (u9000_ : Value) (l0 : List ByteArray) (a1 : Int) (r1 : Int) (r2 : List ByteArray) (w0 w : World) (hB : Below w0.heap.size w0 w) (ho0 : Kd.R Kd.string 9 w w0.heap.size P0_ u9000_ l0) (h : laws_markStringS.f k l0 a1 = some (r1,r2)) :
  Calls Tryz.prog 17 #[u9000_,.int .i64 a1] w fun e w' => e = .returned (.int .i64 r1) ∧ Kd.R Kd.string 9 w' w0.heap.size (fun k_ => (P0_ k_ ∨ w.heap.size ≤ k_)) u9000_ r2 ∧ Below w0.heap.size w0 w' ∧ Kept w w' (fun k_ => P0_ k_) := by
 have HO0 := y0.mk (show Kd.R Kd.string 9 w w0.heap.size (fun k_ => (P0_ k_ ∨ w.heap.size ≤ k_)) u9000_ l0 from Kd.R_mono ho0 (fun k_ hk => (.inl hk)))
 have HK := y0.mk (Kept.refl w (fun k_ => P0_ k_))
 have HW0 := y0.mk hB.size
 have HB := y0.mk hB
 clear hB
 have H : (laws_markStringS.l0 k l0 a1 0) = some (r1,r2) := h
 clear h
 have H' := y0.mk H
 clear H
 go_enter Tryz.func17,Tryz.ntmps17
 go_wp2
 go_loopg [1,5] k (fun kq v1 v5 w' => ∃ (x0_1 : List ByteArray) (x1_1 : Int) (x5_1 : Int),v1 = .int .i64 x1_1 ∧ v5 = .int .i64 x5_1 ∧ y0 (laws_markStringS.l0 kq x0_1 x1_1 x5_1 = some (r1,r2)) ∧ y0 (kq ≤ k) ∧ y0 (Kd.R Kd.string 9 w' w0.heap.size (fun k_ => (P0_ k_ ∨ w.heap.size ≤ k_)) u9000_ x0_1) ∧ y0 (Kept w w' (fun k_ => P0_ k_)) ∧ y0 (Below w0.heap.size w0 w'))
 case atStart => exact ⟨(l0),(a1),(0),qy2,qy2,H',⟨Nat.le_refl _⟩,⟨qR HO0.out⟩,⟨by repeat (first | (with_reducible first | exact HK.out | apply Kept.alloc | apply Kept.drewN | apply Kept.drew) | exact HK.out)⟩,⟨qb⟩⟩
 case round =>
  clear H'
  obtain ⟨x0_1,x1_1,x5_1,rfl,rfl,HA,HK1,HO_0,HK,HB⟩ := hrel
  cases gk with
  | zero => exact absurd HA.out (by simp [laws_markStringS.l0])
  | succ k1 =>
   have H := HA.out
   clear HA
   simp only [laws_markStringS.l0] at H
   by_cases c3 : x5_1 < (x0_1.length : Int)
   ·rw [if_pos c3] at H
    have c3b0 := decide_eq_true c3
    clear c3
    obtain ⟨t394,A4,H⟩ := qB H
    obtain ⟨c5,H⟩ := qo H
    have c5b0 : decide (0 ≤ x5_1) = true := decide_eq_true c5
    clear c5
    obtain ⟨y395,hy395⟩ : ∃ y_ : List ByteArray,y_ = (x0_1.set (x5_1 : Int).toNat t394) := ⟨_,rfl⟩
    replace H : (laws_markStringS.l0 k1 y395 (wrap64 (x1_1 + 1)) (wrap64 (x5_1 + 1))) = some (r1,r2) := by first | (rw [hy395]; with_reducible exact H) | (have H2_ := (Option.bind_some _ _).symm.trans H; rw [hy395]; with_reducible exact H2_) | (have H2_ := (Option.bind_some _ _).symm.trans H; with_reducible exact H2_) | with_reducible exact H | (rw [hy395]; exact H) | exact H
    have Ny395 := y0.mk hy395
    clear hy395
    have H' := y0.mk H
    clear H
    obtain ⟨Ao7,co7,eo7⟩ := Kd.R_slice HO_0.out
    subst eo7
    go_wp2_with (first | ((with_reducible refine y14 (f := 40) rfl ?_); refine y16 (some 15) rfl rfl Tryz.func40 (by kernel_rfl) rfl #[.int .i64 x1_1] rfl qy0 ?_; (with_reducible refine (laws_markText.calls k1 x1_1 t394 _ A4.out).mono ?_); rintro e w8 ⟨rfl,hb⟩; refine ⟨_,rfl, ?_⟩; replace HO_0 := y0.mk (Kd.R_below (qR HO_0.out) hb); replace HK := y0.mk (Kept.below (S := (fun k_ => P0_ k_)) (by repeat (first | (with_reducible first | exact HK.out | apply Kept.alloc | apply Kept.drewN | apply Kept.drew) | exact HK.out)) hb); replace HB := y0.mk (y5 qb hb); (try clear hb); (try clear hb2); (try clear hk); (try clear hi); have p6 : 0 ≤ (x5_1 : Int) := of_decide_eq_true qy1; have q6 : (x5_1 : Int) < ((x0_1.length : Int) : Int) := of_decide_eq_true qy1; obtain ⟨go6,co6,eo6,gb6,gl6,cl6,HG6⟩ := Kd.R_form HO_0.out (by omega); (first | cases eo6 | (injection eo6 with ea_ en_ ec_; (first | subst ea_ | (injection ea_ with ea_; subst ea_)); subst ec_; clear en_)); have GB6 := y0.mk gb6; have GG6 := y0.mk HG6; clear gb6 gl6 HG6; have HMgo6 := y0.mk (show (P0_ go6 ∨ w.heap.size ≤ go6) from (HO_0.out.1 _ rfl)); obtain ⟨hx6_0,hf6_0⟩ := Kd.R_celln (⟨#[]⟩ : ByteArray) HO_0.out (x5_1 : Int) p6 q6; replace p6 := eq_true p6; replace q6 := eq_true q6; obtain ⟨hy9_,hz9_⟩ := Kd.R_celln (⟨#[]⟩ : ByteArray) HO_0.out (x5_1 : Int) (of_decide_eq_true qy1) (of_decide_eq_true qy1); have HP9 := Kd.R_putg HO_0.out (x5_1 : Int) t394) | ((with_reducible refine gate_store (t := 9) (p := 16) rfl ?_); refine store_event (t := 9) (p := 16) (v := ?vo_w10) (w1 := (w8.setCell ⟨go6,(x5_1 : Int).toNat,none⟩ (.string t394))) ?hg ?ho ?hn ?hr ?_; (case ho => rfl); (case hg => rfl); (case hn => rfl); (case hr => first | (go_simp; done) | (go_simp; rfl)); intro w10 hw; have hg : w8.grownBy w10 (some go6) := (by rw [hw]; exact HP9.2); have hp_ : Kd.R Kd.string 9 w10 w0.heap.size (fun k_ => (P0_ k_ ∨ w.heap.size ≤ k_)) (.slice (some ⟨go6,0,none⟩) x0_1.length co7) y395 := (by rw [hw,Ny395.out]; exact HP9.1); clear HP9; replace HB := y0.mk ((by rw [hw]; exact below_set (HB.out) GB6.out : Below w0.heap.size w0 w10)); replace HK := y0.mk (Kept.of_grown (S := (fun k_ => P0_ k_)) hg (by repeat (first | (with_reducible first | exact HK.out | apply Kept.alloc | apply Kept.drewN | apply Kept.drew) | exact HK.out)) (fun k_ e_ => (HO_0.out.1 k_ e_))); replace HO_0 := y0.mk (hp_); clear hg hw hp_))
    go_roundg k1
    case measure => have := HK1.out; omega
    exact ⟨(y395),(wrap64 (x1_1 + 1)),(wrap64 (x5_1 + 1)),qy2,qy2,H',⟨by have := HK1.out; omega⟩,⟨qR HO_0.out⟩,⟨by repeat (first | (with_reducible first | exact HK.out | apply Kept.alloc | apply Kept.drewN | apply Kept.drew) | exact HK.out)⟩,⟨qb⟩⟩
   ·rw [if_neg c3] at H
    have c3b0 := decide_eq_false c3
    clear c3
    simp only [Option.some.injEq,Prod.mk.injEq] at H
    obtain ⟨rfl,rfl⟩ := H
    obtain ⟨Ao11,co11,eo11⟩ := Kd.R_slice HO_0.out
    subst eo11
    go_wp2
    go_ret
    exact ⟨by first | rfl | (simp [y12,y13] <;> rfl) | (simp [*,y12,y13] <;> rfl),by (with_reducible repeat (first | apply Kd.R_alloc | apply Kd.R_drewN | apply Kd.R_drew)); exact HO_0.out,qb,by repeat (first | (with_reducible first | exact HK.out | apply Kept.alloc | apply Kept.drewN | apply Kept.drew) | exact HK.out)⟩
end Go.Proofs.YtocmfolajckaeaaGreatDoor.Pe
end
section
namespace Go.Proofs.YtocmfolajckaeaaGreatDoor.Pe
open Go.RowKit Go.Proofs.YtocmfolajckaeaaGreatDoorW.PrintWords Go.Proofs.YtocmfolajckaeaaGreatDoorW.PrintLast Go.Proofs.YtocmfolajckaeaaGreatDoorW.PrintMore
attribute [local go_sem] max2_int min2_int max_two min_two max_three min_three max_four min_four   -- for this text's walks alone
set_option linter.unusedVariables false
set_option linter.unusedSimpArgs false
def laws_markTupleS.l0 : Nat → List (S48) → Int → Int → Option (Int × List (S48))
 | 0,_,_,_ => none
 | k + 1,x0,x1,x5 => if x5 < (x0.length : Int) then (if 0 ≤ x5 then ((laws_markStringS.f k (y19 x0 x5).f0 x1).bind fun bt => laws_markTupleS.l0 k (x0.set x5.toNat (⟨bt.2⟩ : S48)) bt.1 (wrap64 (x5 + 1))) else none) else some (x1,x0)
def laws_markTupleS.f (k : Nat) (l0 : List (S48)) (a1 : Int) : Option (Int × List (S48)) := laws_markTupleS.l0 k l0 a1 0
set_option maxHeartbeats 8000000 in
set_option maxRecDepth 100000 in
theorem laws_markTupleS.calls (k : Nat) (lo hi : Nat) (A0 : Option Addr) (c0 : Nat) (l0 : List (S48)) (a1 : Int) (r1 : Int) (r2 : List (S48)) (w0 w : World) (hB : Below w0.heap.size w0 w) (hlo : w0.heap.size ≤ lo) (ho : QIv.OS k48 48 lo hi (.slice A0 l0.length c0) l0 w) (h : laws_markTupleS.f k l0 a1 = some (r1,r2)) :
  Calls Tryz.prog 18 #[.slice A0 l0.length c0,.int .i64 a1] w fun e w' => e = .returned (.int .i64 r1) ∧ QIv.OS k48 48 lo hi (.slice A0 l0.length c0) r2 w' ∧ Below w0.heap.size w0 w' ∧ QIv.KI lo hi w w' := by
 have hu48 := Tryz.underlying48
 have HO := y0.mk ho
 have HB := y0.mk hB
 have HL := y0.mk hlo
 have HK : y0 (QIv.KI lo hi w w) := ⟨Kept.refl w _⟩
 have H' : y0 (laws_markTupleS.l0 k l0 a1 0 = some (r1,r2)) := ⟨h⟩
 clear ho hB hlo h
 go_enter Tryz.func18,Tryz.ntmps18
 go_wp2
 go_loopg [1,5] k (fun kq v1 v5 w' => ∃ (x0 : List (S48)) (x1 x5 : Int),v1 = .int .i64 x1 ∧ v5 = .int .i64 x5 ∧ y0 (laws_markTupleS.l0 kq x0 x1 x5 = some (r1,r2)) ∧ y0 (kq ≤ k) ∧ y0 (QIv.OS k48 48 lo hi (.slice A0 l0.length c0) x0 w') ∧ y0 (QIv.KI lo hi w w') ∧ y0 (Below w0.heap.size w0 w'))
 case atStart => exact ⟨l0,a1,0,rfl,rfl,H',⟨Nat.le_refl _⟩,HO,HK,HB⟩
 case round =>
  clear H'
  obtain ⟨x0,x1,x5,rfl,rfl,HA,HK1,HO,HK,HB⟩ := hrel
  have hln : l0.length = x0.length := (Kd.S_reads' HO.out).1
  cases gk with
  | zero => exact absurd HA.out (by simp [laws_markTupleS.l0])
  | succ k1 =>
   have H := HA.out
   clear HA
   simp only [laws_markTupleS.l0] at H
   by_cases c3 : x5 < (x0.length : Int)
   ·rw [if_pos c3] at H
    have c3l : x5 < (l0.length : Int) := by omega
    have c3b : decide (x5 < (l0.length : Int)) = true := decide_eq_true c3l
    by_cases c4 : 0 ≤ x5
    ·rw [if_pos c4] at H
     replace H := Option.bind_eq_some_iff.mp H
     obtain ⟨⟨t1,t2⟩,A3,H⟩ := H
     replace H : laws_markTupleS.l0 k1 (x0.set x5.toNat (⟨t2⟩ : S48)) t1 (wrap64 (x5 + 1)) = some (r1,r2) := H
     have H' := y0.mk H
     clear H
     have A3 := y0.mk A3
     obtain ⟨ad,Ax,cx,e,hx0,hle,hCi⟩ := at_T48 HO.out.C x5 c4 c3
     cases e
     obtain ⟨oki,c,hcl,hM,hcc,hoki,hback⟩ := QIv.S_lendA HO.out z48 x5 c4 c3l
     obtain ⟨u,rfl,hR⟩ := k48_openM hM
     have hcu := hcc 0 u rfl
     rw [show x5.toNat * k48.sz + 0 = x5.toNat from by show x5.toNat * 1 + 0 = x5.toNat; omega] at hcu
     have hu : u = .slice Ax (y19 x0 x5).f0.length cx := Option.some.inj (hcu.symm.trans hx0)
     have hbk : ∀ (w5 : World) (hy : Kd.R Kd.string 9 w5 w0.heap.size (fun k_ => (oki k_ ∧ lo ≤ k_) ∨ wr.heap.size ≤ k_) u t2) (hkp : Kept wr w5 (fun k_ => oki k_ ∧ lo ≤ k_)),QIv.OS k48 48 lo hi (.slice (some ad) l0.length c0) (x0.set x5.toNat (⟨t2⟩ : S48)) w5 := by
      intro w5 hy hkp
      refine hback (fun k _ hn hlt => hkp.2 k hlt (fun h => hn h.1)) (k48_mkM _ _ _ (⟨t2⟩ : S48) (Kd.R_raise (d := Kd.string) (b := w0.heap.size) (b' := lo) (fun _ _ _ _ h => h) (Kd.R_tight rfl hy) (Kd.R_base hR))) (fun k hk => Or.inl (hR.1 k hk.symm))
     have hki : ∀ (w5 : World) (hkp : Kept wr w5 (fun k_ => oki k_ ∧ lo ≤ k_)),QIv.KI lo hi w w5 := by
      intro w5 hkp
      refine ⟨Nat.le_trans HK.out.1 hkp.1,fun k hk hn => (hkp.2 k (Nat.lt_of_lt_of_le hk HK.out.1) (fun hk2 => ?_)).trans (HK.out.2 k hk hn)⟩
      exact hn ⟨hk2.2,hoki k hk2.1⟩
     have HBK := y0.mk hbk
     have HKI := y0.mk hki
     have HR : y0 (Kd.R Kd.string 9 wr w0.heap.size (fun k_ => oki k_ ∧ lo ≤ k_) u (y19 x0 x5).f0) := ⟨Kd.R_lower (Kd.R_mono (Kd.R_bound hR) (ok' := fun k_ => oki k_ ∧ lo ≤ k_) (fun k hk => ⟨hk.1,hk.2.1⟩)) HL.out⟩
     subst hu
     clear hbk hki hback hM hcc hoki hR hcu hCi hle hcl
     have p5 := eq_true c4
     have q5 := eq_true c3l
     clear c3 c4 c3l hln
     go_wp2_with (first | (go_at_call 17; (with_reducible refine (laws_markStringS.calls k1 (fun k_ => oki k_ ∧ lo ≤ k_) _ _ x1 t1 t2 w0 _ HB.out HR.out A3.out).mono ?_); rintro e w5 ⟨rfl,hy,hb,hkp⟩; have n0_ := y0.mk (HBK.out w5 hy hkp); have n1_ := y0.mk (HKI.out w5 hkp); have n2_ := y0.mk hb; clear HO HK HB HBK HKI HR hy hb hkp; have HO := n0_; have HK := n1_; have HB := n2_; clear n0_ n1_ n2_))
     go_roundg k1
     case measure => have := HK1.out; omega
     exact ⟨_,t1,wrap64 (x5 + 1),rfl,qy2,H',⟨by have := HK1.out; omega⟩,HO,HK,HB⟩
    ·rw [if_neg c4] at H
     cases H
   ·rw [if_neg c3] at H
    have c3b : decide (x5 < (l0.length : Int)) = false := decide_eq_false (by omega)
    clear hln
    injection H with H
    obtain ⟨rfl,rfl⟩ := Prod.mk.inj H
    go_wp2
    go_ret
    exact ⟨by first | rfl | (simp [y12,y13] <;> rfl),HO.out,HB.out,HK.out⟩
theorem laws_markStringS.iv (k : Nat) (lo hi : Nat) (A0 : Option Addr) (c0 : Nat) (l0 : List ByteArray) (a1 : Int) (r1 : Int) (r2 : List ByteArray) (w0 w : World) (hB : Below w0.heap.size w0 w) (hlo : w0.heap.size ≤ lo) (ho : QIv.OR Kd.string 9 lo hi (.slice A0 l0.length c0) l0 w) (h : laws_markStringS.f k l0 a1 = some (r1,r2)) :
  Calls Tryz.prog 17 #[.slice A0 l0.length c0,.int .i64 a1] w fun e w' => e = .returned (.int .i64 r1) ∧ True ∧ Below w0.heap.size w0 w' ∧ QIv.KI lo hi w w' := by
 have hR : Kd.R Kd.string 9 w w0.heap.size (fun k_ => lo ≤ k_ ∧ k_ < hi) (.slice A0 l0.length c0) l0 := Kd.R_lower (Kd.R_mono (Kd.R_bound ho) (fun k hk => ⟨hk.2.1,hk.1⟩)) hlo
 refine (laws_markStringS.calls k _ _ l0 a1 r1 r2 w0 w hB hR h).mono ?_
 rintro e w5 ⟨rfl,_,hb,hk⟩
 exact ⟨rfl,trivial,hb,hk⟩
def laws_markRel.f (k : Nat) (a0_0 : Int) (l0_1 : List (S48)) (a1 : Int) : Option (Int × List (S48)) := laws_markTupleS.f k l0_1 a1
set_option maxHeartbeats 8000000 in
set_option maxRecDepth 100000 in
theorem laws_markRel.calls (k : Nat) (lo hi : Nat) (a0 : Int) (A0 : Option Addr) (c0 : Nat) (l0 : List (S48)) (a1 : Int) (r1 : Int) (r2 : List (S48)) (w0 w : World) (hB : Below w0.heap.size w0 w) (hlo : w0.heap.size ≤ lo) (ho : QIv.OS k48 48 lo hi (.slice A0 l0.length c0) l0 w) (h : laws_markRel.f k a0 l0 a1 = some (r1,r2)) :
  Calls Tryz.prog 16 #[.agg #[.int .i64 a0,.slice A0 l0.length c0],.int .i64 a1] w fun e w' => e = .returned (.int .i64 r1) ∧ QIv.OS k48 48 lo hi (.slice A0 l0.length c0) r2 w' ∧ Below w0.heap.size w0 w' ∧ QIv.KI lo hi w w' := by
 have hu31 := Tryz.underlying31
 have HO := y0.mk ho
 have HB := y0.mk hB
 have HL := y0.mk hlo
 have HA : y0 (laws_markTupleS.f k l0 a1 = some (r1,r2)) := ⟨h⟩
 have HK := y0.mk (QIv.ki_refl lo hi w)
 clear ho hB hlo h
 go_enter Tryz.func16,Tryz.ntmps16
 go_wp2_with (first
  | ((with_reducible refine y15 (N := 2) rfl ?_); refine qe 2 #[.int .i64 a0,.slice A0 l0.length c0] 31 ?_; intro gb hg w2 hbox hb; have n0_ := y0.mk (HO.out.below hb); have n1_ := y0.mk (y5 HB.out hb); have n2_ := y0.mk (QIv.ki_below HK.out hb); clear HO HB HK; have HO := n0_; have HB := n1_; have HK := n2_; clear n0_ n1_ n2_ hb hg; have hc0 : w2.cell? ⟨gb,0,none⟩ = some (.int .i64 a0) := (y8 hbox 0).trans rfl; have hc1 : w2.cell? ⟨gb,1,none⟩ = some (.slice A0 l0.length c0) := (y8 hbox 1).trans rfl; have hf0 := y11 hbox 0; have hf1 := y11 hbox 1; clear hbox)
  | (go_at_call 18; (with_reducible refine (laws_markTupleS.calls k lo hi _ _ l0 a1 r1 r2 w0 _ HB.out HL.out HO.out HA.out).mono ?_); rintro e w5 ⟨rfl,ho,hb,hk⟩; have n0_ := y0.mk ho; have n1_ := y0.mk hb; have n2_ := y0.mk (QIv.ki_trans HK.out hk); clear HO HB HK ho hb hk hc0 hc1 hf0 hf1; have HO := n0_; have HB := n1_; have HK := n2_; clear n0_ n1_ n2_))
 go_ret
 exact ⟨by first | rfl | (simp [y12,y13] <;> rfl),HO.out,HB.out,HK.out⟩
def laws_heldStringS.l0 : Nat → List ByteArray → Int → Int → Option (Int)
 | 0,_,_,_ => none
 | k + 1,x0,x1,x5 => if x5 < (x0.length : Int) then (if 0 ≤ x5 then ((laws_markText.f k x1).bind fun t397 => (if (rdOf ByteArray.empty x0 x5).toList = t397.toList then (laws_heldStringS.l0 k x0 (wrap64 (x1 + 1)) (wrap64 (x5 + 1))) else (some (-1)))) else (none)) else (some x1)
def laws_heldStringS.f (k : Nat) (l0 : List ByteArray) (a1 : Int) : Option (Int) := laws_heldStringS.l0 k l0 a1 0
set_option maxHeartbeats 8000000 in
set_option maxRecDepth 100000 in
theorem laws_heldStringS.calls (k : Nat) (A0 : Option Addr) (c0 : Nat) (l0 : List ByteArray) (a1 : Int) (r : Int) (w : World) (hr0 : Kd.C Kd.string w A0 l0.length l0) (hc0 : l0.length ≤ c0) (h : laws_heldStringS.f k l0 a1 = some r) :
  Calls Tryz.prog 41 #[.slice A0 l0.length c0,.int .i64 a1] w fun e w' => e = .returned (.int .i64 r) ∧ Below w.heap.size w w' := by
 have HR0 := y0.mk hr0
 have HC0 := y0.mk hc0
 clear hr0 hc0
 have HB := y0.mk (Below.refl w.heap.size w)
 have H : (laws_heldStringS.l0 k l0 a1 0) = some r := h
 clear h
 have H' := y0.mk H
 clear H
 go_enter Tryz.func41,Tryz.ntmps41
 go_wp2
 go_loopg [1,5] k (fun kq v1 v5 w' => ∃ (x1_1 : Int) (x5_1 : Int),v1 = .int .i64 x1_1 ∧ v5 = .int .i64 x5_1 ∧ y0 (laws_heldStringS.l0 kq l0 x1_1 x5_1 = some r) ∧ y0 (kq ≤ k) ∧ y0 (Below w.heap.size w w'))
 case atStart => exact ⟨(a1),(0),qy2,qy2,H',⟨Nat.le_refl _⟩,⟨qb⟩⟩
 case round =>
  clear H'
  obtain ⟨x1_1,x5_1,rfl,rfl,HA,HK1,HB⟩ := hrel
  cases gk with
  | zero => exact absurd HA.out (by simp [laws_heldStringS.l0])
  | succ k1 =>
   have H := HA.out
   clear HA
   simp only [laws_heldStringS.l0] at H
   by_cases c3 : x5_1 < (l0.length : Int)
   ·rw [if_pos c3] at H
    have c3b0 := decide_eq_true c3
    clear c3
    obtain ⟨c4,H⟩ := qo H
    have c4b0 : decide (0 ≤ x5_1) = true := decide_eq_true c4
    clear c4
    obtain ⟨t397,A5,H⟩ := qB H
    by_cases c6 : (rdOf ByteArray.empty l0 x5_1).toList = t397.toList
    ·rw [if_pos c6] at H
     have c6b0 : ((rdOf ByteArray.empty l0 x5_1).toList == t397.toList) = true := beq_iff_eq.mpr c6
     have c6b1 : ((rdOf ByteArray.empty l0 x5_1).toList != t397.toList) = false := bne_eq_false_iff_eq.mpr c6
     clear c6
     have H' := y0.mk H
     clear H
     try go_wp2
     replace HB := y0.mk (y3 HB.out)
     have p396 : 0 ≤ (x5_1 : Int) := of_decide_eq_true qy1
     have q396 : x5_1 < (l0.length : Int) := of_decide_eq_true qy1
     obtain ⟨ad396,e396,hx396_0⟩ := Kd.at_string HR0.out x5_1 p396 q396
     have hw396_0 := hx396_0
     cases e396
     replace hx396_0 := (HB.out.cell (World.block_lt_of_cell? w _ hx396_0)).trans hx396_0
     replace p396 := eq_true p396
     replace q396 := eq_true q396
     refine start_ (n := 7) (S := fun w' => w'.cell? (ad396.add (x5_1).toNat) = some (.string (rdOf ByteArray.empty l0 x5_1))) (ds := []) #[false,false,false,false,false,false,false] (by kernel_rfl) rfl rfl (((HB.out.cell (World.block_lt_of_cell? w _ hw396_0)).trans hw396_0)) (fun hHeld => ?_)
     generalize wr.drew = w7 at HB hx396_0 hHeld ⊢
     refine pure_ (i := 0) (N := some 12) (v := ?_) (a' := ?_) #[true,false,false,false,false,false,false] rfl rfl (by kernel_rfl) (fun _ _ _ h => h) (Or.inl ⟨by rfl, ?_⟩) ?_ ?_
     rotate_left
     ·intro w'
      go_simp
      with_reducible rfl
     rotate_left
     ·simp only [Act.put,qS_,qZ_,qC_,y18,y17]
      rfl
     refine pure_ (i := 1) (N := some 13) (v := ?_) (a' := ?_) #[true,true,false,false,false,false,false] rfl rfl (by kernel_rfl) (fun _ _ _ h => h) (Or.inl ⟨by rfl, ?_⟩) ?_ ?_
     rotate_left
     ·intro w'
      go_simp
      with_reducible rfl
     rotate_left
     ·simp only [Act.put,qS_,qZ_,qC_,y18,y17]
      rfl
     refine pure_ (i := 2) (N := some 14) (v := ?_) (a' := ?_) #[true,true,true,false,false,false,false] rfl rfl (by kernel_rfl) (fun _ _ _ h => h) (Or.inl ⟨by rfl, ?_⟩) ?_ ?_
     rotate_left
     ·intro w'
      go_simp
      with_reducible rfl
     rotate_left
     ·simp only [Act.put,qS_,qZ_,qC_,y18,y17]
      rfl
     refine pure_ (i := 4) (N := some 16) (v := ?_) (a' := ?_) #[true,true,true,false,true,false,false] rfl rfl (by kernel_rfl) (fun _ _ _ h => h) (Or.inl ⟨by rfl, ?_⟩) ?_ ?_
     rotate_left
     ·intro w'
      go_simp
      with_reducible rfl
     rotate_left
     ·simp only [Act.put,qS_,qZ_,qC_,y18,y17]
      rfl
     refine take_ (i := 3) (N := some 15) (v := ?_) (a' := ?_) #[true,true,true,true,true,false,false] rfl rfl (by kernel_rfl) (fun _ _ _ h => h) (Or.inl ⟨by rfl, ?_⟩) hHeld ?_ ?_
     rotate_left
     ·intro w' s0
      go_simp
      with_reducible rfl
     rotate_left
     ·simp only [Act.put,qS_,qZ_,qC_,y18,y17]
      rfl
     refine one_ (i := 5) (N := some 17) #[true,true,true,true,true,true,false] rfl rfl (by kernel_rfl) (by decide) (fun K hK => ?_)
     refine goes_ Tryz.func40 (by kernel_rfl) rfl #[.int .i64 x1_1] (by rfl) rfl rfl qy0 ?_
     with_reducible refine (laws_markText.calls k1 x1_1 t397 _ A5.out).mono ?_
     rintro e w8 ⟨rfl,hb⟩
     refine ⟨_,rfl, ?_⟩
     replace HB := y0.mk (y5 qb hb)
     (try clear hb)
     (try clear hb2)
     (try clear hk)
     (try clear hi)
     refine hK.out _ _ (((HB.out.cell (World.block_lt_of_cell? w _ hw396_0)).trans hw396_0)) (fun hHeld => ?_)
     clear hK K
     refine norm_ (a' := ?_) ?_ ?_
     rotate_left
     ·show Act.put _ (some 17) _ = _
      simp only [Act.put,qS_,qZ_,qC_,y18,y17]
      rfl
     refine pure_ (i := 6) (N := some 18) (v := ?_) (a' := ?_) #[true,true,true,true,true,true,true] rfl rfl (by kernel_rfl) (fun _ _ _ h => h) (Or.inl ⟨by rfl, ?_⟩) ?_ ?_
     rotate_left
     ·intro w'
      go_simp
      with_reducible rfl
     rotate_left
     ·simp only [Act.put,qS_,qZ_,qC_,y18,y17]
      rfl
     refine done_ (by kernel_rfl) ?_
     try go_wp2
     go_roundg k1
     case measure => have := HK1.out; omega
     exact ⟨(wrap64 (x1_1 + 1)),(wrap64 (x5_1 + 1)),qy2,qy2,H',⟨by have := HK1.out; omega⟩,⟨qb⟩⟩
    ·rw [if_neg c6] at H
     have c6b0 : ((rdOf ByteArray.empty l0 x5_1).toList == t397.toList) = false := beq_eq_false_iff_ne.mpr c6
     have c6b1 : ((rdOf ByteArray.empty l0 x5_1).toList != t397.toList) = true := bne_iff_ne.mpr c6
     obtain rfl := Option.some.inj H
     try go_wp2
     replace HB := y0.mk (y3 HB.out)
     have p396 : 0 ≤ (x5_1 : Int) := of_decide_eq_true qy1
     have q396 : x5_1 < (l0.length : Int) := of_decide_eq_true qy1
     obtain ⟨ad396,e396,hx396_0⟩ := Kd.at_string HR0.out x5_1 p396 q396
     have hw396_0 := hx396_0
     cases e396
     replace hx396_0 := (HB.out.cell (World.block_lt_of_cell? w _ hx396_0)).trans hx396_0
     replace p396 := eq_true p396
     replace q396 := eq_true q396
     refine start_ (n := 7) (S := fun w' => w'.cell? (ad396.add (x5_1).toNat) = some (.string (rdOf ByteArray.empty l0 x5_1))) (ds := []) #[false,false,false,false,false,false,false] (by kernel_rfl) rfl rfl (((HB.out.cell (World.block_lt_of_cell? w _ hw396_0)).trans hw396_0)) (fun hHeld => ?_)
     generalize wr.drew = w9 at HB hx396_0 hHeld ⊢
     refine pure_ (i := 0) (N := some 12) (v := ?_) (a' := ?_) #[true,false,false,false,false,false,false] rfl rfl (by kernel_rfl) (fun _ _ _ h => h) (Or.inl ⟨by rfl, ?_⟩) ?_ ?_
     rotate_left
     ·intro w'
      go_simp
      with_reducible rfl
     rotate_left
     ·simp only [Act.put,qS_,qZ_,qC_,y18,y17]
      rfl
     refine pure_ (i := 1) (N := some 13) (v := ?_) (a' := ?_) #[true,true,false,false,false,false,false] rfl rfl (by kernel_rfl) (fun _ _ _ h => h) (Or.inl ⟨by rfl, ?_⟩) ?_ ?_
     rotate_left
     ·intro w'
      go_simp
      with_reducible rfl
     rotate_left
     ·simp only [Act.put,qS_,qZ_,qC_,y18,y17]
      rfl
     refine pure_ (i := 2) (N := some 14) (v := ?_) (a' := ?_) #[true,true,true,false,false,false,false] rfl rfl (by kernel_rfl) (fun _ _ _ h => h) (Or.inl ⟨by rfl, ?_⟩) ?_ ?_
     rotate_left
     ·intro w'
      go_simp
      with_reducible rfl
     rotate_left
     ·simp only [Act.put,qS_,qZ_,qC_,y18,y17]
      rfl
     refine pure_ (i := 4) (N := some 16) (v := ?_) (a' := ?_) #[true,true,true,false,true,false,false] rfl rfl (by kernel_rfl) (fun _ _ _ h => h) (Or.inl ⟨by rfl, ?_⟩) ?_ ?_
     rotate_left
     ·intro w'
      go_simp
      with_reducible rfl
     rotate_left
     ·simp only [Act.put,qS_,qZ_,qC_,y18,y17]
      rfl
     refine take_ (i := 3) (N := some 15) (v := ?_) (a' := ?_) #[true,true,true,true,true,false,false] rfl rfl (by kernel_rfl) (fun _ _ _ h => h) (Or.inl ⟨by rfl, ?_⟩) hHeld ?_ ?_
     rotate_left
     ·intro w' s0
      go_simp
      with_reducible rfl
     rotate_left
     ·simp only [Act.put,qS_,qZ_,qC_,y18,y17]
      rfl
     refine one_ (i := 5) (N := some 17) #[true,true,true,true,true,true,false] rfl rfl (by kernel_rfl) (by decide) (fun K hK => ?_)
     refine goes_ Tryz.func40 (by kernel_rfl) rfl #[.int .i64 x1_1] (by rfl) rfl rfl qy0 ?_
     with_reducible refine (laws_markText.calls k1 x1_1 t397 _ A5.out).mono ?_
     rintro e w10 ⟨rfl,hb⟩
     refine ⟨_,rfl, ?_⟩
     replace HB := y0.mk (y5 qb hb)
     (try clear hb)
     (try clear hb2)
     (try clear hk)
     (try clear hi)
     refine hK.out _ _ (((HB.out.cell (World.block_lt_of_cell? w _ hw396_0)).trans hw396_0)) (fun hHeld => ?_)
     clear hK K
     refine norm_ (a' := ?_) ?_ ?_
     rotate_left
     ·show Act.put _ (some 17) _ = _
      simp only [Act.put,qS_,qZ_,qC_,y18,y17]
      rfl
     refine pure_ (i := 6) (N := some 18) (v := ?_) (a' := ?_) #[true,true,true,true,true,true,true] rfl rfl (by kernel_rfl) (fun _ _ _ h => h) (Or.inl ⟨by rfl, ?_⟩) ?_ ?_
     rotate_left
     ·intro w'
      go_simp
      with_reducible rfl
     rotate_left
     ·simp only [Act.put,qS_,qZ_,qC_,y18,y17]
      rfl
     refine done_ (by kernel_rfl) ?_
     try go_wp2
     go_ret
     exact ⟨by first | rfl | (simp [y12,y13] <;> rfl) | (simp [*,y12,y13] <;> rfl),qb⟩
   ·rw [if_neg c3] at H
    have c3b0 := decide_eq_false c3
    clear c3
    obtain rfl := Option.some.inj H
    go_wp2
    go_ret
    exact ⟨by first | rfl | (simp [y12,y13] <;> rfl) | (simp [*,y12,y13] <;> rfl),qb⟩
def laws_heldTupleS.l0 : Nat → List (S48) → Int → Int → Option (Int)
 | 0,_,_,_ => none
 | k + 1,x0,x1,x5 => if x5 < (x0.length : Int) then (if 0 ≤ x5 then ((laws_heldStringS.f k ((y19 x0 x5).f0) x1).bind fun t399 => (if t399 < 0 then (some (-1)) else (laws_heldTupleS.l0 k x0 t399 (wrap64 (x5 + 1))))) else (none)) else (some x1)
def laws_heldTupleS.f (k : Nat) (l0 : List (S48)) (a1 : Int) : Option (Int) := laws_heldTupleS.l0 k l0 a1 0
set_option maxHeartbeats 8000000 in
set_option maxRecDepth 100000 in
theorem laws_heldTupleS.calls (k : Nat) (A0 : Option Addr) (c0 : Nat) (l0 : List (S48)) (a1 : Int) (r : Int) (w : World) (hr0 : Kd.C k48 w A0 l0.length l0) (hc0 : l0.length ≤ c0) (h : laws_heldTupleS.f k l0 a1 = some r) :
  Calls Tryz.prog 19 #[.slice A0 l0.length c0,.int .i64 a1] w fun e w' => e = .returned (.int .i64 r) ∧ Below w.heap.size w w' := by
 have HR0 := y0.mk hr0
 have HC0 := y0.mk hc0
 clear hr0 hc0
 have HB := y0.mk (Below.refl w.heap.size w)
 have H : (laws_heldTupleS.l0 k l0 a1 0) = some r := h
 clear h
 have H' := y0.mk H
 clear H
 go_enter Tryz.func19,Tryz.ntmps19
 go_wp2
 go_loopg [1,5] k (fun kq v1 v5 w' => ∃ (x1_1 : Int) (x5_1 : Int),v1 = .int .i64 x1_1 ∧ v5 = .int .i64 x5_1 ∧ y0 (laws_heldTupleS.l0 kq l0 x1_1 x5_1 = some r) ∧ y0 (kq ≤ k) ∧ y0 (Below w.heap.size w w'))
 case atStart => exact ⟨(a1),(0),qy2,qy2,H',⟨Nat.le_refl _⟩,⟨qb⟩⟩
 case round =>
  clear H'
  obtain ⟨x1_1,x5_1,rfl,rfl,HA,HK1,HB⟩ := hrel
  cases gk with
  | zero => exact absurd HA.out (by simp [laws_heldTupleS.l0])
  | succ k1 =>
   have H := HA.out
   clear HA
   simp only [laws_heldTupleS.l0] at H
   by_cases c3 : x5_1 < (l0.length : Int)
   ·rw [if_pos c3] at H
    have c3b0 := decide_eq_true c3
    clear c3
    obtain ⟨c4,H⟩ := qo H
    have c4b0 : decide (0 ≤ x5_1) = true := decide_eq_true c4
    clear c4
    obtain ⟨t399,A5,H⟩ := qB H
    by_cases c6 : t399 < 0
    ·rw [if_pos c6] at H
     have c6b0 := decide_eq_true c6
     clear c6
     obtain rfl := Option.some.inj H
     have p398 : 0 ≤ (x5_1 : Int) := of_decide_eq_true qy1
     have q398 : x5_1 < (l0.length : Int) := of_decide_eq_true qy1
     obtain ⟨ad398,A398_0,c398_0,e398,hx398_0,hl398_0,hi398_0⟩ := at_T48 HR0.out x5_1 p398 q398
     cases e398
     replace hx398_0 := (HB.out.cell (World.block_lt_of_cell? w _ hx398_0)).trans hx398_0
     have HR398_0 := y0.mk hi398_0
     have HC398_0 := y0.mk hl398_0
     clear hi398_0 hl398_0
     replace p398 := eq_true p398
     replace q398 := eq_true q398
     go_wp2_with (first | ((with_reducible refine y14 (f := 41) rfl ?_); refine y16 (some 18) rfl rfl Tryz.func41 (by kernel_rfl) rfl #[.slice A398_0 ((y19 l0 x5_1).f0).length c398_0,.int .i64 x1_1] rfl qy0 ?_; (with_reducible refine (laws_heldStringS.calls k1 _ _ ((y19 l0 x5_1).f0) x1_1 t399 _ (qc (Kd.C_below HR398_0.out HB.out)) HC398_0.out A5.out).mono ?_); rintro e w7 ⟨rfl,hb⟩; refine ⟨_,rfl, ?_⟩; replace HB := y0.mk (y5 qb hb); (try clear hb); (try clear hb2); (try clear hk); (try clear hi)))
     go_ret
     exact ⟨by first | rfl | (simp [y12,y13] <;> rfl) | (simp [*,y12,y13] <;> rfl),qb⟩
    ·rw [if_neg c6] at H
     have c6b0 := decide_eq_false c6
     clear c6
     have H' := y0.mk H
     clear H
     have p398 : 0 ≤ (x5_1 : Int) := of_decide_eq_true qy1
     have q398 : x5_1 < (l0.length : Int) := of_decide_eq_true qy1
     obtain ⟨ad398,A398_0,c398_0,e398,hx398_0,hl398_0,hi398_0⟩ := at_T48 HR0.out x5_1 p398 q398
     cases e398
     replace hx398_0 := (HB.out.cell (World.block_lt_of_cell? w _ hx398_0)).trans hx398_0
     have HR398_0 := y0.mk hi398_0
     have HC398_0 := y0.mk hl398_0
     clear hi398_0 hl398_0
     replace p398 := eq_true p398
     replace q398 := eq_true q398
     go_wp2_with (first | ((with_reducible refine y14 (f := 41) rfl ?_); refine y16 (some 18) rfl rfl Tryz.func41 (by kernel_rfl) rfl #[.slice A398_0 ((y19 l0 x5_1).f0).length c398_0,.int .i64 x1_1] rfl qy0 ?_; (with_reducible refine (laws_heldStringS.calls k1 _ _ ((y19 l0 x5_1).f0) x1_1 t399 _ (qc (Kd.C_below HR398_0.out HB.out)) HC398_0.out A5.out).mono ?_); rintro e w8 ⟨rfl,hb⟩; refine ⟨_,rfl, ?_⟩; replace HB := y0.mk (y5 qb hb); (try clear hb); (try clear hb2); (try clear hk); (try clear hi)))
     go_roundg k1
     case measure => have := HK1.out; omega
     exact ⟨(t399),(wrap64 (x5_1 + 1)),qy2,qy2,H',⟨by have := HK1.out; omega⟩,⟨qb⟩⟩
   ·rw [if_neg c3] at H
    have c3b0 := decide_eq_false c3
    clear c3
    obtain rfl := Option.some.inj H
    go_wp2
    go_ret
    exact ⟨by first | rfl | (simp [y12,y13] <;> rfl) | (simp [*,y12,y13] <;> rfl),qb⟩
end Go.Proofs.YtocmfolajckaeaaGreatDoor.Pe
end
section
namespace Go.Proofs.YtocmfolajckaeaaGreatDoor.Pe
open Go.RowKit Go.Proofs.YtocmfolajckaeaaGreatDoorW.PrintWords Go.Proofs.YtocmfolajckaeaaGreatDoorW.PrintLast Go.Proofs.YtocmfolajckaeaaGreatDoorW.PrintMore
attribute [local go_sem] max2_int min2_int max_two min_two max_three min_three max_four min_four   -- for this text's walks alone
set_option linter.unusedVariables false
set_option linter.unusedSimpArgs false
/-- What is reckoned in the one way that a call of the law can go. -/
def laws_FnExactRelSeek.Run (k : Nat) (a : Int) (l0 : List (S49)) (l1 : List ByteArray) : Prop :=
 ∃ r,laws_szRel.f k a l0 1048576 = some r ∧ (r < 0 ∨ (¬ r < 0 ∧ ∃ r2,laws_szStringS.f k l1 r = some r2 ∧ (r2 < 0 ∨ (¬ r2 < 0 ∧ ∃ (ar : Int) (xs : List (S48)) (hs : List ByteArray) (gs : List (S48)) (m1 : Int) (xm : List (S48)) (m2 : Int) (hm : List ByteArray) (m3 : Int) (gm : List (S48)),
  laws_toRel.f k a l0 = some (ar,xs) ∧ laws_toStringS.f k l1 = some hs ∧ spec_RelSeek.f k ar xs hs = some gs ∧ impl_RelSeek.f k ar xs hs = some gs ∧ laws_eqTupleS.f k gs gs = some true ∧ laws_eqRel.f k ar xs ar xs = some true ∧ laws_eqStringS.f k hs hs = some true ∧
  laws_markRel.f k ar xs 1 = some (m1,xm) ∧ laws_markStringS.f k hs m1 = some (m2,hm) ∧ ¬ m2 < 0 ∧ laws_markTupleS.f k gs 1 = some (m3,gm) ∧ gm.length = gs.length ∧ laws_heldTupleS.f k gm 1 = some m3 ∧ ¬ m3 < 0))))
set_option maxHeartbeats 16000000 in
set_option maxRecDepth 100000 in
theorem laws_FnExactRelSeek.calls (k : Nat) (a : Int) (A0 : Option Addr) (c0 : Nat) (l0 : List (S49)) (A1 : Option Addr) (c1 : Nat) (l1 : List ByteArray) (w : World) (hr0 : Kd.C k49 w A0 l0.length l0) (hc0 : l0.length ≤ c0) (hr1 : Kd.C Kd.string w A1 l1.length l1) (hc1 : l1.length ≤ c1) (hT : Tb w) (h : laws_FnExactRelSeek.Run k a l0 l1) :
  Calls Tryz.prog 3 #[.agg #[.int .i64 a,.slice A0 l0.length c0],.slice A1 l1.length c1] w fun e w' => e = .returned (.bool true) ∧ Below w.heap.size w w' := by
 have hu24 := Tryz.underlying24
 have hu31 := Tryz.underlying31
 have HR0 := y0.mk hr0
 clear hr0
 have HC0 := y0.mk hc0
 clear hc0
 have HR1 := y0.mk hr1
 clear hr1
 have HC1 := y0.mk hc1
 clear hc1
 have HT := y0.mk hT
 clear hT
 have HB := y0.mk (Below.refl w.heap.size w)
 obtain ⟨r,E1,h⟩ := h
 have E1 := y0.mk E1
 rcases h with h | ⟨h0,r2,E2,h⟩
 ·skip
  have hb0 : decide (r < 0) = true := decide_eq_true h
  clear h
  go_enter Tryz.func3,Tryz.ntmps3
  go_wp2_with (first
   | ((with_reducible refine y15 (N := 2) rfl ?_); refine qe 2 #[.int .i64 a,.slice A0 l0.length c0] 24 ?_; intro ga hg w1 hbox hb; have BKa := y0.mk (hbox); have GEa := y0.mk ((by rw [hg]; exact HB.out.size : w.heap.size ≤ ga)); replace HB := y0.mk (y5 HB.out hb); clear hb hg hbox; have hca0 : w1.cell? ⟨ga,0,none⟩ = some (.int .i64 a) := (y8 BKa.out 0).trans rfl; have hfa0 := y11 BKa.out 0; have hca1 : w1.cell? ⟨ga,1,none⟩ = some (.slice A0 l0.length c0) := (y8 BKa.out 1).trans rfl; have hfa1 := y11 BKa.out 1)
   | (go_at_call 7; (with_reducible refine (laws_szRel.calls k a _ _ l0 1048576 r _ (Kd.C_below HR0.out HB.out) HC0.out E1.out).mono ?_); rintro e w2 ⟨rfl,hb⟩; (try clear hca0); (try clear hca1); (try clear hfa0); (try clear hfa1); have n0_ := y0.mk (y7 (g := ga) (o := (.cells #[.int .i64 a,.slice A0 l0.length c0] 24 (0,0))) BKa.out hb); have n1_ := y0.mk (y5 HB.out hb); clear BKa HB; have BKa := n0_; have HB := n1_; clear n0_ n1_; (try clear hb); have hca0 : w2.cell? ⟨ga,0,none⟩ = some (.int .i64 a) := (y8 BKa.out 0).trans rfl; have hfa0 := y11 BKa.out 0; have hca1 : w2.cell? ⟨ga,1,none⟩ = some (.slice A0 l0.length c0) := (y8 BKa.out 1).trans rfl; have hfa1 := y11 BKa.out 1))
  go_ret
  exact ⟨by first | rfl | (simp [y12,y13] <;> rfl),HB.out⟩
 have E2 := y0.mk E2
 have hb0 : decide (r < 0) = false := decide_eq_false h0
 clear h0
 rcases h with h | ⟨h0,ar,xs,hs,gs,m1,xm,m2,hm,m3,gm,F1,F2,F3,F4,F5,F6,F7,F8,F9,F10,F11,F12,F13,F14⟩
 ·skip
  have hb1 : decide (r2 < 0) = true := decide_eq_true h
  clear h
  go_enter Tryz.func3,Tryz.ntmps3
  go_wp2_with (first
   | ((with_reducible refine y15 (N := 2) rfl ?_); refine qe 2 #[.int .i64 a,.slice A0 l0.length c0] 24 ?_; intro ga hg w1 hbox hb; have BKa := y0.mk (hbox); have GEa := y0.mk ((by rw [hg]; exact HB.out.size : w.heap.size ≤ ga)); replace HB := y0.mk (y5 HB.out hb); clear hb hg hbox; have hca0 : w1.cell? ⟨ga,0,none⟩ = some (.int .i64 a) := (y8 BKa.out 0).trans rfl; have hfa0 := y11 BKa.out 0; have hca1 : w1.cell? ⟨ga,1,none⟩ = some (.slice A0 l0.length c0) := (y8 BKa.out 1).trans rfl; have hfa1 := y11 BKa.out 1)
   | (go_at_call 7; (with_reducible refine (laws_szRel.calls k a _ _ l0 1048576 r _ (Kd.C_below HR0.out HB.out) HC0.out E1.out).mono ?_); rintro e w2 ⟨rfl,hb⟩; (try clear hca0); (try clear hca1); (try clear hfa0); (try clear hfa1); have n0_ := y0.mk (y7 (g := ga) (o := (.cells #[.int .i64 a,.slice A0 l0.length c0] 24 (0,0))) BKa.out hb); have n1_ := y0.mk (y5 HB.out hb); clear BKa HB; have BKa := n0_; have HB := n1_; clear n0_ n1_; (try clear hb); have hca0 : w2.cell? ⟨ga,0,none⟩ = some (.int .i64 a) := (y8 BKa.out 0).trans rfl; have hfa0 := y11 BKa.out 0; have hca1 : w2.cell? ⟨ga,1,none⟩ = some (.slice A0 l0.length c0) := (y8 BKa.out 1).trans rfl; have hfa1 := y11 BKa.out 1)
   | (go_at_call 8; (with_reducible refine (laws_szStringS.calls k _ _ l1 r r2 _ (Kd.C_below HR1.out HB.out) HC1.out E2.out).mono ?_); rintro e w3 ⟨rfl,hd_⟩; have hb := hd_.below; (try clear hca0); (try clear hca1); (try clear hfa0); (try clear hfa1); have n0_ := y0.mk (y7 (g := ga) (o := (.cells #[.int .i64 a,.slice A0 l0.length c0] 24 (0,0))) BKa.out hb); have n1_ := y0.mk (y5 HB.out hb); clear BKa HB; have BKa := n0_; have HB := n1_; clear n0_ n1_; (try clear hb); (try clear hd_); have hca0 : w3.cell? ⟨ga,0,none⟩ = some (.int .i64 a) := (y8 BKa.out 0).trans rfl; have hfa0 := y11 BKa.out 0; have hca1 : w3.cell? ⟨ga,1,none⟩ = some (.slice A0 l0.length c0) := (y8 BKa.out 1).trans rfl; have hfa1 := y11 BKa.out 1))
  go_ret
  exact ⟨by first | rfl | (simp [y12,y13] <;> rfl),HB.out⟩
 have hb1 : decide (r2 < 0) = false := decide_eq_false h0
 clear h0
 replace F1 := y0.mk F1
 replace F2 := y0.mk F2
 replace F3 := y0.mk F3
 replace F4 := y0.mk F4
 replace F5 := y0.mk F5
 replace F6 := y0.mk F6
 replace F7 := y0.mk F7
 replace F8 := y0.mk F8
 replace F9 := y0.mk F9
 replace F11 := y0.mk F11
 replace F13 := y0.mk F13
 have hb2 : decide (m2 < 0) = false := decide_eq_false F10
 have hb3 : decide (m3 < 0) = false := decide_eq_false F14
 have hb4 : (m3 != m3) = false := bne_self_eq_false m3
 clear F10 F14
 have HELD : y0 (∀ (W : World) (A : Option Addr) (c : Nat),Kd.C k48 W A gm.length gm → gm.length ≤ c → Calls Tryz.prog 19 #[.slice A gs.length c,.int .i64 1] W fun e w' => e = .returned (.int .i64 m3) ∧ Below W.heap.size W w') := by
  refine ⟨fun W A c h1 h2 => ?_⟩
  have h_ := laws_heldTupleS.calls k A c gm 1 m3 W h1 h2 F13.out
  rw [F12] at h_
  exact h_
 have HGL := y0.mk F12
 clear F12
 go_enter Tryz.func3,Tryz.ntmps3
 go_upto_region 8 with (first
  | ((with_reducible refine y15 (N := 2) rfl ?_); refine qe 2 #[.int .i64 a,.slice A0 l0.length c0] 24 ?_; intro ga hg w1 hbox hb; have BKa := y0.mk (hbox); have GEa := y0.mk ((by rw [hg]; exact HB.out.size : w.heap.size ≤ ga)); replace HB := y0.mk (y5 HB.out hb); clear hb hg hbox; have hca0 : w1.cell? ⟨ga,0,none⟩ = some (.int .i64 a) := (y8 BKa.out 0).trans rfl; have hfa0 := y11 BKa.out 0; have hca1 : w1.cell? ⟨ga,1,none⟩ = some (.slice A0 l0.length c0) := (y8 BKa.out 1).trans rfl; have hfa1 := y11 BKa.out 1)
  | (go_at_call 7; (with_reducible refine (laws_szRel.calls k a _ _ l0 1048576 r _ (Kd.C_below HR0.out HB.out) HC0.out E1.out).mono ?_); rintro e w2 ⟨rfl,hb⟩; (try clear hca0); (try clear hca1); (try clear hfa0); (try clear hfa1); have n0_ := y0.mk (y7 (g := ga) (o := (.cells #[.int .i64 a,.slice A0 l0.length c0] 24 (0,0))) BKa.out hb); have n1_ := y0.mk (y5 HB.out hb); clear BKa HB; have BKa := n0_; have HB := n1_; clear n0_ n1_; (try clear hb); have hca0 : w2.cell? ⟨ga,0,none⟩ = some (.int .i64 a) := (y8 BKa.out 0).trans rfl; have hfa0 := y11 BKa.out 0; have hca1 : w2.cell? ⟨ga,1,none⟩ = some (.slice A0 l0.length c0) := (y8 BKa.out 1).trans rfl; have hfa1 := y11 BKa.out 1)
  | (go_at_call 8; (with_reducible refine (laws_szStringS.calls k _ _ l1 r r2 _ (Kd.C_below HR1.out HB.out) HC1.out E2.out).mono ?_); rintro e w3 ⟨rfl,hd_⟩; have hb := hd_.below; (try clear hca0); (try clear hca1); (try clear hfa0); (try clear hfa1); have n0_ := y0.mk (y7 (g := ga) (o := (.cells #[.int .i64 a,.slice A0 l0.length c0] 24 (0,0))) BKa.out hb); have n1_ := y0.mk (y5 HB.out hb); clear BKa HB; have BKa := n0_; have HB := n1_; clear n0_ n1_; (try clear hb); (try clear hd_); have hca0 : w3.cell? ⟨ga,0,none⟩ = some (.int .i64 a) := (y8 BKa.out 0).trans rfl; have hfa0 := y11 BKa.out 0; have hca1 : w3.cell? ⟨ga,1,none⟩ = some (.slice A0 l0.length c0) := (y8 BKa.out 1).trans rfl; have hfa1 := y11 BKa.out 1))
 go_upto_region 9 with (first
  | (go_at_call 10; (with_reducible refine (laws_toRel.calls k a _ _ l0 ar xs _ (Kd.C_below HR0.out HB.out) HC0.out F1.out).mono ?_); rintro e w4 ⟨v_,rfl,ho,hb⟩; obtain ⟨loP,hiP,hlo_,hhi_,hO_⟩ := QIv.OS.new ho; obtain ⟨AP,cP,eA_⟩ := hO_.slice; subst eA_; (try clear hca0); (try clear hca1); (try clear hfa0); (try clear hfa1); have n0_ := y0.mk (hO_); have n1_ := y0.mk ((by rw [hhi_]; exact Nat.le_refl _ : hiP ≤ _)); have n2_ := y0.mk ((by rw [hlo_]; exact HB.out.size : w.heap.size ≤ loP)); have n3_ := y0.mk ((by rw [hlo_]; exact QIv.ki_lt BKa.out : ga < loP)); have n4_ := y0.mk (y7 (g := ga) (o := (.cells #[.int .i64 a,.slice A0 l0.length c0] 24 (0,0))) BKa.out hb); have n5_ := y0.mk (y5 HB.out hb); clear BKa HB; have OP := n0_; have LP := n1_; have BP := n2_; have Ea_P := n3_; have BKa := n4_; have HB := n5_; clear n0_ n1_ n2_ n3_ n4_ n5_; (try clear hb); (try clear ho); (try clear hlo_); (try clear hhi_); have hca0 : w4.cell? ⟨ga,0,none⟩ = some (.int .i64 a) := (y8 BKa.out 0).trans rfl; have hfa0 := y11 BKa.out 0; have hca1 : w4.cell? ⟨ga,1,none⟩ = some (.slice A0 l0.length c0) := (y8 BKa.out 1).trans rfl; have hfa1 := y11 BKa.out 1)
  | (go_at_call 11; (with_reducible refine (laws_toStringS.calls k _ _ l1 hs _ (Kd.C_below HR1.out HB.out) HC1.out F2.out).mono ?_); rintro e w5 ⟨v_,rfl,ho,hb⟩; obtain ⟨loQ,hiQ,hlo_,hhi_,hO_⟩ := QIv.OR.new ho; obtain ⟨AQ,cQ,eA_⟩ := hO_.slice; subst eA_; (try clear hca0); (try clear hca1); (try clear hfa0); (try clear hfa1); have n0_ := y0.mk (hO_); have n1_ := y0.mk ((by rw [hhi_]; exact Nat.le_refl _ : hiQ ≤ _)); have n2_ := y0.mk ((by rw [hlo_]; exact HB.out.size : w.heap.size ≤ loQ)); have n3_ := y0.mk ((by rw [hlo_]; exact LP.out : hiP ≤ loQ)); have n4_ := y0.mk ((by rw [hlo_]; exact QIv.ki_lt BKa.out : ga < loQ)); have n5_ := y0.mk (OP.out.below hb); have n6_ := y0.mk (Nat.le_trans LP.out hb.size); have n7_ := y0.mk (y7 (g := ga) (o := (.cells #[.int .i64 a,.slice A0 l0.length c0] 24 (0,0))) BKa.out hb); have n8_ := y0.mk (y5 HB.out hb); clear OP LP BKa HB; have OQ := n0_; have LQ := n1_; have BQ := n2_; have DP_Q := n3_; have Ea_Q := n4_; have OP := n5_; have LP := n6_; have BKa := n7_; have HB := n8_; clear n0_ n1_ n2_ n3_ n4_ n5_ n6_ n7_ n8_; (try clear hb); (try clear ho); (try clear hlo_); (try clear hhi_); have hca0 : w5.cell? ⟨ga,0,none⟩ = some (.int .i64 a) := (y8 BKa.out 0).trans rfl; have hfa0 := y11 BKa.out 0; have hca1 : w5.cell? ⟨ga,1,none⟩ = some (.slice A0 l0.length c0) := (y8 BKa.out 1).trans rfl; have hfa1 := y11 BKa.out 1)
  | (go_at_call 9; (with_reducible refine (spec_RelSeek.calls k ar _ _ xs _ _ hs gs _ OP.out.C OP.out.le OQ.out.C OQ.out.le F3.out).mono ?_); rintro e w6 ⟨v_,rfl,ho,hb⟩; obtain ⟨loW,hiW,hlo_,hhi_,hO_⟩ := QIv.OS.new ho; obtain ⟨AW,cW,eA_⟩ := hO_.slice; subst eA_; (try clear hca0); (try clear hca1); (try clear hfa0); (try clear hfa1); have n0_ := y0.mk (hO_); have n1_ := y0.mk ((by rw [hhi_]; exact Nat.le_refl _ : hiW ≤ _)); have n2_ := y0.mk ((by rw [hlo_]; exact HB.out.size : w.heap.size ≤ loW)); have n3_ := y0.mk ((by rw [hlo_]; exact LP.out : hiP ≤ loW)); have n4_ := y0.mk ((by rw [hlo_]; exact LQ.out : hiQ ≤ loW)); have n5_ := y0.mk ((by rw [hlo_]; exact QIv.ki_lt BKa.out : ga < loW)); have n6_ := y0.mk (OP.out.below hb); have n7_ := y0.mk (OQ.out.below hb); have n8_ := y0.mk (Nat.le_trans LP.out hb.size); have n9_ := y0.mk (Nat.le_trans LQ.out hb.size); have n10_ := y0.mk (y7 (g := ga) (o := (.cells #[.int .i64 a,.slice A0 l0.length c0] 24 (0,0))) BKa.out hb); have n11_ := y0.mk (y5 HB.out hb); clear OP OQ LP LQ BKa HB; have OW := n0_; have LW := n1_; have BW := n2_; have DP_W := n3_; have DQ_W := n4_; have Ea_W := n5_; have OP := n6_; have OQ := n7_; have LP := n8_; have LQ := n9_; have BKa := n10_; have HB := n11_; clear n0_ n1_ n2_ n3_ n4_ n5_ n6_ n7_ n8_ n9_ n10_ n11_; (try clear hb); (try clear ho); (try clear hlo_); (try clear hhi_); have hca0 : w6.cell? ⟨ga,0,none⟩ = some (.int .i64 a) := (y8 BKa.out 0).trans rfl; have hfa0 := y11 BKa.out 0; have hca1 : w6.cell? ⟨ga,1,none⟩ = some (.slice A0 l0.length c0) := (y8 BKa.out 1).trans rfl; have hfa1 := y11 BKa.out 1))
 clear OP LP
 clear OQ LQ
 go_upto_region 10 with (first
  | (go_at_call 10; (with_reducible refine (laws_toRel.calls k a _ _ l0 ar xs _ (Kd.C_below HR0.out HB.out) HC0.out F1.out).mono ?_); rintro e w7 ⟨v_,rfl,ho,hb⟩; obtain ⟨loX,hiX,hlo_,hhi_,hO_⟩ := QIv.OS.new ho; obtain ⟨AX,cX,eA_⟩ := hO_.slice; subst eA_; (try clear hca0); (try clear hca1); (try clear hfa0); (try clear hfa1); have n0_ := y0.mk (hO_); have n1_ := y0.mk ((by rw [hhi_]; exact Nat.le_refl _ : hiX ≤ _)); have n2_ := y0.mk ((by rw [hlo_]; exact HB.out.size : w.heap.size ≤ loX)); have n3_ := y0.mk ((by rw [hlo_]; exact LW.out : hiW ≤ loX)); have n4_ := y0.mk ((by rw [hlo_]; exact QIv.ki_lt BKa.out : ga < loX)); have n5_ := y0.mk (OW.out.below hb); have n6_ := y0.mk (Nat.le_trans LW.out hb.size); have n7_ := y0.mk (y7 (g := ga) (o := (.cells #[.int .i64 a,.slice A0 l0.length c0] 24 (0,0))) BKa.out hb); have n8_ := y0.mk (y5 HB.out hb); clear OW LW BKa HB; have OX := n0_; have LX := n1_; have BX := n2_; have DW_X := n3_; have Ea_X := n4_; have OW := n5_; have LW := n6_; have BKa := n7_; have HB := n8_; clear n0_ n1_ n2_ n3_ n4_ n5_ n6_ n7_ n8_; (try clear hb); (try clear ho); (try clear hlo_); (try clear hhi_); have hca0 : w7.cell? ⟨ga,0,none⟩ = some (.int .i64 a) := (y8 BKa.out 0).trans rfl; have hfa0 := y11 BKa.out 0; have hca1 : w7.cell? ⟨ga,1,none⟩ = some (.slice A0 l0.length c0) := (y8 BKa.out 1).trans rfl; have hfa1 := y11 BKa.out 1)
  | ((with_reducible refine y15 (N := 7) rfl ?_); refine qe 7 #[.int .i64 0,.slice none 0 0] 31 ?_; intro gx hg w8 hbox hb; (try clear hca0); (try clear hca1); (try clear hfa0); (try clear hfa1); have n0_ := y0.mk (hbox); have n1_ := y0.mk ((by rw [hg]; exact HB.out.size : w.heap.size ≤ gx)); have n2_ := y0.mk ((by rw [hg]; exact LW.out : hiW ≤ gx)); have n3_ := y0.mk ((by rw [hg]; exact LX.out : hiX ≤ gx)); have n4_ := y0.mk ((by rw [hg]; exact Nat.ne_of_lt (QIv.ki_lt BKa.out) : ga ≠ gx)); have n5_ := y0.mk (OW.out.below hb); have n6_ := y0.mk (OX.out.below hb); have n7_ := y0.mk (Nat.le_trans LW.out hb.size); have n8_ := y0.mk (Nat.le_trans LX.out hb.size); have n9_ := y0.mk (y7 (g := ga) (o := (.cells #[.int .i64 a,.slice A0 l0.length c0] 24 (0,0))) BKa.out hb); have n10_ := y0.mk (y5 HB.out hb); clear OW OX LW LX BKa HB; have BKx := n0_; have GEx := n1_; have EW_x := n2_; have EX_x := n3_; have Na_x := n4_; have OW := n5_; have OX := n6_; have LW := n7_; have LX := n8_; have BKa := n9_; have HB := n10_; clear n0_ n1_ n2_ n3_ n4_ n5_ n6_ n7_ n8_ n9_ n10_; clear hb hg hbox; have hca0 : w8.cell? ⟨ga,0,none⟩ = some (.int .i64 a) := (y8 BKa.out 0).trans rfl; have hfa0 := y11 BKa.out 0; have hca1 : w8.cell? ⟨ga,1,none⟩ = some (.slice A0 l0.length c0) := (y8 BKa.out 1).trans rfl; have hfa1 := y11 BKa.out 1; have hcx0 : w8.cell? ⟨gx,0,none⟩ = some (.int .i64 0) := (y8 BKx.out 0).trans rfl; have hfx0 := y11 BKx.out 0; have hcx1 : w8.cell? ⟨gx,1,none⟩ = some (.slice none 0 0) := (y8 BKx.out 1).trans rfl; have hfx1 := y11 BKx.out 1))
 (try clear hca0)
 (try clear hca1)
 (try clear hcx0)
 (try clear hcx1)
 (try clear hfa0)
 (try clear hfa1)
 (try clear hfx0)
 (try clear hfx1)
 have n0_ := y0.mk (((OW.out.set (.inr EW_x.out) _ _).set (.inr EW_x.out) _ _) : QIv.OS k48 48 loW hiW (.slice AW gs.length cW) gs ((w8.setCell ⟨gx,0,none⟩ (.int .i64 ar)).setCell ⟨gx,1,none⟩ (.slice AX xs.length cX)))
 have n1_ := y0.mk (by simpa using LW.out : hiW ≤ ((w8.setCell ⟨gx,0,none⟩ (.int .i64 ar)).setCell ⟨gx,1,none⟩ (.slice AX xs.length cX)).heap.size)
 have n2_ := y0.mk (((OX.out.set (.inr EX_x.out) _ _).set (.inr EX_x.out) _ _) : QIv.OS k48 48 loX hiX (.slice AX xs.length cX) xs ((w8.setCell ⟨gx,0,none⟩ (.int .i64 ar)).setCell ⟨gx,1,none⟩ (.slice AX xs.length cX)))
 have n3_ := y0.mk (by simpa using LX.out : hiX ≤ ((w8.setCell ⟨gx,0,none⟩ (.int .i64 ar)).setCell ⟨gx,1,none⟩ (.slice AX xs.length cX)).heap.size)
 have n4_ := y0.mk ((blk_far (blk_far BKa.out (Na_x.out) _) (Na_x.out) _) : ((w8.setCell ⟨gx,0,none⟩ (.int .i64 ar)).setCell ⟨gx,1,none⟩ (.slice AX xs.length cX)).heap[ga]? = some (.cells #[.int .i64 a,.slice A0 l0.length c0] 24 (0,0)))
 have n5_ := y0.mk ((blk_set (blk_set BKx.out 0 (.int .i64 ar)) 1 (.slice AX xs.length cX)) : ((w8.setCell ⟨gx,0,none⟩ (.int .i64 ar)).setCell ⟨gx,1,none⟩ (.slice AX xs.length cX)).heap[gx]? = some (.cells #[.int .i64 ar,.slice AX xs.length cX] 31 (0,0)))
 have n6_ := y0.mk ((below_set (below_set HB.out GEx.out) GEx.out) : Below w.heap.size w ((w8.setCell ⟨gx,0,none⟩ (.int .i64 ar)).setCell ⟨gx,1,none⟩ (.slice AX xs.length cX)))
 clear OW LW OX LX BKa BKx HB
 generalize ((w8.setCell ⟨gx,0,none⟩ (.int .i64 ar)).setCell ⟨gx,1,none⟩ (.slice AX xs.length cX)) = w9 at n0_ n1_ n2_ n3_ n4_ n5_ n6_ ⊢
 have OW := n0_
 have LW := n1_
 have OX := n2_
 have LX := n3_
 have BKa := n4_
 have BKx := n5_
 have HB := n6_
 clear n0_ n1_ n2_ n3_ n4_ n5_ n6_
 have hca0 : w9.cell? ⟨ga,0,none⟩ = some (.int .i64 a) := (y8 BKa.out 0).trans rfl
 have hfa0 := y11 BKa.out 0
 have hca1 : w9.cell? ⟨ga,1,none⟩ = some (.slice A0 l0.length c0) := (y8 BKa.out 1).trans rfl
 have hfa1 := y11 BKa.out 1
 have hcx0 : w9.cell? ⟨gx,0,none⟩ = some (.int .i64 ar) := (y8 BKx.out 0).trans rfl
 have hfx0 := y11 BKx.out 0
 have hcx1 : w9.cell? ⟨gx,1,none⟩ = some (.slice AX xs.length cX) := (y8 BKx.out 1).trans rfl
 have hfx1 := y11 BKx.out 1
 go_upto_region 11 with (first
  | (go_at_call 11; (with_reducible refine (laws_toStringS.calls k _ _ l1 hs _ (Kd.C_below HR1.out HB.out) HC1.out F2.out).mono ?_); rintro e w10 ⟨v_,rfl,ho,hb⟩; obtain ⟨loY,hiY,hlo_,hhi_,hO_⟩ := QIv.OR.new ho; obtain ⟨AY,cY,eA_⟩ := hO_.slice; subst eA_; (try clear hca0); (try clear hca1); (try clear hcx0); (try clear hcx1); (try clear hfa0); (try clear hfa1); (try clear hfx0); (try clear hfx1); have n0_ := y0.mk (hO_); have n1_ := y0.mk ((by rw [hhi_]; exact Nat.le_refl _ : hiY ≤ _)); have n2_ := y0.mk ((by rw [hlo_]; exact HB.out.size : w.heap.size ≤ loY)); have n3_ := y0.mk ((by rw [hlo_]; exact LW.out : hiW ≤ loY)); have n4_ := y0.mk ((by rw [hlo_]; exact LX.out : hiX ≤ loY)); have n5_ := y0.mk ((by rw [hlo_]; exact QIv.ki_lt BKa.out : ga < loY)); have n6_ := y0.mk ((by rw [hlo_]; exact QIv.ki_lt BKx.out : gx < loY)); have n7_ := y0.mk (OW.out.below hb); have n8_ := y0.mk (OX.out.below hb); have n9_ := y0.mk (Nat.le_trans LW.out hb.size); have n10_ := y0.mk (Nat.le_trans LX.out hb.size); have n11_ := y0.mk (y7 (g := ga) (o := (.cells #[.int .i64 a,.slice A0 l0.length c0] 24 (0,0))) BKa.out hb); have n12_ := y0.mk (y7 (g := gx) (o := (.cells #[.int .i64 ar,.slice AX xs.length cX] 31 (0,0))) BKx.out hb); have n13_ := y0.mk (y5 HB.out hb); clear OW OX LW LX BKa BKx HB; have OY := n0_; have LY := n1_; have BY := n2_; have DW_Y := n3_; have DX_Y := n4_; have Ea_Y := n5_; have Ex_Y := n6_; have OW := n7_; have OX := n8_; have LW := n9_; have LX := n10_; have BKa := n11_; have BKx := n12_; have HB := n13_; clear n0_ n1_ n2_ n3_ n4_ n5_ n6_ n7_ n8_ n9_ n10_ n11_ n12_ n13_; (try clear hb); (try clear ho); (try clear hlo_); (try clear hhi_); have hca0 : w10.cell? ⟨ga,0,none⟩ = some (.int .i64 a) := (y8 BKa.out 0).trans rfl; have hfa0 := y11 BKa.out 0; have hca1 : w10.cell? ⟨ga,1,none⟩ = some (.slice A0 l0.length c0) := (y8 BKa.out 1).trans rfl; have hfa1 := y11 BKa.out 1; have hcx0 : w10.cell? ⟨gx,0,none⟩ = some (.int .i64 ar) := (y8 BKx.out 0).trans rfl; have hfx0 := y11 BKx.out 0; have hcx1 : w10.cell? ⟨gx,1,none⟩ = some (.slice AX xs.length cX) := (y8 BKx.out 1).trans rfl; have hfx1 := y11 BKx.out 1))
 go_upto_region 12 with (first
  | (go_at_call 12; (with_reducible refine (impl_RelSeek.calls k ar _ _ xs _ _ hs gs _ OX.out.C OX.out.le OY.out.C OY.out.le (Tb.below HT.out HB.out) F4.out).mono ?_); rintro e w11 ⟨v_,rfl,ho,hb⟩; obtain ⟨loG,hiG,hlo_,hhi_,hO_⟩ := QIv.OS.new ho; obtain ⟨AG,cG,eA_⟩ := hO_.slice; subst eA_; (try clear hca0); (try clear hca1); (try clear hcx0); (try clear hcx1); (try clear hfa0); (try clear hfa1); (try clear hfx0); (try clear hfx1); have n0_ := y0.mk (hO_); have n1_ := y0.mk ((by rw [hhi_]; exact Nat.le_refl _ : hiG ≤ _)); have n2_ := y0.mk ((by rw [hlo_]; exact HB.out.size : w.heap.size ≤ loG)); have n3_ := y0.mk ((by rw [hlo_]; exact LW.out : hiW ≤ loG)); have n4_ := y0.mk ((by rw [hlo_]; exact LX.out : hiX ≤ loG)); have n5_ := y0.mk ((by rw [hlo_]; exact LY.out : hiY ≤ loG)); have n6_ := y0.mk ((by rw [hlo_]; exact QIv.ki_lt BKa.out : ga < loG)); have n7_ := y0.mk ((by rw [hlo_]; exact QIv.ki_lt BKx.out : gx < loG)); have n8_ := y0.mk (OW.out.below hb); have n9_ := y0.mk (OX.out.below hb); have n10_ := y0.mk (OY.out.below hb); have n11_ := y0.mk (Nat.le_trans LW.out hb.size); have n12_ := y0.mk (Nat.le_trans LX.out hb.size); have n13_ := y0.mk (Nat.le_trans LY.out hb.size); have n14_ := y0.mk (y7 (g := ga) (o := (.cells #[.int .i64 a,.slice A0 l0.length c0] 24 (0,0))) BKa.out hb); have n15_ := y0.mk (y7 (g := gx) (o := (.cells #[.int .i64 ar,.slice AX xs.length cX] 31 (0,0))) BKx.out hb); have n16_ := y0.mk (y5 HB.out hb); clear OW OX OY LW LX LY BKa BKx HB; have OG := n0_; have LG := n1_; have BG := n2_; have DW_G := n3_; have DX_G := n4_; have DY_G := n5_; have Ea_G := n6_; have Ex_G := n7_; have OW := n8_; have OX := n9_; have OY := n10_; have LW := n11_; have LX := n12_; have LY := n13_; have BKa := n14_; have BKx := n15_; have HB := n16_; clear n0_ n1_ n2_ n3_ n4_ n5_ n6_ n7_ n8_ n9_ n10_ n11_ n12_ n13_ n14_ n15_ n16_; (try clear hb); (try clear ho); (try clear hlo_); (try clear hhi_); have hca0 : w11.cell? ⟨ga,0,none⟩ = some (.int .i64 a) := (y8 BKa.out 0).trans rfl; have hfa0 := y11 BKa.out 0; have hca1 : w11.cell? ⟨ga,1,none⟩ = some (.slice A0 l0.length c0) := (y8 BKa.out 1).trans rfl; have hfa1 := y11 BKa.out 1; have hcx0 : w11.cell? ⟨gx,0,none⟩ = some (.int .i64 ar) := (y8 BKx.out 0).trans rfl; have hfx0 := y11 BKx.out 0; have hcx1 : w11.cell? ⟨gx,1,none⟩ = some (.slice AX xs.length cX) := (y8 BKx.out 1).trans rfl; have hfx1 := y11 BKx.out 1))
 go_upto_region 14 with (first
  | (go_at_call 13; (with_reducible refine (laws_eqTupleS.calls k _ _ gs _ _ gs true _ OG.out.C OG.out.le OW.out.C OW.out.le F5.out).mono ?_); rintro e w12 ⟨rfl,hb⟩; (try clear hca0); (try clear hca1); (try clear hcx0); (try clear hcx1); (try clear hfa0); (try clear hfa1); (try clear hfx0); (try clear hfx1); have n0_ := y0.mk (OW.out.below hb); have n1_ := y0.mk (OX.out.below hb); have n2_ := y0.mk (OY.out.below hb); have n3_ := y0.mk (OG.out.below hb); have n4_ := y0.mk (Nat.le_trans LW.out hb.size); have n5_ := y0.mk (Nat.le_trans LX.out hb.size); have n6_ := y0.mk (Nat.le_trans LY.out hb.size); have n7_ := y0.mk (Nat.le_trans LG.out hb.size); have n8_ := y0.mk (y7 (g := ga) (o := (.cells #[.int .i64 a,.slice A0 l0.length c0] 24 (0,0))) BKa.out hb); have n9_ := y0.mk (y7 (g := gx) (o := (.cells #[.int .i64 ar,.slice AX xs.length cX] 31 (0,0))) BKx.out hb); have n10_ := y0.mk (y5 HB.out hb); clear OW OX OY OG LW LX LY LG BKa BKx HB; have OW := n0_; have OX := n1_; have OY := n2_; have OG := n3_; have LW := n4_; have LX := n5_; have LY := n6_; have LG := n7_; have BKa := n8_; have BKx := n9_; have HB := n10_; clear n0_ n1_ n2_ n3_ n4_ n5_ n6_ n7_ n8_ n9_ n10_; (try clear hb); have hca0 : w12.cell? ⟨ga,0,none⟩ = some (.int .i64 a) := (y8 BKa.out 0).trans rfl; have hfa0 := y11 BKa.out 0; have hca1 : w12.cell? ⟨ga,1,none⟩ = some (.slice A0 l0.length c0) := (y8 BKa.out 1).trans rfl; have hfa1 := y11 BKa.out 1; have hcx0 : w12.cell? ⟨gx,0,none⟩ = some (.int .i64 ar) := (y8 BKx.out 0).trans rfl; have hfx0 := y11 BKx.out 0; have hcx1 : w12.cell? ⟨gx,1,none⟩ = some (.slice AX xs.length cX) := (y8 BKx.out 1).trans rfl; have hfx1 := y11 BKx.out 1))
 (try clear hca0)
 (try clear hca1)
 (try clear hcx0)
 (try clear hcx1)
 (try clear hfa0)
 (try clear hfa1)
 (try clear hfx0)
 (try clear hfx1)
 refine start_ (n := 5) (S := fun w' => w'.cell? ⟨ga,0,none⟩ = some (.int .i64 a) ∧ w'.cell? ⟨ga,1,none⟩ = some (.slice A0 l0.length c0) ∧ w'.cell? ⟨gx,0,none⟩ = some (.int .i64 ar) ∧ w'.cell? ⟨gx,1,none⟩ = some (.slice AX xs.length cX)) (ds := []) #[false,false,false,false,false] (by kernel_rfl) rfl rfl ⟨(y8 BKa.out 0).trans rfl,(y8 BKa.out 1).trans rfl,(y8 BKx.out 0).trans rfl,(y8 BKx.out 1).trans rfl⟩ (fun hHeld => ?_)
 have n0_ := y0.mk (OW.out.drew)
 have n1_ := y0.mk (OX.out.drew)
 have n2_ := y0.mk (OY.out.drew)
 have n3_ := y0.mk (OG.out.drew)
 have n4_ := y0.mk ((show hiW ≤ w12.drew.heap.size from LW.out))
 have n5_ := y0.mk ((show hiX ≤ w12.drew.heap.size from LX.out))
 have n6_ := y0.mk ((show hiY ≤ w12.drew.heap.size from LY.out))
 have n7_ := y0.mk ((show hiG ≤ w12.drew.heap.size from LG.out))
 have n8_ := y0.mk (y9 BKa.out)
 have n9_ := y0.mk (y9 BKx.out)
 have n10_ := y0.mk (y3 HB.out)
 clear OW OX OY OG LW LX LY LG BKa BKx HB
 have OW := n0_
 have OX := n1_
 have OY := n2_
 have OG := n3_
 have LW := n4_
 have LX := n5_
 have LY := n6_
 have LG := n7_
 have BKa := n8_
 have BKx := n9_
 have HB := n10_
 clear n0_ n1_ n2_ n3_ n4_ n5_ n6_ n7_ n8_ n9_ n10_
 generalize w12.drew = w13 at OW OX OY OG LW LX LY LG BKa BKx HB hHeld ⊢
 refine take_ (i := 0) (N := some 40) (v := ?_) (a' := ?_) #[true,false,false,false,false] rfl rfl (by kernel_rfl) (fun _ _ _ h => h) (Or.inl ⟨by rfl, ?_⟩) hHeld ?_ ?_
 rotate_left
 ·rintro w' ⟨s0,s1,s2,s3⟩
  go_simp
  with_reducible rfl
 rotate_left
 ·simp only [Act.put,qS_,qZ_,qC_,y18,y17]
  rfl
 refine take_ (i := 1) (N := some 41) (v := ?_) (a' := ?_) #[true,true,false,false,false] rfl rfl (by kernel_rfl) (fun _ _ _ h => h) (Or.inl ⟨by rfl, ?_⟩) hHeld ?_ ?_
 rotate_left
 ·rintro w' ⟨s0,s1,s2,s3⟩
  go_simp
  with_reducible rfl
 rotate_left
 ·simp only [Act.put,qS_,qZ_,qC_,y18,y17]
  rfl
 refine one_ (i := 2) (N := some 42) #[true,true,true,false,false] rfl rfl (by kernel_rfl) (by decide) (fun K hK => ?_)
 refine goes_ Tryz.func10 (by kernel_rfl) rfl #[.agg #[.int .i64 a,.slice A0 l0.length c0]] (by rfl) rfl rfl (by (try simp only [qM_,List.map_cons,List.map_nil]); first | done | rfl) ?_
 (with_reducible refine (laws_toRel.calls k a _ _ l0 ar xs _ (Kd.C_below HR0.out HB.out) HC0.out F1.out).mono ?_)
 rintro e w14 ⟨v_,rfl,ho,hb⟩
 refine ⟨_,rfl, ?_⟩
 obtain ⟨loZ,hiZ,hlo_,hhi_,hO_⟩ := QIv.OS.new ho
 obtain ⟨AZ,cZ,eA_⟩ := hO_.slice
 subst eA_
 (try clear hca0)
 (try clear hca1)
 (try clear hcx0)
 (try clear hcx1)
 (try clear hfa0)
 (try clear hfa1)
 (try clear hfx0)
 (try clear hfx1)
 have n0_ := y0.mk (hO_)
 have n1_ := y0.mk ((by rw [hhi_]; exact Nat.le_refl _ : hiZ ≤ _))
 have n2_ := y0.mk ((by rw [hlo_]; exact HB.out.size : w.heap.size ≤ loZ))
 have n3_ := y0.mk ((by rw [hlo_]; exact LW.out : hiW ≤ loZ))
 have n4_ := y0.mk ((by rw [hlo_]; exact LX.out : hiX ≤ loZ))
 have n5_ := y0.mk ((by rw [hlo_]; exact LY.out : hiY ≤ loZ))
 have n6_ := y0.mk ((by rw [hlo_]; exact LG.out : hiG ≤ loZ))
 have n7_ := y0.mk ((by rw [hlo_]; exact QIv.ki_lt BKa.out : ga < loZ))
 have n8_ := y0.mk ((by rw [hlo_]; exact QIv.ki_lt BKx.out : gx < loZ))
 have n9_ := y0.mk (OW.out.below hb)
 have n10_ := y0.mk (OX.out.below hb)
 have n11_ := y0.mk (OY.out.below hb)
 have n12_ := y0.mk (OG.out.below hb)
 have n13_ := y0.mk (Nat.le_trans LW.out hb.size)
 have n14_ := y0.mk (Nat.le_trans LX.out hb.size)
 have n15_ := y0.mk (Nat.le_trans LY.out hb.size)
 have n16_ := y0.mk (Nat.le_trans LG.out hb.size)
 have n17_ := y0.mk (y7 (g := ga) (o := (.cells #[.int .i64 a,.slice A0 l0.length c0] 24 (0,0))) BKa.out hb)
 have n18_ := y0.mk (y7 (g := gx) (o := (.cells #[.int .i64 ar,.slice AX xs.length cX] 31 (0,0))) BKx.out hb)
 have n19_ := y0.mk (y5 HB.out hb)
 clear OW OX OY OG LW LX LY LG BKa BKx HB
 have OZ := n0_
 have LZ := n1_
 have BZ := n2_
 have DW_Z := n3_
 have DX_Z := n4_
 have DY_Z := n5_
 have DG_Z := n6_
 have Ea_Z := n7_
 have Ex_Z := n8_
 have OW := n9_
 have OX := n10_
 have OY := n11_
 have OG := n12_
 have LW := n13_
 have LX := n14_
 have LY := n15_
 have LG := n16_
 have BKa := n17_
 have BKx := n18_
 have HB := n19_
 clear n0_ n1_ n2_ n3_ n4_ n5_ n6_ n7_ n8_ n9_ n10_ n11_ n12_ n13_ n14_ n15_ n16_ n17_ n18_ n19_
 (try clear hb)
 (try clear ho)
 (try clear hlo_)
 (try clear hhi_)
 have hca0 : w14.cell? ⟨ga,0,none⟩ = some (.int .i64 a) := (y8 BKa.out 0).trans rfl
 have hfa0 := y11 BKa.out 0
 have hca1 : w14.cell? ⟨ga,1,none⟩ = some (.slice A0 l0.length c0) := (y8 BKa.out 1).trans rfl
 have hfa1 := y11 BKa.out 1
 have hcx0 : w14.cell? ⟨gx,0,none⟩ = some (.int .i64 ar) := (y8 BKx.out 0).trans rfl
 have hfx0 := y11 BKx.out 0
 have hcx1 : w14.cell? ⟨gx,1,none⟩ = some (.slice AX xs.length cX) := (y8 BKx.out 1).trans rfl
 have hfx1 := y11 BKx.out 1
 (try clear hca0)
 (try clear hca1)
 (try clear hcx0)
 (try clear hcx1)
 (try clear hfa0)
 (try clear hfa1)
 (try clear hfx0)
 (try clear hfx1)
 refine hK.out _ _ ⟨(y8 BKa.out 0).trans rfl,(y8 BKa.out 1).trans rfl,(y8 BKx.out 0).trans rfl,(y8 BKx.out 1).trans rfl⟩ (fun hHeld => ?_)
 clear hK K
 refine norm_ (a' := ?_) ?_ ?_
 rotate_left
 ·show Act.put _ (some 42) _ = _
  simp only [Act.put,qS_,qZ_,qC_,y18,y17]
  rfl
 refine one_ (i := 3) (N := some 43) #[true,true,true,true,false] rfl rfl (by kernel_rfl) (by decide) (fun K hK => ?_)
 refine goes_ Tryz.func14 (by kernel_rfl) rfl #[.agg #[.int .i64 ar,.slice AX xs.length cX],.agg #[.int .i64 ar,.slice AZ xs.length cZ]] (by rfl) rfl rfl (by (try simp only [qM_,List.map_cons,List.map_nil]); first | done | rfl) ?_
 (with_reducible refine (laws_eqRel.calls k ar _ _ xs ar _ _ xs true _ OX.out.C OX.out.le OZ.out.C OZ.out.le F6.out).mono ?_)
 rintro e w15 ⟨rfl,hb⟩
 refine ⟨_,rfl, ?_⟩
 (try clear hca0)
 (try clear hca1)
 (try clear hcx0)
 (try clear hcx1)
 (try clear hfa0)
 (try clear hfa1)
 (try clear hfx0)
 (try clear hfx1)
 have n0_ := y0.mk (OW.out.below hb)
 have n1_ := y0.mk (OX.out.below hb)
 have n2_ := y0.mk (OY.out.below hb)
 have n3_ := y0.mk (OG.out.below hb)
 have n4_ := y0.mk (OZ.out.below hb)
 have n5_ := y0.mk (Nat.le_trans LW.out hb.size)
 have n6_ := y0.mk (Nat.le_trans LX.out hb.size)
 have n7_ := y0.mk (Nat.le_trans LY.out hb.size)
 have n8_ := y0.mk (Nat.le_trans LG.out hb.size)
 have n9_ := y0.mk (Nat.le_trans LZ.out hb.size)
 have n10_ := y0.mk (y7 (g := ga) (o := (.cells #[.int .i64 a,.slice A0 l0.length c0] 24 (0,0))) BKa.out hb)
 have n11_ := y0.mk (y7 (g := gx) (o := (.cells #[.int .i64 ar,.slice AX xs.length cX] 31 (0,0))) BKx.out hb)
 have n12_ := y0.mk (y5 HB.out hb)
 clear OW OX OY OG OZ LW LX LY LG LZ BKa BKx HB
 have OW := n0_
 have OX := n1_
 have OY := n2_
 have OG := n3_
 have OZ := n4_
 have LW := n5_
 have LX := n6_
 have LY := n7_
 have LG := n8_
 have LZ := n9_
 have BKa := n10_
 have BKx := n11_
 have HB := n12_
 clear n0_ n1_ n2_ n3_ n4_ n5_ n6_ n7_ n8_ n9_ n10_ n11_ n12_
 (try clear hb)
 have hca0 : w15.cell? ⟨ga,0,none⟩ = some (.int .i64 a) := (y8 BKa.out 0).trans rfl
 have hfa0 := y11 BKa.out 0
 have hca1 : w15.cell? ⟨ga,1,none⟩ = some (.slice A0 l0.length c0) := (y8 BKa.out 1).trans rfl
 have hfa1 := y11 BKa.out 1
 have hcx0 : w15.cell? ⟨gx,0,none⟩ = some (.int .i64 ar) := (y8 BKx.out 0).trans rfl
 have hfx0 := y11 BKx.out 0
 have hcx1 : w15.cell? ⟨gx,1,none⟩ = some (.slice AX xs.length cX) := (y8 BKx.out 1).trans rfl
 have hfx1 := y11 BKx.out 1
 (try clear hca0)
 (try clear hca1)
 (try clear hcx0)
 (try clear hcx1)
 (try clear hfa0)
 (try clear hfa1)
 (try clear hfx0)
 (try clear hfx1)
 refine hK.out _ _ ⟨(y8 BKa.out 0).trans rfl,(y8 BKa.out 1).trans rfl,(y8 BKx.out 0).trans rfl,(y8 BKx.out 1).trans rfl⟩ (fun hHeld => ?_)
 clear hK K
 refine norm_ (a' := ?_) ?_ ?_
 rotate_left
 ·show Act.put _ (some 43) _ = _
  simp only [Act.put,qS_,qZ_,qC_,y18,y17]
  rfl
 refine pure_ (i := 4) (N := some 44) (v := ?_) (a' := ?_) #[true,true,true,true,true] rfl rfl (by kernel_rfl) (fun _ _ _ h => h) (Or.inl ⟨by rfl, ?_⟩) ?_ ?_
 rotate_left
 ·intro w'
  go_simp
  with_reducible rfl
 rotate_left
 ·simp only [Act.put,qS_,qZ_,qC_,y18,y17]
  rfl
 refine done_ (by kernel_rfl) ?_
 clear OZ LZ
 clear hHeld
 have hca0 : w15.cell? ⟨ga,0,none⟩ = some (.int .i64 a) := (y8 BKa.out 0).trans rfl
 have hfa0 := y11 BKa.out 0
 have hca1 : w15.cell? ⟨ga,1,none⟩ = some (.slice A0 l0.length c0) := (y8 BKa.out 1).trans rfl
 have hfa1 := y11 BKa.out 1
 have hcx0 : w15.cell? ⟨gx,0,none⟩ = some (.int .i64 ar) := (y8 BKx.out 0).trans rfl
 have hfx0 := y11 BKx.out 0
 have hcx1 : w15.cell? ⟨gx,1,none⟩ = some (.slice AX xs.length cX) := (y8 BKx.out 1).trans rfl
 have hfx1 := y11 BKx.out 1
 go_upto_region 18 with (first
  | (go_at_call 11; (with_reducible refine (laws_toStringS.calls k _ _ l1 hs _ (Kd.C_below HR1.out HB.out) HC1.out F2.out).mono ?_); rintro e w16 ⟨v_,rfl,ho,hb⟩; obtain ⟨loZ2,hiZ2,hlo_,hhi_,hO_⟩ := QIv.OR.new ho; obtain ⟨AZ2,cZ2,eA_⟩ := hO_.slice; subst eA_; (try clear hca0); (try clear hca1); (try clear hcx0); (try clear hcx1); (try clear hfa0); (try clear hfa1); (try clear hfx0); (try clear hfx1); have n0_ := y0.mk (hO_); have n1_ := y0.mk ((by rw [hhi_]; exact Nat.le_refl _ : hiZ2 ≤ _)); have n2_ := y0.mk ((by rw [hlo_]; exact HB.out.size : w.heap.size ≤ loZ2)); have n3_ := y0.mk ((by rw [hlo_]; exact LW.out : hiW ≤ loZ2)); have n4_ := y0.mk ((by rw [hlo_]; exact LX.out : hiX ≤ loZ2)); have n5_ := y0.mk ((by rw [hlo_]; exact LY.out : hiY ≤ loZ2)); have n6_ := y0.mk ((by rw [hlo_]; exact LG.out : hiG ≤ loZ2)); have n7_ := y0.mk ((by rw [hlo_]; exact QIv.ki_lt BKa.out : ga < loZ2)); have n8_ := y0.mk ((by rw [hlo_]; exact QIv.ki_lt BKx.out : gx < loZ2)); have n9_ := y0.mk (OW.out.below hb); have n10_ := y0.mk (OX.out.below hb); have n11_ := y0.mk (OY.out.below hb); have n12_ := y0.mk (OG.out.below hb); have n13_ := y0.mk (Nat.le_trans LW.out hb.size); have n14_ := y0.mk (Nat.le_trans LX.out hb.size); have n15_ := y0.mk (Nat.le_trans LY.out hb.size); have n16_ := y0.mk (Nat.le_trans LG.out hb.size); have n17_ := y0.mk (y7 (g := ga) (o := (.cells #[.int .i64 a,.slice A0 l0.length c0] 24 (0,0))) BKa.out hb); have n18_ := y0.mk (y7 (g := gx) (o := (.cells #[.int .i64 ar,.slice AX xs.length cX] 31 (0,0))) BKx.out hb); have n19_ := y0.mk (y5 HB.out hb); clear OW OX OY OG LW LX LY LG BKa BKx HB; have OZ2 := n0_; have LZ2 := n1_; have BZ2 := n2_; have DW_Z2 := n3_; have DX_Z2 := n4_; have DY_Z2 := n5_; have DG_Z2 := n6_; have Ea_Z2 := n7_; have Ex_Z2 := n8_; have OW := n9_; have OX := n10_; have OY := n11_; have OG := n12_; have LW := n13_; have LX := n14_; have LY := n15_; have LG := n16_; have BKa := n17_; have BKx := n18_; have HB := n19_; clear n0_ n1_ n2_ n3_ n4_ n5_ n6_ n7_ n8_ n9_ n10_ n11_ n12_ n13_ n14_ n15_ n16_ n17_ n18_ n19_; (try clear hb); (try clear ho); (try clear hlo_); (try clear hhi_); have hca0 : w16.cell? ⟨ga,0,none⟩ = some (.int .i64 a) := (y8 BKa.out 0).trans rfl; have hfa0 := y11 BKa.out 0; have hca1 : w16.cell? ⟨ga,1,none⟩ = some (.slice A0 l0.length c0) := (y8 BKa.out 1).trans rfl; have hfa1 := y11 BKa.out 1; have hcx0 : w16.cell? ⟨gx,0,none⟩ = some (.int .i64 ar) := (y8 BKx.out 0).trans rfl; have hfx0 := y11 BKx.out 0; have hcx1 : w16.cell? ⟨gx,1,none⟩ = some (.slice AX xs.length cX) := (y8 BKx.out 1).trans rfl; have hfx1 := y11 BKx.out 1)
  | (go_at_call 15; (with_reducible refine (laws_eqStringS.calls k _ _ hs _ _ hs true _ OY.out.C OY.out.le OZ2.out.C OZ2.out.le F7.out).mono ?_); rintro e w17 ⟨rfl,hd_⟩; have hb := hd_.below; (try clear hca0); (try clear hca1); (try clear hcx0); (try clear hcx1); (try clear hfa0); (try clear hfa1); (try clear hfx0); (try clear hfx1); have n0_ := y0.mk (OW.out.below hb); have n1_ := y0.mk (OX.out.below hb); have n2_ := y0.mk (OY.out.below hb); have n3_ := y0.mk (OG.out.below hb); have n4_ := y0.mk (OZ2.out.below hb); have n5_ := y0.mk (Nat.le_trans LW.out hb.size); have n6_ := y0.mk (Nat.le_trans LX.out hb.size); have n7_ := y0.mk (Nat.le_trans LY.out hb.size); have n8_ := y0.mk (Nat.le_trans LG.out hb.size); have n9_ := y0.mk (Nat.le_trans LZ2.out hb.size); have n10_ := y0.mk (y7 (g := ga) (o := (.cells #[.int .i64 a,.slice A0 l0.length c0] 24 (0,0))) BKa.out hb); have n11_ := y0.mk (y7 (g := gx) (o := (.cells #[.int .i64 ar,.slice AX xs.length cX] 31 (0,0))) BKx.out hb); have n12_ := y0.mk (y5 HB.out hb); clear OW OX OY OG OZ2 LW LX LY LG LZ2 BKa BKx HB; have OW := n0_; have OX := n1_; have OY := n2_; have OG := n3_; have OZ2 := n4_; have LW := n5_; have LX := n6_; have LY := n7_; have LG := n8_; have LZ2 := n9_; have BKa := n10_; have BKx := n11_; have HB := n12_; clear n0_ n1_ n2_ n3_ n4_ n5_ n6_ n7_ n8_ n9_ n10_ n11_ n12_; (try clear hb); (try clear hd_); have hca0 : w17.cell? ⟨ga,0,none⟩ = some (.int .i64 a) := (y8 BKa.out 0).trans rfl; have hfa0 := y11 BKa.out 0; have hca1 : w17.cell? ⟨ga,1,none⟩ = some (.slice A0 l0.length c0) := (y8 BKa.out 1).trans rfl; have hfa1 := y11 BKa.out 1; have hcx0 : w17.cell? ⟨gx,0,none⟩ = some (.int .i64 ar) := (y8 BKx.out 0).trans rfl; have hfx0 := y11 BKx.out 0; have hcx1 : w17.cell? ⟨gx,1,none⟩ = some (.slice AX xs.length cX) := (y8 BKx.out 1).trans rfl; have hfx1 := y11 BKx.out 1))
 clear OZ2 LZ2
 go_upto_region 20 with (first
  | (go_at_call 16; (with_reducible refine (laws_markRel.calls k loX hiX ar _ _ xs 1 m1 xm w _ HB.out BX.out OX.out F8.out).mono ?_); rintro e w18 ⟨rfl,ho,hb,hk⟩; (try clear hca0); (try clear hca1); (try clear hcx0); (try clear hcx1); (try clear hfa0); (try clear hfa1); (try clear hfx0); (try clear hfx1); have n0_ := y0.mk (OW.out.ki hk (.inl DW_X.out)); have n1_ := y0.mk (OY.out.ki hk (.inr DX_Y.out)); have n2_ := y0.mk (OG.out.ki hk (.inr DX_G.out)); have n3_ := y0.mk (Nat.le_trans LW.out hk.1); have n4_ := y0.mk (Nat.le_trans LX.out hk.1); have n5_ := y0.mk (Nat.le_trans LY.out hk.1); have n6_ := y0.mk (Nat.le_trans LG.out hk.1); have n7_ := y0.mk (QIv.ki_blk BKa.out hk (.inl Ea_X.out)); have n8_ := y0.mk (QIv.ki_blk BKx.out hk (.inr EX_x.out)); have n9_ := y0.mk (hb); clear OW OY OG LW LX LY LG BKa BKx HB; have OW := n0_; have OY := n1_; have OG := n2_; have LW := n3_; have LX := n4_; have LY := n5_; have LG := n6_; have BKa := n7_; have BKx := n8_; have HB := n9_; clear n0_ n1_ n2_ n3_ n4_ n5_ n6_ n7_ n8_ n9_; (try clear hb); (try clear ho); (try clear hk); clear OX LX; have hca0 : w18.cell? ⟨ga,0,none⟩ = some (.int .i64 a) := (y8 BKa.out 0).trans rfl; have hfa0 := y11 BKa.out 0; have hca1 : w18.cell? ⟨ga,1,none⟩ = some (.slice A0 l0.length c0) := (y8 BKa.out 1).trans rfl; have hfa1 := y11 BKa.out 1; have hcx0 : w18.cell? ⟨gx,0,none⟩ = some (.int .i64 ar) := (y8 BKx.out 0).trans rfl; have hfx0 := y11 BKx.out 0; have hcx1 : w18.cell? ⟨gx,1,none⟩ = some (.slice AX xs.length cX) := (y8 BKx.out 1).trans rfl; have hfx1 := y11 BKx.out 1))
 go_upto_region 21 with (first
  | (go_at_call 17; (with_reducible refine (laws_markStringS.iv k loY hiY _ _ hs m1 m2 hm w _ HB.out BY.out OY.out F9.out).mono ?_); rintro e w19 ⟨rfl,ho,hb,hk⟩; (try clear hca0); (try clear hca1); (try clear hcx0); (try clear hcx1); (try clear hfa0); (try clear hfa1); (try clear hfx0); (try clear hfx1); have n0_ := y0.mk (OW.out.ki hk (.inl DW_Y.out)); have n1_ := y0.mk (OG.out.ki hk (.inr DY_G.out)); have n2_ := y0.mk (Nat.le_trans LW.out hk.1); have n3_ := y0.mk (Nat.le_trans LY.out hk.1); have n4_ := y0.mk (Nat.le_trans LG.out hk.1); have n5_ := y0.mk (QIv.ki_blk BKa.out hk (.inl Ea_Y.out)); have n6_ := y0.mk (QIv.ki_blk BKx.out hk (.inl Ex_Y.out)); have n7_ := y0.mk (hb); clear OW OG LW LY LG BKa BKx HB; have OW := n0_; have OG := n1_; have LW := n2_; have LY := n3_; have LG := n4_; have BKa := n5_; have BKx := n6_; have HB := n7_; clear n0_ n1_ n2_ n3_ n4_ n5_ n6_ n7_; (try clear hb); (try clear ho); (try clear hk); clear OY LY; have hca0 : w19.cell? ⟨ga,0,none⟩ = some (.int .i64 a) := (y8 BKa.out 0).trans rfl; have hfa0 := y11 BKa.out 0; have hca1 : w19.cell? ⟨ga,1,none⟩ = some (.slice A0 l0.length c0) := (y8 BKa.out 1).trans rfl; have hfa1 := y11 BKa.out 1; have hcx0 : w19.cell? ⟨gx,0,none⟩ = some (.int .i64 ar) := (y8 BKx.out 0).trans rfl; have hfx0 := y11 BKx.out 0; have hcx1 : w19.cell? ⟨gx,1,none⟩ = some (.slice AX xs.length cX) := (y8 BKx.out 1).trans rfl; have hfx1 := y11 BKx.out 1))
 go_upto_region 23 with (first
  | (go_at_call 13; (with_reducible refine (laws_eqTupleS.calls k _ _ gs _ _ gs true _ OG.out.C OG.out.le OW.out.C OW.out.le F5.out).mono ?_); rintro e w20 ⟨rfl,hb⟩; (try clear hca0); (try clear hca1); (try clear hcx0); (try clear hcx1); (try clear hfa0); (try clear hfa1); (try clear hfx0); (try clear hfx1); have n0_ := y0.mk (OW.out.below hb); have n1_ := y0.mk (OG.out.below hb); have n2_ := y0.mk (Nat.le_trans LW.out hb.size); have n3_ := y0.mk (Nat.le_trans LG.out hb.size); have n4_ := y0.mk (y7 (g := ga) (o := (.cells #[.int .i64 a,.slice A0 l0.length c0] 24 (0,0))) BKa.out hb); have n5_ := y0.mk (y7 (g := gx) (o := (.cells #[.int .i64 ar,.slice AX xs.length cX] 31 (0,0))) BKx.out hb); have n6_ := y0.mk (y5 HB.out hb); clear OW OG LW LG BKa BKx HB; have OW := n0_; have OG := n1_; have LW := n2_; have LG := n3_; have BKa := n4_; have BKx := n5_; have HB := n6_; clear n0_ n1_ n2_ n3_ n4_ n5_ n6_; (try clear hb); have hca0 : w20.cell? ⟨ga,0,none⟩ = some (.int .i64 a) := (y8 BKa.out 0).trans rfl; have hfa0 := y11 BKa.out 0; have hca1 : w20.cell? ⟨ga,1,none⟩ = some (.slice A0 l0.length c0) := (y8 BKa.out 1).trans rfl; have hfa1 := y11 BKa.out 1; have hcx0 : w20.cell? ⟨gx,0,none⟩ = some (.int .i64 ar) := (y8 BKx.out 0).trans rfl; have hfx0 := y11 BKx.out 0; have hcx1 : w20.cell? ⟨gx,1,none⟩ = some (.slice AX xs.length cX) := (y8 BKx.out 1).trans rfl; have hfx1 := y11 BKx.out 1))
 go_upto_region 25 with (first
  | (go_at_call 18; (with_reducible refine (laws_markTupleS.calls k loG hiG _ _ gs 1 m3 gm w _ HB.out BG.out OG.out F11.out).mono ?_); rintro e w21 ⟨rfl,ho,hb,hk⟩; (try clear hca0); (try clear hca1); (try clear hcx0); (try clear hcx1); (try clear hfa0); (try clear hfa1); (try clear hfx0); (try clear hfx1); have n0_ := y0.mk (OW.out.ki hk (.inl DW_G.out)); have n1_ := y0.mk (Nat.le_trans LW.out hk.1); have n2_ := y0.mk (Nat.le_trans LG.out hk.1); have n3_ := y0.mk (QIv.ki_blk BKa.out hk (.inl Ea_G.out)); have n4_ := y0.mk (QIv.ki_blk BKx.out hk (.inl Ex_G.out)); have n5_ := y0.mk (hb); have n6_ := y0.mk (ho); clear OW LW LG BKa BKx HB OG; have OW := n0_; have LW := n1_; have LG := n2_; have BKa := n3_; have BKx := n4_; have HB := n5_; have OG := n6_; clear n0_ n1_ n2_ n3_ n4_ n5_ n6_; (try clear hb); (try clear ho); (try clear hk); have hca0 : w21.cell? ⟨ga,0,none⟩ = some (.int .i64 a) := (y8 BKa.out 0).trans rfl; have hfa0 := y11 BKa.out 0; have hca1 : w21.cell? ⟨ga,1,none⟩ = some (.slice A0 l0.length c0) := (y8 BKa.out 1).trans rfl; have hfa1 := y11 BKa.out 1; have hcx0 : w21.cell? ⟨gx,0,none⟩ = some (.int .i64 ar) := (y8 BKx.out 0).trans rfl; have hfx0 := y11 BKx.out 0; have hcx1 : w21.cell? ⟨gx,1,none⟩ = some (.slice AX xs.length cX) := (y8 BKx.out 1).trans rfl; have hfx1 := y11 BKx.out 1))
 go_upto_region 31 with (first
  | (go_at_call 19; (with_reducible refine (HELD.out _ _ _ OG.out.C (by have h_ := QIv.OS.len OG.out; have := HGL.out; omega)).mono ?_); rintro e w22 ⟨rfl,hb⟩; (try clear hca0); (try clear hca1); (try clear hcx0); (try clear hcx1); (try clear hfa0); (try clear hfa1); (try clear hfx0); (try clear hfx1); have n0_ := y0.mk (OW.out.below hb); have n1_ := y0.mk (OG.out.below hb); have n2_ := y0.mk (Nat.le_trans LW.out hb.size); have n3_ := y0.mk (Nat.le_trans LG.out hb.size); have n4_ := y0.mk (y7 (g := ga) (o := (.cells #[.int .i64 a,.slice A0 l0.length c0] 24 (0,0))) BKa.out hb); have n5_ := y0.mk (y7 (g := gx) (o := (.cells #[.int .i64 ar,.slice AX xs.length cX] 31 (0,0))) BKx.out hb); have n6_ := y0.mk (y5 HB.out hb); clear OW OG LW LG BKa BKx HB; have OW := n0_; have OG := n1_; have LW := n2_; have LG := n3_; have BKa := n4_; have BKx := n5_; have HB := n6_; clear n0_ n1_ n2_ n3_ n4_ n5_ n6_; (try clear hb); have hca0 : w22.cell? ⟨ga,0,none⟩ = some (.int .i64 a) := (y8 BKa.out 0).trans rfl; have hfa0 := y11 BKa.out 0; have hca1 : w22.cell? ⟨ga,1,none⟩ = some (.slice A0 l0.length c0) := (y8 BKa.out 1).trans rfl; have hfa1 := y11 BKa.out 1; have hcx0 : w22.cell? ⟨gx,0,none⟩ = some (.int .i64 ar) := (y8 BKx.out 0).trans rfl; have hfx0 := y11 BKx.out 0; have hcx1 : w22.cell? ⟨gx,1,none⟩ = some (.slice AX xs.length cX) := (y8 BKx.out 1).trans rfl; have hfx1 := y11 BKx.out 1))
 go_upto_region 32 with (first
  | (go_at_call 10; (with_reducible refine (laws_toRel.calls k a _ _ l0 ar xs _ (Kd.C_below HR0.out HB.out) HC0.out F1.out).mono ?_); rintro e w23 ⟨v_,rfl,ho,hb⟩; obtain ⟨loP,hiP,hlo_,hhi_,hO_⟩ := QIv.OS.new ho; obtain ⟨AP,cP,eA_⟩ := hO_.slice; subst eA_; (try clear hca0); (try clear hca1); (try clear hcx0); (try clear hcx1); (try clear hfa0); (try clear hfa1); (try clear hfx0); (try clear hfx1); have n0_ := y0.mk (hO_); have n1_ := y0.mk ((by rw [hhi_]; exact Nat.le_refl _ : hiP ≤ _)); have n2_ := y0.mk ((by rw [hlo_]; exact HB.out.size : w.heap.size ≤ loP)); have n3_ := y0.mk ((by rw [hlo_]; exact LW.out : hiW ≤ loP)); have n4_ := y0.mk ((by rw [hlo_]; exact LG.out : hiG ≤ loP)); have n5_ := y0.mk ((by rw [hlo_]; exact QIv.ki_lt BKa.out : ga < loP)); have n6_ := y0.mk ((by rw [hlo_]; exact QIv.ki_lt BKx.out : gx < loP)); have n7_ := y0.mk (OW.out.below hb); have n8_ := y0.mk (OG.out.below hb); have n9_ := y0.mk (Nat.le_trans LW.out hb.size); have n10_ := y0.mk (Nat.le_trans LG.out hb.size); have n11_ := y0.mk (y7 (g := ga) (o := (.cells #[.int .i64 a,.slice A0 l0.length c0] 24 (0,0))) BKa.out hb); have n12_ := y0.mk (y7 (g := gx) (o := (.cells #[.int .i64 ar,.slice AX xs.length cX] 31 (0,0))) BKx.out hb); have n13_ := y0.mk (y5 HB.out hb); clear OW OG LW LG BKa BKx HB; have OP := n0_; have LP := n1_; have BP := n2_; have DW_P := n3_; have DG_P := n4_; have Ea_P := n5_; have Ex_P := n6_; have OW := n7_; have OG := n8_; have LW := n9_; have LG := n10_; have BKa := n11_; have BKx := n12_; have HB := n13_; clear n0_ n1_ n2_ n3_ n4_ n5_ n6_ n7_ n8_ n9_ n10_ n11_ n12_ n13_; (try clear hb); (try clear ho); (try clear hlo_); (try clear hhi_); have hca0 : w23.cell? ⟨ga,0,none⟩ = some (.int .i64 a) := (y8 BKa.out 0).trans rfl; have hfa0 := y11 BKa.out 0; have hca1 : w23.cell? ⟨ga,1,none⟩ = some (.slice A0 l0.length c0) := (y8 BKa.out 1).trans rfl; have hfa1 := y11 BKa.out 1; have hcx0 : w23.cell? ⟨gx,0,none⟩ = some (.int .i64 ar) := (y8 BKx.out 0).trans rfl; have hfx0 := y11 BKx.out 0; have hcx1 : w23.cell? ⟨gx,1,none⟩ = some (.slice AX xs.length cX) := (y8 BKx.out 1).trans rfl; have hfx1 := y11 BKx.out 1)
  | (go_at_call 11; (with_reducible refine (laws_toStringS.calls k _ _ l1 hs _ (Kd.C_below HR1.out HB.out) HC1.out F2.out).mono ?_); rintro e w24 ⟨v_,rfl,ho,hb⟩; obtain ⟨loQ,hiQ,hlo_,hhi_,hO_⟩ := QIv.OR.new ho; obtain ⟨AQ,cQ,eA_⟩ := hO_.slice; subst eA_; (try clear hca0); (try clear hca1); (try clear hcx0); (try clear hcx1); (try clear hfa0); (try clear hfa1); (try clear hfx0); (try clear hfx1); have n0_ := y0.mk (hO_); have n1_ := y0.mk ((by rw [hhi_]; exact Nat.le_refl _ : hiQ ≤ _)); have n2_ := y0.mk ((by rw [hlo_]; exact HB.out.size : w.heap.size ≤ loQ)); have n3_ := y0.mk ((by rw [hlo_]; exact LW.out : hiW ≤ loQ)); have n4_ := y0.mk ((by rw [hlo_]; exact LG.out : hiG ≤ loQ)); have n5_ := y0.mk ((by rw [hlo_]; exact LP.out : hiP ≤ loQ)); have n6_ := y0.mk ((by rw [hlo_]; exact QIv.ki_lt BKa.out : ga < loQ)); have n7_ := y0.mk ((by rw [hlo_]; exact QIv.ki_lt BKx.out : gx < loQ)); have n8_ := y0.mk (OW.out.below hb); have n9_ := y0.mk (OG.out.below hb); have n10_ := y0.mk (OP.out.below hb); have n11_ := y0.mk (Nat.le_trans LW.out hb.size); have n12_ := y0.mk (Nat.le_trans LG.out hb.size); have n13_ := y0.mk (Nat.le_trans LP.out hb.size); have n14_ := y0.mk (y7 (g := ga) (o := (.cells #[.int .i64 a,.slice A0 l0.length c0] 24 (0,0))) BKa.out hb); have n15_ := y0.mk (y7 (g := gx) (o := (.cells #[.int .i64 ar,.slice AX xs.length cX] 31 (0,0))) BKx.out hb); have n16_ := y0.mk (y5 HB.out hb); clear OW OG OP LW LG LP BKa BKx HB; have OQ := n0_; have LQ := n1_; have BQ := n2_; have DW_Q := n3_; have DG_Q := n4_; have DP_Q := n5_; have Ea_Q := n6_; have Ex_Q := n7_; have OW := n8_; have OG := n9_; have OP := n10_; have LW := n11_; have LG := n12_; have LP := n13_; have BKa := n14_; have BKx := n15_; have HB := n16_; clear n0_ n1_ n2_ n3_ n4_ n5_ n6_ n7_ n8_ n9_ n10_ n11_ n12_ n13_ n14_ n15_ n16_; (try clear hb); (try clear ho); (try clear hlo_); (try clear hhi_); have hca0 : w24.cell? ⟨ga,0,none⟩ = some (.int .i64 a) := (y8 BKa.out 0).trans rfl; have hfa0 := y11 BKa.out 0; have hca1 : w24.cell? ⟨ga,1,none⟩ = some (.slice A0 l0.length c0) := (y8 BKa.out 1).trans rfl; have hfa1 := y11 BKa.out 1; have hcx0 : w24.cell? ⟨gx,0,none⟩ = some (.int .i64 ar) := (y8 BKx.out 0).trans rfl; have hfx0 := y11 BKx.out 0; have hcx1 : w24.cell? ⟨gx,1,none⟩ = some (.slice AX xs.length cX) := (y8 BKx.out 1).trans rfl; have hfx1 := y11 BKx.out 1)
  | (go_at_call 12; (with_reducible refine (impl_RelSeek.calls k ar _ _ xs _ _ hs gs _ OP.out.C OP.out.le OQ.out.C OQ.out.le (Tb.below HT.out HB.out) F4.out).mono ?_); rintro e w25 ⟨v_,rfl,ho,hb⟩; obtain ⟨loH,hiH,hlo_,hhi_,hO_⟩ := QIv.OS.new ho; obtain ⟨AH,cH,eA_⟩ := hO_.slice; subst eA_; (try clear hca0); (try clear hca1); (try clear hcx0); (try clear hcx1); (try clear hfa0); (try clear hfa1); (try clear hfx0); (try clear hfx1); have n0_ := y0.mk (hO_); have n1_ := y0.mk ((by rw [hhi_]; exact Nat.le_refl _ : hiH ≤ _)); have n2_ := y0.mk ((by rw [hlo_]; exact HB.out.size : w.heap.size ≤ loH)); have n3_ := y0.mk ((by rw [hlo_]; exact LW.out : hiW ≤ loH)); have n4_ := y0.mk ((by rw [hlo_]; exact LG.out : hiG ≤ loH)); have n5_ := y0.mk ((by rw [hlo_]; exact LP.out : hiP ≤ loH)); have n6_ := y0.mk ((by rw [hlo_]; exact LQ.out : hiQ ≤ loH)); have n7_ := y0.mk ((by rw [hlo_]; exact QIv.ki_lt BKa.out : ga < loH)); have n8_ := y0.mk ((by rw [hlo_]; exact QIv.ki_lt BKx.out : gx < loH)); have n9_ := y0.mk (OW.out.below hb); have n10_ := y0.mk (OG.out.below hb); have n11_ := y0.mk (OP.out.below hb); have n12_ := y0.mk (OQ.out.below hb); have n13_ := y0.mk (Nat.le_trans LW.out hb.size); have n14_ := y0.mk (Nat.le_trans LG.out hb.size); have n15_ := y0.mk (Nat.le_trans LP.out hb.size); have n16_ := y0.mk (Nat.le_trans LQ.out hb.size); have n17_ := y0.mk (y7 (g := ga) (o := (.cells #[.int .i64 a,.slice A0 l0.length c0] 24 (0,0))) BKa.out hb); have n18_ := y0.mk (y7 (g := gx) (o := (.cells #[.int .i64 ar,.slice AX xs.length cX] 31 (0,0))) BKx.out hb); have n19_ := y0.mk (y5 HB.out hb); clear OW OG OP OQ LW LG LP LQ BKa BKx HB; have OH := n0_; have LH := n1_; have BH := n2_; have DW_H := n3_; have DG_H := n4_; have DP_H := n5_; have DQ_H := n6_; have Ea_H := n7_; have Ex_H := n8_; have OW := n9_; have OG := n10_; have OP := n11_; have OQ := n12_; have LW := n13_; have LG := n14_; have LP := n15_; have LQ := n16_; have BKa := n17_; have BKx := n18_; have HB := n19_; clear n0_ n1_ n2_ n3_ n4_ n5_ n6_ n7_ n8_ n9_ n10_ n11_ n12_ n13_ n14_ n15_ n16_ n17_ n18_ n19_; (try clear hb); (try clear ho); (try clear hlo_); (try clear hhi_); have hca0 : w25.cell? ⟨ga,0,none⟩ = some (.int .i64 a) := (y8 BKa.out 0).trans rfl; have hfa0 := y11 BKa.out 0; have hca1 : w25.cell? ⟨ga,1,none⟩ = some (.slice A0 l0.length c0) := (y8 BKa.out 1).trans rfl; have hfa1 := y11 BKa.out 1; have hcx0 : w25.cell? ⟨gx,0,none⟩ = some (.int .i64 ar) := (y8 BKx.out 0).trans rfl; have hfx0 := y11 BKx.out 0; have hcx1 : w25.cell? ⟨gx,1,none⟩ = some (.slice AX xs.length cX) := (y8 BKx.out 1).trans rfl; have hfx1 := y11 BKx.out 1))
 clear OP LP
 clear OQ LQ
 go_upto_region 34 with (first
  | (go_at_call 13; (with_reducible refine (laws_eqTupleS.calls k _ _ gs _ _ gs true _ OH.out.C OH.out.le OW.out.C OW.out.le F5.out).mono ?_); rintro e w26 ⟨rfl,hb⟩; (try clear hca0); (try clear hca1); (try clear hcx0); (try clear hcx1); (try clear hfa0); (try clear hfa1); (try clear hfx0); (try clear hfx1); have n0_ := y0.mk (OW.out.below hb); have n1_ := y0.mk (OG.out.below hb); have n2_ := y0.mk (OH.out.below hb); have n3_ := y0.mk (Nat.le_trans LW.out hb.size); have n4_ := y0.mk (Nat.le_trans LG.out hb.size); have n5_ := y0.mk (Nat.le_trans LH.out hb.size); have n6_ := y0.mk (y7 (g := ga) (o := (.cells #[.int .i64 a,.slice A0 l0.length c0] 24 (0,0))) BKa.out hb); have n7_ := y0.mk (y7 (g := gx) (o := (.cells #[.int .i64 ar,.slice AX xs.length cX] 31 (0,0))) BKx.out hb); have n8_ := y0.mk (y5 HB.out hb); clear OW OG OH LW LG LH BKa BKx HB; have OW := n0_; have OG := n1_; have OH := n2_; have LW := n3_; have LG := n4_; have LH := n5_; have BKa := n6_; have BKx := n7_; have HB := n8_; clear n0_ n1_ n2_ n3_ n4_ n5_ n6_ n7_ n8_; (try clear hb); have hca0 : w26.cell? ⟨ga,0,none⟩ = some (.int .i64 a) := (y8 BKa.out 0).trans rfl; have hfa0 := y11 BKa.out 0; have hca1 : w26.cell? ⟨ga,1,none⟩ = some (.slice A0 l0.length c0) := (y8 BKa.out 1).trans rfl; have hfa1 := y11 BKa.out 1; have hcx0 : w26.cell? ⟨gx,0,none⟩ = some (.int .i64 ar) := (y8 BKx.out 0).trans rfl; have hfx0 := y11 BKx.out 0; have hcx1 : w26.cell? ⟨gx,1,none⟩ = some (.slice AX xs.length cX) := (y8 BKx.out 1).trans rfl; have hfx1 := y11 BKx.out 1))
 go_wp2_with (first
  | (go_at_call 19; (with_reducible refine (HELD.out _ _ _ OG.out.C (by have h_ := QIv.OS.len OG.out; have := HGL.out; omega)).mono ?_); rintro e w27 ⟨rfl,hb⟩; (try clear hca0); (try clear hca1); (try clear hcx0); (try clear hcx1); (try clear hfa0); (try clear hfa1); (try clear hfx0); (try clear hfx1); have n0_ := y0.mk (OW.out.below hb); have n1_ := y0.mk (OG.out.below hb); have n2_ := y0.mk (OH.out.below hb); have n3_ := y0.mk (Nat.le_trans LW.out hb.size); have n4_ := y0.mk (Nat.le_trans LG.out hb.size); have n5_ := y0.mk (Nat.le_trans LH.out hb.size); have n6_ := y0.mk (y7 (g := ga) (o := (.cells #[.int .i64 a,.slice A0 l0.length c0] 24 (0,0))) BKa.out hb); have n7_ := y0.mk (y7 (g := gx) (o := (.cells #[.int .i64 ar,.slice AX xs.length cX] 31 (0,0))) BKx.out hb); have n8_ := y0.mk (y5 HB.out hb); clear OW OG OH LW LG LH BKa BKx HB; have OW := n0_; have OG := n1_; have OH := n2_; have LW := n3_; have LG := n4_; have LH := n5_; have BKa := n6_; have BKx := n7_; have HB := n8_; clear n0_ n1_ n2_ n3_ n4_ n5_ n6_ n7_ n8_; (try clear hb); have hca0 : w27.cell? ⟨ga,0,none⟩ = some (.int .i64 a) := (y8 BKa.out 0).trans rfl; have hfa0 := y11 BKa.out 0; have hca1 : w27.cell? ⟨ga,1,none⟩ = some (.slice A0 l0.length c0) := (y8 BKa.out 1).trans rfl; have hfa1 := y11 BKa.out 1; have hcx0 : w27.cell? ⟨gx,0,none⟩ = some (.int .i64 ar) := (y8 BKx.out 0).trans rfl; have hfx0 := y11 BKx.out 0; have hcx1 : w27.cell? ⟨gx,1,none⟩ = some (.slice AX xs.length cX) := (y8 BKx.out 1).trans rfl; have hfx1 := y11 BKx.out 1))
 go_ret
 exact ⟨by first | rfl | (simp [y12,y13] <;> rfl),HB.out⟩
/-- THE ONE PURE STATEMENT of laws_FnExactRelSeek. -/
def laws_FnExactRelSeek.Pure : Prop := ∀ (x0 : S24) (l1 : List ByteArray),okT24 x0 → (fun l => l.length ≤ maxLen ∧ l.length * 16 ≤ 140737488351232 ∧ ∀ x ∈ l,(fun a => a.size ≤ 140737488351232) x) l1 → ∃ k,laws_FnExactRelSeek.Run k x0.f0 x0.f1 l1
theorem laws_FnExactRelSeek.walk (P : laws_FnExactRelSeek.Pure) (x0 : S24) (l1 : List ByteArray) (A0_1 : Option Addr) (c0_1 : Nat) (A1 : Option Addr) (c1 : Nat) (w : World) (hr0_1 : Kd.C k49 w A0_1 x0.f1.length x0.f1) (hc0_1 : x0.f1.length ≤ c0_1) (hr1 : Kd.C Kd.string w A1 l1.length l1) (hc1 : l1.length ≤ c1) (k0 : okT24 x0) (k1 : (fun l => l.length ≤ maxLen ∧ l.length * 16 ≤ 140737488351232 ∧ ∀ x ∈ l,(fun a => a.size ≤ 140737488351232) x) l1) (hT : Tb w) :
  Calls Tryz.prog 3 #[.agg #[.int .i64 x0.f0,.slice A0_1 x0.f1.length c0_1],.slice A1 l1.length c1] w fun e w' => e = .returned (.bool true) ∧ Below w.heap.size w w' := by
 obtain ⟨k,h⟩ := P x0 l1 k0 k1
 refine (laws_FnExactRelSeek.calls k x0.f0 A0_1 c0_1 x0.f1 A1 c1 l1 w hr0_1 hc0_1 hr1 hc1 hT h).mono ?_
 rintro e w' ⟨rfl,hd⟩
 exact ⟨rfl,hd⟩
end Go.Proofs.YtocmfolajckaeaaGreatDoor.Pe
end

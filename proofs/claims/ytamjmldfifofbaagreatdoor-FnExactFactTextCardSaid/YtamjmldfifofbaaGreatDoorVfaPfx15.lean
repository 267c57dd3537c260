-- Cut by prune.py, a program of this session, out of the texts of this claim: Lean checks it.
import Derived.Test.YtamjmldfifofbaaGreatDoorVfaPfx0
import Derived.Test.YtamjmldfifofbaaGreatDoorVfaPfx11
section
namespace Go.Proofs.YtamjmldfifofbaaGreatDoor.Pf
open Go.RowKit Go.Proofs.YtamjmldfifofbaaGreatDoorW.PrintWords Go.Proofs.YtamjmldfifofbaaGreatDoorW.PrintLast Go.Proofs.YtamjmldfifofbaaGreatDoorW.PrintMore
attribute [local go_sem] max2_int min2_int max_two min_two max_three min_three max_four min_four   -- for this text's walks alone
set_option linter.unusedVariables false
set_option linter.unusedSimpArgs false
def laws_eqTypeDeclS.l0 : Nat → List (S77) → List (S77) → Int → Option (Bool)
 | 0,_,_,_ => none
 | k + 1,x0,x1,x5 => if x5 < (x0.length : Int) then (if 0 ≤ x5 then (if x5 < (x1.length : Int) then ((laws_eqTypeDecl.f k ((rd_T77 x0 x5).f0) ((rd_T77 x0 x5).f1) ((rd_T77 x1 x5).f0) ((rd_T77 x1 x5).f1)).bind fun t386 => (if t386 = true then (laws_eqTypeDeclS.l0 k x0 x1 (wrap64 (x5 + 1))) else (some false))) else (none)) else (none)) else (some true)
def laws_eqTypeDeclS.f (k : Nat) (l0 : List (S77)) (l1 : List (S77)) : Option (Bool) := if (l0.length : Int) = (l1.length : Int) then (laws_eqTypeDeclS.l0 k l0 l1 0) else (some false)
def laws_eqTypeDeclS.T6 : Bool × List (List Nat × List Nat) := (true,[([],[]),([],[]),([0,1],[0,1]),([2],[2]),([],[]),([],[]),([4,5],[4,5]),([6],[6]),([3,7],[3,7]),([8],[8])])
def laws_eqTypeDeclS.B6 : List Nat := [0,0,3,7,0,0,48,112,255,511]
theorem laws_eqTypeDeclS.tab6 : rtab .any (opsOf Tryz.f25 6) = laws_eqTypeDeclS.T6 := by kernel_rfl
theorem laws_eqTypeDeclS.bits6 : waitsOk laws_eqTypeDeclS.T6.2 laws_eqTypeDeclS.B6 = true := by kernel_rfl
set_option maxHeartbeats 8000000 in
set_option maxRecDepth 100000 in
theorem laws_eqTypeDeclS.calls (k : Nat) (A0 : Option Addr) (c0 : Nat) (l0 : List (S77)) (A1 : Option Addr) (c1 : Nat) (l1 : List (S77)) (r : Bool) (w : World) (hr0 : Kd.C k77 w A0 l0.length l0) (hc0 : l0.length ≤ c0) (hr1 : Kd.C k77 w A1 l1.length l1) (hc1 : l1.length ≤ c1) (h : laws_eqTypeDeclS.f k l0 l1 = some r) (htrue_ : r = true) :
  Calls Tryz.prog 25 #[.slice A0 l0.length c0,.slice A1 l1.length c1] w fun e w' => e = .returned (.bool r) ∧ Below w.heap.size w w' := by
 have hu77 := Tryz.underlying77
 have HR0 := y0.mk hr0
 have HC0 := y0.mk hc0
 clear hr0 hc0
 have HR1 := y0.mk hr1
 have HC1 := y0.mk hc1
 clear hr1 hc1
 have HB := y0.mk (Below.refl w.heap.size w)
 have H : (if (l0.length : Int) = (l1.length : Int) then (laws_eqTypeDeclS.l0 k l0 l1 0) else (some false)) = some r := h
 clear h
 by_cases c3 : (l0.length : Int) = (l1.length : Int)
 ·rw [if_pos c3] at H
  have c3b0 : ((l0.length : Int) == (l1.length : Int)) = true := beq_iff_eq.mpr c3
  have c3b1 : ((l0.length : Int) != (l1.length : Int)) = false := bne_eq_false_iff_eq.mpr c3
  have c3b2 : (l0.length == l1.length) = true := by first | simpa using c3 | (simp at c3 ⊢; omega)
  clear c3
  have H' := y0.mk H
  clear H
  go_enter Tryz.func25,Tryz.ntmps25
  go_wp2
  go_loopg [5] k (fun kq v5 w' => ∃ (x5_1 : Int),v5 = .int .i64 x5_1 ∧ y0 (laws_eqTypeDeclS.l0 kq l0 l1 x5_1 = some r) ∧ y0 (kq ≤ k) ∧ y0 (Below w.heap.size w w'))
  case atStart => exact ⟨(0),(by first | rfl | (simp; done) | (simp [*]; done)),H',⟨Nat.le_refl _⟩,⟨by repeat (first | (with_reducible first | exact HB.out | apply y3 | apply y23 | apply y4) | exact HB.out)⟩⟩
  case round =>
   clear H'
   try clear c1
   try clear c2
   try clear p2
   try clear c3
   try clear c3b0
   try clear c3b1
   try clear c3b2
   obtain ⟨x5_1,rfl,HA,HK1,HB⟩ := hrel
   cases gk with
   | zero => exact absurd HA.out (by simp [laws_eqTypeDeclS.l0])
   | succ k1 =>
    have H := HA.out
    clear HA
    simp only [laws_eqTypeDeclS.l0] at H
    by_cases c4 : x5_1 < (l0.length : Int)
    ·rw [if_pos c4] at H
     have c4b0 : decide (x5_1 < (l0.length : Int)) = true := decide_eq_true c4
     clear c4
     by_cases c5 : 0 ≤ x5_1
     ·rw [if_pos c5] at H
      have c5b0 : decide (0 ≤ x5_1) = true := decide_eq_true c5
      clear c5
      by_cases c6 : x5_1 < (l1.length : Int)
      ·rw [if_pos c6] at H
       have c6b0 : decide (x5_1 < (l1.length : Int)) = true := decide_eq_true c6
       clear c6
       replace H := Option.bind_eq_some_iff.mp H
       obtain ⟨t386,A70,H⟩ := H
       replace H : (if t386 = true then (laws_eqTypeDeclS.l0 k1 l0 l1 (wrap64 (x5_1 + 1))) else (some false)) = some r := H
       have A7 := y0.mk A70
       clear A70
       by_cases c8 : t386 = true
       ·subst c8
        have H1 : (laws_eqTypeDeclS.l0 k1 l0 l1 (wrap64 (x5_1 + 1))) = some r := by rw [if_pos rfl] at H; exact H
        clear H
        have H := H1
        clear H1
        have H' := y0.mk H
        clear H
        try go_wp2
        have n0_ := y0.mk (y4 HB.out)
        clear HB
        have HB := n0_
        clear n0_
        have p384 : 0 ≤ (x5_1 : Int) := of_decide_eq_true (by first | (with_reducible assumption) | assumption)
        have q384 : x5_1 < (l0.length : Int) := of_decide_eq_true (by first | (with_reducible assumption) | assumption)
        obtain ⟨ad384,A384_1,c384_1,e384,hx384_0,hx384_1,hl384_1,hi384_1⟩ := at_T77 HR0.out x5_1 p384 q384
        have hw384_1 := hx384_1
        have hw384_0 := hx384_0
        cases e384
        replace hx384_0 := (HB.out.cell (World.block_lt_of_cell? w _ hx384_0)).trans hx384_0
        replace hx384_1 := (HB.out.cell (World.block_lt_of_cell? w _ hx384_1)).trans hx384_1
        have HR384_1 := y0.mk hi384_1
        have HC384_1 := y0.mk hl384_1
        clear hi384_1 hl384_1
        replace p384 := eq_true p384
        replace q384 := eq_true q384
        have p385 : 0 ≤ (x5_1 : Int) := of_decide_eq_true (by first | (with_reducible assumption) | assumption)
        have q385 : x5_1 < (l1.length : Int) := of_decide_eq_true (by first | (with_reducible assumption) | assumption)
        obtain ⟨ad385,A385_1,c385_1,e385,hx385_0,hx385_1,hl385_1,hi385_1⟩ := at_T77 HR1.out x5_1 p385 q385
        have hw385_1 := hx385_1
        have hw385_0 := hx385_0
        cases e385
        replace hx385_0 := (HB.out.cell (World.block_lt_of_cell? w _ hx385_0)).trans hx385_0
        replace hx385_1 := (HB.out.cell (World.block_lt_of_cell? w _ hx385_1)).trans hx385_1
        have HR385_1 := y0.mk hi385_1
        have HC385_1 := y0.mk hl385_1
        clear hi385_1 hl385_1
        replace p385 := eq_true p385
        replace q385 := eq_true q385
        refine start_ (n := 10) (S := fun w' => w'.cell? (ad384.add ((x5_1).toNat * 2)) = some (.string ((rd_T77 l0 x5_1).f0)) ∧ w'.cell? ⟨(ad384.add ((x5_1).toNat * 2)).block,(ad384.add ((x5_1).toNat * 2)).off + 1,none⟩ = some (.slice A384_1 ((rd_T77 l0 x5_1).f1).length c384_1) ∧ w'.cell? (ad385.add ((x5_1).toNat * 2)) = some (.string ((rd_T77 l1 x5_1).f0)) ∧ w'.cell? ⟨(ad385.add ((x5_1).toNat * 2)).block,(ad385.add ((x5_1).toNat * 2)).off + 1,none⟩ = some (.slice A385_1 ((rd_T77 l1 x5_1).f1).length c385_1)) (ds := []) (fl_ 10 0) (by kernel_rfl) rfl rfl ⟨((HB.out.cell (World.block_lt_of_cell? w _ hw384_0)).trans hw384_0),((HB.out.cell (World.block_lt_of_cell? w _ hw384_1)).trans hw384_1),((HB.out.cell (World.block_lt_of_cell? w _ hw385_0)).trans hw385_0),((HB.out.cell (World.block_lt_of_cell? w _ hw385_1)).trans hw385_1)⟩ (fun hHeld => ?_); refine with_tabW laws_eqTypeDeclS.tab6 laws_eqTypeDeclS.bits6 (fun HT_ HW_ => ?_)
        generalize wr.drew = w9 at HB HR384_1 HR385_1 hx384_0 hx384_1 hx385_0 hx385_1 hHeld ⊢
        refine pure_ (i := 0) (N := some 17) (v := ?_) (a' := ?_) (fl_ 10 1) rfl rfl (y2 HT_.out (by kernel_rfl)) (fun _ _ _ h => h) (Or.inl ⟨by rfl, ?_⟩) ?_ ?_
        rotate_left
        ·intro w'
         go_simp
         with_reducible rfl
        rotate_left
        ·simp only [Act.put,qS_,qZ_,qC_,y22,y21]
         rfl
        refine pure_ (i := 1) (N := some 18) (v := ?_) (a' := ?_) (fl_ 10 3) rfl rfl (y2 HT_.out (by kernel_rfl)) (fun _ _ _ h => h) (Or.inl ⟨by rfl, ?_⟩) ?_ ?_
        rotate_left
        ·intro w'
         go_simp
         with_reducible rfl
        rotate_left
        ·simp only [Act.put,qS_,qZ_,qC_,y22,y21]
         rfl
        refine pure_ (i := 2) (N := some 19) (v := ?_) (a' := ?_) (fl_ 10 7) rfl rfl (y2 HT_.out (by kernel_rfl)) (fun _ _ _ h => h) (Or.inl ⟨by rfl, ?_⟩) ?_ ?_
        rotate_left
        ·intro w'
         go_simp
         with_reducible rfl
        rotate_left
        ·simp only [Act.put,qS_,qZ_,qC_,y22,y21]
         rfl
        refine pure_ (i := 4) (N := some 21) (v := ?_) (a' := ?_) (fl_ 10 23) rfl rfl (y2 HT_.out (by kernel_rfl)) (fun _ _ _ h => h) (Or.inl ⟨by rfl, ?_⟩) ?_ ?_
        rotate_left
        ·intro w'
         go_simp
         with_reducible rfl
        rotate_left
        ·simp only [Act.put,qS_,qZ_,qC_,y22,y21]
         rfl
        refine pure_ (i := 5) (N := some 22) (v := ?_) (a' := ?_) (fl_ 10 55) rfl rfl (y2 HT_.out (by kernel_rfl)) (fun _ _ _ h => h) (Or.inl ⟨by rfl, ?_⟩) ?_ ?_
        rotate_left
        ·intro w'
         go_simp
         with_reducible rfl
        rotate_left
        ·simp only [Act.put,qS_,qZ_,qC_,y22,y21]
         rfl
        refine pure_ (i := 6) (N := some 23) (v := ?_) (a' := ?_) (fl_ 10 119) rfl rfl (y2 HT_.out (by kernel_rfl)) (fun _ _ _ h => h) (Or.inl ⟨by rfl, ?_⟩) ?_ ?_
        rotate_left
        ·intro w'
         go_simp
         with_reducible rfl
        rotate_left
        ·simp only [Act.put,qS_,qZ_,qC_,y22,y21]
         rfl
        refine take_ (i := 3) (N := some 20) (v := ?_) (a' := ?_) (fl_ 10 127) rfl rfl (take_ofW HT_.out HW_.out (by kernel_rfl)) (fun _ _ _ h => h) (Or.inl ⟨by rfl, ?_⟩) hHeld ?_ ?_
        rotate_left
        ·rintro w' ⟨s0,s1,s2,s3⟩
         go_simp
         with_reducible rfl
        rotate_left
        ·simp only [Act.put,qS_,qZ_,qC_,y22,y21]
         rfl
        refine take_ (i := 7) (N := some 24) (v := ?_) (a' := ?_) (fl_ 10 255) rfl rfl (take_ofW HT_.out HW_.out (by kernel_rfl)) (fun _ _ _ h => h) (Or.inl ⟨by rfl, ?_⟩) hHeld ?_ ?_
        rotate_left
        ·rintro w' ⟨s0,s1,s2,s3⟩
         go_simp
         with_reducible rfl
        rotate_left
        ·simp only [Act.put,qS_,qZ_,qC_,y22,y21]
         rfl
        refine one_ (i := 8) (N := some 25) (fl_ 10 511) rfl rfl (one_of HT_.out (by kernel_rfl)) (by decide) (fun K hK => ?_)
        refine goes_ Tryz.func40 (by kernel_rfl) rfl #[.agg #[.string ((rd_T77 l0 x5_1).f0),.slice A384_1 ((rd_T77 l0 x5_1).f1).length c384_1],.agg #[.string ((rd_T77 l1 x5_1).f0),.slice A385_1 ((rd_T77 l1 x5_1).f1).length c385_1]] (by rfl) rfl rfl (by (try simp only [qM_,List.map_cons,List.map_nil]); first | done | rfl | (simp only [qD_,qT_]; rfl)) ?_
        with_reducible refine (laws_eqTypeDecl.calls k1 ((rd_T77 l0 x5_1).f0) _ _ ((rd_T77 l0 x5_1).f1) ((rd_T77 l1 x5_1).f0) _ _ ((rd_T77 l1 x5_1).f1) true _ ?side1 ?side2 ?side3 ?side4 A7.out rfl).mono ?_
        (case side1 => repeat (first | exact (Kd.C_below HR384_1.out HB.out) | (with_reducible refine Kd.C_alloc ?_ _) | (with_reducible refine Kd.C_drewN ?_ _) | (with_reducible refine Kd.C_drew ?_)))
        (case side2 => exact HC384_1.out)
        (case side3 => repeat (first | exact (Kd.C_below HR385_1.out HB.out) | (with_reducible refine Kd.C_alloc ?_ _) | (with_reducible refine Kd.C_drewN ?_ _) | (with_reducible refine Kd.C_drew ?_)))
        (case side4 => exact HC385_1.out)
        rintro e w10 ⟨rfl,hb⟩
        refine ⟨_,rfl, ?_⟩
        have n0_ := y0.mk (y7 (by repeat (first | (with_reducible first | exact HB.out | apply y3 | apply y23 | apply y4) | exact HB.out)) hb)
        clear HB
        have HB := n0_
        clear n0_
        (try clear hb)
        (try clear hb2)
        (try clear hk)
        (try clear hi)
        refine hK.out _ _ ⟨((HB.out.cell (World.block_lt_of_cell? w _ hw384_0)).trans hw384_0),((HB.out.cell (World.block_lt_of_cell? w _ hw384_1)).trans hw384_1),((HB.out.cell (World.block_lt_of_cell? w _ hw385_0)).trans hw385_0),((HB.out.cell (World.block_lt_of_cell? w _ hw385_1)).trans hw385_1)⟩ (fun hHeld => ?_)
        clear hK K
        refine norm_ (a' := ?_) ?_ ?_
        rotate_left
        ·show Act.put _ (some 25) _ = _
         simp only [Act.put,qS_,qZ_,qC_,y22,y21]
         rfl
        refine pure_ (i := 9) (N := some 26) (v := ?_) (a' := ?_) (fl_ 10 1023) rfl rfl (y2 HT_.out (by kernel_rfl)) (fun _ _ _ h => h) (Or.inl ⟨by rfl, ?_⟩) ?_ ?_
        rotate_left
        ·intro w'
         go_simp
         with_reducible rfl
        rotate_left
        ·simp only [Act.put,qS_,qZ_,qC_,y22,y21]
         rfl
        refine done_ (done_of HT_.out (by kernel_rfl)) ?_
        try go_wp2
        go_roundg k1
        case measure => have := HK1.out; omega
        case rel => exact ⟨(wrap64 (x5_1 + 1)),(by first | rfl | (simp; done) | (simp [*]; done)),H',⟨by have := HK1.out; omega⟩,⟨by repeat (first | (with_reducible first | exact HB.out | apply y3 | apply y23 | apply y4) | exact HB.out)⟩⟩
       ·replace c8 := Bool.eq_false_iff.mpr c8
        subst c8
        have H1 : (some false) = some r := by rw [if_neg (show ¬ (false = true) by decide)] at H; exact H
        clear H
        have H := H1
        clear H1
        exact absurd ((Option.some.inj H).trans htrue_) (by decide)
      ·rw [if_neg c6] at H
       exact absurd H (by simp)
     ·rw [if_neg c5] at H
      exact absurd H (by simp)
    ·rw [if_neg c4] at H
     have c4b0 : decide (x5_1 < (l0.length : Int)) = false := decide_eq_false c4
     clear c4
     obtain rfl := Option.some.inj H
     go_wp2
     go_ret
     exact ⟨by first | rfl | (simp [y16,y17] <;> rfl) | (simp [*,y16,y17] <;> rfl),by repeat (first | (with_reducible first | exact HB.out | apply y3 | apply y23 | apply y4) | exact HB.out)⟩
 ·rw [if_neg c3] at H
  have c3b0 : ((l0.length : Int) == (l1.length : Int)) = false := beq_eq_false_iff_ne.mpr c3
  have c3b1 : ((l0.length : Int) != (l1.length : Int)) = true := bne_iff_ne.mpr c3
  have c3b2 : (l0.length == l1.length) = false := by first | simpa using c3 | (simp at c3 ⊢; omega)
  exact absurd ((Option.some.inj H).trans htrue_) (by decide)
def laws_eqRelDecl.f (k : Nat) (a0_0 : ByteArray) (l0_1 : List ByteArray) (a0_2 : Int) (a1_0 : ByteArray) (l1_1 : List ByteArray) (a1_2 : Int) : Option (Bool) := if a0_0.toList = a1_0.toList then ((laws_eqStringS.f k l0_1 l1_1).bind fun t389 => (if t389 = true then (if a0_2 = a1_2 then (some true) else (some false)) else (some false))) else (some false)
set_option maxHeartbeats 8000000 in
set_option maxRecDepth 100000 in
theorem laws_eqRelDecl.calls (k : Nat) (a0_0 : ByteArray) (A0_1 : Option Addr) (c0_1 : Nat) (l0_1 : List ByteArray) (a0_2 : Int) (a1_0 : ByteArray) (A1_1 : Option Addr) (c1_1 : Nat) (l1_1 : List ByteArray) (a1_2 : Int) (r : Bool) (w : World) (hr0_1 : Kd.C Kd.string w A0_1 l0_1.length l0_1) (hc0_1 : l0_1.length ≤ c0_1) (hr1_1 : Kd.C Kd.string w A1_1 l1_1.length l1_1) (hc1_1 : l1_1.length ≤ c1_1) (h : laws_eqRelDecl.f k a0_0 l0_1 a0_2 a1_0 l1_1 a1_2 = some r) (htrue_ : r = true) :
  Calls Tryz.prog 41 #[.agg #[.string a0_0,.slice A0_1 l0_1.length c0_1,.int .i64 a0_2],.agg #[.string a1_0,.slice A1_1 l1_1.length c1_1,.int .i64 a1_2]] w fun e w' => e = .returned (.bool r) ∧ Below w.heap.size w w' := by
 have hu51 := Tryz.underlying51
 have HR0_1 := y0.mk hr0_1
 have HC0_1 := y0.mk hc0_1
 clear hr0_1 hc0_1
 have HR1_1 := y0.mk hr1_1
 have HC1_1 := y0.mk hc1_1
 clear hr1_1 hc1_1
 have HB := y0.mk (Below.refl w.heap.size w)
 have H : (if a0_0.toList = a1_0.toList then ((laws_eqStringS.f k l0_1 l1_1).bind fun t389 => (if t389 = true then (if a0_2 = a1_2 then (some true) else (some false)) else (some false))) else (some false)) = some r := h
 clear h
 by_cases c3 : a0_0.toList = a1_0.toList
 ·rw [if_pos c3] at H
  have c3b0 : (a0_0.toList == a1_0.toList) = true := beq_iff_eq.mpr c3
  have c3b1 : (a0_0.toList != a1_0.toList) = false := bne_eq_false_iff_eq.mpr c3
  clear c3
  replace H := Option.bind_eq_some_iff.mp H
  obtain ⟨t389,A40,H⟩ := H
  replace H : (if t389 = true then (if a0_2 = a1_2 then (some true) else (some false)) else (some false)) = some r := H
  have A4 := y0.mk A40
  clear A40
  by_cases c5 : t389 = true
  ·subst c5
   have H1 : (if a0_2 = a1_2 then (some true) else (some false)) = some r := by rw [if_pos rfl] at H; exact H
   clear H
   have H := H1
   clear H1
   by_cases c6 : a0_2 = a1_2
   ·rw [if_pos c6] at H
    have c6b0 : (a0_2 == a1_2) = true := beq_iff_eq.mpr c6
    have c6b1 : (a0_2 != a1_2) = false := bne_eq_false_iff_eq.mpr c6
    clear c6
    obtain rfl := Option.some.inj H
    go_enter Tryz.func41,Tryz.ntmps41
    go_wp2_with (first | ((with_reducible refine y19 (N := 2) rfl ?_); refine y15 ?hg (N := 2) ?hd (cs := #[.string a0_0,.slice A0_1 l0_1.length c0_1,.int .i64 a0_2]) (t := 51) ?hr ?_; (case hd => rfl); (case hg => rfl); (case hr => first | (go_simp; done) | (go_simp; rfl)); intro gb387 hg w7 hbox hb; have n0_ := y0.mk (y7 (by repeat (first | (with_reducible first | exact HB.out | apply y3 | apply y23 | apply y4) | exact HB.out)) hb); have n1_ := y0.mk (hbox); have n2_ := y0.mk ((by rw [hg]; exact (y6 (by repeat (first | (with_reducible first | exact HB.out | apply y3 | apply y23 | apply y4) | exact HB.out))) : w.heap.size ≤ gb387)); have n3_ := y0.mk ((by rw [hg]; exact (y6 (by repeat (first | (with_reducible first | exact HB.out | apply y3 | apply y23 | apply y4) | exact HB.out))) : w.heap.size ≤ gb387)); clear HB; have HB := n0_; have BK387 := n1_; have GW387 := n2_; have GE387 := n3_; clear n0_ n1_ n2_ n3_; clear hb hbox hg) | ((with_reducible refine y19 (N := 3) rfl ?_); refine y15 ?hg (N := 3) ?hd (cs := #[.string a1_0,.slice A1_1 l1_1.length c1_1,.int .i64 a1_2]) (t := 51) ?hr ?_; (case hd => rfl); (case hg => rfl); (case hr => first | (go_simp; done) | (go_simp; rfl)); intro gb388 hg w8 hbox hb; have n0_ := y0.mk (y9 (g := gb387) (o := .cells #[.string a0_0,.slice A0_1 l0_1.length c0_1,.int .i64 a0_2] 51 (0,0)) (by (with_reducible repeat (first | refine y12 ?_ _ | refine y11 ?_ | refine y8 ?_ _)); exact BK387.out) hb); have n1_ := y0.mk (y7 (by repeat (first | (with_reducible first | exact HB.out | apply y3 | apply y23 | apply y4 | refine y5 ?_ GE387.out) | exact HB.out)) hb); have n2_ := y0.mk (hbox); have n3_ := y0.mk ((by rw [hg]; exact (y6 (by repeat (first | (with_reducible first | exact HB.out | apply y3 | apply y23 | apply y4 | refine y5 ?_ GE387.out) | exact HB.out))) : w.heap.size ≤ gb388)); have n4_ := y0.mk ((by rw [hg]; exact (y6 (by repeat (first | (with_reducible first | exact HB.out | apply y3 | apply y23 | apply y4 | refine y5 ?_ GE387.out) | exact HB.out))) : w.heap.size ≤ gb388)); have n5_ := y0.mk ((by rw [hg]; exact Nat.ne_of_lt (y14 (g := gb387) (o := .cells #[.string a0_0,.slice A0_1 l0_1.length c0_1,.int .i64 a0_2] 51 (0,0)) (by (with_reducible repeat (first | refine y12 ?_ _ | refine y11 ?_ | refine y8 ?_ _)); exact BK387.out)) : gb387 ≠ gb388)); have n6_ := y0.mk ((by rw [hg]; exact Nat.ne_of_gt (y14 (g := gb387) (o := .cells #[.string a0_0,.slice A0_1 l0_1.length c0_1,.int .i64 a0_2] 51 (0,0)) (by (with_reducible repeat (first | refine y12 ?_ _ | refine y11 ?_ | refine y8 ?_ _)); exact BK387.out)) : gb388 ≠ gb387)); clear BK387; clear HB; have BK387 := n0_; have HB := n1_; have BK388 := n2_; have GW388 := n3_; have GE388 := n4_; have NB387_388 := n5_; have NB388_387 := n6_; clear n0_ n1_ n2_ n3_ n4_ n5_ n6_; clear hb hbox hg; have hnb9 := NB387_388.out; have hnc9 := NB388_387.out; have hcz10_0 : w8.cell? ⟨gb387,0,none⟩ = some (.string a0_0) := (y10 BK387.out 0).trans rfl; have hcz10_1 : w8.cell? ⟨gb387,1,none⟩ = some (.slice A0_1 l0_1.length c0_1) := (y10 BK387.out 1).trans rfl; have hcz10_2 : w8.cell? ⟨gb387,2,none⟩ = some (.int .i64 a0_2) := (y10 BK387.out 2).trans rfl; have hfz10_0 := y13 BK387.out 0; have hfz10_1 := y13 BK387.out 1; have hfz10_2 := y13 BK387.out 2; have hcz11_0 : w8.cell? ⟨gb388,0,none⟩ = some (.string a1_0) := (y10 BK388.out 0).trans rfl; have hcz11_1 : w8.cell? ⟨gb388,1,none⟩ = some (.slice A1_1 l1_1.length c1_1) := (y10 BK388.out 1).trans rfl; have hcz11_2 : w8.cell? ⟨gb388,2,none⟩ = some (.int .i64 a1_2) := (y10 BK388.out 2).trans rfl; have hfz11_0 := y13 BK388.out 0; have hfz11_1 := y13 BK388.out 1; have hfz11_2 := y13 BK388.out 2) | ((with_reducible refine y18 (f := 28) rfl ?_); refine y20 (some 14) rfl rfl Tryz.func28 (by kernel_rfl) rfl #[.slice A0_1 l0_1.length c0_1,.slice A1_1 l1_1.length c1_1] rfl (by (try simp only [qM_,List.map_cons,List.map_nil]); first | done | rfl | (simp only [qD_,qT_]; rfl)) ?_; (with_reducible refine (laws_eqStringS.calls k _ _ l0_1 _ _ l1_1 true _ ?side1 ?side2 ?side3 ?side4 A4.out rfl).mono ?_); (case side1 => repeat (first | exact (Kd.C_below HR0_1.out HB.out) | (with_reducible refine Kd.C_alloc ?_ _) | (with_reducible refine Kd.C_drewN ?_ _) | (with_reducible refine Kd.C_drew ?_))); (case side2 => exact HC0_1.out); (case side3 => repeat (first | exact (Kd.C_below HR1_1.out HB.out) | (with_reducible refine Kd.C_alloc ?_ _) | (with_reducible refine Kd.C_drewN ?_ _) | (with_reducible refine Kd.C_drew ?_))); (case side4 => exact HC1_1.out); rintro e w' ⟨rfl,⟨nd,rfl⟩⟩; refine ⟨_,rfl, ?_⟩))
    go_ret
    exact ⟨by first | rfl | (simp [y16,y17] <;> rfl) | (simp [*,y16,y17] <;> rfl),by repeat (first | (with_reducible first | exact HB.out | apply y3 | apply y23 | apply y4 | refine y5 ?_ GE387.out | refine y5 ?_ GE388.out) | exact HB.out)⟩
   ·rw [if_neg c6] at H
    have c6b0 : (a0_2 == a1_2) = false := beq_eq_false_iff_ne.mpr c6
    have c6b1 : (a0_2 != a1_2) = true := bne_iff_ne.mpr c6
    exact absurd ((Option.some.inj H).trans htrue_) (by decide)
  ·replace c5 := Bool.eq_false_iff.mpr c5
   subst c5
   have H1 : (some false) = some r := by rw [if_neg (show ¬ (false = true) by decide)] at H; exact H
   clear H
   have H := H1
   clear H1
   exact absurd ((Option.some.inj H).trans htrue_) (by decide)
 ·rw [if_neg c3] at H
  have c3b0 : (a0_0.toList == a1_0.toList) = false := beq_eq_false_iff_ne.mpr c3
  have c3b1 : (a0_0.toList != a1_0.toList) = true := bne_iff_ne.mpr c3
  exact absurd ((Option.some.inj H).trans htrue_) (by decide)
end Go.Proofs.YtamjmldfifofbaaGreatDoor.Pf
end
section
namespace Go.Proofs.YtamjmldfifofbaaGreatDoor.Pf
open Go.RowKit Go.Proofs.YtamjmldfifofbaaGreatDoorW.PrintWords Go.Proofs.YtamjmldfifofbaaGreatDoorW.PrintLast Go.Proofs.YtamjmldfifofbaaGreatDoorW.PrintMore
attribute [local go_sem] max2_int min2_int max_two min_two max_three min_three max_four min_four   -- for this text's walks alone
set_option linter.unusedVariables false
set_option linter.unusedSimpArgs false
def laws_eqRelDeclS.l0 : Nat → List (S51) → List (S51) → Int → Option (Bool)
 | 0,_,_,_ => none
 | k + 1,x0,x1,x5 => if x5 < (x0.length : Int) then (if 0 ≤ x5 then (if x5 < (x1.length : Int) then ((laws_eqRelDecl.f k ((rd_T51 x0 x5).f0) ((rd_T51 x0 x5).f1) ((rd_T51 x0 x5).f2) ((rd_T51 x1 x5).f0) ((rd_T51 x1 x5).f1) ((rd_T51 x1 x5).f2)).bind fun t392 => (if t392 = true then (laws_eqRelDeclS.l0 k x0 x1 (wrap64 (x5 + 1))) else (some false))) else (none)) else (none)) else (some true)
def laws_eqRelDeclS.f (k : Nat) (l0 : List (S51)) (l1 : List (S51)) : Option (Bool) := if (l0.length : Int) = (l1.length : Int) then (laws_eqRelDeclS.l0 k l0 l1 0) else (some false)
def laws_eqRelDeclS.T6 : Bool × List (List Nat × List Nat) := (true,[([],[]),([],[]),([0,1],[0,1]),([2],[2]),([],[]),([],[]),([4,5],[4,5]),([6],[6]),([3,7],[3,7]),([8],[8])])
def laws_eqRelDeclS.B6 : List Nat := [0,0,3,7,0,0,48,112,255,511]
theorem laws_eqRelDeclS.tab6 : rtab .any (opsOf Tryz.f26 6) = laws_eqRelDeclS.T6 := by kernel_rfl
theorem laws_eqRelDeclS.bits6 : waitsOk laws_eqRelDeclS.T6.2 laws_eqRelDeclS.B6 = true := by kernel_rfl
set_option maxHeartbeats 8000000 in
set_option maxRecDepth 100000 in
theorem laws_eqRelDeclS.calls (k : Nat) (A0 : Option Addr) (c0 : Nat) (l0 : List (S51)) (A1 : Option Addr) (c1 : Nat) (l1 : List (S51)) (r : Bool) (w : World) (hr0 : Kd.C k51 w A0 l0.length l0) (hc0 : l0.length ≤ c0) (hr1 : Kd.C k51 w A1 l1.length l1) (hc1 : l1.length ≤ c1) (h : laws_eqRelDeclS.f k l0 l1 = some r) (htrue_ : r = true) :
  Calls Tryz.prog 26 #[.slice A0 l0.length c0,.slice A1 l1.length c1] w fun e w' => e = .returned (.bool r) ∧ Below w.heap.size w w' := by
 have hu51 := Tryz.underlying51
 have HR0 := y0.mk hr0
 have HC0 := y0.mk hc0
 clear hr0 hc0
 have HR1 := y0.mk hr1
 have HC1 := y0.mk hc1
 clear hr1 hc1
 have HB := y0.mk (Below.refl w.heap.size w)
 have H : (if (l0.length : Int) = (l1.length : Int) then (laws_eqRelDeclS.l0 k l0 l1 0) else (some false)) = some r := h
 clear h
 by_cases c3 : (l0.length : Int) = (l1.length : Int)
 ·rw [if_pos c3] at H
  have c3b0 : ((l0.length : Int) == (l1.length : Int)) = true := beq_iff_eq.mpr c3
  have c3b1 : ((l0.length : Int) != (l1.length : Int)) = false := bne_eq_false_iff_eq.mpr c3
  have c3b2 : (l0.length == l1.length) = true := by first | simpa using c3 | (simp at c3 ⊢; omega)
  clear c3
  have H' := y0.mk H
  clear H
  go_enter Tryz.func26,Tryz.ntmps26
  go_wp2
  go_loopg [5] k (fun kq v5 w' => ∃ (x5_1 : Int),v5 = .int .i64 x5_1 ∧ y0 (laws_eqRelDeclS.l0 kq l0 l1 x5_1 = some r) ∧ y0 (kq ≤ k) ∧ y0 (Below w.heap.size w w'))
  case atStart => exact ⟨(0),(by first | rfl | (simp; done) | (simp [*]; done)),H',⟨Nat.le_refl _⟩,⟨by repeat (first | (with_reducible first | exact HB.out | apply y3 | apply y23 | apply y4) | exact HB.out)⟩⟩
  case round =>
   clear H'
   try clear c1
   try clear c2
   try clear p2
   try clear c3
   try clear c3b0
   try clear c3b1
   try clear c3b2
   obtain ⟨x5_1,rfl,HA,HK1,HB⟩ := hrel
   cases gk with
   | zero => exact absurd HA.out (by simp [laws_eqRelDeclS.l0])
   | succ k1 =>
    have H := HA.out
    clear HA
    simp only [laws_eqRelDeclS.l0] at H
    by_cases c4 : x5_1 < (l0.length : Int)
    ·rw [if_pos c4] at H
     have c4b0 : decide (x5_1 < (l0.length : Int)) = true := decide_eq_true c4
     clear c4
     by_cases c5 : 0 ≤ x5_1
     ·rw [if_pos c5] at H
      have c5b0 : decide (0 ≤ x5_1) = true := decide_eq_true c5
      clear c5
      by_cases c6 : x5_1 < (l1.length : Int)
      ·rw [if_pos c6] at H
       have c6b0 : decide (x5_1 < (l1.length : Int)) = true := decide_eq_true c6
       clear c6
       replace H := Option.bind_eq_some_iff.mp H
       obtain ⟨t392,A70,H⟩ := H
       replace H : (if t392 = true then (laws_eqRelDeclS.l0 k1 l0 l1 (wrap64 (x5_1 + 1))) else (some false)) = some r := H
       have A7 := y0.mk A70
       clear A70
       by_cases c8 : t392 = true
       ·subst c8
        have H1 : (laws_eqRelDeclS.l0 k1 l0 l1 (wrap64 (x5_1 + 1))) = some r := by rw [if_pos rfl] at H; exact H
        clear H
        have H := H1
        clear H1
        have H' := y0.mk H
        clear H
        try go_wp2
        have n0_ := y0.mk (y4 HB.out)
        clear HB
        have HB := n0_
        clear n0_
        have p390 : 0 ≤ (x5_1 : Int) := of_decide_eq_true (by first | (with_reducible assumption) | assumption)
        have q390 : x5_1 < (l0.length : Int) := of_decide_eq_true (by first | (with_reducible assumption) | assumption)
        obtain ⟨ad390,A390_1,c390_1,e390,hx390_0,hx390_1,hx390_2,hl390_1,hi390_1⟩ := at_T51 HR0.out x5_1 p390 q390
        have hw390_2 := hx390_2
        have hw390_1 := hx390_1
        have hw390_0 := hx390_0
        cases e390
        replace hx390_0 := (HB.out.cell (World.block_lt_of_cell? w _ hx390_0)).trans hx390_0
        replace hx390_1 := (HB.out.cell (World.block_lt_of_cell? w _ hx390_1)).trans hx390_1
        replace hx390_2 := (HB.out.cell (World.block_lt_of_cell? w _ hx390_2)).trans hx390_2
        have HR390_1 := y0.mk hi390_1
        have HC390_1 := y0.mk hl390_1
        clear hi390_1 hl390_1
        replace p390 := eq_true p390
        replace q390 := eq_true q390
        have p391 : 0 ≤ (x5_1 : Int) := of_decide_eq_true (by first | (with_reducible assumption) | assumption)
        have q391 : x5_1 < (l1.length : Int) := of_decide_eq_true (by first | (with_reducible assumption) | assumption)
        obtain ⟨ad391,A391_1,c391_1,e391,hx391_0,hx391_1,hx391_2,hl391_1,hi391_1⟩ := at_T51 HR1.out x5_1 p391 q391
        have hw391_2 := hx391_2
        have hw391_1 := hx391_1
        have hw391_0 := hx391_0
        cases e391
        replace hx391_0 := (HB.out.cell (World.block_lt_of_cell? w _ hx391_0)).trans hx391_0
        replace hx391_1 := (HB.out.cell (World.block_lt_of_cell? w _ hx391_1)).trans hx391_1
        replace hx391_2 := (HB.out.cell (World.block_lt_of_cell? w _ hx391_2)).trans hx391_2
        have HR391_1 := y0.mk hi391_1
        have HC391_1 := y0.mk hl391_1
        clear hi391_1 hl391_1
        replace p391 := eq_true p391
        replace q391 := eq_true q391
        refine start_ (n := 10) (S := fun w' => w'.cell? (ad390.add ((x5_1).toNat * 3)) = some (.string ((rd_T51 l0 x5_1).f0)) ∧ w'.cell? ⟨(ad390.add ((x5_1).toNat * 3)).block,(ad390.add ((x5_1).toNat * 3)).off + 1,none⟩ = some (.slice A390_1 ((rd_T51 l0 x5_1).f1).length c390_1) ∧ w'.cell? ⟨(ad390.add ((x5_1).toNat * 3)).block,(ad390.add ((x5_1).toNat * 3)).off + 2,none⟩ = some (.int .i64 ((rd_T51 l0 x5_1).f2)) ∧ w'.cell? (ad391.add ((x5_1).toNat * 3)) = some (.string ((rd_T51 l1 x5_1).f0)) ∧ w'.cell? ⟨(ad391.add ((x5_1).toNat * 3)).block,(ad391.add ((x5_1).toNat * 3)).off + 1,none⟩ = some (.slice A391_1 ((rd_T51 l1 x5_1).f1).length c391_1) ∧ w'.cell? ⟨(ad391.add ((x5_1).toNat * 3)).block,(ad391.add ((x5_1).toNat * 3)).off + 2,none⟩ = some (.int .i64 ((rd_T51 l1 x5_1).f2))) (ds := []) (fl_ 10 0) (by kernel_rfl) rfl rfl ⟨((HB.out.cell (World.block_lt_of_cell? w _ hw390_0)).trans hw390_0),((HB.out.cell (World.block_lt_of_cell? w _ hw390_1)).trans hw390_1),((HB.out.cell (World.block_lt_of_cell? w _ hw390_2)).trans hw390_2),((HB.out.cell (World.block_lt_of_cell? w _ hw391_0)).trans hw391_0),((HB.out.cell (World.block_lt_of_cell? w _ hw391_1)).trans hw391_1),((HB.out.cell (World.block_lt_of_cell? w _ hw391_2)).trans hw391_2)⟩ (fun hHeld => ?_); refine with_tabW laws_eqRelDeclS.tab6 laws_eqRelDeclS.bits6 (fun HT_ HW_ => ?_)
        generalize wr.drew = w9 at HB HR390_1 HR391_1 hx390_0 hx390_1 hx390_2 hx391_0 hx391_1 hx391_2 hHeld ⊢
        refine pure_ (i := 0) (N := some 17) (v := ?_) (a' := ?_) (fl_ 10 1) rfl rfl (y2 HT_.out (by kernel_rfl)) (fun _ _ _ h => h) (Or.inl ⟨by rfl, ?_⟩) ?_ ?_
        rotate_left
        ·intro w'
         go_simp
         with_reducible rfl
        rotate_left
        ·simp only [Act.put,qS_,qZ_,qC_,y22,y21]
         rfl
        refine pure_ (i := 1) (N := some 18) (v := ?_) (a' := ?_) (fl_ 10 3) rfl rfl (y2 HT_.out (by kernel_rfl)) (fun _ _ _ h => h) (Or.inl ⟨by rfl, ?_⟩) ?_ ?_
        rotate_left
        ·intro w'
         go_simp
         with_reducible rfl
        rotate_left
        ·simp only [Act.put,qS_,qZ_,qC_,y22,y21]
         rfl
        refine pure_ (i := 2) (N := some 19) (v := ?_) (a' := ?_) (fl_ 10 7) rfl rfl (y2 HT_.out (by kernel_rfl)) (fun _ _ _ h => h) (Or.inl ⟨by rfl, ?_⟩) ?_ ?_
        rotate_left
        ·intro w'
         go_simp
         with_reducible rfl
        rotate_left
        ·simp only [Act.put,qS_,qZ_,qC_,y22,y21]
         rfl
        refine pure_ (i := 4) (N := some 21) (v := ?_) (a' := ?_) (fl_ 10 23) rfl rfl (y2 HT_.out (by kernel_rfl)) (fun _ _ _ h => h) (Or.inl ⟨by rfl, ?_⟩) ?_ ?_
        rotate_left
        ·intro w'
         go_simp
         with_reducible rfl
        rotate_left
        ·simp only [Act.put,qS_,qZ_,qC_,y22,y21]
         rfl
        refine pure_ (i := 5) (N := some 22) (v := ?_) (a' := ?_) (fl_ 10 55) rfl rfl (y2 HT_.out (by kernel_rfl)) (fun _ _ _ h => h) (Or.inl ⟨by rfl, ?_⟩) ?_ ?_
        rotate_left
        ·intro w'
         go_simp
         with_reducible rfl
        rotate_left
        ·simp only [Act.put,qS_,qZ_,qC_,y22,y21]
         rfl
        refine pure_ (i := 6) (N := some 23) (v := ?_) (a' := ?_) (fl_ 10 119) rfl rfl (y2 HT_.out (by kernel_rfl)) (fun _ _ _ h => h) (Or.inl ⟨by rfl, ?_⟩) ?_ ?_
        rotate_left
        ·intro w'
         go_simp
         with_reducible rfl
        rotate_left
        ·simp only [Act.put,qS_,qZ_,qC_,y22,y21]
         rfl
        refine take_ (i := 3) (N := some 20) (v := ?_) (a' := ?_) (fl_ 10 127) rfl rfl (take_ofW HT_.out HW_.out (by kernel_rfl)) (fun _ _ _ h => h) (Or.inl ⟨by rfl, ?_⟩) hHeld ?_ ?_
        rotate_left
        ·rintro w' ⟨s0,s1,s2,s3,s4,s5⟩
         go_simp
         with_reducible rfl
        rotate_left
        ·simp only [Act.put,qS_,qZ_,qC_,y22,y21]
         rfl
        refine take_ (i := 7) (N := some 24) (v := ?_) (a' := ?_) (fl_ 10 255) rfl rfl (take_ofW HT_.out HW_.out (by kernel_rfl)) (fun _ _ _ h => h) (Or.inl ⟨by rfl, ?_⟩) hHeld ?_ ?_
        rotate_left
        ·rintro w' ⟨s0,s1,s2,s3,s4,s5⟩
         go_simp
         with_reducible rfl
        rotate_left
        ·simp only [Act.put,qS_,qZ_,qC_,y22,y21]
         rfl
        refine one_ (i := 8) (N := some 25) (fl_ 10 511) rfl rfl (one_of HT_.out (by kernel_rfl)) (by decide) (fun K hK => ?_)
        refine goes_ Tryz.func41 (by kernel_rfl) rfl #[.agg #[.string ((rd_T51 l0 x5_1).f0),.slice A390_1 ((rd_T51 l0 x5_1).f1).length c390_1,.int .i64 ((rd_T51 l0 x5_1).f2)],.agg #[.string ((rd_T51 l1 x5_1).f0),.slice A391_1 ((rd_T51 l1 x5_1).f1).length c391_1,.int .i64 ((rd_T51 l1 x5_1).f2)]] (by rfl) rfl rfl (by (try simp only [qM_,List.map_cons,List.map_nil]); first | done | rfl | (simp only [qD_,qT_]; rfl)) ?_
        with_reducible refine (laws_eqRelDecl.calls k1 ((rd_T51 l0 x5_1).f0) _ _ ((rd_T51 l0 x5_1).f1) ((rd_T51 l0 x5_1).f2) ((rd_T51 l1 x5_1).f0) _ _ ((rd_T51 l1 x5_1).f1) ((rd_T51 l1 x5_1).f2) true _ ?side1 ?side2 ?side3 ?side4 A7.out rfl).mono ?_
        (case side1 => repeat (first | exact (Kd.C_below HR390_1.out HB.out) | (with_reducible refine Kd.C_alloc ?_ _) | (with_reducible refine Kd.C_drewN ?_ _) | (with_reducible refine Kd.C_drew ?_)))
        (case side2 => exact HC390_1.out)
        (case side3 => repeat (first | exact (Kd.C_below HR391_1.out HB.out) | (with_reducible refine Kd.C_alloc ?_ _) | (with_reducible refine Kd.C_drewN ?_ _) | (with_reducible refine Kd.C_drew ?_)))
        (case side4 => exact HC391_1.out)
        rintro e w10 ⟨rfl,hb⟩
        refine ⟨_,rfl, ?_⟩
        have n0_ := y0.mk (y7 (by repeat (first | (with_reducible first | exact HB.out | apply y3 | apply y23 | apply y4) | exact HB.out)) hb)
        clear HB
        have HB := n0_
        clear n0_
        (try clear hb)
        (try clear hb2)
        (try clear hk)
        (try clear hi)
        refine hK.out _ _ ⟨((HB.out.cell (World.block_lt_of_cell? w _ hw390_0)).trans hw390_0),((HB.out.cell (World.block_lt_of_cell? w _ hw390_1)).trans hw390_1),((HB.out.cell (World.block_lt_of_cell? w _ hw390_2)).trans hw390_2),((HB.out.cell (World.block_lt_of_cell? w _ hw391_0)).trans hw391_0),((HB.out.cell (World.block_lt_of_cell? w _ hw391_1)).trans hw391_1),((HB.out.cell (World.block_lt_of_cell? w _ hw391_2)).trans hw391_2)⟩ (fun hHeld => ?_)
        clear hK K
        refine norm_ (a' := ?_) ?_ ?_
        rotate_left
        ·show Act.put _ (some 25) _ = _
         simp only [Act.put,qS_,qZ_,qC_,y22,y21]
         rfl
        refine pure_ (i := 9) (N := some 26) (v := ?_) (a' := ?_) (fl_ 10 1023) rfl rfl (y2 HT_.out (by kernel_rfl)) (fun _ _ _ h => h) (Or.inl ⟨by rfl, ?_⟩) ?_ ?_
        rotate_left
        ·intro w'
         go_simp
         with_reducible rfl
        rotate_left
        ·simp only [Act.put,qS_,qZ_,qC_,y22,y21]
         rfl
        refine done_ (done_of HT_.out (by kernel_rfl)) ?_
        try go_wp2
        go_roundg k1
        case measure => have := HK1.out; omega
        case rel => exact ⟨(wrap64 (x5_1 + 1)),(by first | rfl | (simp; done) | (simp [*]; done)),H',⟨by have := HK1.out; omega⟩,⟨by repeat (first | (with_reducible first | exact HB.out | apply y3 | apply y23 | apply y4) | exact HB.out)⟩⟩
       ·replace c8 := Bool.eq_false_iff.mpr c8
        subst c8
        have H1 : (some false) = some r := by rw [if_neg (show ¬ (false = true) by decide)] at H; exact H
        clear H
        have H := H1
        clear H1
        exact absurd ((Option.some.inj H).trans htrue_) (by decide)
      ·rw [if_neg c6] at H
       exact absurd H (by simp)
     ·rw [if_neg c5] at H
      exact absurd H (by simp)
    ·rw [if_neg c4] at H
     have c4b0 : decide (x5_1 < (l0.length : Int)) = false := decide_eq_false c4
     clear c4
     obtain rfl := Option.some.inj H
     go_wp2
     go_ret
     exact ⟨by first | rfl | (simp [y16,y17] <;> rfl) | (simp [*,y16,y17] <;> rfl),by repeat (first | (with_reducible first | exact HB.out | apply y3 | apply y23 | apply y4) | exact HB.out)⟩
 ·rw [if_neg c3] at H
  have c3b0 : ((l0.length : Int) == (l1.length : Int)) = false := beq_eq_false_iff_ne.mpr c3
  have c3b1 : ((l0.length : Int) != (l1.length : Int)) = true := bne_iff_ne.mpr c3
  have c3b2 : (l0.length == l1.length) = false := by first | simpa using c3 | (simp at c3 ⊢; omega)
  exact absurd ((Option.some.inj H).trans htrue_) (by decide)
def laws_eqIntS.l0 : Nat → List Int → List Int → Int → Option (Bool)
 | 0,_,_,_ => none
 | k + 1,x0,x1,x5 => if x5 < (x0.length : Int) then (if 0 ≤ x5 then (if x5 < (x1.length : Int) then (if (rd x0 x5) = (rd x1 x5) then (laws_eqIntS.l0 k x0 x1 (wrap64 (x5 + 1))) else (some false)) else (none)) else (none)) else (some true)
def laws_eqIntS.f (k : Nat) (l0 : List Int) (l1 : List Int) : Option (Bool) := if (l0.length : Int) = (l1.length : Int) then (laws_eqIntS.l0 k l0 l1 0) else (some false)
set_option maxHeartbeats 8000000 in
set_option maxRecDepth 100000 in
theorem laws_eqIntS.calls (k : Nat) (A0 : Option Addr) (c0 : Nat) (l0 : List Int) (A1 : Option Addr) (c1 : Nat) (l1 : List Int) (r : Bool) (w : World) (hr0 : Kd.C (Kd.int .i64) w A0 l0.length l0) (hc0 : l0.length ≤ c0) (hr1 : Kd.C (Kd.int .i64) w A1 l1.length l1) (hc1 : l1.length ≤ c1) (h : laws_eqIntS.f k l0 l1 = some r) (htrue_ : r = true) :
  Calls Tryz.prog 83 #[.slice A0 l0.length c0,.slice A1 l1.length c1] w fun e w' => e = .returned (.bool r) ∧ y1 w w' := by
 have HR0 := y0.mk hr0
 have HC0 := y0.mk hc0
 clear hr0 hc0
 have HR1 := y0.mk hr1
 have HC1 := y0.mk hc1
 clear hr1 hc1
 have H : (if (l0.length : Int) = (l1.length : Int) then (laws_eqIntS.l0 k l0 l1 0) else (some false)) = some r := h
 clear h
 by_cases c3 : (l0.length : Int) = (l1.length : Int)
 ·rw [if_pos c3] at H
  have c3b0 : ((l0.length : Int) == (l1.length : Int)) = true := beq_iff_eq.mpr c3
  have c3b1 : ((l0.length : Int) != (l1.length : Int)) = false := bne_eq_false_iff_eq.mpr c3
  have c3b2 : (l0.length == l1.length) = true := by first | simpa using c3 | (simp at c3 ⊢; omega)
  clear c3
  have H' := y0.mk H
  clear H
  go_enter Tryz.func83,Tryz.ntmps83
  go_wp2
  repeat (go_quiet (fail); try go_wp2)
  go_loopg [5] k (fun kq v5 w' => ∃ (x5_1 : Int),v5 = .int .i64 x5_1 ∧ y0 (laws_eqIntS.l0 kq l0 l1 x5_1 = some r) ∧ y0 (kq ≤ k) ∧ y1 w w')
  case atStart => exact ⟨(0),(by first | rfl | (simp; done) | (simp [*]; done)),H',⟨Nat.le_refl _⟩,by repeat (first | exact y1.refl _ | apply y1.step)⟩
  case round =>
   clear H'
   try clear c1
   try clear p2
   try clear c3
   try clear c3b0
   try clear c3b1
   try clear c3b2
   obtain ⟨x5_1,rfl,HA,HK1,⟨m1,rfl⟩⟩ := hrel
   cases gk with
   | zero => exact absurd HA.out (by simp [laws_eqIntS.l0])
   | succ k1 =>
    have H := HA.out
    clear HA
    simp only [laws_eqIntS.l0] at H
    by_cases c4 : x5_1 < (l0.length : Int)
    ·rw [if_pos c4] at H
     have c4b0 : decide (x5_1 < (l0.length : Int)) = true := decide_eq_true c4
     clear c4
     by_cases c5 : 0 ≤ x5_1
     ·rw [if_pos c5] at H
      have c5b0 : decide (0 ≤ x5_1) = true := decide_eq_true c5
      clear c5
      by_cases c6 : x5_1 < (l1.length : Int)
      ·rw [if_pos c6] at H
       have c6b0 : decide (x5_1 < (l1.length : Int)) = true := decide_eq_true c6
       clear c6
       by_cases c7 : (rd l0 x5_1) = (rd l1 x5_1)
       ·rw [if_pos c7] at H
        have c7b0 : ((rd l0 x5_1) == (rd l1 x5_1)) = true := beq_iff_eq.mpr c7
        have c7b1 : ((rd l0 x5_1) != (rd l1 x5_1)) = false := bne_eq_false_iff_eq.mpr c7
        clear c7
        have H' := y0.mk H
        clear H
        have p393 : 0 ≤ (x5_1 : Int) := of_decide_eq_true (by first | (with_reducible assumption) | assumption)
        have q393 : x5_1 < (l0.length : Int) := of_decide_eq_true (by first | (with_reducible assumption) | assumption)
        obtain ⟨ad393,e393,hx393_0⟩ := Kd.at_int HR0.out x5_1 p393 q393
        cases e393
        replace p393 := eq_true p393
        replace q393 := eq_true q393
        have p394 : 0 ≤ (x5_1 : Int) := of_decide_eq_true (by first | (with_reducible assumption) | assumption)
        have q394 : x5_1 < (l1.length : Int) := of_decide_eq_true (by first | (with_reducible assumption) | assumption)
        obtain ⟨ad394,e394,hx394_0⟩ := Kd.at_int HR1.out x5_1 p394 q394
        cases e394
        replace p394 := eq_true p394
        replace q394 := eq_true q394
        go_wp2
        repeat (go_quiet (fail); try go_wp2)
        go_roundg k1
        case measure => have := HK1.out; omega
        case rel => exact ⟨(wrap64 (x5_1 + 1)),(by first | rfl | (simp; done) | (simp [*]; done)),H',⟨by have := HK1.out; omega⟩,by repeat (first | exact y1.refl _ | apply y1.step)⟩
       ·rw [if_neg c7] at H
        have c7b0 : ((rd l0 x5_1) == (rd l1 x5_1)) = false := beq_eq_false_iff_ne.mpr c7
        have c7b1 : ((rd l0 x5_1) != (rd l1 x5_1)) = true := bne_iff_ne.mpr c7
        exact absurd ((Option.some.inj H).trans htrue_) (by decide)
      ·rw [if_neg c6] at H
       exact absurd H (by simp)
     ·rw [if_neg c5] at H
      exact absurd H (by simp)
    ·rw [if_neg c4] at H
     have c4b0 : decide (x5_1 < (l0.length : Int)) = false := decide_eq_false c4
     clear c4
     obtain rfl := Option.some.inj H
     go_wp2
     repeat (go_quiet (fail); try go_wp2)
     go_ret
     exact ⟨by first | rfl | (simp; done) | (simp [*]; done),by repeat (first | exact y1.refl _ | apply y1.step)⟩
 ·rw [if_neg c3] at H
  have c3b0 : ((l0.length : Int) == (l1.length : Int)) = false := beq_eq_false_iff_ne.mpr c3
  have c3b1 : ((l0.length : Int) != (l1.length : Int)) = true := bne_iff_ne.mpr c3
  have c3b2 : (l0.length == l1.length) = false := by first | simpa using c3 | (simp at c3 ⊢; omega)
  exact absurd ((Option.some.inj H).trans htrue_) (by decide)
def laws_eqExp.f (k : Nat) (a0_0 : Int) (a0_1 : ByteArray) (l0_2 : List Int) (a1_0 : Int) (a1_1 : ByteArray) (l1_2 : List Int) : Option (Bool) := if a0_0 = a1_0 then (if a0_1.toList = a1_1.toList then ((laws_eqIntS.f k l0_2 l1_2).bind fun t397 => (if t397 = true then (some true) else (some false))) else (some false)) else (some false)
set_option maxHeartbeats 8000000 in
set_option maxRecDepth 100000 in
theorem laws_eqExp.calls (k : Nat) (a0_0 : Int) (a0_1 : ByteArray) (A0_2 : Option Addr) (c0_2 : Nat) (l0_2 : List Int) (a1_0 : Int) (a1_1 : ByteArray) (A1_2 : Option Addr) (c1_2 : Nat) (l1_2 : List Int) (r : Bool) (w : World) (hr0_2 : Kd.C (Kd.int .i64) w A0_2 l0_2.length l0_2) (hc0_2 : l0_2.length ≤ c0_2) (hr1_2 : Kd.C (Kd.int .i64) w A1_2 l1_2.length l1_2) (hc1_2 : l1_2.length ≤ c1_2) (h : laws_eqExp.f k a0_0 a0_1 l0_2 a1_0 a1_1 l1_2 = some r) (htrue_ : r = true) :
  Calls Tryz.prog 82 #[.agg #[.int .i64 a0_0,.string a0_1,.slice A0_2 l0_2.length c0_2],.agg #[.int .i64 a1_0,.string a1_1,.slice A1_2 l1_2.length c1_2]] w fun e w' => e = .returned (.bool r) ∧ Below w.heap.size w w' := by
 have hu133 := Tryz.underlying133
 have HR0_2 := y0.mk hr0_2
 have HC0_2 := y0.mk hc0_2
 clear hr0_2 hc0_2
 have HR1_2 := y0.mk hr1_2
 have HC1_2 := y0.mk hc1_2
 clear hr1_2 hc1_2
 have HB := y0.mk (Below.refl w.heap.size w)
 have H : (if a0_0 = a1_0 then (if a0_1.toList = a1_1.toList then ((laws_eqIntS.f k l0_2 l1_2).bind fun t397 => (if t397 = true then (some true) else (some false))) else (some false)) else (some false)) = some r := h
 clear h
 by_cases c3 : a0_0 = a1_0
 ·rw [if_pos c3] at H
  have c3b0 : (a0_0 == a1_0) = true := beq_iff_eq.mpr c3
  have c3b1 : (a0_0 != a1_0) = false := bne_eq_false_iff_eq.mpr c3
  clear c3
  by_cases c4 : a0_1.toList = a1_1.toList
  ·rw [if_pos c4] at H
   have c4b0 : (a0_1.toList == a1_1.toList) = true := beq_iff_eq.mpr c4
   have c4b1 : (a0_1.toList != a1_1.toList) = false := bne_eq_false_iff_eq.mpr c4
   clear c4
   replace H := Option.bind_eq_some_iff.mp H
   obtain ⟨t397,A50,H⟩ := H
   replace H : (if t397 = true then (some true) else (some false)) = some r := H
   have A5 := y0.mk A50
   clear A50
   by_cases c6 : t397 = true
   ·subst c6
    have H1 : (some true) = some r := by rw [if_pos rfl] at H; exact H
    clear H
    have H := H1
    clear H1
    obtain rfl := Option.some.inj H
    go_enter Tryz.func82,Tryz.ntmps82
    go_wp2_with (first | ((with_reducible refine y19 (N := 2) rfl ?_); refine y15 ?hg (N := 2) ?hd (cs := #[.int .i64 a0_0,.string a0_1,.slice A0_2 l0_2.length c0_2]) (t := 133) ?hr ?_; (case hd => rfl); (case hg => rfl); (case hr => first | (go_simp; done) | (go_simp; rfl)); intro gb395 hg w7 hbox hb; have n0_ := y0.mk (y7 (by repeat (first | (with_reducible first | exact HB.out | apply y3 | apply y23 | apply y4) | exact HB.out)) hb); have n1_ := y0.mk (hbox); have n2_ := y0.mk ((by rw [hg]; exact (y6 (by repeat (first | (with_reducible first | exact HB.out | apply y3 | apply y23 | apply y4) | exact HB.out))) : w.heap.size ≤ gb395)); have n3_ := y0.mk ((by rw [hg]; exact (y6 (by repeat (first | (with_reducible first | exact HB.out | apply y3 | apply y23 | apply y4) | exact HB.out))) : w.heap.size ≤ gb395)); clear HB; have HB := n0_; have BK395 := n1_; have GW395 := n2_; have GE395 := n3_; clear n0_ n1_ n2_ n3_; clear hb hbox hg) | ((with_reducible refine y19 (N := 3) rfl ?_); refine y15 ?hg (N := 3) ?hd (cs := #[.int .i64 a1_0,.string a1_1,.slice A1_2 l1_2.length c1_2]) (t := 133) ?hr ?_; (case hd => rfl); (case hg => rfl); (case hr => first | (go_simp; done) | (go_simp; rfl)); intro gb396 hg w8 hbox hb; have n0_ := y0.mk (y9 (g := gb395) (o := .cells #[.int .i64 a0_0,.string a0_1,.slice A0_2 l0_2.length c0_2] 133 (0,0)) (by (with_reducible repeat (first | refine y12 ?_ _ | refine y11 ?_ | refine y8 ?_ _)); exact BK395.out) hb); have n1_ := y0.mk (y7 (by repeat (first | (with_reducible first | exact HB.out | apply y3 | apply y23 | apply y4 | refine y5 ?_ GE395.out) | exact HB.out)) hb); have n2_ := y0.mk (hbox); have n3_ := y0.mk ((by rw [hg]; exact (y6 (by repeat (first | (with_reducible first | exact HB.out | apply y3 | apply y23 | apply y4 | refine y5 ?_ GE395.out) | exact HB.out))) : w.heap.size ≤ gb396)); have n4_ := y0.mk ((by rw [hg]; exact (y6 (by repeat (first | (with_reducible first | exact HB.out | apply y3 | apply y23 | apply y4 | refine y5 ?_ GE395.out) | exact HB.out))) : w.heap.size ≤ gb396)); have n5_ := y0.mk ((by rw [hg]; exact Nat.ne_of_lt (y14 (g := gb395) (o := .cells #[.int .i64 a0_0,.string a0_1,.slice A0_2 l0_2.length c0_2] 133 (0,0)) (by (with_reducible repeat (first | refine y12 ?_ _ | refine y11 ?_ | refine y8 ?_ _)); exact BK395.out)) : gb395 ≠ gb396)); have n6_ := y0.mk ((by rw [hg]; exact Nat.ne_of_gt (y14 (g := gb395) (o := .cells #[.int .i64 a0_0,.string a0_1,.slice A0_2 l0_2.length c0_2] 133 (0,0)) (by (with_reducible repeat (first | refine y12 ?_ _ | refine y11 ?_ | refine y8 ?_ _)); exact BK395.out)) : gb396 ≠ gb395)); clear BK395; clear HB; have BK395 := n0_; have HB := n1_; have BK396 := n2_; have GW396 := n3_; have GE396 := n4_; have NB395_396 := n5_; have NB396_395 := n6_; clear n0_ n1_ n2_ n3_ n4_ n5_ n6_; clear hb hbox hg; have hnb9 := NB395_396.out; have hnc9 := NB396_395.out; have hcz10_0 : w8.cell? ⟨gb395,0,none⟩ = some (.int .i64 a0_0) := (y10 BK395.out 0).trans rfl; have hcz10_1 : w8.cell? ⟨gb395,1,none⟩ = some (.string a0_1) := (y10 BK395.out 1).trans rfl; have hcz10_2 : w8.cell? ⟨gb395,2,none⟩ = some (.slice A0_2 l0_2.length c0_2) := (y10 BK395.out 2).trans rfl; have hfz10_0 := y13 BK395.out 0; have hfz10_1 := y13 BK395.out 1; have hfz10_2 := y13 BK395.out 2; have hcz11_0 : w8.cell? ⟨gb396,0,none⟩ = some (.int .i64 a1_0) := (y10 BK396.out 0).trans rfl; have hcz11_1 : w8.cell? ⟨gb396,1,none⟩ = some (.string a1_1) := (y10 BK396.out 1).trans rfl; have hcz11_2 : w8.cell? ⟨gb396,2,none⟩ = some (.slice A1_2 l1_2.length c1_2) := (y10 BK396.out 2).trans rfl; have hfz11_0 := y13 BK396.out 0; have hfz11_1 := y13 BK396.out 1; have hfz11_2 := y13 BK396.out 2) | ((with_reducible refine y18 (f := 83) rfl ?_); refine y20 (some 19) rfl rfl Tryz.func83 (by kernel_rfl) rfl #[.slice A0_2 l0_2.length c0_2,.slice A1_2 l1_2.length c1_2] rfl (by (try simp only [qM_,List.map_cons,List.map_nil]); first | done | rfl | (simp only [qD_,qT_]; rfl)) ?_; (with_reducible refine (laws_eqIntS.calls k _ _ l0_2 _ _ l1_2 true _ ?side1 ?side2 ?side3 ?side4 A5.out rfl).mono ?_); (case side1 => repeat (first | exact (Kd.C_below HR0_2.out HB.out) | (with_reducible refine Kd.C_alloc ?_ _) | (with_reducible refine Kd.C_drewN ?_ _) | (with_reducible refine Kd.C_drew ?_))); (case side2 => exact HC0_2.out); (case side3 => repeat (first | exact (Kd.C_below HR1_2.out HB.out) | (with_reducible refine Kd.C_alloc ?_ _) | (with_reducible refine Kd.C_drewN ?_ _) | (with_reducible refine Kd.C_drew ?_))); (case side4 => exact HC1_2.out); rintro e w' ⟨rfl,⟨nd,rfl⟩⟩; refine ⟨_,rfl, ?_⟩))
    go_ret
    exact ⟨by first | rfl | (simp [y16,y17] <;> rfl) | (simp [*,y16,y17] <;> rfl),by repeat (first | (with_reducible first | exact HB.out | apply y3 | apply y23 | apply y4 | refine y5 ?_ GE395.out | refine y5 ?_ GE396.out) | exact HB.out)⟩
   ·replace c6 := Bool.eq_false_iff.mpr c6
    subst c6
    have H1 : (some false) = some r := by rw [if_neg (show ¬ (false = true) by decide)] at H; exact H
    clear H
    have H := H1
    clear H1
    exact absurd ((Option.some.inj H).trans htrue_) (by decide)
  ·rw [if_neg c4] at H
   have c4b0 : (a0_1.toList == a1_1.toList) = false := beq_eq_false_iff_ne.mpr c4
   have c4b1 : (a0_1.toList != a1_1.toList) = true := bne_iff_ne.mpr c4
   exact absurd ((Option.some.inj H).trans htrue_) (by decide)
 ·rw [if_neg c3] at H
  have c3b0 : (a0_0 == a1_0) = false := beq_eq_false_iff_ne.mpr c3
  have c3b1 : (a0_0 != a1_0) = true := bne_iff_ne.mpr c3
  exact absurd ((Option.some.inj H).trans htrue_) (by decide)
end Go.Proofs.YtamjmldfifofbaaGreatDoor.Pf
end
section
namespace Go.Proofs.YtamjmldfifofbaaGreatDoor.Pf
open Go.RowKit Go.Proofs.YtamjmldfifofbaaGreatDoorW.PrintWords Go.Proofs.YtamjmldfifofbaaGreatDoorW.PrintLast Go.Proofs.YtamjmldfifofbaaGreatDoorW.PrintMore
attribute [local go_sem] max2_int min2_int max_two min_two max_three min_three max_four min_four   -- for this text's walks alone
set_option linter.unusedVariables false
set_option linter.unusedSimpArgs false
def laws_eqExpS.l0 : Nat → List (S133) → List (S133) → Int → Option (Bool)
 | 0,_,_,_ => none
 | k + 1,x0,x1,x5 => if x5 < (x0.length : Int) then (if 0 ≤ x5 then (if x5 < (x1.length : Int) then ((laws_eqExp.f k ((rd_T133 x0 x5).f0) ((rd_T133 x0 x5).f1) ((rd_T133 x0 x5).f2) ((rd_T133 x1 x5).f0) ((rd_T133 x1 x5).f1) ((rd_T133 x1 x5).f2)).bind fun t400 => (if t400 = true then (laws_eqExpS.l0 k x0 x1 (wrap64 (x5 + 1))) else (some false))) else (none)) else (none)) else (some true)
def laws_eqExpS.f (k : Nat) (l0 : List (S133)) (l1 : List (S133)) : Option (Bool) := if (l0.length : Int) = (l1.length : Int) then (laws_eqExpS.l0 k l0 l1 0) else (some false)
def laws_eqExpS.T6 : Bool × List (List Nat × List Nat) := (true,[([],[]),([],[]),([0,1],[0,1]),([2],[2]),([],[]),([],[]),([4,5],[4,5]),([6],[6]),([3,7],[3,7]),([8],[8])])
def laws_eqExpS.B6 : List Nat := [0,0,3,7,0,0,48,112,255,511]
theorem laws_eqExpS.tab6 : rtab .any (opsOf Tryz.f60 6) = laws_eqExpS.T6 := by kernel_rfl
theorem laws_eqExpS.bits6 : waitsOk laws_eqExpS.T6.2 laws_eqExpS.B6 = true := by kernel_rfl
set_option maxHeartbeats 8000000 in
set_option maxRecDepth 100000 in
theorem laws_eqExpS.calls (k : Nat) (A0 : Option Addr) (c0 : Nat) (l0 : List (S133)) (A1 : Option Addr) (c1 : Nat) (l1 : List (S133)) (r : Bool) (w : World) (hr0 : Kd.C k133 w A0 l0.length l0) (hc0 : l0.length ≤ c0) (hr1 : Kd.C k133 w A1 l1.length l1) (hc1 : l1.length ≤ c1) (h : laws_eqExpS.f k l0 l1 = some r) (htrue_ : r = true) :
  Calls Tryz.prog 60 #[.slice A0 l0.length c0,.slice A1 l1.length c1] w fun e w' => e = .returned (.bool r) ∧ Below w.heap.size w w' := by
 have hu133 := Tryz.underlying133
 have HR0 := y0.mk hr0
 have HC0 := y0.mk hc0
 clear hr0 hc0
 have HR1 := y0.mk hr1
 have HC1 := y0.mk hc1
 clear hr1 hc1
 have HB := y0.mk (Below.refl w.heap.size w)
 have H : (if (l0.length : Int) = (l1.length : Int) then (laws_eqExpS.l0 k l0 l1 0) else (some false)) = some r := h
 clear h
 by_cases c3 : (l0.length : Int) = (l1.length : Int)
 ·rw [if_pos c3] at H
  have c3b0 : ((l0.length : Int) == (l1.length : Int)) = true := beq_iff_eq.mpr c3
  have c3b1 : ((l0.length : Int) != (l1.length : Int)) = false := bne_eq_false_iff_eq.mpr c3
  have c3b2 : (l0.length == l1.length) = true := by first | simpa using c3 | (simp at c3 ⊢; omega)
  clear c3
  have H' := y0.mk H
  clear H
  go_enter Tryz.func60,Tryz.ntmps60
  go_wp2
  go_loopg [5] k (fun kq v5 w' => ∃ (x5_1 : Int),v5 = .int .i64 x5_1 ∧ y0 (laws_eqExpS.l0 kq l0 l1 x5_1 = some r) ∧ y0 (kq ≤ k) ∧ y0 (Below w.heap.size w w'))
  case atStart => exact ⟨(0),(by first | rfl | (simp; done) | (simp [*]; done)),H',⟨Nat.le_refl _⟩,⟨by repeat (first | (with_reducible first | exact HB.out | apply y3 | apply y23 | apply y4) | exact HB.out)⟩⟩
  case round =>
   clear H'
   try clear c1
   try clear p2
   try clear c3
   try clear c3b0
   try clear c3b1
   try clear c3b2
   obtain ⟨x5_1,rfl,HA,HK1,HB⟩ := hrel
   cases gk with
   | zero => exact absurd HA.out (by simp [laws_eqExpS.l0])
   | succ k1 =>
    have H := HA.out
    clear HA
    simp only [laws_eqExpS.l0] at H
    by_cases c4 : x5_1 < (l0.length : Int)
    ·rw [if_pos c4] at H
     have c4b0 : decide (x5_1 < (l0.length : Int)) = true := decide_eq_true c4
     clear c4
     by_cases c5 : 0 ≤ x5_1
     ·rw [if_pos c5] at H
      have c5b0 : decide (0 ≤ x5_1) = true := decide_eq_true c5
      clear c5
      by_cases c6 : x5_1 < (l1.length : Int)
      ·rw [if_pos c6] at H
       have c6b0 : decide (x5_1 < (l1.length : Int)) = true := decide_eq_true c6
       clear c6
       replace H := Option.bind_eq_some_iff.mp H
       obtain ⟨t400,A70,H⟩ := H
       replace H : (if t400 = true then (laws_eqExpS.l0 k1 l0 l1 (wrap64 (x5_1 + 1))) else (some false)) = some r := H
       have A7 := y0.mk A70
       clear A70
       by_cases c8 : t400 = true
       ·subst c8
        have H1 : (laws_eqExpS.l0 k1 l0 l1 (wrap64 (x5_1 + 1))) = some r := by rw [if_pos rfl] at H; exact H
        clear H
        have H := H1
        clear H1
        have H' := y0.mk H
        clear H
        try go_wp2
        have n0_ := y0.mk (y4 HB.out)
        clear HB
        have HB := n0_
        clear n0_
        have p398 : 0 ≤ (x5_1 : Int) := of_decide_eq_true (by first | (with_reducible assumption) | assumption)
        have q398 : x5_1 < (l0.length : Int) := of_decide_eq_true (by first | (with_reducible assumption) | assumption)
        obtain ⟨ad398,A398_2,c398_2,e398,hx398_0,hx398_1,hx398_2,hl398_2,hi398_2⟩ := at_T133 HR0.out x5_1 p398 q398
        have hw398_2 := hx398_2
        have hw398_1 := hx398_1
        have hw398_0 := hx398_0
        cases e398
        replace hx398_0 := (HB.out.cell (World.block_lt_of_cell? w _ hx398_0)).trans hx398_0
        replace hx398_1 := (HB.out.cell (World.block_lt_of_cell? w _ hx398_1)).trans hx398_1
        replace hx398_2 := (HB.out.cell (World.block_lt_of_cell? w _ hx398_2)).trans hx398_2
        have HR398_2 := y0.mk hi398_2
        have HC398_2 := y0.mk hl398_2
        clear hi398_2 hl398_2
        replace p398 := eq_true p398
        replace q398 := eq_true q398
        have p399 : 0 ≤ (x5_1 : Int) := of_decide_eq_true (by first | (with_reducible assumption) | assumption)
        have q399 : x5_1 < (l1.length : Int) := of_decide_eq_true (by first | (with_reducible assumption) | assumption)
        obtain ⟨ad399,A399_2,c399_2,e399,hx399_0,hx399_1,hx399_2,hl399_2,hi399_2⟩ := at_T133 HR1.out x5_1 p399 q399
        have hw399_2 := hx399_2
        have hw399_1 := hx399_1
        have hw399_0 := hx399_0
        cases e399
        replace hx399_0 := (HB.out.cell (World.block_lt_of_cell? w _ hx399_0)).trans hx399_0
        replace hx399_1 := (HB.out.cell (World.block_lt_of_cell? w _ hx399_1)).trans hx399_1
        replace hx399_2 := (HB.out.cell (World.block_lt_of_cell? w _ hx399_2)).trans hx399_2
        have HR399_2 := y0.mk hi399_2
        have HC399_2 := y0.mk hl399_2
        clear hi399_2 hl399_2
        replace p399 := eq_true p399
        replace q399 := eq_true q399
        refine start_ (n := 10) (S := fun w' => w'.cell? (ad398.add ((x5_1).toNat * 3)) = some (.int .i64 ((rd_T133 l0 x5_1).f0)) ∧ w'.cell? ⟨(ad398.add ((x5_1).toNat * 3)).block,(ad398.add ((x5_1).toNat * 3)).off + 1,none⟩ = some (.string ((rd_T133 l0 x5_1).f1)) ∧ w'.cell? ⟨(ad398.add ((x5_1).toNat * 3)).block,(ad398.add ((x5_1).toNat * 3)).off + 2,none⟩ = some (.slice A398_2 ((rd_T133 l0 x5_1).f2).length c398_2) ∧ w'.cell? (ad399.add ((x5_1).toNat * 3)) = some (.int .i64 ((rd_T133 l1 x5_1).f0)) ∧ w'.cell? ⟨(ad399.add ((x5_1).toNat * 3)).block,(ad399.add ((x5_1).toNat * 3)).off + 1,none⟩ = some (.string ((rd_T133 l1 x5_1).f1)) ∧ w'.cell? ⟨(ad399.add ((x5_1).toNat * 3)).block,(ad399.add ((x5_1).toNat * 3)).off + 2,none⟩ = some (.slice A399_2 ((rd_T133 l1 x5_1).f2).length c399_2)) (ds := []) (fl_ 10 0) (by kernel_rfl) rfl rfl ⟨((HB.out.cell (World.block_lt_of_cell? w _ hw398_0)).trans hw398_0),((HB.out.cell (World.block_lt_of_cell? w _ hw398_1)).trans hw398_1),((HB.out.cell (World.block_lt_of_cell? w _ hw398_2)).trans hw398_2),((HB.out.cell (World.block_lt_of_cell? w _ hw399_0)).trans hw399_0),((HB.out.cell (World.block_lt_of_cell? w _ hw399_1)).trans hw399_1),((HB.out.cell (World.block_lt_of_cell? w _ hw399_2)).trans hw399_2)⟩ (fun hHeld => ?_); refine with_tabW laws_eqExpS.tab6 laws_eqExpS.bits6 (fun HT_ HW_ => ?_)
        generalize wr.drew = w9 at HB HR398_2 HR399_2 hx398_0 hx398_1 hx398_2 hx399_0 hx399_1 hx399_2 hHeld ⊢
        refine pure_ (i := 0) (N := some 17) (v := ?_) (a' := ?_) (fl_ 10 1) rfl rfl (y2 HT_.out (by kernel_rfl)) (fun _ _ _ h => h) (Or.inl ⟨by rfl, ?_⟩) ?_ ?_
        rotate_left
        ·intro w'
         go_simp
         with_reducible rfl
        rotate_left
        ·simp only [Act.put,qS_,qZ_,qC_,y22,y21]
         rfl
        refine pure_ (i := 1) (N := some 18) (v := ?_) (a' := ?_) (fl_ 10 3) rfl rfl (y2 HT_.out (by kernel_rfl)) (fun _ _ _ h => h) (Or.inl ⟨by rfl, ?_⟩) ?_ ?_
        rotate_left
        ·intro w'
         go_simp
         with_reducible rfl
        rotate_left
        ·simp only [Act.put,qS_,qZ_,qC_,y22,y21]
         rfl
        refine pure_ (i := 2) (N := some 19) (v := ?_) (a' := ?_) (fl_ 10 7) rfl rfl (y2 HT_.out (by kernel_rfl)) (fun _ _ _ h => h) (Or.inl ⟨by rfl, ?_⟩) ?_ ?_
        rotate_left
        ·intro w'
         go_simp
         with_reducible rfl
        rotate_left
        ·simp only [Act.put,qS_,qZ_,qC_,y22,y21]
         rfl
        refine pure_ (i := 4) (N := some 21) (v := ?_) (a' := ?_) (fl_ 10 23) rfl rfl (y2 HT_.out (by kernel_rfl)) (fun _ _ _ h => h) (Or.inl ⟨by rfl, ?_⟩) ?_ ?_
        rotate_left
        ·intro w'
         go_simp
         with_reducible rfl
        rotate_left
        ·simp only [Act.put,qS_,qZ_,qC_,y22,y21]
         rfl
        refine pure_ (i := 5) (N := some 22) (v := ?_) (a' := ?_) (fl_ 10 55) rfl rfl (y2 HT_.out (by kernel_rfl)) (fun _ _ _ h => h) (Or.inl ⟨by rfl, ?_⟩) ?_ ?_
        rotate_left
        ·intro w'
         go_simp
         with_reducible rfl
        rotate_left
        ·simp only [Act.put,qS_,qZ_,qC_,y22,y21]
         rfl
        refine pure_ (i := 6) (N := some 23) (v := ?_) (a' := ?_) (fl_ 10 119) rfl rfl (y2 HT_.out (by kernel_rfl)) (fun _ _ _ h => h) (Or.inl ⟨by rfl, ?_⟩) ?_ ?_
        rotate_left
        ·intro w'
         go_simp
         with_reducible rfl
        rotate_left
        ·simp only [Act.put,qS_,qZ_,qC_,y22,y21]
         rfl
        refine take_ (i := 3) (N := some 20) (v := ?_) (a' := ?_) (fl_ 10 127) rfl rfl (take_ofW HT_.out HW_.out (by kernel_rfl)) (fun _ _ _ h => h) (Or.inl ⟨by rfl, ?_⟩) hHeld ?_ ?_
        rotate_left
        ·rintro w' ⟨s0,s1,s2,s3,s4,s5⟩
         go_simp
         with_reducible rfl
        rotate_left
        ·simp only [Act.put,qS_,qZ_,qC_,y22,y21]
         rfl
        refine take_ (i := 7) (N := some 24) (v := ?_) (a' := ?_) (fl_ 10 255) rfl rfl (take_ofW HT_.out HW_.out (by kernel_rfl)) (fun _ _ _ h => h) (Or.inl ⟨by rfl, ?_⟩) hHeld ?_ ?_
        rotate_left
        ·rintro w' ⟨s0,s1,s2,s3,s4,s5⟩
         go_simp
         with_reducible rfl
        rotate_left
        ·simp only [Act.put,qS_,qZ_,qC_,y22,y21]
         rfl
        refine one_ (i := 8) (N := some 25) (fl_ 10 511) rfl rfl (one_of HT_.out (by kernel_rfl)) (by decide) (fun K hK => ?_)
        refine goes_ Tryz.func82 (by kernel_rfl) rfl #[.agg #[.int .i64 ((rd_T133 l0 x5_1).f0),.string ((rd_T133 l0 x5_1).f1),.slice A398_2 ((rd_T133 l0 x5_1).f2).length c398_2],.agg #[.int .i64 ((rd_T133 l1 x5_1).f0),.string ((rd_T133 l1 x5_1).f1),.slice A399_2 ((rd_T133 l1 x5_1).f2).length c399_2]] (by rfl) rfl rfl (by (try simp only [qM_,List.map_cons,List.map_nil]); first | done | rfl | (simp only [qD_,qT_]; rfl)) ?_
        with_reducible refine (laws_eqExp.calls k1 ((rd_T133 l0 x5_1).f0) ((rd_T133 l0 x5_1).f1) _ _ ((rd_T133 l0 x5_1).f2) ((rd_T133 l1 x5_1).f0) ((rd_T133 l1 x5_1).f1) _ _ ((rd_T133 l1 x5_1).f2) true _ ?side1 ?side2 ?side3 ?side4 A7.out rfl).mono ?_
        (case side1 => repeat (first | exact (Kd.C_below HR398_2.out HB.out) | (with_reducible refine Kd.C_alloc ?_ _) | (with_reducible refine Kd.C_drewN ?_ _) | (with_reducible refine Kd.C_drew ?_)))
        (case side2 => exact HC398_2.out)
        (case side3 => repeat (first | exact (Kd.C_below HR399_2.out HB.out) | (with_reducible refine Kd.C_alloc ?_ _) | (with_reducible refine Kd.C_drewN ?_ _) | (with_reducible refine Kd.C_drew ?_)))
        (case side4 => exact HC399_2.out)
        rintro e w10 ⟨rfl,hb⟩
        refine ⟨_,rfl, ?_⟩
        have n0_ := y0.mk (y7 (by repeat (first | (with_reducible first | exact HB.out | apply y3 | apply y23 | apply y4) | exact HB.out)) hb)
        clear HB
        have HB := n0_
        clear n0_
        (try clear hb)
        (try clear hb2)
        (try clear hk)
        (try clear hi)
        refine hK.out _ _ ⟨((HB.out.cell (World.block_lt_of_cell? w _ hw398_0)).trans hw398_0),((HB.out.cell (World.block_lt_of_cell? w _ hw398_1)).trans hw398_1),((HB.out.cell (World.block_lt_of_cell? w _ hw398_2)).trans hw398_2),((HB.out.cell (World.block_lt_of_cell? w _ hw399_0)).trans hw399_0),((HB.out.cell (World.block_lt_of_cell? w _ hw399_1)).trans hw399_1),((HB.out.cell (World.block_lt_of_cell? w _ hw399_2)).trans hw399_2)⟩ (fun hHeld => ?_)
        clear hK K
        refine norm_ (a' := ?_) ?_ ?_
        rotate_left
        ·show Act.put _ (some 25) _ = _
         simp only [Act.put,qS_,qZ_,qC_,y22,y21]
         rfl
        refine pure_ (i := 9) (N := some 26) (v := ?_) (a' := ?_) (fl_ 10 1023) rfl rfl (y2 HT_.out (by kernel_rfl)) (fun _ _ _ h => h) (Or.inl ⟨by rfl, ?_⟩) ?_ ?_
        rotate_left
        ·intro w'
         go_simp
         with_reducible rfl
        rotate_left
        ·simp only [Act.put,qS_,qZ_,qC_,y22,y21]
         rfl
        refine done_ (done_of HT_.out (by kernel_rfl)) ?_
        try go_wp2
        go_roundg k1
        case measure => have := HK1.out; omega
        case rel => exact ⟨(wrap64 (x5_1 + 1)),(by first | rfl | (simp; done) | (simp [*]; done)),H',⟨by have := HK1.out; omega⟩,⟨by repeat (first | (with_reducible first | exact HB.out | apply y3 | apply y23 | apply y4) | exact HB.out)⟩⟩
       ·replace c8 := Bool.eq_false_iff.mpr c8
        subst c8
        have H1 : (some false) = some r := by rw [if_neg (show ¬ (false = true) by decide)] at H; exact H
        clear H
        have H := H1
        clear H1
        exact absurd ((Option.some.inj H).trans htrue_) (by decide)
      ·rw [if_neg c6] at H
       exact absurd H (by simp)
     ·rw [if_neg c5] at H
      exact absurd H (by simp)
    ·rw [if_neg c4] at H
     have c4b0 : decide (x5_1 < (l0.length : Int)) = false := decide_eq_false c4
     clear c4
     obtain rfl := Option.some.inj H
     go_wp2
     go_ret
     exact ⟨by first | rfl | (simp [y16,y17] <;> rfl) | (simp [*,y16,y17] <;> rfl),by repeat (first | (with_reducible first | exact HB.out | apply y3 | apply y23 | apply y4) | exact HB.out)⟩
 ·rw [if_neg c3] at H
  have c3b0 : ((l0.length : Int) == (l1.length : Int)) = false := beq_eq_false_iff_ne.mpr c3
  have c3b1 : ((l0.length : Int) != (l1.length : Int)) = true := bne_iff_ne.mpr c3
  have c3b2 : (l0.length == l1.length) = false := by first | simpa using c3 | (simp at c3 ⊢; omega)
  exact absurd ((Option.some.inj H).trans htrue_) (by decide)
def laws_eqLit.f (k : Nat) (a0_0 : Int) (a0_1 : ByteArray) (l0_2 : List Int) (a1_0 : Int) (a1_1 : ByteArray) (l1_2 : List Int) : Option (Bool) := if a0_0 = a1_0 then (if a0_1.toList = a1_1.toList then ((laws_eqIntS.f k l0_2 l1_2).bind fun t403 => (if t403 = true then (some true) else (some false))) else (some false)) else (some false)
set_option maxHeartbeats 8000000 in
set_option maxRecDepth 100000 in
theorem laws_eqLit.calls (k : Nat) (a0_0 : Int) (a0_1 : ByteArray) (A0_2 : Option Addr) (c0_2 : Nat) (l0_2 : List Int) (a1_0 : Int) (a1_1 : ByteArray) (A1_2 : Option Addr) (c1_2 : Nat) (l1_2 : List Int) (r : Bool) (w : World) (hr0_2 : Kd.C (Kd.int .i64) w A0_2 l0_2.length l0_2) (hc0_2 : l0_2.length ≤ c0_2) (hr1_2 : Kd.C (Kd.int .i64) w A1_2 l1_2.length l1_2) (hc1_2 : l1_2.length ≤ c1_2) (h : laws_eqLit.f k a0_0 a0_1 l0_2 a1_0 a1_1 l1_2 = some r) (htrue_ : r = true) :
  Calls Tryz.prog 61 #[.agg #[.int .i64 a0_0,.string a0_1,.slice A0_2 l0_2.length c0_2],.agg #[.int .i64 a1_0,.string a1_1,.slice A1_2 l1_2.length c1_2]] w fun e w' => e = .returned (.bool r) ∧ Below w.heap.size w w' := by
 have hu81 := Tryz.underlying81
 have HR0_2 := y0.mk hr0_2
 have HC0_2 := y0.mk hc0_2
 clear hr0_2 hc0_2
 have HR1_2 := y0.mk hr1_2
 have HC1_2 := y0.mk hc1_2
 clear hr1_2 hc1_2
 have HB := y0.mk (Below.refl w.heap.size w)
 have H : (if a0_0 = a1_0 then (if a0_1.toList = a1_1.toList then ((laws_eqIntS.f k l0_2 l1_2).bind fun t403 => (if t403 = true then (some true) else (some false))) else (some false)) else (some false)) = some r := h
 clear h
 by_cases c3 : a0_0 = a1_0
 ·rw [if_pos c3] at H
  have c3b0 : (a0_0 == a1_0) = true := beq_iff_eq.mpr c3
  have c3b1 : (a0_0 != a1_0) = false := bne_eq_false_iff_eq.mpr c3
  clear c3
  by_cases c4 : a0_1.toList = a1_1.toList
  ·rw [if_pos c4] at H
   have c4b0 : (a0_1.toList == a1_1.toList) = true := beq_iff_eq.mpr c4
   have c4b1 : (a0_1.toList != a1_1.toList) = false := bne_eq_false_iff_eq.mpr c4
   clear c4
   replace H := Option.bind_eq_some_iff.mp H
   obtain ⟨t403,A50,H⟩ := H
   replace H : (if t403 = true then (some true) else (some false)) = some r := H
   have A5 := y0.mk A50
   clear A50
   by_cases c6 : t403 = true
   ·subst c6
    have H1 : (some true) = some r := by rw [if_pos rfl] at H; exact H
    clear H
    have H := H1
    clear H1
    obtain rfl := Option.some.inj H
    go_enter Tryz.func61,Tryz.ntmps61
    go_wp2_with (first | ((with_reducible refine y19 (N := 2) rfl ?_); refine y15 ?hg (N := 2) ?hd (cs := #[.int .i64 a0_0,.string a0_1,.slice A0_2 l0_2.length c0_2]) (t := 81) ?hr ?_; (case hd => rfl); (case hg => rfl); (case hr => first | (go_simp; done) | (go_simp; rfl)); intro gb401 hg w7 hbox hb; have n0_ := y0.mk (y7 (by repeat (first | (with_reducible first | exact HB.out | apply y3 | apply y23 | apply y4) | exact HB.out)) hb); have n1_ := y0.mk (hbox); have n2_ := y0.mk ((by rw [hg]; exact (y6 (by repeat (first | (with_reducible first | exact HB.out | apply y3 | apply y23 | apply y4) | exact HB.out))) : w.heap.size ≤ gb401)); have n3_ := y0.mk ((by rw [hg]; exact (y6 (by repeat (first | (with_reducible first | exact HB.out | apply y3 | apply y23 | apply y4) | exact HB.out))) : w.heap.size ≤ gb401)); clear HB; have HB := n0_; have BK401 := n1_; have GW401 := n2_; have GE401 := n3_; clear n0_ n1_ n2_ n3_; clear hb hbox hg) | ((with_reducible refine y19 (N := 3) rfl ?_); refine y15 ?hg (N := 3) ?hd (cs := #[.int .i64 a1_0,.string a1_1,.slice A1_2 l1_2.length c1_2]) (t := 81) ?hr ?_; (case hd => rfl); (case hg => rfl); (case hr => first | (go_simp; done) | (go_simp; rfl)); intro gb402 hg w8 hbox hb; have n0_ := y0.mk (y9 (g := gb401) (o := .cells #[.int .i64 a0_0,.string a0_1,.slice A0_2 l0_2.length c0_2] 81 (0,0)) (by (with_reducible repeat (first | refine y12 ?_ _ | refine y11 ?_ | refine y8 ?_ _)); exact BK401.out) hb); have n1_ := y0.mk (y7 (by repeat (first | (with_reducible first | exact HB.out | apply y3 | apply y23 | apply y4 | refine y5 ?_ GE401.out) | exact HB.out)) hb); have n2_ := y0.mk (hbox); have n3_ := y0.mk ((by rw [hg]; exact (y6 (by repeat (first | (with_reducible first | exact HB.out | apply y3 | apply y23 | apply y4 | refine y5 ?_ GE401.out) | exact HB.out))) : w.heap.size ≤ gb402)); have n4_ := y0.mk ((by rw [hg]; exact (y6 (by repeat (first | (with_reducible first | exact HB.out | apply y3 | apply y23 | apply y4 | refine y5 ?_ GE401.out) | exact HB.out))) : w.heap.size ≤ gb402)); have n5_ := y0.mk ((by rw [hg]; exact Nat.ne_of_lt (y14 (g := gb401) (o := .cells #[.int .i64 a0_0,.string a0_1,.slice A0_2 l0_2.length c0_2] 81 (0,0)) (by (with_reducible repeat (first | refine y12 ?_ _ | refine y11 ?_ | refine y8 ?_ _)); exact BK401.out)) : gb401 ≠ gb402)); have n6_ := y0.mk ((by rw [hg]; exact Nat.ne_of_gt (y14 (g := gb401) (o := .cells #[.int .i64 a0_0,.string a0_1,.slice A0_2 l0_2.length c0_2] 81 (0,0)) (by (with_reducible repeat (first | refine y12 ?_ _ | refine y11 ?_ | refine y8 ?_ _)); exact BK401.out)) : gb402 ≠ gb401)); clear BK401; clear HB; have BK401 := n0_; have HB := n1_; have BK402 := n2_; have GW402 := n3_; have GE402 := n4_; have NB401_402 := n5_; have NB402_401 := n6_; clear n0_ n1_ n2_ n3_ n4_ n5_ n6_; clear hb hbox hg; have hnb9 := NB401_402.out; have hnc9 := NB402_401.out; have hcz10_0 : w8.cell? ⟨gb401,0,none⟩ = some (.int .i64 a0_0) := (y10 BK401.out 0).trans rfl; have hcz10_1 : w8.cell? ⟨gb401,1,none⟩ = some (.string a0_1) := (y10 BK401.out 1).trans rfl; have hcz10_2 : w8.cell? ⟨gb401,2,none⟩ = some (.slice A0_2 l0_2.length c0_2) := (y10 BK401.out 2).trans rfl; have hfz10_0 := y13 BK401.out 0; have hfz10_1 := y13 BK401.out 1; have hfz10_2 := y13 BK401.out 2; have hcz11_0 : w8.cell? ⟨gb402,0,none⟩ = some (.int .i64 a1_0) := (y10 BK402.out 0).trans rfl; have hcz11_1 : w8.cell? ⟨gb402,1,none⟩ = some (.string a1_1) := (y10 BK402.out 1).trans rfl; have hcz11_2 : w8.cell? ⟨gb402,2,none⟩ = some (.slice A1_2 l1_2.length c1_2) := (y10 BK402.out 2).trans rfl; have hfz11_0 := y13 BK402.out 0; have hfz11_1 := y13 BK402.out 1; have hfz11_2 := y13 BK402.out 2) | ((with_reducible refine y18 (f := 83) rfl ?_); refine y20 (some 19) rfl rfl Tryz.func83 (by kernel_rfl) rfl #[.slice A0_2 l0_2.length c0_2,.slice A1_2 l1_2.length c1_2] rfl (by (try simp only [qM_,List.map_cons,List.map_nil]); first | done | rfl | (simp only [qD_,qT_]; rfl)) ?_; (with_reducible refine (laws_eqIntS.calls k _ _ l0_2 _ _ l1_2 true _ ?side1 ?side2 ?side3 ?side4 A5.out rfl).mono ?_); (case side1 => repeat (first | exact (Kd.C_below HR0_2.out HB.out) | (with_reducible refine Kd.C_alloc ?_ _) | (with_reducible refine Kd.C_drewN ?_ _) | (with_reducible refine Kd.C_drew ?_))); (case side2 => exact HC0_2.out); (case side3 => repeat (first | exact (Kd.C_below HR1_2.out HB.out) | (with_reducible refine Kd.C_alloc ?_ _) | (with_reducible refine Kd.C_drewN ?_ _) | (with_reducible refine Kd.C_drew ?_))); (case side4 => exact HC1_2.out); rintro e w' ⟨rfl,⟨nd,rfl⟩⟩; refine ⟨_,rfl, ?_⟩))
    go_ret
    exact ⟨by first | rfl | (simp [y16,y17] <;> rfl) | (simp [*,y16,y17] <;> rfl),by repeat (first | (with_reducible first | exact HB.out | apply y3 | apply y23 | apply y4 | refine y5 ?_ GE401.out | refine y5 ?_ GE402.out) | exact HB.out)⟩
   ·replace c6 := Bool.eq_false_iff.mpr c6
    subst c6
    have H1 : (some false) = some r := by rw [if_neg (show ¬ (false = true) by decide)] at H; exact H
    clear H
    have H := H1
    clear H1
    exact absurd ((Option.some.inj H).trans htrue_) (by decide)
  ·rw [if_neg c4] at H
   have c4b0 : (a0_1.toList == a1_1.toList) = false := beq_eq_false_iff_ne.mpr c4
   have c4b1 : (a0_1.toList != a1_1.toList) = true := bne_iff_ne.mpr c4
   exact absurd ((Option.some.inj H).trans htrue_) (by decide)
 ·rw [if_neg c3] at H
  have c3b0 : (a0_0 == a1_0) = false := beq_eq_false_iff_ne.mpr c3
  have c3b1 : (a0_0 != a1_0) = true := bne_iff_ne.mpr c3
  exact absurd ((Option.some.inj H).trans htrue_) (by decide)
end Go.Proofs.YtamjmldfifofbaaGreatDoor.Pf
end
section
namespace Go.Proofs.YtamjmldfifofbaaGreatDoor.Pf
open Go.RowKit Go.Proofs.YtamjmldfifofbaaGreatDoorW.PrintWords Go.Proofs.YtamjmldfifofbaaGreatDoorW.PrintLast Go.Proofs.YtamjmldfifofbaaGreatDoorW.PrintMore
attribute [local go_sem] max2_int min2_int max_two min_two max_three min_three max_four min_four   -- for this text's walks alone
set_option linter.unusedVariables false
set_option linter.unusedSimpArgs false
def laws_eqLitS.l0 : Nat → List (S81) → List (S81) → Int → Option (Bool)
 | 0,_,_,_ => none
 | k + 1,x0,x1,x5 => if x5 < (x0.length : Int) then (if 0 ≤ x5 then (if x5 < (x1.length : Int) then ((laws_eqLit.f k ((rd_T81 x0 x5).f0) ((rd_T81 x0 x5).f1) ((rd_T81 x0 x5).f2) ((rd_T81 x1 x5).f0) ((rd_T81 x1 x5).f1) ((rd_T81 x1 x5).f2)).bind fun t406 => (if t406 = true then (laws_eqLitS.l0 k x0 x1 (wrap64 (x5 + 1))) else (some false))) else (none)) else (none)) else (some true)
def laws_eqLitS.f (k : Nat) (l0 : List (S81)) (l1 : List (S81)) : Option (Bool) := if (l0.length : Int) = (l1.length : Int) then (laws_eqLitS.l0 k l0 l1 0) else (some false)
def laws_eqLitS.T6 : Bool × List (List Nat × List Nat) := (true,[([],[]),([],[]),([0,1],[0,1]),([2],[2]),([],[]),([],[]),([4,5],[4,5]),([6],[6]),([3,7],[3,7]),([8],[8])])
def laws_eqLitS.B6 : List Nat := [0,0,3,7,0,0,48,112,255,511]
theorem laws_eqLitS.tab6 : rtab .any (opsOf Tryz.f62 6) = laws_eqLitS.T6 := by kernel_rfl
theorem laws_eqLitS.bits6 : waitsOk laws_eqLitS.T6.2 laws_eqLitS.B6 = true := by kernel_rfl
set_option maxHeartbeats 8000000 in
set_option maxRecDepth 100000 in
theorem laws_eqLitS.calls (k : Nat) (A0 : Option Addr) (c0 : Nat) (l0 : List (S81)) (A1 : Option Addr) (c1 : Nat) (l1 : List (S81)) (r : Bool) (w : World) (hr0 : Kd.C k81 w A0 l0.length l0) (hc0 : l0.length ≤ c0) (hr1 : Kd.C k81 w A1 l1.length l1) (hc1 : l1.length ≤ c1) (h : laws_eqLitS.f k l0 l1 = some r) (htrue_ : r = true) :
  Calls Tryz.prog 62 #[.slice A0 l0.length c0,.slice A1 l1.length c1] w fun e w' => e = .returned (.bool r) ∧ Below w.heap.size w w' := by
 have hu81 := Tryz.underlying81
 have HR0 := y0.mk hr0
 have HC0 := y0.mk hc0
 clear hr0 hc0
 have HR1 := y0.mk hr1
 have HC1 := y0.mk hc1
 clear hr1 hc1
 have HB := y0.mk (Below.refl w.heap.size w)
 have H : (if (l0.length : Int) = (l1.length : Int) then (laws_eqLitS.l0 k l0 l1 0) else (some false)) = some r := h
 clear h
 by_cases c3 : (l0.length : Int) = (l1.length : Int)
 ·rw [if_pos c3] at H
  have c3b0 : ((l0.length : Int) == (l1.length : Int)) = true := beq_iff_eq.mpr c3
  have c3b1 : ((l0.length : Int) != (l1.length : Int)) = false := bne_eq_false_iff_eq.mpr c3
  have c3b2 : (l0.length == l1.length) = true := by first | simpa using c3 | (simp at c3 ⊢; omega)
  clear c3
  have H' := y0.mk H
  clear H
  go_enter Tryz.func62,Tryz.ntmps62
  go_wp2
  go_loopg [5] k (fun kq v5 w' => ∃ (x5_1 : Int),v5 = .int .i64 x5_1 ∧ y0 (laws_eqLitS.l0 kq l0 l1 x5_1 = some r) ∧ y0 (kq ≤ k) ∧ y0 (Below w.heap.size w w'))
  case atStart => exact ⟨(0),(by first | rfl | (simp; done) | (simp [*]; done)),H',⟨Nat.le_refl _⟩,⟨by repeat (first | (with_reducible first | exact HB.out | apply y3 | apply y23 | apply y4) | exact HB.out)⟩⟩
  case round =>
   clear H'
   try clear c1
   try clear p2
   try clear c3
   try clear c3b0
   try clear c3b1
   try clear c3b2
   obtain ⟨x5_1,rfl,HA,HK1,HB⟩ := hrel
   cases gk with
   | zero => exact absurd HA.out (by simp [laws_eqLitS.l0])
   | succ k1 =>
    have H := HA.out
    clear HA
    simp only [laws_eqLitS.l0] at H
    by_cases c4 : x5_1 < (l0.length : Int)
    ·rw [if_pos c4] at H
     have c4b0 : decide (x5_1 < (l0.length : Int)) = true := decide_eq_true c4
     clear c4
     by_cases c5 : 0 ≤ x5_1
     ·rw [if_pos c5] at H
      have c5b0 : decide (0 ≤ x5_1) = true := decide_eq_true c5
      clear c5
      by_cases c6 : x5_1 < (l1.length : Int)
      ·rw [if_pos c6] at H
       have c6b0 : decide (x5_1 < (l1.length : Int)) = true := decide_eq_true c6
       clear c6
       replace H := Option.bind_eq_some_iff.mp H
       obtain ⟨t406,A70,H⟩ := H
       replace H : (if t406 = true then (laws_eqLitS.l0 k1 l0 l1 (wrap64 (x5_1 + 1))) else (some false)) = some r := H
       have A7 := y0.mk A70
       clear A70
       by_cases c8 : t406 = true
       ·subst c8
        have H1 : (laws_eqLitS.l0 k1 l0 l1 (wrap64 (x5_1 + 1))) = some r := by rw [if_pos rfl] at H; exact H
        clear H
        have H := H1
        clear H1
        have H' := y0.mk H
        clear H
        try go_wp2
        have n0_ := y0.mk (y4 HB.out)
        clear HB
        have HB := n0_
        clear n0_
        have p404 : 0 ≤ (x5_1 : Int) := of_decide_eq_true (by first | (with_reducible assumption) | assumption)
        have q404 : x5_1 < (l0.length : Int) := of_decide_eq_true (by first | (with_reducible assumption) | assumption)
        obtain ⟨ad404,A404_2,c404_2,e404,hx404_0,hx404_1,hx404_2,hl404_2,hi404_2⟩ := at_T81 HR0.out x5_1 p404 q404
        have hw404_2 := hx404_2
        have hw404_1 := hx404_1
        have hw404_0 := hx404_0
        cases e404
        replace hx404_0 := (HB.out.cell (World.block_lt_of_cell? w _ hx404_0)).trans hx404_0
        replace hx404_1 := (HB.out.cell (World.block_lt_of_cell? w _ hx404_1)).trans hx404_1
        replace hx404_2 := (HB.out.cell (World.block_lt_of_cell? w _ hx404_2)).trans hx404_2
        have HR404_2 := y0.mk hi404_2
        have HC404_2 := y0.mk hl404_2
        clear hi404_2 hl404_2
        replace p404 := eq_true p404
        replace q404 := eq_true q404
        have p405 : 0 ≤ (x5_1 : Int) := of_decide_eq_true (by first | (with_reducible assumption) | assumption)
        have q405 : x5_1 < (l1.length : Int) := of_decide_eq_true (by first | (with_reducible assumption) | assumption)
        obtain ⟨ad405,A405_2,c405_2,e405,hx405_0,hx405_1,hx405_2,hl405_2,hi405_2⟩ := at_T81 HR1.out x5_1 p405 q405
        have hw405_2 := hx405_2
        have hw405_1 := hx405_1
        have hw405_0 := hx405_0
        cases e405
        replace hx405_0 := (HB.out.cell (World.block_lt_of_cell? w _ hx405_0)).trans hx405_0
        replace hx405_1 := (HB.out.cell (World.block_lt_of_cell? w _ hx405_1)).trans hx405_1
        replace hx405_2 := (HB.out.cell (World.block_lt_of_cell? w _ hx405_2)).trans hx405_2
        have HR405_2 := y0.mk hi405_2
        have HC405_2 := y0.mk hl405_2
        clear hi405_2 hl405_2
        replace p405 := eq_true p405
        replace q405 := eq_true q405
        refine start_ (n := 10) (S := fun w' => w'.cell? (ad404.add ((x5_1).toNat * 3)) = some (.int .i64 ((rd_T81 l0 x5_1).f0)) ∧ w'.cell? ⟨(ad404.add ((x5_1).toNat * 3)).block,(ad404.add ((x5_1).toNat * 3)).off + 1,none⟩ = some (.string ((rd_T81 l0 x5_1).f1)) ∧ w'.cell? ⟨(ad404.add ((x5_1).toNat * 3)).block,(ad404.add ((x5_1).toNat * 3)).off + 2,none⟩ = some (.slice A404_2 ((rd_T81 l0 x5_1).f2).length c404_2) ∧ w'.cell? (ad405.add ((x5_1).toNat * 3)) = some (.int .i64 ((rd_T81 l1 x5_1).f0)) ∧ w'.cell? ⟨(ad405.add ((x5_1).toNat * 3)).block,(ad405.add ((x5_1).toNat * 3)).off + 1,none⟩ = some (.string ((rd_T81 l1 x5_1).f1)) ∧ w'.cell? ⟨(ad405.add ((x5_1).toNat * 3)).block,(ad405.add ((x5_1).toNat * 3)).off + 2,none⟩ = some (.slice A405_2 ((rd_T81 l1 x5_1).f2).length c405_2)) (ds := []) (fl_ 10 0) (by kernel_rfl) rfl rfl ⟨((HB.out.cell (World.block_lt_of_cell? w _ hw404_0)).trans hw404_0),((HB.out.cell (World.block_lt_of_cell? w _ hw404_1)).trans hw404_1),((HB.out.cell (World.block_lt_of_cell? w _ hw404_2)).trans hw404_2),((HB.out.cell (World.block_lt_of_cell? w _ hw405_0)).trans hw405_0),((HB.out.cell (World.block_lt_of_cell? w _ hw405_1)).trans hw405_1),((HB.out.cell (World.block_lt_of_cell? w _ hw405_2)).trans hw405_2)⟩ (fun hHeld => ?_); refine with_tabW laws_eqLitS.tab6 laws_eqLitS.bits6 (fun HT_ HW_ => ?_)
        generalize wr.drew = w9 at HB HR404_2 HR405_2 hx404_0 hx404_1 hx404_2 hx405_0 hx405_1 hx405_2 hHeld ⊢
        refine pure_ (i := 0) (N := some 17) (v := ?_) (a' := ?_) (fl_ 10 1) rfl rfl (y2 HT_.out (by kernel_rfl)) (fun _ _ _ h => h) (Or.inl ⟨by rfl, ?_⟩) ?_ ?_
        rotate_left
        ·intro w'
         go_simp
         with_reducible rfl
        rotate_left
        ·simp only [Act.put,qS_,qZ_,qC_,y22,y21]
         rfl
        refine pure_ (i := 1) (N := some 18) (v := ?_) (a' := ?_) (fl_ 10 3) rfl rfl (y2 HT_.out (by kernel_rfl)) (fun _ _ _ h => h) (Or.inl ⟨by rfl, ?_⟩) ?_ ?_
        rotate_left
        ·intro w'
         go_simp
         with_reducible rfl
        rotate_left
        ·simp only [Act.put,qS_,qZ_,qC_,y22,y21]
         rfl
        refine pure_ (i := 2) (N := some 19) (v := ?_) (a' := ?_) (fl_ 10 7) rfl rfl (y2 HT_.out (by kernel_rfl)) (fun _ _ _ h => h) (Or.inl ⟨by rfl, ?_⟩) ?_ ?_
        rotate_left
        ·intro w'
         go_simp
         with_reducible rfl
        rotate_left
        ·simp only [Act.put,qS_,qZ_,qC_,y22,y21]
         rfl
        refine pure_ (i := 4) (N := some 21) (v := ?_) (a' := ?_) (fl_ 10 23) rfl rfl (y2 HT_.out (by kernel_rfl)) (fun _ _ _ h => h) (Or.inl ⟨by rfl, ?_⟩) ?_ ?_
        rotate_left
        ·intro w'
         go_simp
         with_reducible rfl
        rotate_left
        ·simp only [Act.put,qS_,qZ_,qC_,y22,y21]
         rfl
        refine pure_ (i := 5) (N := some 22) (v := ?_) (a' := ?_) (fl_ 10 55) rfl rfl (y2 HT_.out (by kernel_rfl)) (fun _ _ _ h => h) (Or.inl ⟨by rfl, ?_⟩) ?_ ?_
        rotate_left
        ·intro w'
         go_simp
         with_reducible rfl
        rotate_left
        ·simp only [Act.put,qS_,qZ_,qC_,y22,y21]
         rfl
        refine pure_ (i := 6) (N := some 23) (v := ?_) (a' := ?_) (fl_ 10 119) rfl rfl (y2 HT_.out (by kernel_rfl)) (fun _ _ _ h => h) (Or.inl ⟨by rfl, ?_⟩) ?_ ?_
        rotate_left
        ·intro w'
         go_simp
         with_reducible rfl
        rotate_left
        ·simp only [Act.put,qS_,qZ_,qC_,y22,y21]
         rfl
        refine take_ (i := 3) (N := some 20) (v := ?_) (a' := ?_) (fl_ 10 127) rfl rfl (take_ofW HT_.out HW_.out (by kernel_rfl)) (fun _ _ _ h => h) (Or.inl ⟨by rfl, ?_⟩) hHeld ?_ ?_
        rotate_left
        ·rintro w' ⟨s0,s1,s2,s3,s4,s5⟩
         go_simp
         with_reducible rfl
        rotate_left
        ·simp only [Act.put,qS_,qZ_,qC_,y22,y21]
         rfl
        refine take_ (i := 7) (N := some 24) (v := ?_) (a' := ?_) (fl_ 10 255) rfl rfl (take_ofW HT_.out HW_.out (by kernel_rfl)) (fun _ _ _ h => h) (Or.inl ⟨by rfl, ?_⟩) hHeld ?_ ?_
        rotate_left
        ·rintro w' ⟨s0,s1,s2,s3,s4,s5⟩
         go_simp
         with_reducible rfl
        rotate_left
        ·simp only [Act.put,qS_,qZ_,qC_,y22,y21]
         rfl
        refine one_ (i := 8) (N := some 25) (fl_ 10 511) rfl rfl (one_of HT_.out (by kernel_rfl)) (by decide) (fun K hK => ?_)
        refine goes_ Tryz.func61 (by kernel_rfl) rfl #[.agg #[.int .i64 ((rd_T81 l0 x5_1).f0),.string ((rd_T81 l0 x5_1).f1),.slice A404_2 ((rd_T81 l0 x5_1).f2).length c404_2],.agg #[.int .i64 ((rd_T81 l1 x5_1).f0),.string ((rd_T81 l1 x5_1).f1),.slice A405_2 ((rd_T81 l1 x5_1).f2).length c405_2]] (by rfl) rfl rfl (by (try simp only [qM_,List.map_cons,List.map_nil]); first | done | rfl | (simp only [qD_,qT_]; rfl)) ?_
        with_reducible refine (laws_eqLit.calls k1 ((rd_T81 l0 x5_1).f0) ((rd_T81 l0 x5_1).f1) _ _ ((rd_T81 l0 x5_1).f2) ((rd_T81 l1 x5_1).f0) ((rd_T81 l1 x5_1).f1) _ _ ((rd_T81 l1 x5_1).f2) true _ ?side1 ?side2 ?side3 ?side4 A7.out rfl).mono ?_
        (case side1 => repeat (first | exact (Kd.C_below HR404_2.out HB.out) | (with_reducible refine Kd.C_alloc ?_ _) | (with_reducible refine Kd.C_drewN ?_ _) | (with_reducible refine Kd.C_drew ?_)))
        (case side2 => exact HC404_2.out)
        (case side3 => repeat (first | exact (Kd.C_below HR405_2.out HB.out) | (with_reducible refine Kd.C_alloc ?_ _) | (with_reducible refine Kd.C_drewN ?_ _) | (with_reducible refine Kd.C_drew ?_)))
        (case side4 => exact HC405_2.out)
        rintro e w10 ⟨rfl,hb⟩
        refine ⟨_,rfl, ?_⟩
        have n0_ := y0.mk (y7 (by repeat (first | (with_reducible first | exact HB.out | apply y3 | apply y23 | apply y4) | exact HB.out)) hb)
        clear HB
        have HB := n0_
        clear n0_
        (try clear hb)
        (try clear hb2)
        (try clear hk)
        (try clear hi)
        refine hK.out _ _ ⟨((HB.out.cell (World.block_lt_of_cell? w _ hw404_0)).trans hw404_0),((HB.out.cell (World.block_lt_of_cell? w _ hw404_1)).trans hw404_1),((HB.out.cell (World.block_lt_of_cell? w _ hw404_2)).trans hw404_2),((HB.out.cell (World.block_lt_of_cell? w _ hw405_0)).trans hw405_0),((HB.out.cell (World.block_lt_of_cell? w _ hw405_1)).trans hw405_1),((HB.out.cell (World.block_lt_of_cell? w _ hw405_2)).trans hw405_2)⟩ (fun hHeld => ?_)
        clear hK K
        refine norm_ (a' := ?_) ?_ ?_
        rotate_left
        ·show Act.put _ (some 25) _ = _
         simp only [Act.put,qS_,qZ_,qC_,y22,y21]
         rfl
        refine pure_ (i := 9) (N := some 26) (v := ?_) (a' := ?_) (fl_ 10 1023) rfl rfl (y2 HT_.out (by kernel_rfl)) (fun _ _ _ h => h) (Or.inl ⟨by rfl, ?_⟩) ?_ ?_
        rotate_left
        ·intro w'
         go_simp
         with_reducible rfl
        rotate_left
        ·simp only [Act.put,qS_,qZ_,qC_,y22,y21]
         rfl
        refine done_ (done_of HT_.out (by kernel_rfl)) ?_
        try go_wp2
        go_roundg k1
        case measure => have := HK1.out; omega
        case rel => exact ⟨(wrap64 (x5_1 + 1)),(by first | rfl | (simp; done) | (simp [*]; done)),H',⟨by have := HK1.out; omega⟩,⟨by repeat (first | (with_reducible first | exact HB.out | apply y3 | apply y23 | apply y4) | exact HB.out)⟩⟩
       ·replace c8 := Bool.eq_false_iff.mpr c8
        subst c8
        have H1 : (some false) = some r := by rw [if_neg (show ¬ (false = true) by decide)] at H; exact H
        clear H
        have H := H1
        clear H1
        exact absurd ((Option.some.inj H).trans htrue_) (by decide)
      ·rw [if_neg c6] at H
       exact absurd H (by simp)
     ·rw [if_neg c5] at H
      exact absurd H (by simp)
    ·rw [if_neg c4] at H
     have c4b0 : decide (x5_1 < (l0.length : Int)) = false := decide_eq_false c4
     clear c4
     obtain rfl := Option.some.inj H
     go_wp2
     go_ret
     exact ⟨by first | rfl | (simp [y16,y17] <;> rfl) | (simp [*,y16,y17] <;> rfl),by repeat (first | (with_reducible first | exact HB.out | apply y3 | apply y23 | apply y4) | exact HB.out)⟩
 ·rw [if_neg c3] at H
  have c3b0 : ((l0.length : Int) == (l1.length : Int)) = false := beq_eq_false_iff_ne.mpr c3
  have c3b1 : ((l0.length : Int) != (l1.length : Int)) = true := bne_iff_ne.mpr c3
  have c3b2 : (l0.length == l1.length) = false := by first | simpa using c3 | (simp at c3 ⊢; omega)
  exact absurd ((Option.some.inj H).trans htrue_) (by decide)
def laws_eqRule.f (k : Nat) (l0_0 : List (S133)) (a0_1 : Int) (a0_2 : ByteArray) (l0_3 : List Int) (l0_4 : List (S81)) (l1_0 : List (S133)) (a1_1 : Int) (a1_2 : ByteArray) (l1_3 : List Int) (l1_4 : List (S81)) : Option (Bool) := (laws_eqExpS.f k l0_0 l1_0).bind fun t409 => (if t409 = true then ((laws_eqLit.f k a0_1 a0_2 l0_3 a1_1 a1_2 l1_3).bind fun t410 => (if t410 = true then ((laws_eqLitS.f k l0_4 l1_4).bind fun t411 => (if t411 = true then (some true) else (some false))) else (some false))) else (some false))
set_option maxHeartbeats 8000000 in
set_option maxRecDepth 100000 in
theorem laws_eqRule.calls (k : Nat) (A0_0 : Option Addr) (c0_0 : Nat) (l0_0 : List (S133)) (a0_1 : Int) (a0_2 : ByteArray) (A0_3 : Option Addr) (c0_3 : Nat) (l0_3 : List Int) (A0_4 : Option Addr) (c0_4 : Nat) (l0_4 : List (S81)) (A1_0 : Option Addr) (c1_0 : Nat) (l1_0 : List (S133)) (a1_1 : Int) (a1_2 : ByteArray) (A1_3 : Option Addr) (c1_3 : Nat) (l1_3 : List Int) (A1_4 : Option Addr) (c1_4 : Nat) (l1_4 : List (S81)) (r : Bool) (w : World) (hr0_0 : Kd.C k133 w A0_0 l0_0.length l0_0) (hc0_0 : l0_0.length ≤ c0_0) (hr0_3 : Kd.C (Kd.int .i64) w A0_3 l0_3.length l0_3) (hc0_3 : l0_3.length ≤ c0_3) (hr0_4 : Kd.C k81 w A0_4 l0_4.length l0_4) (hc0_4 : l0_4.length ≤ c0_4) (hr1_0 : Kd.C k133 w A1_0 l1_0.length l1_0) (hc1_0 : l1_0.length ≤ c1_0) (hr1_3 : Kd.C (Kd.int .i64) w A1_3 l1_3.length l1_3) (hc1_3 : l1_3.length ≤ c1_3) (hr1_4 : Kd.C k81 w A1_4 l1_4.length l1_4) (hc1_4 : l1_4.length ≤ c1_4) (h : laws_eqRule.f k l0_0 a0_1 a0_2 l0_3 l0_4 l1_0 a1_1 a1_2 l1_3 l1_4 = some r) (htrue_ : r = true) :
  Calls Tryz.prog 42 #[.agg #[.slice A0_0 l0_0.length c0_0,.int .i64 a0_1,.string a0_2,.slice A0_3 l0_3.length c0_3,.slice A0_4 l0_4.length c0_4],.agg #[.slice A1_0 l1_0.length c1_0,.int .i64 a1_1,.string a1_2,.slice A1_3 l1_3.length c1_3,.slice A1_4 l1_4.length c1_4]] w fun e w' => e = .returned (.bool r) ∧ Below w.heap.size w w' := by
 have hu84 := Tryz.underlying84
 have hu81 := Tryz.underlying81
 have HR0_0 := y0.mk hr0_0
 have HC0_0 := y0.mk hc0_0
 clear hr0_0 hc0_0
 have HR0_3 := y0.mk hr0_3
 have HC0_3 := y0.mk hc0_3
 clear hr0_3 hc0_3
 have HR0_4 := y0.mk hr0_4
 have HC0_4 := y0.mk hc0_4
 clear hr0_4 hc0_4
 have HR1_0 := y0.mk hr1_0
 have HC1_0 := y0.mk hc1_0
 clear hr1_0 hc1_0
 have HR1_3 := y0.mk hr1_3
 have HC1_3 := y0.mk hc1_3
 clear hr1_3 hc1_3
 have HR1_4 := y0.mk hr1_4
 have HC1_4 := y0.mk hc1_4
 clear hr1_4 hc1_4
 have HB := y0.mk (Below.refl w.heap.size w)
 have H : ((laws_eqExpS.f k l0_0 l1_0).bind fun t409 => (if t409 = true then ((laws_eqLit.f k a0_1 a0_2 l0_3 a1_1 a1_2 l1_3).bind fun t410 => (if t410 = true then ((laws_eqLitS.f k l0_4 l1_4).bind fun t411 => (if t411 = true then (some true) else (some false))) else (some false))) else (some false))) = some r := h
 clear h
 replace H := Option.bind_eq_some_iff.mp H
 obtain ⟨t409,A30,H⟩ := H
 replace H : (if t409 = true then ((laws_eqLit.f k a0_1 a0_2 l0_3 a1_1 a1_2 l1_3).bind fun t410 => (if t410 = true then ((laws_eqLitS.f k l0_4 l1_4).bind fun t411 => (if t411 = true then (some true) else (some false))) else (some false))) else (some false)) = some r := H
 have A3 := y0.mk A30
 clear A30
 by_cases c4 : t409 = true
 ·subst c4
  have H1 : ((laws_eqLit.f k a0_1 a0_2 l0_3 a1_1 a1_2 l1_3).bind fun t410 => (if t410 = true then ((laws_eqLitS.f k l0_4 l1_4).bind fun t411 => (if t411 = true then (some true) else (some false))) else (some false))) = some r := by rw [if_pos rfl] at H; exact H
  clear H
  have H := H1
  clear H1
  replace H := Option.bind_eq_some_iff.mp H
  obtain ⟨t410,A50,H⟩ := H
  replace H : (if t410 = true then ((laws_eqLitS.f k l0_4 l1_4).bind fun t411 => (if t411 = true then (some true) else (some false))) else (some false)) = some r := H
  have A5 := y0.mk A50
  clear A50
  by_cases c6 : t410 = true
  ·subst c6
   have H1 : ((laws_eqLitS.f k l0_4 l1_4).bind fun t411 => (if t411 = true then (some true) else (some false))) = some r := by rw [if_pos rfl] at H; exact H
   clear H
   have H := H1
   clear H1
   replace H := Option.bind_eq_some_iff.mp H
   obtain ⟨t411,A70,H⟩ := H
   replace H : (if t411 = true then (some true) else (some false)) = some r := H
   have A7 := y0.mk A70
   clear A70
   by_cases c8 : t411 = true
   ·subst c8
    have H1 : (some true) = some r := by rw [if_pos rfl] at H; exact H
    clear H
    have H := H1
    clear H1
    obtain rfl := Option.some.inj H
    go_enter Tryz.func42,Tryz.ntmps42
    go_wp2_with (first | ((with_reducible refine y19 (N := 2) rfl ?_); refine y15 ?hg (N := 2) ?hd (cs := #[.slice A0_0 l0_0.length c0_0,.int .i64 a0_1,.string a0_2,.slice A0_3 l0_3.length c0_3,.slice A0_4 l0_4.length c0_4]) (t := 84) ?hr ?_; (case hd => rfl); (case hg => rfl); (case hr => first | (go_simp; done) | (go_simp; rfl)); intro gb407 hg w9 hbox hb; have n0_ := y0.mk (y7 (by repeat (first | (with_reducible first | exact HB.out | apply y3 | apply y23 | apply y4) | exact HB.out)) hb); have n1_ := y0.mk (hbox); have n2_ := y0.mk ((by rw [hg]; exact (y6 (by repeat (first | (with_reducible first | exact HB.out | apply y3 | apply y23 | apply y4) | exact HB.out))) : w.heap.size ≤ gb407)); have n3_ := y0.mk ((by rw [hg]; exact (y6 (by repeat (first | (with_reducible first | exact HB.out | apply y3 | apply y23 | apply y4) | exact HB.out))) : w.heap.size ≤ gb407)); clear HB; have HB := n0_; have BK407 := n1_; have GW407 := n2_; have GE407 := n3_; clear n0_ n1_ n2_ n3_; clear hb hbox hg) | ((with_reducible refine y19 (N := 3) rfl ?_); refine y15 ?hg (N := 3) ?hd (cs := #[.slice A1_0 l1_0.length c1_0,.int .i64 a1_1,.string a1_2,.slice A1_3 l1_3.length c1_3,.slice A1_4 l1_4.length c1_4]) (t := 84) ?hr ?_; (case hd => rfl); (case hg => rfl); (case hr => first | (go_simp; done) | (go_simp; rfl)); intro gb408 hg w10 hbox hb; have n0_ := y0.mk (y9 (g := gb407) (o := .cells #[.slice A0_0 l0_0.length c0_0,.int .i64 a0_1,.string a0_2,.slice A0_3 l0_3.length c0_3,.slice A0_4 l0_4.length c0_4] 84 (0,0)) (by (with_reducible repeat (first | refine y12 ?_ _ | refine y11 ?_ | refine y8 ?_ _)); exact BK407.out) hb); have n1_ := y0.mk (y7 (by repeat (first | (with_reducible first | exact HB.out | apply y3 | apply y23 | apply y4 | refine y5 ?_ GE407.out) | exact HB.out)) hb); have n2_ := y0.mk (hbox); have n3_ := y0.mk ((by rw [hg]; exact (y6 (by repeat (first | (with_reducible first | exact HB.out | apply y3 | apply y23 | apply y4 | refine y5 ?_ GE407.out) | exact HB.out))) : w.heap.size ≤ gb408)); have n4_ := y0.mk ((by rw [hg]; exact (y6 (by repeat (first | (with_reducible first | exact HB.out | apply y3 | apply y23 | apply y4 | refine y5 ?_ GE407.out) | exact HB.out))) : w.heap.size ≤ gb408)); have n5_ := y0.mk ((by rw [hg]; exact Nat.ne_of_lt (y14 (g := gb407) (o := .cells #[.slice A0_0 l0_0.length c0_0,.int .i64 a0_1,.string a0_2,.slice A0_3 l0_3.length c0_3,.slice A0_4 l0_4.length c0_4] 84 (0,0)) (by (with_reducible repeat (first | refine y12 ?_ _ | refine y11 ?_ | refine y8 ?_ _)); exact BK407.out)) : gb407 ≠ gb408)); have n6_ := y0.mk ((by rw [hg]; exact Nat.ne_of_gt (y14 (g := gb407) (o := .cells #[.slice A0_0 l0_0.length c0_0,.int .i64 a0_1,.string a0_2,.slice A0_3 l0_3.length c0_3,.slice A0_4 l0_4.length c0_4] 84 (0,0)) (by (with_reducible repeat (first | refine y12 ?_ _ | refine y11 ?_ | refine y8 ?_ _)); exact BK407.out)) : gb408 ≠ gb407)); clear BK407; clear HB; have BK407 := n0_; have HB := n1_; have BK408 := n2_; have GW408 := n3_; have GE408 := n4_; have NB407_408 := n5_; have NB408_407 := n6_; clear n0_ n1_ n2_ n3_ n4_ n5_ n6_; clear hb hbox hg; have hnb11 := NB407_408.out; have hnc11 := NB408_407.out; have hcz12_0 : w10.cell? ⟨gb407,0,none⟩ = some (.slice A0_0 l0_0.length c0_0) := (y10 BK407.out 0).trans rfl; have hcz12_1 : w10.cell? ⟨gb407,1,none⟩ = some (.int .i64 a0_1) := (y10 BK407.out 1).trans rfl; have hcz12_2 : w10.cell? ⟨gb407,2,none⟩ = some (.string a0_2) := (y10 BK407.out 2).trans rfl; have hcz12_3 : w10.cell? ⟨gb407,3,none⟩ = some (.slice A0_3 l0_3.length c0_3) := (y10 BK407.out 3).trans rfl; have hcz12_4 : w10.cell? ⟨gb407,4,none⟩ = some (.slice A0_4 l0_4.length c0_4) := (y10 BK407.out 4).trans rfl; have hfz12_0 := y13 BK407.out 0; have hfz12_1 := y13 BK407.out 1; have hfz12_2 := y13 BK407.out 2; have hfz12_3 := y13 BK407.out 3; have hfz12_4 := y13 BK407.out 4; have hcz13_0 : w10.cell? ⟨gb408,0,none⟩ = some (.slice A1_0 l1_0.length c1_0) := (y10 BK408.out 0).trans rfl; have hcz13_1 : w10.cell? ⟨gb408,1,none⟩ = some (.int .i64 a1_1) := (y10 BK408.out 1).trans rfl; have hcz13_2 : w10.cell? ⟨gb408,2,none⟩ = some (.string a1_2) := (y10 BK408.out 2).trans rfl; have hcz13_3 : w10.cell? ⟨gb408,3,none⟩ = some (.slice A1_3 l1_3.length c1_3) := (y10 BK408.out 3).trans rfl; have hcz13_4 : w10.cell? ⟨gb408,4,none⟩ = some (.slice A1_4 l1_4.length c1_4) := (y10 BK408.out 4).trans rfl; have hfz13_0 := y13 BK408.out 0; have hfz13_1 := y13 BK408.out 1; have hfz13_2 := y13 BK408.out 2; have hfz13_3 := y13 BK408.out 3; have hfz13_4 := y13 BK408.out 4) | ((with_reducible refine y18 (f := 60) rfl ?_); refine y20 (some 9) rfl rfl Tryz.func60 (by kernel_rfl) rfl #[.slice A0_0 l0_0.length c0_0,.slice A1_0 l1_0.length c1_0] rfl (by (try simp only [qM_,List.map_cons,List.map_nil]); first | done | rfl | (simp only [qD_,qT_]; rfl)) ?_; (with_reducible refine (laws_eqExpS.calls k _ _ l0_0 _ _ l1_0 true _ ?side1 ?side2 ?side3 ?side4 A3.out rfl).mono ?_); (case side1 => repeat (first | exact (Kd.C_below HR0_0.out HB.out) | (with_reducible refine Kd.C_alloc ?_ _) | (with_reducible refine Kd.C_drewN ?_ _) | (with_reducible refine Kd.C_drew ?_))); (case side2 => exact HC0_0.out); (case side3 => repeat (first | exact (Kd.C_below HR1_0.out HB.out) | (with_reducible refine Kd.C_alloc ?_ _) | (with_reducible refine Kd.C_drewN ?_ _) | (with_reducible refine Kd.C_drew ?_))); (case side4 => exact HC1_0.out); rintro e w14 ⟨rfl,hb⟩; refine ⟨_,rfl, ?_⟩; have n0_ := y0.mk (y9 (g := gb407) (o := .cells #[.slice A0_0 l0_0.length c0_0,.int .i64 a0_1,.string a0_2,.slice A0_3 l0_3.length c0_3,.slice A0_4 l0_4.length c0_4] 84 (0,0)) (by (with_reducible repeat (first | refine y12 ?_ _ | refine y11 ?_ | refine y8 ?_ _)); exact BK407.out) hb); have n1_ := y0.mk (y9 (g := gb408) (o := .cells #[.slice A1_0 l1_0.length c1_0,.int .i64 a1_1,.string a1_2,.slice A1_3 l1_3.length c1_3,.slice A1_4 l1_4.length c1_4] 84 (0,0)) (by (with_reducible repeat (first | refine y12 ?_ _ | refine y11 ?_ | refine y8 ?_ _)); exact BK408.out) hb); have n2_ := y0.mk (y7 (by repeat (first | (with_reducible first | exact HB.out | apply y3 | apply y23 | apply y4 | refine y5 ?_ GE407.out | refine y5 ?_ GE408.out) | exact HB.out)) hb); clear BK407; clear BK408; clear HB; have BK407 := n0_; have BK408 := n1_; have HB := n2_; clear n0_ n1_ n2_; (try clear hb); (try clear hb2); (try clear hk); (try clear hi); have hcz15_0 : w14.cell? ⟨gb407,0,none⟩ = some (.slice A0_0 l0_0.length c0_0) := (y10 BK407.out 0).trans rfl; have hcz15_1 : w14.cell? ⟨gb407,1,none⟩ = some (.int .i64 a0_1) := (y10 BK407.out 1).trans rfl; have hcz15_2 : w14.cell? ⟨gb407,2,none⟩ = some (.string a0_2) := (y10 BK407.out 2).trans rfl; have hcz15_3 : w14.cell? ⟨gb407,3,none⟩ = some (.slice A0_3 l0_3.length c0_3) := (y10 BK407.out 3).trans rfl; have hcz15_4 : w14.cell? ⟨gb407,4,none⟩ = some (.slice A0_4 l0_4.length c0_4) := (y10 BK407.out 4).trans rfl; have hfz15_0 := y13 BK407.out 0; have hfz15_1 := y13 BK407.out 1; have hfz15_2 := y13 BK407.out 2; have hfz15_3 := y13 BK407.out 3; have hfz15_4 := y13 BK407.out 4; have hcz16_0 : w14.cell? ⟨gb408,0,none⟩ = some (.slice A1_0 l1_0.length c1_0) := (y10 BK408.out 0).trans rfl; have hcz16_1 : w14.cell? ⟨gb408,1,none⟩ = some (.int .i64 a1_1) := (y10 BK408.out 1).trans rfl; have hcz16_2 : w14.cell? ⟨gb408,2,none⟩ = some (.string a1_2) := (y10 BK408.out 2).trans rfl; have hcz16_3 : w14.cell? ⟨gb408,3,none⟩ = some (.slice A1_3 l1_3.length c1_3) := (y10 BK408.out 3).trans rfl; have hcz16_4 : w14.cell? ⟨gb408,4,none⟩ = some (.slice A1_4 l1_4.length c1_4) := (y10 BK408.out 4).trans rfl; have hfz16_0 := y13 BK408.out 0; have hfz16_1 := y13 BK408.out 1; have hfz16_2 := y13 BK408.out 2; have hfz16_3 := y13 BK408.out 3; have hfz16_4 := y13 BK408.out 4) | ((with_reducible refine y18 (f := 61) rfl ?_); refine y20 (some 15) rfl rfl Tryz.func61 (by kernel_rfl) rfl #[.agg #[.int .i64 a0_1,.string a0_2,.slice A0_3 l0_3.length c0_3],.agg #[.int .i64 a1_1,.string a1_2,.slice A1_3 l1_3.length c1_3]] rfl (by (try simp only [qM_,List.map_cons,List.map_nil]); first | done | rfl | (simp only [qD_,qT_]; rfl)) ?_; (with_reducible refine (laws_eqLit.calls k a0_1 a0_2 _ _ l0_3 a1_1 a1_2 _ _ l1_3 true _ ?side1 ?side2 ?side3 ?side4 A5.out rfl).mono ?_); (case side1 => repeat (first | exact (Kd.C_below HR0_3.out HB.out) | (with_reducible refine Kd.C_alloc ?_ _) | (with_reducible refine Kd.C_drewN ?_ _) | (with_reducible refine Kd.C_drew ?_))); (case side2 => exact HC0_3.out); (case side3 => repeat (first | exact (Kd.C_below HR1_3.out HB.out) | (with_reducible refine Kd.C_alloc ?_ _) | (with_reducible refine Kd.C_drewN ?_ _) | (with_reducible refine Kd.C_drew ?_))); (case side4 => exact HC1_3.out); rintro e w17 ⟨rfl,hb⟩; refine ⟨_,rfl, ?_⟩; have n0_ := y0.mk (y9 (g := gb407) (o := .cells #[.slice A0_0 l0_0.length c0_0,.int .i64 a0_1,.string a0_2,.slice A0_3 l0_3.length c0_3,.slice A0_4 l0_4.length c0_4] 84 (0,0)) (by (with_reducible repeat (first | refine y12 ?_ _ | refine y11 ?_ | refine y8 ?_ _)); exact BK407.out) hb); have n1_ := y0.mk (y9 (g := gb408) (o := .cells #[.slice A1_0 l1_0.length c1_0,.int .i64 a1_1,.string a1_2,.slice A1_3 l1_3.length c1_3,.slice A1_4 l1_4.length c1_4] 84 (0,0)) (by (with_reducible repeat (first | refine y12 ?_ _ | refine y11 ?_ | refine y8 ?_ _)); exact BK408.out) hb); have n2_ := y0.mk (y7 (by repeat (first | (with_reducible first | exact HB.out | apply y3 | apply y23 | apply y4 | refine y5 ?_ GE407.out | refine y5 ?_ GE408.out) | exact HB.out)) hb); clear BK407; clear BK408; clear HB; have BK407 := n0_; have BK408 := n1_; have HB := n2_; clear n0_ n1_ n2_; (try clear hb); (try clear hb2); (try clear hk); (try clear hi); have hcz18_0 : w17.cell? ⟨gb407,0,none⟩ = some (.slice A0_0 l0_0.length c0_0) := (y10 BK407.out 0).trans rfl; have hcz18_1 : w17.cell? ⟨gb407,1,none⟩ = some (.int .i64 a0_1) := (y10 BK407.out 1).trans rfl; have hcz18_2 : w17.cell? ⟨gb407,2,none⟩ = some (.string a0_2) := (y10 BK407.out 2).trans rfl; have hcz18_3 : w17.cell? ⟨gb407,3,none⟩ = some (.slice A0_3 l0_3.length c0_3) := (y10 BK407.out 3).trans rfl; have hcz18_4 : w17.cell? ⟨gb407,4,none⟩ = some (.slice A0_4 l0_4.length c0_4) := (y10 BK407.out 4).trans rfl; have hfz18_0 := y13 BK407.out 0; have hfz18_1 := y13 BK407.out 1; have hfz18_2 := y13 BK407.out 2; have hfz18_3 := y13 BK407.out 3; have hfz18_4 := y13 BK407.out 4; have hcz19_0 : w17.cell? ⟨gb408,0,none⟩ = some (.slice A1_0 l1_0.length c1_0) := (y10 BK408.out 0).trans rfl; have hcz19_1 : w17.cell? ⟨gb408,1,none⟩ = some (.int .i64 a1_1) := (y10 BK408.out 1).trans rfl; have hcz19_2 : w17.cell? ⟨gb408,2,none⟩ = some (.string a1_2) := (y10 BK408.out 2).trans rfl; have hcz19_3 : w17.cell? ⟨gb408,3,none⟩ = some (.slice A1_3 l1_3.length c1_3) := (y10 BK408.out 3).trans rfl; have hcz19_4 : w17.cell? ⟨gb408,4,none⟩ = some (.slice A1_4 l1_4.length c1_4) := (y10 BK408.out 4).trans rfl; have hfz19_0 := y13 BK408.out 0; have hfz19_1 := y13 BK408.out 1; have hfz19_2 := y13 BK408.out 2; have hfz19_3 := y13 BK408.out 3; have hfz19_4 := y13 BK408.out 4) | ((with_reducible refine y18 (f := 62) rfl ?_); refine y20 (some 21) rfl rfl Tryz.func62 (by kernel_rfl) rfl #[.slice A0_4 l0_4.length c0_4,.slice A1_4 l1_4.length c1_4] rfl (by (try simp only [qM_,List.map_cons,List.map_nil]); first | done | rfl | (simp only [qD_,qT_]; rfl)) ?_; (with_reducible refine (laws_eqLitS.calls k _ _ l0_4 _ _ l1_4 true _ ?side1 ?side2 ?side3 ?side4 A7.out rfl).mono ?_); (case side1 => repeat (first | exact (Kd.C_below HR0_4.out HB.out) | (with_reducible refine Kd.C_alloc ?_ _) | (with_reducible refine Kd.C_drewN ?_ _) | (with_reducible refine Kd.C_drew ?_))); (case side2 => exact HC0_4.out); (case side3 => repeat (first | exact (Kd.C_below HR1_4.out HB.out) | (with_reducible refine Kd.C_alloc ?_ _) | (with_reducible refine Kd.C_drewN ?_ _) | (with_reducible refine Kd.C_drew ?_))); (case side4 => exact HC1_4.out); rintro e w20 ⟨rfl,hb⟩; refine ⟨_,rfl, ?_⟩; have n0_ := y0.mk (y9 (g := gb407) (o := .cells #[.slice A0_0 l0_0.length c0_0,.int .i64 a0_1,.string a0_2,.slice A0_3 l0_3.length c0_3,.slice A0_4 l0_4.length c0_4] 84 (0,0)) (by (with_reducible repeat (first | refine y12 ?_ _ | refine y11 ?_ | refine y8 ?_ _)); exact BK407.out) hb); have n1_ := y0.mk (y9 (g := gb408) (o := .cells #[.slice A1_0 l1_0.length c1_0,.int .i64 a1_1,.string a1_2,.slice A1_3 l1_3.length c1_3,.slice A1_4 l1_4.length c1_4] 84 (0,0)) (by (with_reducible repeat (first | refine y12 ?_ _ | refine y11 ?_ | refine y8 ?_ _)); exact BK408.out) hb); have n2_ := y0.mk (y7 (by repeat (first | (with_reducible first | exact HB.out | apply y3 | apply y23 | apply y4 | refine y5 ?_ GE407.out | refine y5 ?_ GE408.out) | exact HB.out)) hb); clear BK407; clear BK408; clear HB; have BK407 := n0_; have BK408 := n1_; have HB := n2_; clear n0_ n1_ n2_; (try clear hb); (try clear hb2); (try clear hk); (try clear hi)))
    go_ret
    exact ⟨by first | rfl | (simp [y16,y17] <;> rfl) | (simp [*,y16,y17] <;> rfl),by repeat (first | (with_reducible first | exact HB.out | apply y3 | apply y23 | apply y4 | refine y5 ?_ GE407.out | refine y5 ?_ GE408.out) | exact HB.out)⟩
   ·replace c8 := Bool.eq_false_iff.mpr c8
    subst c8
    have H1 : (some false) = some r := by rw [if_neg (show ¬ (false = true) by decide)] at H; exact H
    clear H
    have H := H1
    clear H1
    exact absurd ((Option.some.inj H).trans htrue_) (by decide)
  ·replace c6 := Bool.eq_false_iff.mpr c6
   subst c6
   have H1 : (some false) = some r := by rw [if_neg (show ¬ (false = true) by decide)] at H; exact H
   clear H
   have H := H1
   clear H1
   exact absurd ((Option.some.inj H).trans htrue_) (by decide)
 ·replace c4 := Bool.eq_false_iff.mpr c4
  subst c4
  have H1 : (some false) = some r := by rw [if_neg (show ¬ (false = true) by decide)] at H; exact H
  clear H
  have H := H1
  clear H1
  exact absurd ((Option.some.inj H).trans htrue_) (by decide)
end Go.Proofs.YtamjmldfifofbaaGreatDoor.Pf
end
section
namespace Go.Proofs.YtamjmldfifofbaaGreatDoor.Pf
open Go.RowKit Go.Proofs.YtamjmldfifofbaaGreatDoorW.PrintWords Go.Proofs.YtamjmldfifofbaaGreatDoorW.PrintLast Go.Proofs.YtamjmldfifofbaaGreatDoorW.PrintMore
attribute [local go_sem] max2_int min2_int max_two min_two max_three min_three max_four min_four   -- for this text's walks alone
set_option linter.unusedVariables false
set_option linter.unusedSimpArgs false
def laws_eqRuleS.l0 : Nat → List (S84) → List (S84) → Int → Option (Bool)
 | 0,_,_,_ => none
 | k + 1,x0,x1,x5 => if x5 < (x0.length : Int) then (if 0 ≤ x5 then (if x5 < (x1.length : Int) then ((laws_eqRule.f k ((rd_T84 x0 x5).f0) ((rd_T84 x0 x5).f1.f0) ((rd_T84 x0 x5).f1.f1) ((rd_T84 x0 x5).f1.f2) ((rd_T84 x0 x5).f2) ((rd_T84 x1 x5).f0) ((rd_T84 x1 x5).f1.f0) ((rd_T84 x1 x5).f1.f1) ((rd_T84 x1 x5).f1.f2) ((rd_T84 x1 x5).f2)).bind fun t414 => (if t414 = true then (laws_eqRuleS.l0 k x0 x1 (wrap64 (x5 + 1))) else (some false))) else (none)) else (none)) else (some true)
def laws_eqRuleS.f (k : Nat) (l0 : List (S84)) (l1 : List (S84)) : Option (Bool) := if (l0.length : Int) = (l1.length : Int) then (laws_eqRuleS.l0 k l0 l1 0) else (some false)
def laws_eqRuleS.T6 : Bool × List (List Nat × List Nat) := (true,[([],[]),([],[]),([0,1],[0,1]),([2],[2]),([],[]),([],[]),([4,5],[4,5]),([6],[6]),([3,7],[3,7]),([8],[8])])
def laws_eqRuleS.B6 : List Nat := [0,0,3,7,0,0,48,112,255,511]
theorem laws_eqRuleS.tab6 : rtab .any (opsOf Tryz.f27 6) = laws_eqRuleS.T6 := by kernel_rfl
theorem laws_eqRuleS.bits6 : waitsOk laws_eqRuleS.T6.2 laws_eqRuleS.B6 = true := by kernel_rfl
set_option maxHeartbeats 8000000 in
set_option maxRecDepth 100000 in
theorem laws_eqRuleS.calls (k : Nat) (A0 : Option Addr) (c0 : Nat) (l0 : List (S84)) (A1 : Option Addr) (c1 : Nat) (l1 : List (S84)) (r : Bool) (w : World) (hr0 : Kd.C k84 w A0 l0.length l0) (hc0 : l0.length ≤ c0) (hr1 : Kd.C k84 w A1 l1.length l1) (hc1 : l1.length ≤ c1) (h : laws_eqRuleS.f k l0 l1 = some r) (htrue_ : r = true) :
  Calls Tryz.prog 27 #[.slice A0 l0.length c0,.slice A1 l1.length c1] w fun e w' => e = .returned (.bool r) ∧ Below w.heap.size w w' := by
 have hu84 := Tryz.underlying84
 have HR0 := y0.mk hr0
 have HC0 := y0.mk hc0
 clear hr0 hc0
 have HR1 := y0.mk hr1
 have HC1 := y0.mk hc1
 clear hr1 hc1
 have HB := y0.mk (Below.refl w.heap.size w)
 have H : (if (l0.length : Int) = (l1.length : Int) then (laws_eqRuleS.l0 k l0 l1 0) else (some false)) = some r := h
 clear h
 by_cases c3 : (l0.length : Int) = (l1.length : Int)
 ·rw [if_pos c3] at H
  have c3b0 : ((l0.length : Int) == (l1.length : Int)) = true := beq_iff_eq.mpr c3
  have c3b1 : ((l0.length : Int) != (l1.length : Int)) = false := bne_eq_false_iff_eq.mpr c3
  have c3b2 : (l0.length == l1.length) = true := by first | simpa using c3 | (simp at c3 ⊢; omega)
  clear c3
  have H' := y0.mk H
  clear H
  go_enter Tryz.func27,Tryz.ntmps27
  go_wp2
  go_loopg [5] k (fun kq v5 w' => ∃ (x5_1 : Int),v5 = .int .i64 x5_1 ∧ y0 (laws_eqRuleS.l0 kq l0 l1 x5_1 = some r) ∧ y0 (kq ≤ k) ∧ y0 (Below w.heap.size w w'))
  case atStart => exact ⟨(0),(by first | rfl | (simp; done) | (simp [*]; done)),H',⟨Nat.le_refl _⟩,⟨by repeat (first | (with_reducible first | exact HB.out | apply y3 | apply y23 | apply y4) | exact HB.out)⟩⟩
  case round =>
   clear H'
   try clear c1
   try clear c2
   try clear p2
   try clear c3
   try clear c3b0
   try clear c3b1
   try clear c3b2
   obtain ⟨x5_1,rfl,HA,HK1,HB⟩ := hrel
   cases gk with
   | zero => exact absurd HA.out (by simp [laws_eqRuleS.l0])
   | succ k1 =>
    have H := HA.out
    clear HA
    simp only [laws_eqRuleS.l0] at H
    by_cases c4 : x5_1 < (l0.length : Int)
    ·rw [if_pos c4] at H
     have c4b0 : decide (x5_1 < (l0.length : Int)) = true := decide_eq_true c4
     clear c4
     by_cases c5 : 0 ≤ x5_1
     ·rw [if_pos c5] at H
      have c5b0 : decide (0 ≤ x5_1) = true := decide_eq_true c5
      clear c5
      by_cases c6 : x5_1 < (l1.length : Int)
      ·rw [if_pos c6] at H
       have c6b0 : decide (x5_1 < (l1.length : Int)) = true := decide_eq_true c6
       clear c6
       replace H := Option.bind_eq_some_iff.mp H
       obtain ⟨t414,A70,H⟩ := H
       replace H : (if t414 = true then (laws_eqRuleS.l0 k1 l0 l1 (wrap64 (x5_1 + 1))) else (some false)) = some r := H
       have A7 := y0.mk A70
       clear A70
       by_cases c8 : t414 = true
       ·subst c8
        have H1 : (laws_eqRuleS.l0 k1 l0 l1 (wrap64 (x5_1 + 1))) = some r := by rw [if_pos rfl] at H; exact H
        clear H
        have H := H1
        clear H1
        have H' := y0.mk H
        clear H
        try go_wp2
        have n0_ := y0.mk (y4 HB.out)
        clear HB
        have HB := n0_
        clear n0_
        have p412 : 0 ≤ (x5_1 : Int) := of_decide_eq_true (by first | (with_reducible assumption) | assumption)
        have q412 : x5_1 < (l0.length : Int) := of_decide_eq_true (by first | (with_reducible assumption) | assumption)
        obtain ⟨ad412,A412_0,c412_0,A412_3,c412_3,A412_4,c412_4,e412,hx412_0,hx412_1,hx412_2,hx412_3,hx412_4,hl412_0,hi412_0,hl412_3,hi412_3,hl412_4,hi412_4⟩ := at_T84 HR0.out x5_1 p412 q412
        have hw412_4 := hx412_4
        have hw412_3 := hx412_3
        have hw412_2 := hx412_2
        have hw412_1 := hx412_1
        have hw412_0 := hx412_0
        cases e412
        replace hx412_0 := (HB.out.cell (World.block_lt_of_cell? w _ hx412_0)).trans hx412_0
        replace hx412_1 := (HB.out.cell (World.block_lt_of_cell? w _ hx412_1)).trans hx412_1
        replace hx412_2 := (HB.out.cell (World.block_lt_of_cell? w _ hx412_2)).trans hx412_2
        replace hx412_3 := (HB.out.cell (World.block_lt_of_cell? w _ hx412_3)).trans hx412_3
        replace hx412_4 := (HB.out.cell (World.block_lt_of_cell? w _ hx412_4)).trans hx412_4
        have HR412_0 := y0.mk hi412_0
        have HC412_0 := y0.mk hl412_0
        clear hi412_0 hl412_0
        have HR412_3 := y0.mk hi412_3
        have HC412_3 := y0.mk hl412_3
        clear hi412_3 hl412_3
        have HR412_4 := y0.mk hi412_4
        have HC412_4 := y0.mk hl412_4
        clear hi412_4 hl412_4
        replace p412 := eq_true p412
        replace q412 := eq_true q412
        have p413 : 0 ≤ (x5_1 : Int) := of_decide_eq_true (by first | (with_reducible assumption) | assumption)
        have q413 : x5_1 < (l1.length : Int) := of_decide_eq_true (by first | (with_reducible assumption) | assumption)
        obtain ⟨ad413,A413_0,c413_0,A413_3,c413_3,A413_4,c413_4,e413,hx413_0,hx413_1,hx413_2,hx413_3,hx413_4,hl413_0,hi413_0,hl413_3,hi413_3,hl413_4,hi413_4⟩ := at_T84 HR1.out x5_1 p413 q413
        have hw413_4 := hx413_4
        have hw413_3 := hx413_3
        have hw413_2 := hx413_2
        have hw413_1 := hx413_1
        have hw413_0 := hx413_0
        cases e413
        replace hx413_0 := (HB.out.cell (World.block_lt_of_cell? w _ hx413_0)).trans hx413_0
        replace hx413_1 := (HB.out.cell (World.block_lt_of_cell? w _ hx413_1)).trans hx413_1
        replace hx413_2 := (HB.out.cell (World.block_lt_of_cell? w _ hx413_2)).trans hx413_2
        replace hx413_3 := (HB.out.cell (World.block_lt_of_cell? w _ hx413_3)).trans hx413_3
        replace hx413_4 := (HB.out.cell (World.block_lt_of_cell? w _ hx413_4)).trans hx413_4
        have HR413_0 := y0.mk hi413_0
        have HC413_0 := y0.mk hl413_0
        clear hi413_0 hl413_0
        have HR413_3 := y0.mk hi413_3
        have HC413_3 := y0.mk hl413_3
        clear hi413_3 hl413_3
        have HR413_4 := y0.mk hi413_4
        have HC413_4 := y0.mk hl413_4
        clear hi413_4 hl413_4
        replace p413 := eq_true p413
        replace q413 := eq_true q413
        refine start_ (n := 10) (S := fun w' => w'.cell? (ad412.add ((x5_1).toNat * 5)) = some (.slice A412_0 ((rd_T84 l0 x5_1).f0).length c412_0) ∧ w'.cell? ⟨(ad412.add ((x5_1).toNat * 5)).block,(ad412.add ((x5_1).toNat * 5)).off + 1,none⟩ = some (.int .i64 ((rd_T84 l0 x5_1).f1.f0)) ∧ w'.cell? ⟨(ad412.add ((x5_1).toNat * 5)).block,(ad412.add ((x5_1).toNat * 5)).off + 2,none⟩ = some (.string ((rd_T84 l0 x5_1).f1.f1)) ∧ w'.cell? ⟨(ad412.add ((x5_1).toNat * 5)).block,(ad412.add ((x5_1).toNat * 5)).off + 3,none⟩ = some (.slice A412_3 ((rd_T84 l0 x5_1).f1.f2).length c412_3) ∧ w'.cell? ⟨(ad412.add ((x5_1).toNat * 5)).block,(ad412.add ((x5_1).toNat * 5)).off + 4,none⟩ = some (.slice A412_4 ((rd_T84 l0 x5_1).f2).length c412_4) ∧ w'.cell? (ad413.add ((x5_1).toNat * 5)) = some (.slice A413_0 ((rd_T84 l1 x5_1).f0).length c413_0) ∧ w'.cell? ⟨(ad413.add ((x5_1).toNat * 5)).block,(ad413.add ((x5_1).toNat * 5)).off + 1,none⟩ = some (.int .i64 ((rd_T84 l1 x5_1).f1.f0)) ∧ w'.cell? ⟨(ad413.add ((x5_1).toNat * 5)).block,(ad413.add ((x5_1).toNat * 5)).off + 2,none⟩ = some (.string ((rd_T84 l1 x5_1).f1.f1)) ∧ w'.cell? ⟨(ad413.add ((x5_1).toNat * 5)).block,(ad413.add ((x5_1).toNat * 5)).off + 3,none⟩ = some (.slice A413_3 ((rd_T84 l1 x5_1).f1.f2).length c413_3) ∧ w'.cell? ⟨(ad413.add ((x5_1).toNat * 5)).block,(ad413.add ((x5_1).toNat * 5)).off + 4,none⟩ = some (.slice A413_4 ((rd_T84 l1 x5_1).f2).length c413_4)) (ds := []) (fl_ 10 0) (by kernel_rfl) rfl rfl ⟨((HB.out.cell (World.block_lt_of_cell? w _ hw412_0)).trans hw412_0),((HB.out.cell (World.block_lt_of_cell? w _ hw412_1)).trans hw412_1),((HB.out.cell (World.block_lt_of_cell? w _ hw412_2)).trans hw412_2),((HB.out.cell (World.block_lt_of_cell? w _ hw412_3)).trans hw412_3),((HB.out.cell (World.block_lt_of_cell? w _ hw412_4)).trans hw412_4),((HB.out.cell (World.block_lt_of_cell? w _ hw413_0)).trans hw413_0),((HB.out.cell (World.block_lt_of_cell? w _ hw413_1)).trans hw413_1),((HB.out.cell (World.block_lt_of_cell? w _ hw413_2)).trans hw413_2),((HB.out.cell (World.block_lt_of_cell? w _ hw413_3)).trans hw413_3),((HB.out.cell (World.block_lt_of_cell? w _ hw413_4)).trans hw413_4)⟩ (fun hHeld => ?_); refine with_tabW laws_eqRuleS.tab6 laws_eqRuleS.bits6 (fun HT_ HW_ => ?_)
        generalize wr.drew = w9 at HB HR412_0 HR412_3 HR412_4 HR413_0 HR413_3 HR413_4 hx412_0 hx412_1 hx412_2 hx412_3 hx412_4 hx413_0 hx413_1 hx413_2 hx413_3 hx413_4 hHeld ⊢
        refine pure_ (i := 0) (N := some 17) (v := ?_) (a' := ?_) (fl_ 10 1) rfl rfl (y2 HT_.out (by kernel_rfl)) (fun _ _ _ h => h) (Or.inl ⟨by rfl, ?_⟩) ?_ ?_
        rotate_left
        ·intro w'
         go_simp
         with_reducible rfl
        rotate_left
        ·simp only [Act.put,qS_,qZ_,qC_,y22,y21]
         rfl
        refine pure_ (i := 1) (N := some 18) (v := ?_) (a' := ?_) (fl_ 10 3) rfl rfl (y2 HT_.out (by kernel_rfl)) (fun _ _ _ h => h) (Or.inl ⟨by rfl, ?_⟩) ?_ ?_
        rotate_left
        ·intro w'
         go_simp
         with_reducible rfl
        rotate_left
        ·simp only [Act.put,qS_,qZ_,qC_,y22,y21]
         rfl
        refine pure_ (i := 2) (N := some 19) (v := ?_) (a' := ?_) (fl_ 10 7) rfl rfl (y2 HT_.out (by kernel_rfl)) (fun _ _ _ h => h) (Or.inl ⟨by rfl, ?_⟩) ?_ ?_
        rotate_left
        ·intro w'
         go_simp
         with_reducible rfl
        rotate_left
        ·simp only [Act.put,qS_,qZ_,qC_,y22,y21]
         rfl
        refine pure_ (i := 4) (N := some 21) (v := ?_) (a' := ?_) (fl_ 10 23) rfl rfl (y2 HT_.out (by kernel_rfl)) (fun _ _ _ h => h) (Or.inl ⟨by rfl, ?_⟩) ?_ ?_
        rotate_left
        ·intro w'
         go_simp
         with_reducible rfl
        rotate_left
        ·simp only [Act.put,qS_,qZ_,qC_,y22,y21]
         rfl
        refine pure_ (i := 5) (N := some 22) (v := ?_) (a' := ?_) (fl_ 10 55) rfl rfl (y2 HT_.out (by kernel_rfl)) (fun _ _ _ h => h) (Or.inl ⟨by rfl, ?_⟩) ?_ ?_
        rotate_left
        ·intro w'
         go_simp
         with_reducible rfl
        rotate_left
        ·simp only [Act.put,qS_,qZ_,qC_,y22,y21]
         rfl
        refine pure_ (i := 6) (N := some 23) (v := ?_) (a' := ?_) (fl_ 10 119) rfl rfl (y2 HT_.out (by kernel_rfl)) (fun _ _ _ h => h) (Or.inl ⟨by rfl, ?_⟩) ?_ ?_
        rotate_left
        ·intro w'
         go_simp
         with_reducible rfl
        rotate_left
        ·simp only [Act.put,qS_,qZ_,qC_,y22,y21]
         rfl
        refine take_ (i := 3) (N := some 20) (v := ?_) (a' := ?_) (fl_ 10 127) rfl rfl (take_ofW HT_.out HW_.out (by kernel_rfl)) (fun _ _ _ h => h) (Or.inl ⟨by rfl, ?_⟩) hHeld ?_ ?_
        rotate_left
        ·rintro w' ⟨s0,s1,s2,s3,s4,s5,s6,s7,s8,s9⟩
         go_simp
         with_reducible rfl
        rotate_left
        ·simp only [Act.put,qS_,qZ_,qC_,y22,y21]
         rfl
        refine take_ (i := 7) (N := some 24) (v := ?_) (a' := ?_) (fl_ 10 255) rfl rfl (take_ofW HT_.out HW_.out (by kernel_rfl)) (fun _ _ _ h => h) (Or.inl ⟨by rfl, ?_⟩) hHeld ?_ ?_
        rotate_left
        ·rintro w' ⟨s0,s1,s2,s3,s4,s5,s6,s7,s8,s9⟩
         go_simp
         with_reducible rfl
        rotate_left
        ·simp only [Act.put,qS_,qZ_,qC_,y22,y21]
         rfl
        refine one_ (i := 8) (N := some 25) (fl_ 10 511) rfl rfl (one_of HT_.out (by kernel_rfl)) (by decide) (fun K hK => ?_)
        refine goes_ Tryz.func42 (by kernel_rfl) rfl #[.agg #[.slice A412_0 ((rd_T84 l0 x5_1).f0).length c412_0,.int .i64 ((rd_T84 l0 x5_1).f1.f0),.string ((rd_T84 l0 x5_1).f1.f1),.slice A412_3 ((rd_T84 l0 x5_1).f1.f2).length c412_3,.slice A412_4 ((rd_T84 l0 x5_1).f2).length c412_4],.agg #[.slice A413_0 ((rd_T84 l1 x5_1).f0).length c413_0,.int .i64 ((rd_T84 l1 x5_1).f1.f0),.string ((rd_T84 l1 x5_1).f1.f1),.slice A413_3 ((rd_T84 l1 x5_1).f1.f2).length c413_3,.slice A413_4 ((rd_T84 l1 x5_1).f2).length c413_4]] (by rfl) rfl rfl (by (try simp only [qM_,List.map_cons,List.map_nil]); first | done | rfl | (simp only [qD_,qT_]; rfl)) ?_
        with_reducible refine (laws_eqRule.calls k1 _ _ ((rd_T84 l0 x5_1).f0) ((rd_T84 l0 x5_1).f1.f0) ((rd_T84 l0 x5_1).f1.f1) _ _ ((rd_T84 l0 x5_1).f1.f2) _ _ ((rd_T84 l0 x5_1).f2) _ _ ((rd_T84 l1 x5_1).f0) ((rd_T84 l1 x5_1).f1.f0) ((rd_T84 l1 x5_1).f1.f1) _ _ ((rd_T84 l1 x5_1).f1.f2) _ _ ((rd_T84 l1 x5_1).f2) true _ ?side1 ?side2 ?side3 ?side4 ?side5 ?side6 ?side7 ?side8 ?side9 ?side10 ?side11 ?side12 A7.out rfl).mono ?_
        (case side1 => repeat (first | exact (Kd.C_below HR412_0.out HB.out) | (with_reducible refine Kd.C_alloc ?_ _) | (with_reducible refine Kd.C_drewN ?_ _) | (with_reducible refine Kd.C_drew ?_)))
        (case side2 => exact HC412_0.out)
        (case side3 => repeat (first | exact (Kd.C_below HR412_3.out HB.out) | (with_reducible refine Kd.C_alloc ?_ _) | (with_reducible refine Kd.C_drewN ?_ _) | (with_reducible refine Kd.C_drew ?_)))
        (case side4 => exact HC412_3.out)
        (case side5 => repeat (first | exact (Kd.C_below HR412_4.out HB.out) | (with_reducible refine Kd.C_alloc ?_ _) | (with_reducible refine Kd.C_drewN ?_ _) | (with_reducible refine Kd.C_drew ?_)))
        (case side6 => exact HC412_4.out)
        (case side7 => repeat (first | exact (Kd.C_below HR413_0.out HB.out) | (with_reducible refine Kd.C_alloc ?_ _) | (with_reducible refine Kd.C_drewN ?_ _) | (with_reducible refine Kd.C_drew ?_)))
        (case side8 => exact HC413_0.out)
        (case side9 => repeat (first | exact (Kd.C_below HR413_3.out HB.out) | (with_reducible refine Kd.C_alloc ?_ _) | (with_reducible refine Kd.C_drewN ?_ _) | (with_reducible refine Kd.C_drew ?_)))
        (case side10 => exact HC413_3.out)
        (case side11 => repeat (first | exact (Kd.C_below HR413_4.out HB.out) | (with_reducible refine Kd.C_alloc ?_ _) | (with_reducible refine Kd.C_drewN ?_ _) | (with_reducible refine Kd.C_drew ?_)))
        (case side12 => exact HC413_4.out)
        rintro e w10 ⟨rfl,hb⟩
        refine ⟨_,rfl, ?_⟩
        have n0_ := y0.mk (y7 (by repeat (first | (with_reducible first | exact HB.out | apply y3 | apply y23 | apply y4) | exact HB.out)) hb)
        clear HB
        have HB := n0_
        clear n0_
        (try clear hb)
        (try clear hb2)
        (try clear hk)
        (try clear hi)
        refine hK.out _ _ ⟨((HB.out.cell (World.block_lt_of_cell? w _ hw412_0)).trans hw412_0),((HB.out.cell (World.block_lt_of_cell? w _ hw412_1)).trans hw412_1),((HB.out.cell (World.block_lt_of_cell? w _ hw412_2)).trans hw412_2),((HB.out.cell (World.block_lt_of_cell? w _ hw412_3)).trans hw412_3),((HB.out.cell (World.block_lt_of_cell? w _ hw412_4)).trans hw412_4),((HB.out.cell (World.block_lt_of_cell? w _ hw413_0)).trans hw413_0),((HB.out.cell (World.block_lt_of_cell? w _ hw413_1)).trans hw413_1),((HB.out.cell (World.block_lt_of_cell? w _ hw413_2)).trans hw413_2),((HB.out.cell (World.block_lt_of_cell? w _ hw413_3)).trans hw413_3),((HB.out.cell (World.block_lt_of_cell? w _ hw413_4)).trans hw413_4)⟩ (fun hHeld => ?_)
        clear hK K
        refine norm_ (a' := ?_) ?_ ?_
        rotate_left
        ·show Act.put _ (some 25) _ = _
         simp only [Act.put,qS_,qZ_,qC_,y22,y21]
         rfl
        refine pure_ (i := 9) (N := some 26) (v := ?_) (a' := ?_) (fl_ 10 1023) rfl rfl (y2 HT_.out (by kernel_rfl)) (fun _ _ _ h => h) (Or.inl ⟨by rfl, ?_⟩) ?_ ?_
        rotate_left
        ·intro w'
         go_simp
         with_reducible rfl
        rotate_left
        ·simp only [Act.put,qS_,qZ_,qC_,y22,y21]
         rfl
        refine done_ (done_of HT_.out (by kernel_rfl)) ?_
        try go_wp2
        go_roundg k1
        case measure => have := HK1.out; omega
        case rel => exact ⟨(wrap64 (x5_1 + 1)),(by first | rfl | (simp; done) | (simp [*]; done)),H',⟨by have := HK1.out; omega⟩,⟨by repeat (first | (with_reducible first | exact HB.out | apply y3 | apply y23 | apply y4) | exact HB.out)⟩⟩
       ·replace c8 := Bool.eq_false_iff.mpr c8
        subst c8
        have H1 : (some false) = some r := by rw [if_neg (show ¬ (false = true) by decide)] at H; exact H
        clear H
        have H := H1
        clear H1
        exact absurd ((Option.some.inj H).trans htrue_) (by decide)
      ·rw [if_neg c6] at H
       exact absurd H (by simp)
     ·rw [if_neg c5] at H
      exact absurd H (by simp)
    ·rw [if_neg c4] at H
     have c4b0 : decide (x5_1 < (l0.length : Int)) = false := decide_eq_false c4
     clear c4
     obtain rfl := Option.some.inj H
     go_wp2
     go_ret
     exact ⟨by first | rfl | (simp [y16,y17] <;> rfl) | (simp [*,y16,y17] <;> rfl),by repeat (first | (with_reducible first | exact HB.out | apply y3 | apply y23 | apply y4) | exact HB.out)⟩
 ·rw [if_neg c3] at H
  have c3b0 : ((l0.length : Int) == (l1.length : Int)) = false := beq_eq_false_iff_ne.mpr c3
  have c3b1 : ((l0.length : Int) != (l1.length : Int)) = true := bne_iff_ne.mpr c3
  have c3b2 : (l0.length == l1.length) = false := by first | simpa using c3 | (simp at c3 ⊢; omega)
  exact absurd ((Option.some.inj H).trans htrue_) (by decide)
def laws_eqProg.f (k : Nat) (l0_0 : List (S77)) (l0_1 : List (S51)) (l0_2 : List (S84)) (l1_0 : List (S77)) (l1_1 : List (S51)) (l1_2 : List (S84)) : Option (Bool) := (laws_eqTypeDeclS.f k l0_0 l1_0).bind fun t417 => (if t417 = true then ((laws_eqRelDeclS.f k l0_1 l1_1).bind fun t418 => (if t418 = true then ((laws_eqRuleS.f k l0_2 l1_2).bind fun t419 => (if t419 = true then (some true) else (some false))) else (some false))) else (some false))
set_option maxHeartbeats 8000000 in
set_option maxRecDepth 100000 in
theorem laws_eqProg.calls (k : Nat) (A0_0 : Option Addr) (c0_0 : Nat) (l0_0 : List (S77)) (A0_1 : Option Addr) (c0_1 : Nat) (l0_1 : List (S51)) (A0_2 : Option Addr) (c0_2 : Nat) (l0_2 : List (S84)) (A1_0 : Option Addr) (c1_0 : Nat) (l1_0 : List (S77)) (A1_1 : Option Addr) (c1_1 : Nat) (l1_1 : List (S51)) (A1_2 : Option Addr) (c1_2 : Nat) (l1_2 : List (S84)) (r : Bool) (w : World) (hr0_0 : Kd.C k77 w A0_0 l0_0.length l0_0) (hc0_0 : l0_0.length ≤ c0_0) (hr0_1 : Kd.C k51 w A0_1 l0_1.length l0_1) (hc0_1 : l0_1.length ≤ c0_1) (hr0_2 : Kd.C k84 w A0_2 l0_2.length l0_2) (hc0_2 : l0_2.length ≤ c0_2) (hr1_0 : Kd.C k77 w A1_0 l1_0.length l1_0) (hc1_0 : l1_0.length ≤ c1_0) (hr1_1 : Kd.C k51 w A1_1 l1_1.length l1_1) (hc1_1 : l1_1.length ≤ c1_1) (hr1_2 : Kd.C k84 w A1_2 l1_2.length l1_2) (hc1_2 : l1_2.length ≤ c1_2) (h : laws_eqProg.f k l0_0 l0_1 l0_2 l1_0 l1_1 l1_2 = some r) (htrue_ : r = true) :
  Calls Tryz.prog 10 #[.agg #[.slice A0_0 l0_0.length c0_0,.slice A0_1 l0_1.length c0_1,.slice A0_2 l0_2.length c0_2],.agg #[.slice A1_0 l1_0.length c1_0,.slice A1_1 l1_1.length c1_1,.slice A1_2 l1_2.length c1_2]] w fun e w' => e = .returned (.bool r) ∧ Below w.heap.size w w' := by
 have hu37 := Tryz.underlying37
 have HR0_0 := y0.mk hr0_0
 have HC0_0 := y0.mk hc0_0
 clear hr0_0 hc0_0
 have HR0_1 := y0.mk hr0_1
 have HC0_1 := y0.mk hc0_1
 clear hr0_1 hc0_1
 have HR0_2 := y0.mk hr0_2
 have HC0_2 := y0.mk hc0_2
 clear hr0_2 hc0_2
 have HR1_0 := y0.mk hr1_0
 have HC1_0 := y0.mk hc1_0
 clear hr1_0 hc1_0
 have HR1_1 := y0.mk hr1_1
 have HC1_1 := y0.mk hc1_1
 clear hr1_1 hc1_1
 have HR1_2 := y0.mk hr1_2
 have HC1_2 := y0.mk hc1_2
 clear hr1_2 hc1_2
 have HB := y0.mk (Below.refl w.heap.size w)
 have H : ((laws_eqTypeDeclS.f k l0_0 l1_0).bind fun t417 => (if t417 = true then ((laws_eqRelDeclS.f k l0_1 l1_1).bind fun t418 => (if t418 = true then ((laws_eqRuleS.f k l0_2 l1_2).bind fun t419 => (if t419 = true then (some true) else (some false))) else (some false))) else (some false))) = some r := h
 clear h
 replace H := Option.bind_eq_some_iff.mp H
 obtain ⟨t417,A30,H⟩ := H
 replace H : (if t417 = true then ((laws_eqRelDeclS.f k l0_1 l1_1).bind fun t418 => (if t418 = true then ((laws_eqRuleS.f k l0_2 l1_2).bind fun t419 => (if t419 = true then (some true) else (some false))) else (some false))) else (some false)) = some r := H
 have A3 := y0.mk A30
 clear A30
 by_cases c4 : t417 = true
 ·subst c4
  have H1 : ((laws_eqRelDeclS.f k l0_1 l1_1).bind fun t418 => (if t418 = true then ((laws_eqRuleS.f k l0_2 l1_2).bind fun t419 => (if t419 = true then (some true) else (some false))) else (some false))) = some r := by rw [if_pos rfl] at H; exact H
  clear H
  have H := H1
  clear H1
  replace H := Option.bind_eq_some_iff.mp H
  obtain ⟨t418,A50,H⟩ := H
  replace H : (if t418 = true then ((laws_eqRuleS.f k l0_2 l1_2).bind fun t419 => (if t419 = true then (some true) else (some false))) else (some false)) = some r := H
  have A5 := y0.mk A50
  clear A50
  by_cases c6 : t418 = true
  ·subst c6
   have H1 : ((laws_eqRuleS.f k l0_2 l1_2).bind fun t419 => (if t419 = true then (some true) else (some false))) = some r := by rw [if_pos rfl] at H; exact H
   clear H
   have H := H1
   clear H1
   replace H := Option.bind_eq_some_iff.mp H
   obtain ⟨t419,A70,H⟩ := H
   replace H : (if t419 = true then (some true) else (some false)) = some r := H
   have A7 := y0.mk A70
   clear A70
   by_cases c8 : t419 = true
   ·subst c8
    have H1 : (some true) = some r := by rw [if_pos rfl] at H; exact H
    clear H
    have H := H1
    clear H1
    obtain rfl := Option.some.inj H
    go_enter Tryz.func10,Tryz.ntmps10
    go_wp2_with (first | ((with_reducible refine y19 (N := 2) rfl ?_); refine y15 ?hg (N := 2) ?hd (cs := #[.slice A0_0 l0_0.length c0_0,.slice A0_1 l0_1.length c0_1,.slice A0_2 l0_2.length c0_2]) (t := 37) ?hr ?_; (case hd => rfl); (case hg => rfl); (case hr => first | (go_simp; done) | (go_simp; rfl)); intro gb415 hg w9 hbox hb; have n0_ := y0.mk (y7 (by repeat (first | (with_reducible first | exact HB.out | apply y3 | apply y23 | apply y4) | exact HB.out)) hb); have n1_ := y0.mk (hbox); have n2_ := y0.mk ((by rw [hg]; exact (y6 (by repeat (first | (with_reducible first | exact HB.out | apply y3 | apply y23 | apply y4) | exact HB.out))) : w.heap.size ≤ gb415)); have n3_ := y0.mk ((by rw [hg]; exact (y6 (by repeat (first | (with_reducible first | exact HB.out | apply y3 | apply y23 | apply y4) | exact HB.out))) : w.heap.size ≤ gb415)); clear HB; have HB := n0_; have BK415 := n1_; have GW415 := n2_; have GE415 := n3_; clear n0_ n1_ n2_ n3_; clear hb hbox hg) | ((with_reducible refine y19 (N := 3) rfl ?_); refine y15 ?hg (N := 3) ?hd (cs := #[.slice A1_0 l1_0.length c1_0,.slice A1_1 l1_1.length c1_1,.slice A1_2 l1_2.length c1_2]) (t := 37) ?hr ?_; (case hd => rfl); (case hg => rfl); (case hr => first | (go_simp; done) | (go_simp; rfl)); intro gb416 hg w10 hbox hb; have n0_ := y0.mk (y9 (g := gb415) (o := .cells #[.slice A0_0 l0_0.length c0_0,.slice A0_1 l0_1.length c0_1,.slice A0_2 l0_2.length c0_2] 37 (0,0)) (by (with_reducible repeat (first | refine y12 ?_ _ | refine y11 ?_ | refine y8 ?_ _)); exact BK415.out) hb); have n1_ := y0.mk (y7 (by repeat (first | (with_reducible first | exact HB.out | apply y3 | apply y23 | apply y4 | refine y5 ?_ GE415.out) | exact HB.out)) hb); have n2_ := y0.mk (hbox); have n3_ := y0.mk ((by rw [hg]; exact (y6 (by repeat (first | (with_reducible first | exact HB.out | apply y3 | apply y23 | apply y4 | refine y5 ?_ GE415.out) | exact HB.out))) : w.heap.size ≤ gb416)); have n4_ := y0.mk ((by rw [hg]; exact (y6 (by repeat (first | (with_reducible first | exact HB.out | apply y3 | apply y23 | apply y4 | refine y5 ?_ GE415.out) | exact HB.out))) : w.heap.size ≤ gb416)); have n5_ := y0.mk ((by rw [hg]; exact Nat.ne_of_lt (y14 (g := gb415) (o := .cells #[.slice A0_0 l0_0.length c0_0,.slice A0_1 l0_1.length c0_1,.slice A0_2 l0_2.length c0_2] 37 (0,0)) (by (with_reducible repeat (first | refine y12 ?_ _ | refine y11 ?_ | refine y8 ?_ _)); exact BK415.out)) : gb415 ≠ gb416)); have n6_ := y0.mk ((by rw [hg]; exact Nat.ne_of_gt (y14 (g := gb415) (o := .cells #[.slice A0_0 l0_0.length c0_0,.slice A0_1 l0_1.length c0_1,.slice A0_2 l0_2.length c0_2] 37 (0,0)) (by (with_reducible repeat (first | refine y12 ?_ _ | refine y11 ?_ | refine y8 ?_ _)); exact BK415.out)) : gb416 ≠ gb415)); clear BK415; clear HB; have BK415 := n0_; have HB := n1_; have BK416 := n2_; have GW416 := n3_; have GE416 := n4_; have NB415_416 := n5_; have NB416_415 := n6_; clear n0_ n1_ n2_ n3_ n4_ n5_ n6_; clear hb hbox hg; have hnb11 := NB415_416.out; have hnc11 := NB416_415.out; have hcz12_0 : w10.cell? ⟨gb415,0,none⟩ = some (.slice A0_0 l0_0.length c0_0) := (y10 BK415.out 0).trans rfl; have hcz12_1 : w10.cell? ⟨gb415,1,none⟩ = some (.slice A0_1 l0_1.length c0_1) := (y10 BK415.out 1).trans rfl; have hcz12_2 : w10.cell? ⟨gb415,2,none⟩ = some (.slice A0_2 l0_2.length c0_2) := (y10 BK415.out 2).trans rfl; have hfz12_0 := y13 BK415.out 0; have hfz12_1 := y13 BK415.out 1; have hfz12_2 := y13 BK415.out 2; have hcz13_0 : w10.cell? ⟨gb416,0,none⟩ = some (.slice A1_0 l1_0.length c1_0) := (y10 BK416.out 0).trans rfl; have hcz13_1 : w10.cell? ⟨gb416,1,none⟩ = some (.slice A1_1 l1_1.length c1_1) := (y10 BK416.out 1).trans rfl; have hcz13_2 : w10.cell? ⟨gb416,2,none⟩ = some (.slice A1_2 l1_2.length c1_2) := (y10 BK416.out 2).trans rfl; have hfz13_0 := y13 BK416.out 0; have hfz13_1 := y13 BK416.out 1; have hfz13_2 := y13 BK416.out 2) | ((with_reducible refine y18 (f := 25) rfl ?_); refine y20 (some 9) rfl rfl Tryz.func25 (by kernel_rfl) rfl #[.slice A0_0 l0_0.length c0_0,.slice A1_0 l1_0.length c1_0] rfl (by (try simp only [qM_,List.map_cons,List.map_nil]); first | done | rfl | (simp only [qD_,qT_]; rfl)) ?_; (with_reducible refine (laws_eqTypeDeclS.calls k _ _ l0_0 _ _ l1_0 true _ ?side1 ?side2 ?side3 ?side4 A3.out rfl).mono ?_); (case side1 => repeat (first | exact (Kd.C_below HR0_0.out HB.out) | (with_reducible refine Kd.C_alloc ?_ _) | (with_reducible refine Kd.C_drewN ?_ _) | (with_reducible refine Kd.C_drew ?_))); (case side2 => exact HC0_0.out); (case side3 => repeat (first | exact (Kd.C_below HR1_0.out HB.out) | (with_reducible refine Kd.C_alloc ?_ _) | (with_reducible refine Kd.C_drewN ?_ _) | (with_reducible refine Kd.C_drew ?_))); (case side4 => exact HC1_0.out); rintro e w14 ⟨rfl,hb⟩; refine ⟨_,rfl, ?_⟩; have n0_ := y0.mk (y9 (g := gb415) (o := .cells #[.slice A0_0 l0_0.length c0_0,.slice A0_1 l0_1.length c0_1,.slice A0_2 l0_2.length c0_2] 37 (0,0)) (by (with_reducible repeat (first | refine y12 ?_ _ | refine y11 ?_ | refine y8 ?_ _)); exact BK415.out) hb); have n1_ := y0.mk (y9 (g := gb416) (o := .cells #[.slice A1_0 l1_0.length c1_0,.slice A1_1 l1_1.length c1_1,.slice A1_2 l1_2.length c1_2] 37 (0,0)) (by (with_reducible repeat (first | refine y12 ?_ _ | refine y11 ?_ | refine y8 ?_ _)); exact BK416.out) hb); have n2_ := y0.mk (y7 (by repeat (first | (with_reducible first | exact HB.out | apply y3 | apply y23 | apply y4 | refine y5 ?_ GE415.out | refine y5 ?_ GE416.out) | exact HB.out)) hb); clear BK415; clear BK416; clear HB; have BK415 := n0_; have BK416 := n1_; have HB := n2_; clear n0_ n1_ n2_; (try clear hb); (try clear hb2); (try clear hk); (try clear hi); have hcz15_0 : w14.cell? ⟨gb415,0,none⟩ = some (.slice A0_0 l0_0.length c0_0) := (y10 BK415.out 0).trans rfl; have hcz15_1 : w14.cell? ⟨gb415,1,none⟩ = some (.slice A0_1 l0_1.length c0_1) := (y10 BK415.out 1).trans rfl; have hcz15_2 : w14.cell? ⟨gb415,2,none⟩ = some (.slice A0_2 l0_2.length c0_2) := (y10 BK415.out 2).trans rfl; have hfz15_0 := y13 BK415.out 0; have hfz15_1 := y13 BK415.out 1; have hfz15_2 := y13 BK415.out 2; have hcz16_0 : w14.cell? ⟨gb416,0,none⟩ = some (.slice A1_0 l1_0.length c1_0) := (y10 BK416.out 0).trans rfl; have hcz16_1 : w14.cell? ⟨gb416,1,none⟩ = some (.slice A1_1 l1_1.length c1_1) := (y10 BK416.out 1).trans rfl; have hcz16_2 : w14.cell? ⟨gb416,2,none⟩ = some (.slice A1_2 l1_2.length c1_2) := (y10 BK416.out 2).trans rfl; have hfz16_0 := y13 BK416.out 0; have hfz16_1 := y13 BK416.out 1; have hfz16_2 := y13 BK416.out 2) | ((with_reducible refine y18 (f := 26) rfl ?_); refine y20 (some 15) rfl rfl Tryz.func26 (by kernel_rfl) rfl #[.slice A0_1 l0_1.length c0_1,.slice A1_1 l1_1.length c1_1] rfl (by (try simp only [qM_,List.map_cons,List.map_nil]); first | done | rfl | (simp only [qD_,qT_]; rfl)) ?_; (with_reducible refine (laws_eqRelDeclS.calls k _ _ l0_1 _ _ l1_1 true _ ?side1 ?side2 ?side3 ?side4 A5.out rfl).mono ?_); (case side1 => repeat (first | exact (Kd.C_below HR0_1.out HB.out) | (with_reducible refine Kd.C_alloc ?_ _) | (with_reducible refine Kd.C_drewN ?_ _) | (with_reducible refine Kd.C_drew ?_))); (case side2 => exact HC0_1.out); (case side3 => repeat (first | exact (Kd.C_below HR1_1.out HB.out) | (with_reducible refine Kd.C_alloc ?_ _) | (with_reducible refine Kd.C_drewN ?_ _) | (with_reducible refine Kd.C_drew ?_))); (case side4 => exact HC1_1.out); rintro e w17 ⟨rfl,hb⟩; refine ⟨_,rfl, ?_⟩; have n0_ := y0.mk (y9 (g := gb415) (o := .cells #[.slice A0_0 l0_0.length c0_0,.slice A0_1 l0_1.length c0_1,.slice A0_2 l0_2.length c0_2] 37 (0,0)) (by (with_reducible repeat (first | refine y12 ?_ _ | refine y11 ?_ | refine y8 ?_ _)); exact BK415.out) hb); have n1_ := y0.mk (y9 (g := gb416) (o := .cells #[.slice A1_0 l1_0.length c1_0,.slice A1_1 l1_1.length c1_1,.slice A1_2 l1_2.length c1_2] 37 (0,0)) (by (with_reducible repeat (first | refine y12 ?_ _ | refine y11 ?_ | refine y8 ?_ _)); exact BK416.out) hb); have n2_ := y0.mk (y7 (by repeat (first | (with_reducible first | exact HB.out | apply y3 | apply y23 | apply y4 | refine y5 ?_ GE415.out | refine y5 ?_ GE416.out) | exact HB.out)) hb); clear BK415; clear BK416; clear HB; have BK415 := n0_; have BK416 := n1_; have HB := n2_; clear n0_ n1_ n2_; (try clear hb); (try clear hb2); (try clear hk); (try clear hi); have hcz18_0 : w17.cell? ⟨gb415,0,none⟩ = some (.slice A0_0 l0_0.length c0_0) := (y10 BK415.out 0).trans rfl; have hcz18_1 : w17.cell? ⟨gb415,1,none⟩ = some (.slice A0_1 l0_1.length c0_1) := (y10 BK415.out 1).trans rfl; have hcz18_2 : w17.cell? ⟨gb415,2,none⟩ = some (.slice A0_2 l0_2.length c0_2) := (y10 BK415.out 2).trans rfl; have hfz18_0 := y13 BK415.out 0; have hfz18_1 := y13 BK415.out 1; have hfz18_2 := y13 BK415.out 2; have hcz19_0 : w17.cell? ⟨gb416,0,none⟩ = some (.slice A1_0 l1_0.length c1_0) := (y10 BK416.out 0).trans rfl; have hcz19_1 : w17.cell? ⟨gb416,1,none⟩ = some (.slice A1_1 l1_1.length c1_1) := (y10 BK416.out 1).trans rfl; have hcz19_2 : w17.cell? ⟨gb416,2,none⟩ = some (.slice A1_2 l1_2.length c1_2) := (y10 BK416.out 2).trans rfl; have hfz19_0 := y13 BK416.out 0; have hfz19_1 := y13 BK416.out 1; have hfz19_2 := y13 BK416.out 2) | ((with_reducible refine y18 (f := 27) rfl ?_); refine y20 (some 21) rfl rfl Tryz.func27 (by kernel_rfl) rfl #[.slice A0_2 l0_2.length c0_2,.slice A1_2 l1_2.length c1_2] rfl (by (try simp only [qM_,List.map_cons,List.map_nil]); first | done | rfl | (simp only [qD_,qT_]; rfl)) ?_; (with_reducible refine (laws_eqRuleS.calls k _ _ l0_2 _ _ l1_2 true _ ?side1 ?side2 ?side3 ?side4 A7.out rfl).mono ?_); (case side1 => repeat (first | exact (Kd.C_below HR0_2.out HB.out) | (with_reducible refine Kd.C_alloc ?_ _) | (with_reducible refine Kd.C_drewN ?_ _) | (with_reducible refine Kd.C_drew ?_))); (case side2 => exact HC0_2.out); (case side3 => repeat (first | exact (Kd.C_below HR1_2.out HB.out) | (with_reducible refine Kd.C_alloc ?_ _) | (with_reducible refine Kd.C_drewN ?_ _) | (with_reducible refine Kd.C_drew ?_))); (case side4 => exact HC1_2.out); rintro e w20 ⟨rfl,hb⟩; refine ⟨_,rfl, ?_⟩; have n0_ := y0.mk (y9 (g := gb415) (o := .cells #[.slice A0_0 l0_0.length c0_0,.slice A0_1 l0_1.length c0_1,.slice A0_2 l0_2.length c0_2] 37 (0,0)) (by (with_reducible repeat (first | refine y12 ?_ _ | refine y11 ?_ | refine y8 ?_ _)); exact BK415.out) hb); have n1_ := y0.mk (y9 (g := gb416) (o := .cells #[.slice A1_0 l1_0.length c1_0,.slice A1_1 l1_1.length c1_1,.slice A1_2 l1_2.length c1_2] 37 (0,0)) (by (with_reducible repeat (first | refine y12 ?_ _ | refine y11 ?_ | refine y8 ?_ _)); exact BK416.out) hb); have n2_ := y0.mk (y7 (by repeat (first | (with_reducible first | exact HB.out | apply y3 | apply y23 | apply y4 | refine y5 ?_ GE415.out | refine y5 ?_ GE416.out) | exact HB.out)) hb); clear BK415; clear BK416; clear HB; have BK415 := n0_; have BK416 := n1_; have HB := n2_; clear n0_ n1_ n2_; (try clear hb); (try clear hb2); (try clear hk); (try clear hi)))
    go_ret
    exact ⟨by first | rfl | (simp [y16,y17] <;> rfl) | (simp [*,y16,y17] <;> rfl),by repeat (first | (with_reducible first | exact HB.out | apply y3 | apply y23 | apply y4 | refine y5 ?_ GE415.out | refine y5 ?_ GE416.out) | exact HB.out)⟩
   ·replace c8 := Bool.eq_false_iff.mpr c8
    subst c8
    have H1 : (some false) = some r := by rw [if_neg (show ¬ (false = true) by decide)] at H; exact H
    clear H
    have H := H1
    clear H1
    exact absurd ((Option.some.inj H).trans htrue_) (by decide)
  ·replace c6 := Bool.eq_false_iff.mpr c6
   subst c6
   have H1 : (some false) = some r := by rw [if_neg (show ¬ (false = true) by decide)] at H; exact H
   clear H
   have H := H1
   clear H1
   exact absurd ((Option.some.inj H).trans htrue_) (by decide)
 ·replace c4 := Bool.eq_false_iff.mpr c4
  subst c4
  have H1 : (some false) = some r := by rw [if_neg (show ¬ (false = true) by decide)] at H; exact H
  clear H
  have H := H1
  clear H1
  exact absurd ((Option.some.inj H).trans htrue_) (by decide)
def laws_eqTuple.f (k : Nat) (l0_0 : List ByteArray) (l1_0 : List ByteArray) : Option (Bool) := (laws_eqStringS.f k l0_0 l1_0).bind fun t422 => (if t422 = true then (some true) else (some false))
set_option maxHeartbeats 8000000 in
set_option maxRecDepth 100000 in
theorem laws_eqTuple.calls (k : Nat) (A0_0 : Option Addr) (c0_0 : Nat) (l0_0 : List ByteArray) (A1_0 : Option Addr) (c1_0 : Nat) (l1_0 : List ByteArray) (r : Bool) (w : World) (hr0_0 : Kd.C Kd.string w A0_0 l0_0.length l0_0) (hc0_0 : l0_0.length ≤ c0_0) (hr1_0 : Kd.C Kd.string w A1_0 l1_0.length l1_0) (hc1_0 : l1_0.length ≤ c1_0) (h : laws_eqTuple.f k l0_0 l1_0 = some r) (htrue_ : r = true) :
  Calls Tryz.prog 11 #[.agg #[.slice A0_0 l0_0.length c0_0],.agg #[.slice A1_0 l1_0.length c1_0]] w fun e w' => e = .returned (.bool r) ∧ Below w.heap.size w w' := by
 have hu39 := Tryz.underlying39
 have HR0_0 := y0.mk hr0_0
 have HC0_0 := y0.mk hc0_0
 clear hr0_0 hc0_0
 have HR1_0 := y0.mk hr1_0
 have HC1_0 := y0.mk hc1_0
 clear hr1_0 hc1_0
 have HB := y0.mk (Below.refl w.heap.size w)
 have H : ((laws_eqStringS.f k l0_0 l1_0).bind fun t422 => (if t422 = true then (some true) else (some false))) = some r := h
 clear h
 replace H := Option.bind_eq_some_iff.mp H
 obtain ⟨t422,A30,H⟩ := H
 replace H : (if t422 = true then (some true) else (some false)) = some r := H
 have A3 := y0.mk A30
 clear A30
 by_cases c4 : t422 = true
 ·subst c4
  have H1 : (some true) = some r := by rw [if_pos rfl] at H; exact H
  clear H
  have H := H1
  clear H1
  obtain rfl := Option.some.inj H
  go_enter Tryz.func11,Tryz.ntmps11
  go_wp2_with (first | ((with_reducible refine y19 (N := 2) rfl ?_); refine y15 ?hg (N := 2) ?hd (cs := #[.slice A0_0 l0_0.length c0_0]) (t := 39) ?hr ?_; (case hd => rfl); (case hg => rfl); (case hr => first | (go_simp; done) | (go_simp; rfl)); intro gb420 hg w5 hbox hb; have n0_ := y0.mk (y7 (by repeat (first | (with_reducible first | exact HB.out | apply y3 | apply y23 | apply y4) | exact HB.out)) hb); have n1_ := y0.mk (hbox); have n2_ := y0.mk ((by rw [hg]; exact (y6 (by repeat (first | (with_reducible first | exact HB.out | apply y3 | apply y23 | apply y4) | exact HB.out))) : w.heap.size ≤ gb420)); have n3_ := y0.mk ((by rw [hg]; exact (y6 (by repeat (first | (with_reducible first | exact HB.out | apply y3 | apply y23 | apply y4) | exact HB.out))) : w.heap.size ≤ gb420)); clear HB; have HB := n0_; have BK420 := n1_; have GW420 := n2_; have GE420 := n3_; clear n0_ n1_ n2_ n3_; clear hb hbox hg) | ((with_reducible refine y19 (N := 3) rfl ?_); refine y15 ?hg (N := 3) ?hd (cs := #[.slice A1_0 l1_0.length c1_0]) (t := 39) ?hr ?_; (case hd => rfl); (case hg => rfl); (case hr => first | (go_simp; done) | (go_simp; rfl)); intro gb421 hg w6 hbox hb; have n0_ := y0.mk (y9 (g := gb420) (o := .cells #[.slice A0_0 l0_0.length c0_0] 39 (0,0)) (by (with_reducible repeat (first | refine y12 ?_ _ | refine y11 ?_ | refine y8 ?_ _)); exact BK420.out) hb); have n1_ := y0.mk (y7 (by repeat (first | (with_reducible first | exact HB.out | apply y3 | apply y23 | apply y4 | refine y5 ?_ GE420.out) | exact HB.out)) hb); have n2_ := y0.mk (hbox); have n3_ := y0.mk ((by rw [hg]; exact (y6 (by repeat (first | (with_reducible first | exact HB.out | apply y3 | apply y23 | apply y4 | refine y5 ?_ GE420.out) | exact HB.out))) : w.heap.size ≤ gb421)); have n4_ := y0.mk ((by rw [hg]; exact (y6 (by repeat (first | (with_reducible first | exact HB.out | apply y3 | apply y23 | apply y4 | refine y5 ?_ GE420.out) | exact HB.out))) : w.heap.size ≤ gb421)); have n5_ := y0.mk ((by rw [hg]; exact Nat.ne_of_lt (y14 (g := gb420) (o := .cells #[.slice A0_0 l0_0.length c0_0] 39 (0,0)) (by (with_reducible repeat (first | refine y12 ?_ _ | refine y11 ?_ | refine y8 ?_ _)); exact BK420.out)) : gb420 ≠ gb421)); have n6_ := y0.mk ((by rw [hg]; exact Nat.ne_of_gt (y14 (g := gb420) (o := .cells #[.slice A0_0 l0_0.length c0_0] 39 (0,0)) (by (with_reducible repeat (first | refine y12 ?_ _ | refine y11 ?_ | refine y8 ?_ _)); exact BK420.out)) : gb421 ≠ gb420)); clear BK420; clear HB; have BK420 := n0_; have HB := n1_; have BK421 := n2_; have GW421 := n3_; have GE421 := n4_; have NB420_421 := n5_; have NB421_420 := n6_; clear n0_ n1_ n2_ n3_ n4_ n5_ n6_; clear hb hbox hg; have hnb7 := NB420_421.out; have hnc7 := NB421_420.out; have hcz8_0 : w6.cell? ⟨gb420,0,none⟩ = some (.slice A0_0 l0_0.length c0_0) := (y10 BK420.out 0).trans rfl; have hfz8_0 := y13 BK420.out 0; have hcz9_0 : w6.cell? ⟨gb421,0,none⟩ = some (.slice A1_0 l1_0.length c1_0) := (y10 BK421.out 0).trans rfl; have hfz9_0 := y13 BK421.out 0) | ((with_reducible refine y18 (f := 28) rfl ?_); refine y20 (some 9) rfl rfl Tryz.func28 (by kernel_rfl) rfl #[.slice A0_0 l0_0.length c0_0,.slice A1_0 l1_0.length c1_0] rfl (by (try simp only [qM_,List.map_cons,List.map_nil]); first | done | rfl | (simp only [qD_,qT_]; rfl)) ?_; (with_reducible refine (laws_eqStringS.calls k _ _ l0_0 _ _ l1_0 true _ ?side1 ?side2 ?side3 ?side4 A3.out rfl).mono ?_); (case side1 => repeat (first | exact (Kd.C_below HR0_0.out HB.out) | (with_reducible refine Kd.C_alloc ?_ _) | (with_reducible refine Kd.C_drewN ?_ _) | (with_reducible refine Kd.C_drew ?_))); (case side2 => exact HC0_0.out); (case side3 => repeat (first | exact (Kd.C_below HR1_0.out HB.out) | (with_reducible refine Kd.C_alloc ?_ _) | (with_reducible refine Kd.C_drewN ?_ _) | (with_reducible refine Kd.C_drew ?_))); (case side4 => exact HC1_0.out); rintro e w' ⟨rfl,⟨nd,rfl⟩⟩; refine ⟨_,rfl, ?_⟩))
  go_ret
  exact ⟨by first | rfl | (simp [y16,y17] <;> rfl) | (simp [*,y16,y17] <;> rfl),by repeat (first | (with_reducible first | exact HB.out | apply y3 | apply y23 | apply y4 | refine y5 ?_ GE420.out | refine y5 ?_ GE421.out) | exact HB.out)⟩
 ·replace c4 := Bool.eq_false_iff.mpr c4
  subst c4
  have H1 : (some false) = some r := by rw [if_neg (show ¬ (false = true) by decide)] at H; exact H
  clear H
  have H := H1
  clear H1
  exact absurd ((Option.some.inj H).trans htrue_) (by decide)
end Go.Proofs.YtamjmldfifofbaaGreatDoor.Pf
end

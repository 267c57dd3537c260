-- Cut by prune.py, a program of this session, out of the texts of this claim: Lean checks it.
import Derived.Test.YtocmfolajckaeaaGreatDoorVlsPex0
import Derived.Test.YtocmfolajckaeaaGreatDoorVlsPex17
import Derived.Test.YtocmfolajckaeaaGreatDoorVlsPex22
namespace Go.Proofs.YtocmfolajckaeaaGreatDoor.Pe
open Go.RowKit Go.Proofs.YtocmfolajckaeaaGreatDoorW.PrintWords Go.Proofs.YtocmfolajckaeaaGreatDoorW.PrintLast Go.Proofs.YtocmfolajckaeaaGreatDoorW.PrintMore
attribute [local go_sem] max2_int min2_int max_two min_two max_three min_three max_four min_four   -- for this text's walks alone
set_option linter.unusedVariables false
set_option linter.unusedSimpArgs false
/-- What is reckoned in the one way that a call of the law can go. -/
def laws_FnExactRelLess.Run (k : Nat) (a : Int) (l0 : List (S49)) (b : Int) (l1 : List (S49)) : Prop :=
 ∃ r,laws_szRel.f k a l0 1048576 = some r ∧ (r < 0 ∨ (¬ r < 0 ∧ ∃ r2,laws_szRel.f k b l1 r = some r2 ∧ (r2 < 0 ∨ (¬ r2 < 0 ∧ ∃ (ar : Int) (xs : List (S48)) (br : Int) (ys : List (S48)) (gr : Int) (gs : List (S48)) (m1 : Int) (xm : List (S48)) (m2 : Int) (ym : List (S48)) (m3 : Int) (gm : List (S48)),
  laws_toRel.f k a l0 = some (ar,xs) ∧ laws_toRel.f k b l1 = some (br,ys) ∧ z3_.f k ar xs br ys = some (gr,gs) ∧ impl_RelLess.f k ar xs br ys = some (gr,gs) ∧ laws_eqRel.f k gr gs gr gs = some true ∧ laws_eqRel.f k ar xs ar xs = some true ∧ laws_eqRel.f k br ys br ys = some true ∧
  laws_markRel.f k ar xs 1 = some (m1,xm) ∧ laws_markRel.f k br ys m1 = some (m2,ym) ∧ ¬ m2 < 0 ∧ laws_markRel.f k gr gs 1 = some (m3,gm) ∧ gm.length = gs.length ∧ laws_heldRel.f k gr gm 1 = some m3 ∧ ¬ m3 < 0))))
set_option maxHeartbeats 16000000 in
set_option maxRecDepth 100000 in
theorem laws_FnExactRelLess.calls (k : Nat) (a : Int) (A0 : Option Addr) (c0 : Nat) (l0 : List (S49)) (b : Int) (A1 : Option Addr) (c1 : Nat) (l1 : List (S49)) (w : World) (hr0 : Kd.C k49 w A0 l0.length l0) (hc0 : l0.length ≤ c0) (hr1 : Kd.C k49 w A1 l1.length l1) (hc1 : l1.length ≤ c1) (hT : Tb w) (h : laws_FnExactRelLess.Run k a l0 b l1) :
  Calls Tryz.prog 4 #[.agg #[.int .i64 a,.slice A0 l0.length c0],.agg #[.int .i64 b,.slice A1 l1.length c1]] w fun e w' => e = .returned (.bool true) ∧ Below w.heap.size w w' := by
 have hu24 := Tryz.underlying24
 have hu31 := Tryz.underlying31
 have HR0 := y0.mk hr0
 clear hr0
 have HC0 := y0.mk hc0
 clear hc0
 have HR1 := y0.mk hr1
 clear hr1
 have HC1 := y0.mk hc1
 clear hc1
 have HT := y0.mk hT
 clear hT
 have HB := y0.mk (Below.refl w.heap.size w)
 obtain ⟨r,E1,h⟩ := h
 have E1 := y0.mk E1
 rcases h with h | ⟨h0,r2,E2,h⟩
 ·skip
  have hb0 : decide (r < 0) = true := decide_eq_true h
  clear h
  go_enter Tryz.func4,Tryz.ntmps4
  go_wp2_with (first
   | ((with_reducible refine y16 (N := 2) rfl ?_); refine qe 2 #[.int .i64 a,.slice A0 l0.length c0] 24 ?_; intro ga hg w1 hbox hb; have BKa := y0.mk (hbox); have GEa := y0.mk ((by rw [hg]; exact HB.out.size : w.heap.size ≤ ga)); replace HB := y0.mk (y5 HB.out hb); clear hb hg hbox; have hca0 : w1.cell? ⟨ga,0,none⟩ = some (.int .i64 a) := (y8 BKa.out 0).trans rfl; have hfa0 := y12 BKa.out 0; have hca1 : w1.cell? ⟨ga,1,none⟩ = some (.slice A0 l0.length c0) := (y8 BKa.out 1).trans rfl; have hfa1 := y12 BKa.out 1)
   | ((with_reducible refine y16 (N := 3) rfl ?_); refine qe 3 #[.int .i64 b,.slice A1 l1.length c1] 24 ?_; intro gb hg w2 hbox hb; (try clear hca0); (try clear hca1); (try clear hfa0); (try clear hfa1); have n0_ := y0.mk (hbox); have n1_ := y0.mk ((by rw [hg]; exact HB.out.size : w.heap.size ≤ gb)); have n2_ := y0.mk ((by rw [hg]; exact Nat.ne_of_lt (QIv.ki_lt BKa.out) : ga ≠ gb)); have n3_ := y0.mk (y7 (g := ga) (o := (.cells #[.int .i64 a,.slice A0 l0.length c0] 24 (0,0))) BKa.out hb); have n4_ := y0.mk (y5 HB.out hb); clear BKa HB; have BKb := n0_; have GEb := n1_; have Na_b := n2_; have BKa := n3_; have HB := n4_; clear n0_ n1_ n2_ n3_ n4_; clear hb hg hbox; have hca0 : w2.cell? ⟨ga,0,none⟩ = some (.int .i64 a) := (y8 BKa.out 0).trans rfl; have hfa0 := y12 BKa.out 0; have hca1 : w2.cell? ⟨ga,1,none⟩ = some (.slice A0 l0.length c0) := (y8 BKa.out 1).trans rfl; have hfa1 := y12 BKa.out 1; have hcb0 : w2.cell? ⟨gb,0,none⟩ = some (.int .i64 b) := (y8 BKb.out 0).trans rfl; have hfb0 := y12 BKb.out 0; have hcb1 : w2.cell? ⟨gb,1,none⟩ = some (.slice A1 l1.length c1) := (y8 BKb.out 1).trans rfl; have hfb1 := y12 BKb.out 1)
   | (go_at_call 7; (with_reducible refine (laws_szRel.calls k a _ _ l0 1048576 r _ (Kd.C_below HR0.out HB.out) HC0.out E1.out).mono ?_); rintro e w3 ⟨rfl,hb⟩; (try clear hca0); (try clear hca1); (try clear hcb0); (try clear hcb1); (try clear hfa0); (try clear hfa1); (try clear hfb0); (try clear hfb1); have n0_ := y0.mk (y7 (g := ga) (o := (.cells #[.int .i64 a,.slice A0 l0.length c0] 24 (0,0))) BKa.out hb); have n1_ := y0.mk (y7 (g := gb) (o := (.cells #[.int .i64 b,.slice A1 l1.length c1] 24 (0,0))) BKb.out hb); have n2_ := y0.mk (y5 HB.out hb); clear BKa BKb HB; have BKa := n0_; have BKb := n1_; have HB := n2_; clear n0_ n1_ n2_; (try clear hb); have hca0 : w3.cell? ⟨ga,0,none⟩ = some (.int .i64 a) := (y8 BKa.out 0).trans rfl; have hfa0 := y12 BKa.out 0; have hca1 : w3.cell? ⟨ga,1,none⟩ = some (.slice A0 l0.length c0) := (y8 BKa.out 1).trans rfl; have hfa1 := y12 BKa.out 1; have hcb0 : w3.cell? ⟨gb,0,none⟩ = some (.int .i64 b) := (y8 BKb.out 0).trans rfl; have hfb0 := y12 BKb.out 0; have hcb1 : w3.cell? ⟨gb,1,none⟩ = some (.slice A1 l1.length c1) := (y8 BKb.out 1).trans rfl; have hfb1 := y12 BKb.out 1))
  go_ret
  exact ⟨by first | rfl | (simp [y13,y14] <;> rfl),HB.out⟩
 have E2 := y0.mk E2
 have hb0 : decide (r < 0) = false := decide_eq_false h0
 clear h0
 rcases h with h | ⟨h0,ar,xs,br,ys,gr,gs,m1,xm,m2,ym,m3,gm,F1,F2,F3,F4,F5,F6,F7,F8,F9,F10,F11,F12,F13,F14⟩
 ·skip
  have hb1 : decide (r2 < 0) = true := decide_eq_true h
  clear h
  go_enter Tryz.func4,Tryz.ntmps4
  go_wp2_with (first
   | ((with_reducible refine y16 (N := 2) rfl ?_); refine qe 2 #[.int .i64 a,.slice A0 l0.length c0] 24 ?_; intro ga hg w1 hbox hb; have BKa := y0.mk (hbox); have GEa := y0.mk ((by rw [hg]; exact HB.out.size : w.heap.size ≤ ga)); replace HB := y0.mk (y5 HB.out hb); clear hb hg hbox; have hca0 : w1.cell? ⟨ga,0,none⟩ = some (.int .i64 a) := (y8 BKa.out 0).trans rfl; have hfa0 := y12 BKa.out 0; have hca1 : w1.cell? ⟨ga,1,none⟩ = some (.slice A0 l0.length c0) := (y8 BKa.out 1).trans rfl; have hfa1 := y12 BKa.out 1)
   | ((with_reducible refine y16 (N := 3) rfl ?_); refine qe 3 #[.int .i64 b,.slice A1 l1.length c1] 24 ?_; intro gb hg w2 hbox hb; (try clear hca0); (try clear hca1); (try clear hfa0); (try clear hfa1); have n0_ := y0.mk (hbox); have n1_ := y0.mk ((by rw [hg]; exact HB.out.size : w.heap.size ≤ gb)); have n2_ := y0.mk ((by rw [hg]; exact Nat.ne_of_lt (QIv.ki_lt BKa.out) : ga ≠ gb)); have n3_ := y0.mk (y7 (g := ga) (o := (.cells #[.int .i64 a,.slice A0 l0.length c0] 24 (0,0))) BKa.out hb); have n4_ := y0.mk (y5 HB.out hb); clear BKa HB; have BKb := n0_; have GEb := n1_; have Na_b := n2_; have BKa := n3_; have HB := n4_; clear n0_ n1_ n2_ n3_ n4_; clear hb hg hbox; have hca0 : w2.cell? ⟨ga,0,none⟩ = some (.int .i64 a) := (y8 BKa.out 0).trans rfl; have hfa0 := y12 BKa.out 0; have hca1 : w2.cell? ⟨ga,1,none⟩ = some (.slice A0 l0.length c0) := (y8 BKa.out 1).trans rfl; have hfa1 := y12 BKa.out 1; have hcb0 : w2.cell? ⟨gb,0,none⟩ = some (.int .i64 b) := (y8 BKb.out 0).trans rfl; have hfb0 := y12 BKb.out 0; have hcb1 : w2.cell? ⟨gb,1,none⟩ = some (.slice A1 l1.length c1) := (y8 BKb.out 1).trans rfl; have hfb1 := y12 BKb.out 1)
   | (go_at_call 7; (with_reducible refine (laws_szRel.calls k a _ _ l0 1048576 r _ (Kd.C_below HR0.out HB.out) HC0.out E1.out).mono ?_); rintro e w3 ⟨rfl,hb⟩; (try clear hca0); (try clear hca1); (try clear hcb0); (try clear hcb1); (try clear hfa0); (try clear hfa1); (try clear hfb0); (try clear hfb1); have n0_ := y0.mk (y7 (g := ga) (o := (.cells #[.int .i64 a,.slice A0 l0.length c0] 24 (0,0))) BKa.out hb); have n1_ := y0.mk (y7 (g := gb) (o := (.cells #[.int .i64 b,.slice A1 l1.length c1] 24 (0,0))) BKb.out hb); have n2_ := y0.mk (y5 HB.out hb); clear BKa BKb HB; have BKa := n0_; have BKb := n1_; have HB := n2_; clear n0_ n1_ n2_; (try clear hb); have hca0 : w3.cell? ⟨ga,0,none⟩ = some (.int .i64 a) := (y8 BKa.out 0).trans rfl; have hfa0 := y12 BKa.out 0; have hca1 : w3.cell? ⟨ga,1,none⟩ = some (.slice A0 l0.length c0) := (y8 BKa.out 1).trans rfl; have hfa1 := y12 BKa.out 1; have hcb0 : w3.cell? ⟨gb,0,none⟩ = some (.int .i64 b) := (y8 BKb.out 0).trans rfl; have hfb0 := y12 BKb.out 0; have hcb1 : w3.cell? ⟨gb,1,none⟩ = some (.slice A1 l1.length c1) := (y8 BKb.out 1).trans rfl; have hfb1 := y12 BKb.out 1)
   | (go_at_call 7; (with_reducible refine (laws_szRel.calls k b _ _ l1 r r2 _ (Kd.C_below HR1.out HB.out) HC1.out E2.out).mono ?_); rintro e w4 ⟨rfl,hb⟩; (try clear hca0); (try clear hca1); (try clear hcb0); (try clear hcb1); (try clear hfa0); (try clear hfa1); (try clear hfb0); (try clear hfb1); have n0_ := y0.mk (y7 (g := ga) (o := (.cells #[.int .i64 a,.slice A0 l0.length c0] 24 (0,0))) BKa.out hb); have n1_ := y0.mk (y7 (g := gb) (o := (.cells #[.int .i64 b,.slice A1 l1.length c1] 24 (0,0))) BKb.out hb); have n2_ := y0.mk (y5 HB.out hb); clear BKa BKb HB; have BKa := n0_; have BKb := n1_; have HB := n2_; clear n0_ n1_ n2_; (try clear hb); have hca0 : w4.cell? ⟨ga,0,none⟩ = some (.int .i64 a) := (y8 BKa.out 0).trans rfl; have hfa0 := y12 BKa.out 0; have hca1 : w4.cell? ⟨ga,1,none⟩ = some (.slice A0 l0.length c0) := (y8 BKa.out 1).trans rfl; have hfa1 := y12 BKa.out 1; have hcb0 : w4.cell? ⟨gb,0,none⟩ = some (.int .i64 b) := (y8 BKb.out 0).trans rfl; have hfb0 := y12 BKb.out 0; have hcb1 : w4.cell? ⟨gb,1,none⟩ = some (.slice A1 l1.length c1) := (y8 BKb.out 1).trans rfl; have hfb1 := y12 BKb.out 1))
  go_ret
  exact ⟨by first | rfl | (simp [y13,y14] <;> rfl),HB.out⟩
 have hb1 : decide (r2 < 0) = false := decide_eq_false h0
 clear h0
 replace F1 := y0.mk F1
 replace F2 := y0.mk F2
 replace F3 := y0.mk F3
 replace F4 := y0.mk F4
 replace F5 := y0.mk F5
 replace F6 := y0.mk F6
 replace F7 := y0.mk F7
 replace F8 := y0.mk F8
 replace F9 := y0.mk F9
 replace F11 := y0.mk F11
 replace F13 := y0.mk F13
 have hb2 : decide (m2 < 0) = false := decide_eq_false F10
 have hb3 : decide (m3 < 0) = false := decide_eq_false F14
 have hb4 : (m3 != m3) = false := bne_self_eq_false m3
 clear F10 F14
 have HELD : y0 (∀ (W : World) (A : Option Addr) (c : Nat),Kd.C k48 W A gm.length gm → gm.length ≤ c → Calls Tryz.prog 22 #[.agg #[.int .i64 gr,.slice A gs.length c],.int .i64 1] W fun e w' => e = .returned (.int .i64 m3) ∧ Below W.heap.size W w') := by
  refine ⟨fun W A c h1 h2 => ?_⟩
  have h_ := laws_heldRel.calls k gr A c gm 1 m3 W h1 h2 F13.out
  rw [F12] at h_
  exact h_
 have HGL := y0.mk F12
 clear F12
 go_enter Tryz.func4,Tryz.ntmps4
 go_upto_region 8 with (first
  | ((with_reducible refine y16 (N := 2) rfl ?_); refine qe 2 #[.int .i64 a,.slice A0 l0.length c0] 24 ?_; intro ga hg w1 hbox hb; have BKa := y0.mk (hbox); have GEa := y0.mk ((by rw [hg]; exact HB.out.size : w.heap.size ≤ ga)); replace HB := y0.mk (y5 HB.out hb); clear hb hg hbox; have hca0 : w1.cell? ⟨ga,0,none⟩ = some (.int .i64 a) := (y8 BKa.out 0).trans rfl; have hfa0 := y12 BKa.out 0; have hca1 : w1.cell? ⟨ga,1,none⟩ = some (.slice A0 l0.length c0) := (y8 BKa.out 1).trans rfl; have hfa1 := y12 BKa.out 1)
  | ((with_reducible refine y16 (N := 3) rfl ?_); refine qe 3 #[.int .i64 b,.slice A1 l1.length c1] 24 ?_; intro gb hg w2 hbox hb; (try clear hca0); (try clear hca1); (try clear hfa0); (try clear hfa1); have n0_ := y0.mk (hbox); have n1_ := y0.mk ((by rw [hg]; exact HB.out.size : w.heap.size ≤ gb)); have n2_ := y0.mk ((by rw [hg]; exact Nat.ne_of_lt (QIv.ki_lt BKa.out) : ga ≠ gb)); have n3_ := y0.mk (y7 (g := ga) (o := (.cells #[.int .i64 a,.slice A0 l0.length c0] 24 (0,0))) BKa.out hb); have n4_ := y0.mk (y5 HB.out hb); clear BKa HB; have BKb := n0_; have GEb := n1_; have Na_b := n2_; have BKa := n3_; have HB := n4_; clear n0_ n1_ n2_ n3_ n4_; clear hb hg hbox; have hca0 : w2.cell? ⟨ga,0,none⟩ = some (.int .i64 a) := (y8 BKa.out 0).trans rfl; have hfa0 := y12 BKa.out 0; have hca1 : w2.cell? ⟨ga,1,none⟩ = some (.slice A0 l0.length c0) := (y8 BKa.out 1).trans rfl; have hfa1 := y12 BKa.out 1; have hcb0 : w2.cell? ⟨gb,0,none⟩ = some (.int .i64 b) := (y8 BKb.out 0).trans rfl; have hfb0 := y12 BKb.out 0; have hcb1 : w2.cell? ⟨gb,1,none⟩ = some (.slice A1 l1.length c1) := (y8 BKb.out 1).trans rfl; have hfb1 := y12 BKb.out 1)
  | (go_at_call 7; (with_reducible refine (laws_szRel.calls k a _ _ l0 1048576 r _ (Kd.C_below HR0.out HB.out) HC0.out E1.out).mono ?_); rintro e w3 ⟨rfl,hb⟩; (try clear hca0); (try clear hca1); (try clear hcb0); (try clear hcb1); (try clear hfa0); (try clear hfa1); (try clear hfb0); (try clear hfb1); have n0_ := y0.mk (y7 (g := ga) (o := (.cells #[.int .i64 a,.slice A0 l0.length c0] 24 (0,0))) BKa.out hb); have n1_ := y0.mk (y7 (g := gb) (o := (.cells #[.int .i64 b,.slice A1 l1.length c1] 24 (0,0))) BKb.out hb); have n2_ := y0.mk (y5 HB.out hb); clear BKa BKb HB; have BKa := n0_; have BKb := n1_; have HB := n2_; clear n0_ n1_ n2_; (try clear hb); have hca0 : w3.cell? ⟨ga,0,none⟩ = some (.int .i64 a) := (y8 BKa.out 0).trans rfl; have hfa0 := y12 BKa.out 0; have hca1 : w3.cell? ⟨ga,1,none⟩ = some (.slice A0 l0.length c0) := (y8 BKa.out 1).trans rfl; have hfa1 := y12 BKa.out 1; have hcb0 : w3.cell? ⟨gb,0,none⟩ = some (.int .i64 b) := (y8 BKb.out 0).trans rfl; have hfb0 := y12 BKb.out 0; have hcb1 : w3.cell? ⟨gb,1,none⟩ = some (.slice A1 l1.length c1) := (y8 BKb.out 1).trans rfl; have hfb1 := y12 BKb.out 1)
  | (go_at_call 7; (with_reducible refine (laws_szRel.calls k b _ _ l1 r r2 _ (Kd.C_below HR1.out HB.out) HC1.out E2.out).mono ?_); rintro e w4 ⟨rfl,hb⟩; (try clear hca0); (try clear hca1); (try clear hcb0); (try clear hcb1); (try clear hfa0); (try clear hfa1); (try clear hfb0); (try clear hfb1); have n0_ := y0.mk (y7 (g := ga) (o := (.cells #[.int .i64 a,.slice A0 l0.length c0] 24 (0,0))) BKa.out hb); have n1_ := y0.mk (y7 (g := gb) (o := (.cells #[.int .i64 b,.slice A1 l1.length c1] 24 (0,0))) BKb.out hb); have n2_ := y0.mk (y5 HB.out hb); clear BKa BKb HB; have BKa := n0_; have BKb := n1_; have HB := n2_; clear n0_ n1_ n2_; (try clear hb); have hca0 : w4.cell? ⟨ga,0,none⟩ = some (.int .i64 a) := (y8 BKa.out 0).trans rfl; have hfa0 := y12 BKa.out 0; have hca1 : w4.cell? ⟨ga,1,none⟩ = some (.slice A0 l0.length c0) := (y8 BKa.out 1).trans rfl; have hfa1 := y12 BKa.out 1; have hcb0 : w4.cell? ⟨gb,0,none⟩ = some (.int .i64 b) := (y8 BKb.out 0).trans rfl; have hfb0 := y12 BKb.out 0; have hcb1 : w4.cell? ⟨gb,1,none⟩ = some (.slice A1 l1.length c1) := (y8 BKb.out 1).trans rfl; have hfb1 := y12 BKb.out 1))
 (try clear hca0)
 (try clear hca1)
 (try clear hcb0)
 (try clear hcb1)
 (try clear hfa0)
 (try clear hfa1)
 (try clear hfb0)
 (try clear hfb1)
 refine start_ (n := 7) (S := fun w' => w'.cell? ⟨ga,0,none⟩ = some (.int .i64 a) ∧ w'.cell? ⟨ga,1,none⟩ = some (.slice A0 l0.length c0) ∧ w'.cell? ⟨gb,0,none⟩ = some (.int .i64 b) ∧ w'.cell? ⟨gb,1,none⟩ = some (.slice A1 l1.length c1)) (ds := [6]) #[false,false,false,false,false,false,false] (by kernel_rfl) rfl rfl ⟨(y8 BKa.out 0).trans rfl,(y8 BKa.out 1).trans rfl,(y8 BKb.out 0).trans rfl,(y8 BKb.out 1).trans rfl⟩ (fun hHeld => ?_)
 have n0_ := y0.mk (y9 BKa.out)
 have n1_ := y0.mk (y9 BKb.out)
 have n2_ := y0.mk (y3 HB.out)
 clear BKa BKb HB
 have BKa := n0_
 have BKb := n1_
 have HB := n2_
 clear n0_ n1_ n2_
 generalize w4.drew = w5 at BKa BKb HB hHeld ⊢
 refine take_ (i := 0) (N := some 24) (v := ?_) (a' := ?_) #[true,false,false,false,false,false,false] rfl rfl (by kernel_rfl) (fun _ _ _ h => h) (Or.inl ⟨by rfl, ?_⟩) hHeld ?_ ?_
 rotate_left
 ·rintro w' ⟨s0,s1,s2,s3⟩
  go_simp
  with_reducible rfl
 rotate_left
 ·simp only [Act.put,qS_,qZ_,qC_,y19,y18]
  rfl
 refine take_ (i := 2) (N := some 26) (v := ?_) (a' := ?_) #[true,false,true,false,false,false,false] rfl rfl (by kernel_rfl) (fun _ _ _ h => h) (Or.inl ⟨by rfl, ?_⟩) hHeld ?_ ?_
 rotate_left
 ·rintro w' ⟨s0,s1,s2,s3⟩
  go_simp
  with_reducible rfl
 rotate_left
 ·simp only [Act.put,qS_,qZ_,qC_,y19,y18]
  rfl
 refine join_ (σ := (Option Addr × Nat) × (Option Addr × Nat) × (Option Addr × Nat) × (Nat × Nat × Nat)) 1 #[true,true,true,true,true,true,false] (fun s => [(25,.agg #[.int .i64 ar,.slice s.1.1 xs.length s.1.2]),(27,.agg #[.int .i64 br,.slice s.2.1.1 ys.length s.2.1.2]),(28,.agg #[.int .i64 gr,.slice s.2.2.1.1 gs.length s.2.2.1.2]),(6,.pointer (some ⟨s.2.2.2.1,0,none⟩))]) (fun s w' => Below w5.heap.size w5 w' ∧ QIv.OS k48 48 s.2.2.2.2.1 s.2.2.2.2.2 (.slice s.2.2.1.1 gs.length s.2.2.1.2) gs w' ∧ w5.heap.size ≤ s.2.2.2.2.1 ∧ s.2.2.2.2.2 ≤ w'.heap.size ∧ w5.heap.size ≤ s.2.2.2.1 ∧ (s.2.2.2.1 < s.2.2.2.2.1 ∨ s.2.2.2.2.2 ≤ s.2.2.2.1) ∧ w'.heap[s.2.2.2.1]? = some (.cells #[.int .i64 0,.slice none 0 0] 31 (0,0))) ?_ ?_
 rotate_left
 ·intro hCont
  refine two_ (i := 1) (j := 5) (Ni := some 25) (Nj := some 6) #[true,true,true,false,false,false,false] #[true,false,true,false,false,true,false] rfl rfl rfl rfl (by kernel_rfl) (by decide) (by decide) (fun K hK => ?_) (fun K hK => ?_)
  ·skip
   refine goes_ Tryz.func10 (by kernel_rfl) rfl #[.agg #[.int .i64 a,.slice A0 l0.length c0]] (by rfl) rfl rfl qy4 ?_
   with_reducible refine (laws_toRel.calls k a _ _ l0 ar xs _ (Kd.C_below HR0.out (y5 HB.out (Below.refl w5.heap.size w5))) HC0.out F1.out).mono ?_
   rintro e w5_1 ⟨v_,rfl,ho,hb⟩
   refine ⟨_,rfl, ?_⟩
   obtain ⟨loP_,hiP_,_,_,hO_⟩ := QIv.OS.new ho
   obtain ⟨AP_,cP_,eA_⟩ := hO_.slice
   subst eA_
   have OP_ := y0.mk (hO_)
   have HJ := y0.mk (y5 (Below.refl w5.heap.size w5) hb)
   clear hb ho hO_
   refine hK.out _ _ ⟨(y8 (y7 BKa.out HJ.out) 0).trans rfl,(y8 (y7 BKa.out HJ.out) 1).trans rfl,(y8 (y7 BKb.out HJ.out) 0).trans rfl,(y8 (y7 BKb.out HJ.out) 1).trans rfl⟩ (fun hHeld => ?_)
   clear hK K
   refine norm_ (a' := ?_) ?_ ?_
   rotate_left
   ·show Act.put _ (some 25) _ = _
    simp only [Act.put,qS_,qZ_,qC_,y19,y18]
    rfl
   refine two_ (i := 3) (j := 5) (Ni := some 27) (Nj := some 6) #[true,true,true,true,false,false,false] #[true,true,true,false,false,true,false] rfl rfl rfl rfl (by kernel_rfl) (by decide) (by decide) (fun K hK => ?_) (fun K hK => ?_)
   ·skip
    refine goes_ Tryz.func10 (by kernel_rfl) rfl #[.agg #[.int .i64 b,.slice A1 l1.length c1]] (by rfl) rfl rfl qy4 ?_
    with_reducible refine (laws_toRel.calls k b _ _ l1 br ys _ (Kd.C_below HR1.out (y5 HB.out HJ.out)) HC1.out F2.out).mono ?_
    rintro e w5_13 ⟨v_,rfl,ho,hb⟩
    refine ⟨_,rfl, ?_⟩
    obtain ⟨loQ_,hiQ_,_,_,hO_⟩ := QIv.OS.new ho
    obtain ⟨AQ_,cQ_,eA_⟩ := hO_.slice
    subst eA_
    have n0_ := y0.mk (OP_.out.below hb)
    have n1_ := y0.mk (hO_)
    have n2_ := y0.mk (y5 HJ.out hb)
    clear OP_ HJ
    have OP_ := n0_
    have OQ_ := n1_
    have HJ := n2_
    clear n0_ n1_ n2_
    clear hb ho hO_
    refine hK.out _ _ ⟨(y8 (y7 BKa.out HJ.out) 0).trans rfl,(y8 (y7 BKa.out HJ.out) 1).trans rfl,(y8 (y7 BKb.out HJ.out) 0).trans rfl,(y8 (y7 BKb.out HJ.out) 1).trans rfl⟩ (fun hHeld => ?_)
    clear hK K
    refine norm_ (a' := ?_) ?_ ?_
    rotate_left
    ·show Act.put _ (some 27) _ = _
     simp only [Act.put,qS_,qZ_,qC_,y19,y18]
     rfl
    refine two_ (i := 4) (j := 5) (Ni := some 28) (Nj := some 6) #[true,true,true,true,true,false,false] #[true,true,true,true,false,true,false] rfl rfl rfl rfl (by kernel_rfl) (by decide) (by decide) (fun K hK => ?_) (fun K hK => ?_)
    ·skip
     refine goes_ Tryz.func20 (by kernel_rfl) rfl #[.agg #[.int .i64 ar,.slice AP_ xs.length cP_],.agg #[.int .i64 br,.slice AQ_ ys.length cQ_]] (by rfl) rfl rfl qy4 ?_
     with_reducible refine (z3_.calls k ar _ _ xs br _ _ ys gr gs _ OP_.out.C OP_.out.le OQ_.out.C OQ_.out.le F3.out).mono ?_
     rintro e w5_134 ⟨v_,rfl,ho,hb⟩
     refine ⟨_,rfl, ?_⟩
     obtain ⟨loW_,hiW_,hlo_,hhi_,hO_⟩ := QIv.OS.new ho
     obtain ⟨AW_,cW_,eA_⟩ := hO_.slice
     subst eA_
     have OW_ := y0.mk (hO_)
     have LOW_ := y0.mk ((by rw [hlo_]; exact HJ.out.size : w5.heap.size ≤ loW_))
     have HIW_ := y0.mk ((Nat.le_of_eq hhi_ : hiW_ ≤ w5_134.heap.size))
     replace HJ := y0.mk (y5 HJ.out hb)
     clear hb ho hO_ hlo_ hhi_
     refine hK.out _ _ ⟨(y8 (y7 BKa.out HJ.out) 0).trans rfl,(y8 (y7 BKa.out HJ.out) 1).trans rfl,(y8 (y7 BKb.out HJ.out) 0).trans rfl,(y8 (y7 BKb.out HJ.out) 1).trans rfl⟩ (fun hHeld => ?_)
     clear hK K
     refine norm_ (a' := ?_) ?_ ?_
     rotate_left
     ·show Act.put _ (some 28) _ = _
      simp only [Act.put,qS_,qZ_,qC_,y19,y18]
      rfl
     refine one_ (i := 5) (N := some 6) #[true,true,true,true,true,true,false] rfl rfl (by kernel_rfl) (by decide) (fun K hK => ?_)
     refine value_ (w1 := w5_134.alloc (.cells #[.int .i64 0,.slice none 0 0] 31 (0,0))) (v := .pointer (some ⟨w5_134.heap.size,0,none⟩)) (by rfl) rfl ?_ ?_
     ·first | (go_simp; done) | (go_simp; rfl)
     have hbx := blk_new w5_134 (.cells #[.int .i64 0,.slice none 0 0] 31 (0,0))
     have hb := below_alloc (Below.refl w5_134.heap.size w5_134) (.cells #[.int .i64 0,.slice none 0 0] 31 (0,0))
     generalize w5_134.alloc (.cells #[.int .i64 0,.slice none 0 0] 31 (0,0)) = w5_1345 at hbx hb ⊢
     obtain ⟨g6_,hg_⟩ : ∃ g,g = w5_134.heap.size := ⟨_,rfl⟩
     rw [← hg_] at hbx ⊢
     have n0_ := y0.mk (OW_.out.below hb)
     have n1_ := y0.mk (Nat.le_trans HIW_.out hb.size)
     have n2_ := y0.mk (hbx)
     have n3_ := y0.mk ((by rw [hg_]; exact HJ.out.size : w5.heap.size ≤ g6_))
     have n4_ := y0.mk ((by rw [hg_]; exact .inr HIW_.out : g6_ < loW_ ∨ hiW_ ≤ g6_))
     have n5_ := y0.mk (y5 HJ.out hb)
     clear OW_ HIW_ HJ
     have OW_ := n0_
     have HIW_ := n1_
     have BK6_ := n2_
     have GE6_ := n3_
     have OR_ := n4_
     have HJ := n5_
     clear n0_ n1_ n2_ n3_ n4_ n5_
     clear hb hbx hg_
     refine hK.out _ _ ⟨(y8 (y7 BKa.out HJ.out) 0).trans rfl,(y8 (y7 BKa.out HJ.out) 1).trans rfl,(y8 (y7 BKb.out HJ.out) 0).trans rfl,(y8 (y7 BKb.out HJ.out) 1).trans rfl⟩ (fun hHeld => ?_)
     clear hK K
     refine norm_ (a' := ?_) ?_ ?_
     rotate_left
     ·show Act.put _ (some 6) _ = _
      simp only [Act.put,qS_,qZ_,qC_,y19,y18]
      rfl
     exact norm_ qy5 (hCont ((AP_,cP_),(AQ_,cQ_),(AW_,cW_),(g6_,loW_,hiW_)) _ ⟨HJ.out,OW_.out,LOW_.out,HIW_.out,GE6_.out,OR_.out,BK6_.out⟩)
    ·skip
     refine value_ (w1 := w5_13.alloc (.cells #[.int .i64 0,.slice none 0 0] 31 (0,0))) (v := .pointer (some ⟨w5_13.heap.size,0,none⟩)) (by rfl) rfl ?_ ?_
     ·first | (go_simp; done) | (go_simp; rfl)
     have hbx := blk_new w5_13 (.cells #[.int .i64 0,.slice none 0 0] 31 (0,0))
     have hb := below_alloc (Below.refl w5_13.heap.size w5_13) (.cells #[.int .i64 0,.slice none 0 0] 31 (0,0))
     generalize w5_13.alloc (.cells #[.int .i64 0,.slice none 0 0] 31 (0,0)) = w5_135 at hbx hb ⊢
     obtain ⟨g6_,hg_⟩ : ∃ g,g = w5_13.heap.size := ⟨_,rfl⟩
     rw [← hg_] at hbx ⊢
     have n0_ := y0.mk (OP_.out.below hb)
     have n1_ := y0.mk (OQ_.out.below hb)
     have n2_ := y0.mk (hbx)
     have n3_ := y0.mk ((by rw [hg_]; exact HJ.out.size : w5.heap.size ≤ g6_))
     have n4_ := y0.mk (y5 HJ.out hb)
     clear OP_ OQ_ HJ
     have OP_ := n0_
     have OQ_ := n1_
     have BK6_ := n2_
     have GE6_ := n3_
     have HJ := n4_
     clear n0_ n1_ n2_ n3_ n4_
     clear hb hbx hg_
     refine hK.out _ _ ⟨(y8 (y7 BKa.out HJ.out) 0).trans rfl,(y8 (y7 BKa.out HJ.out) 1).trans rfl,(y8 (y7 BKb.out HJ.out) 0).trans rfl,(y8 (y7 BKb.out HJ.out) 1).trans rfl⟩ (fun hHeld => ?_)
     clear hK K
     refine norm_ (a' := ?_) ?_ ?_
     rotate_left
     ·show Act.put _ (some 6) _ = _
      simp only [Act.put,qS_,qZ_,qC_,y19,y18]
      rfl
     refine one_ (i := 4) (N := some 28) #[true,true,true,true,true,true,false] rfl rfl (by kernel_rfl) (by decide) (fun K hK => ?_)
     refine goes_ Tryz.func20 (by kernel_rfl) rfl #[.agg #[.int .i64 ar,.slice AP_ xs.length cP_],.agg #[.int .i64 br,.slice AQ_ ys.length cQ_]] (by rfl) rfl rfl qy4 ?_
     with_reducible refine (z3_.calls k ar _ _ xs br _ _ ys gr gs _ OP_.out.C OP_.out.le OQ_.out.C OQ_.out.le F3.out).mono ?_
     rintro e w5_1354 ⟨v_,rfl,ho,hb⟩
     refine ⟨_,rfl, ?_⟩
     obtain ⟨loW_,hiW_,hlo_,hhi_,hO_⟩ := QIv.OS.new ho
     obtain ⟨AW_,cW_,eA_⟩ := hO_.slice
     subst eA_
     have n0_ := y0.mk (y7 BK6_.out hb)
     have n1_ := y0.mk (hO_)
     have n2_ := y0.mk ((by rw [hlo_]; exact HJ.out.size : w5.heap.size ≤ loW_))
     have n3_ := y0.mk ((Nat.le_of_eq hhi_ : hiW_ ≤ w5_1354.heap.size))
     have n4_ := y0.mk ((by rw [hlo_]; exact .inl (QIv.ki_lt BK6_.out) : g6_ < loW_ ∨ hiW_ ≤ g6_))
     have n5_ := y0.mk (y5 HJ.out hb)
     clear BK6_ HJ
     have BK6_ := n0_
     have OW_ := n1_
     have LOW_ := n2_
     have HIW_ := n3_
     have OR_ := n4_
     have HJ := n5_
     clear n0_ n1_ n2_ n3_ n4_ n5_
     clear hb ho hO_ hlo_ hhi_
     refine hK.out _ _ ⟨(y8 (y7 BKa.out HJ.out) 0).trans rfl,(y8 (y7 BKa.out HJ.out) 1).trans rfl,(y8 (y7 BKb.out HJ.out) 0).trans rfl,(y8 (y7 BKb.out HJ.out) 1).trans rfl⟩ (fun hHeld => ?_)
     clear hK K
     refine norm_ (a' := ?_) ?_ ?_
     rotate_left
     ·show Act.put _ (some 28) _ = _
      simp only [Act.put,qS_,qZ_,qC_,y19,y18]
      rfl
     exact norm_ qy5 (hCont ((AP_,cP_),(AQ_,cQ_),(AW_,cW_),(g6_,loW_,hiW_)) _ ⟨HJ.out,OW_.out,LOW_.out,HIW_.out,GE6_.out,OR_.out,BK6_.out⟩)
   ·skip
    refine value_ (w1 := w5_1.alloc (.cells #[.int .i64 0,.slice none 0 0] 31 (0,0))) (v := .pointer (some ⟨w5_1.heap.size,0,none⟩)) (by rfl) rfl ?_ ?_
    ·first | (go_simp; done) | (go_simp; rfl)
    have hbx := blk_new w5_1 (.cells #[.int .i64 0,.slice none 0 0] 31 (0,0))
    have hb := below_alloc (Below.refl w5_1.heap.size w5_1) (.cells #[.int .i64 0,.slice none 0 0] 31 (0,0))
    generalize w5_1.alloc (.cells #[.int .i64 0,.slice none 0 0] 31 (0,0)) = w5_15 at hbx hb ⊢
    obtain ⟨g6_,hg_⟩ : ∃ g,g = w5_1.heap.size := ⟨_,rfl⟩
    rw [← hg_] at hbx ⊢
    have n0_ := y0.mk (OP_.out.below hb)
    have n1_ := y0.mk (hbx)
    have n2_ := y0.mk ((by rw [hg_]; exact HJ.out.size : w5.heap.size ≤ g6_))
    have n3_ := y0.mk (y5 HJ.out hb)
    clear OP_ HJ
    have OP_ := n0_
    have BK6_ := n1_
    have GE6_ := n2_
    have HJ := n3_
    clear n0_ n1_ n2_ n3_
    clear hb hbx hg_
    refine hK.out _ _ ⟨(y8 (y7 BKa.out HJ.out) 0).trans rfl,(y8 (y7 BKa.out HJ.out) 1).trans rfl,(y8 (y7 BKb.out HJ.out) 0).trans rfl,(y8 (y7 BKb.out HJ.out) 1).trans rfl⟩ (fun hHeld => ?_)
    clear hK K
    refine norm_ (a' := ?_) ?_ ?_
    rotate_left
    ·show Act.put _ (some 6) _ = _
     simp only [Act.put,qS_,qZ_,qC_,y19,y18]
     rfl
    refine one_ (i := 3) (N := some 27) #[true,true,true,true,false,true,false] rfl rfl (by kernel_rfl) (by decide) (fun K hK => ?_)
    refine goes_ Tryz.func10 (by kernel_rfl) rfl #[.agg #[.int .i64 b,.slice A1 l1.length c1]] (by rfl) rfl rfl qy4 ?_
    with_reducible refine (laws_toRel.calls k b _ _ l1 br ys _ (Kd.C_below HR1.out (y5 HB.out HJ.out)) HC1.out F2.out).mono ?_
    rintro e w5_153 ⟨v_,rfl,ho,hb⟩
    refine ⟨_,rfl, ?_⟩
    obtain ⟨loQ_,hiQ_,_,_,hO_⟩ := QIv.OS.new ho
    obtain ⟨AQ_,cQ_,eA_⟩ := hO_.slice
    subst eA_
    have n0_ := y0.mk (y7 BK6_.out hb)
    have n1_ := y0.mk (OP_.out.below hb)
    have n2_ := y0.mk (hO_)
    have n3_ := y0.mk (y5 HJ.out hb)
    clear BK6_ OP_ HJ
    have BK6_ := n0_
    have OP_ := n1_
    have OQ_ := n2_
    have HJ := n3_
    clear n0_ n1_ n2_ n3_
    clear hb ho hO_
    refine hK.out _ _ ⟨(y8 (y7 BKa.out HJ.out) 0).trans rfl,(y8 (y7 BKa.out HJ.out) 1).trans rfl,(y8 (y7 BKb.out HJ.out) 0).trans rfl,(y8 (y7 BKb.out HJ.out) 1).trans rfl⟩ (fun hHeld => ?_)
    clear hK K
    refine norm_ (a' := ?_) ?_ ?_
    rotate_left
    ·show Act.put _ (some 27) _ = _
     simp only [Act.put,qS_,qZ_,qC_,y19,y18]
     rfl
    refine one_ (i := 4) (N := some 28) #[true,true,true,true,true,true,false] rfl rfl (by kernel_rfl) (by decide) (fun K hK => ?_)
    refine goes_ Tryz.func20 (by kernel_rfl) rfl #[.agg #[.int .i64 ar,.slice AP_ xs.length cP_],.agg #[.int .i64 br,.slice AQ_ ys.length cQ_]] (by rfl) rfl rfl qy4 ?_
    with_reducible refine (z3_.calls k ar _ _ xs br _ _ ys gr gs _ OP_.out.C OP_.out.le OQ_.out.C OQ_.out.le F3.out).mono ?_
    rintro e w5_1534 ⟨v_,rfl,ho,hb⟩
    refine ⟨_,rfl, ?_⟩
    obtain ⟨loW_,hiW_,hlo_,hhi_,hO_⟩ := QIv.OS.new ho
    obtain ⟨AW_,cW_,eA_⟩ := hO_.slice
    subst eA_
    have n0_ := y0.mk (y7 BK6_.out hb)
    have n1_ := y0.mk (hO_)
    have n2_ := y0.mk ((by rw [hlo_]; exact HJ.out.size : w5.heap.size ≤ loW_))
    have n3_ := y0.mk ((Nat.le_of_eq hhi_ : hiW_ ≤ w5_1534.heap.size))
    have n4_ := y0.mk ((by rw [hlo_]; exact .inl (QIv.ki_lt BK6_.out) : g6_ < loW_ ∨ hiW_ ≤ g6_))
    have n5_ := y0.mk (y5 HJ.out hb)
    clear BK6_ HJ
    have BK6_ := n0_
    have OW_ := n1_
    have LOW_ := n2_
    have HIW_ := n3_
    have OR_ := n4_
    have HJ := n5_
    clear n0_ n1_ n2_ n3_ n4_ n5_
    clear hb ho hO_ hlo_ hhi_
    refine hK.out _ _ ⟨(y8 (y7 BKa.out HJ.out) 0).trans rfl,(y8 (y7 BKa.out HJ.out) 1).trans rfl,(y8 (y7 BKb.out HJ.out) 0).trans rfl,(y8 (y7 BKb.out HJ.out) 1).trans rfl⟩ (fun hHeld => ?_)
    clear hK K
    refine norm_ (a' := ?_) ?_ ?_
    rotate_left
    ·show Act.put _ (some 28) _ = _
     simp only [Act.put,qS_,qZ_,qC_,y19,y18]
     rfl
    exact norm_ qy5 (hCont ((AP_,cP_),(AQ_,cQ_),(AW_,cW_),(g6_,loW_,hiW_)) _ ⟨HJ.out,OW_.out,LOW_.out,HIW_.out,GE6_.out,OR_.out,BK6_.out⟩)
  ·skip
   refine value_ (w1 := w5.alloc (.cells #[.int .i64 0,.slice none 0 0] 31 (0,0))) (v := .pointer (some ⟨w5.heap.size,0,none⟩)) (by rfl) rfl ?_ ?_
   ·first | (go_simp; done) | (go_simp; rfl)
   have hbx := blk_new w5 (.cells #[.int .i64 0,.slice none 0 0] 31 (0,0))
   have hb := below_alloc (Below.refl w5.heap.size w5) (.cells #[.int .i64 0,.slice none 0 0] 31 (0,0))
   generalize w5.alloc (.cells #[.int .i64 0,.slice none 0 0] 31 (0,0)) = w5_5 at hbx hb ⊢
   obtain ⟨g6_,hg_⟩ : ∃ g,g = w5.heap.size := ⟨_,rfl⟩
   rw [← hg_] at hbx ⊢
   have BK6_ := y0.mk (hbx)
   have GE6_ := y0.mk ((by rw [hg_]; exact (Below.refl w5.heap.size w5).size : w5.heap.size ≤ g6_))
   have HJ := y0.mk (y5 (Below.refl w5.heap.size w5) hb)
   clear hb hbx hg_
   refine hK.out _ _ ⟨(y8 (y7 BKa.out HJ.out) 0).trans rfl,(y8 (y7 BKa.out HJ.out) 1).trans rfl,(y8 (y7 BKb.out HJ.out) 0).trans rfl,(y8 (y7 BKb.out HJ.out) 1).trans rfl⟩ (fun hHeld => ?_)
   clear hK K
   refine norm_ (a' := ?_) ?_ ?_
   rotate_left
   ·show Act.put _ (some 6) _ = _
    simp only [Act.put,qS_,qZ_,qC_,y19,y18]
    rfl
   refine one_ (i := 1) (N := some 25) #[true,true,true,false,false,true,false] rfl rfl (by kernel_rfl) (by decide) (fun K hK => ?_)
   refine goes_ Tryz.func10 (by kernel_rfl) rfl #[.agg #[.int .i64 a,.slice A0 l0.length c0]] (by rfl) rfl rfl qy4 ?_
   with_reducible refine (laws_toRel.calls k a _ _ l0 ar xs _ (Kd.C_below HR0.out (y5 HB.out HJ.out)) HC0.out F1.out).mono ?_
   rintro e w5_51 ⟨v_,rfl,ho,hb⟩
   refine ⟨_,rfl, ?_⟩
   obtain ⟨loP_,hiP_,_,_,hO_⟩ := QIv.OS.new ho
   obtain ⟨AP_,cP_,eA_⟩ := hO_.slice
   subst eA_
   have n0_ := y0.mk (y7 BK6_.out hb)
   have n1_ := y0.mk (hO_)
   have n2_ := y0.mk (y5 HJ.out hb)
   clear BK6_ HJ
   have BK6_ := n0_
   have OP_ := n1_
   have HJ := n2_
   clear n0_ n1_ n2_
   clear hb ho hO_
   refine hK.out _ _ ⟨(y8 (y7 BKa.out HJ.out) 0).trans rfl,(y8 (y7 BKa.out HJ.out) 1).trans rfl,(y8 (y7 BKb.out HJ.out) 0).trans rfl,(y8 (y7 BKb.out HJ.out) 1).trans rfl⟩ (fun hHeld => ?_)
   clear hK K
   refine norm_ (a' := ?_) ?_ ?_
   rotate_left
   ·show Act.put _ (some 25) _ = _
    simp only [Act.put,qS_,qZ_,qC_,y19,y18]
    rfl
   refine one_ (i := 3) (N := some 27) #[true,true,true,true,false,true,false] rfl rfl (by kernel_rfl) (by decide) (fun K hK => ?_)
   refine goes_ Tryz.func10 (by kernel_rfl) rfl #[.agg #[.int .i64 b,.slice A1 l1.length c1]] (by rfl) rfl rfl qy4 ?_
   with_reducible refine (laws_toRel.calls k b _ _ l1 br ys _ (Kd.C_below HR1.out (y5 HB.out HJ.out)) HC1.out F2.out).mono ?_
   rintro e w5_513 ⟨v_,rfl,ho,hb⟩
   refine ⟨_,rfl, ?_⟩
   obtain ⟨loQ_,hiQ_,_,_,hO_⟩ := QIv.OS.new ho
   obtain ⟨AQ_,cQ_,eA_⟩ := hO_.slice
   subst eA_
   have n0_ := y0.mk (y7 BK6_.out hb)
   have n1_ := y0.mk (OP_.out.below hb)
   have n2_ := y0.mk (hO_)
   have n3_ := y0.mk (y5 HJ.out hb)
   clear BK6_ OP_ HJ
   have BK6_ := n0_
   have OP_ := n1_
   have OQ_ := n2_
   have HJ := n3_
   clear n0_ n1_ n2_ n3_
   clear hb ho hO_
   refine hK.out _ _ ⟨(y8 (y7 BKa.out HJ.out) 0).trans rfl,(y8 (y7 BKa.out HJ.out) 1).trans rfl,(y8 (y7 BKb.out HJ.out) 0).trans rfl,(y8 (y7 BKb.out HJ.out) 1).trans rfl⟩ (fun hHeld => ?_)
   clear hK K
   refine norm_ (a' := ?_) ?_ ?_
   rotate_left
   ·show Act.put _ (some 27) _ = _
    simp only [Act.put,qS_,qZ_,qC_,y19,y18]
    rfl
   refine one_ (i := 4) (N := some 28) #[true,true,true,true,true,true,false] rfl rfl (by kernel_rfl) (by decide) (fun K hK => ?_)
   refine goes_ Tryz.func20 (by kernel_rfl) rfl #[.agg #[.int .i64 ar,.slice AP_ xs.length cP_],.agg #[.int .i64 br,.slice AQ_ ys.length cQ_]] (by rfl) rfl rfl qy4 ?_
   with_reducible refine (z3_.calls k ar _ _ xs br _ _ ys gr gs _ OP_.out.C OP_.out.le OQ_.out.C OQ_.out.le F3.out).mono ?_
   rintro e w5_5134 ⟨v_,rfl,ho,hb⟩
   refine ⟨_,rfl, ?_⟩
   obtain ⟨loW_,hiW_,hlo_,hhi_,hO_⟩ := QIv.OS.new ho
   obtain ⟨AW_,cW_,eA_⟩ := hO_.slice
   subst eA_
   have n0_ := y0.mk (y7 BK6_.out hb)
   have n1_ := y0.mk (hO_)
   have n2_ := y0.mk ((by rw [hlo_]; exact HJ.out.size : w5.heap.size ≤ loW_))
   have n3_ := y0.mk ((Nat.le_of_eq hhi_ : hiW_ ≤ w5_5134.heap.size))
   have n4_ := y0.mk ((by rw [hlo_]; exact .inl (QIv.ki_lt BK6_.out) : g6_ < loW_ ∨ hiW_ ≤ g6_))
   have n5_ := y0.mk (y5 HJ.out hb)
   clear BK6_ HJ
   have BK6_ := n0_
   have OW_ := n1_
   have LOW_ := n2_
   have HIW_ := n3_
   have OR_ := n4_
   have HJ := n5_
   clear n0_ n1_ n2_ n3_ n4_ n5_
   clear hb ho hO_ hlo_ hhi_
   refine hK.out _ _ ⟨(y8 (y7 BKa.out HJ.out) 0).trans rfl,(y8 (y7 BKa.out HJ.out) 1).trans rfl,(y8 (y7 BKb.out HJ.out) 0).trans rfl,(y8 (y7 BKb.out HJ.out) 1).trans rfl⟩ (fun hHeld => ?_)
   clear hK K
   refine norm_ (a' := ?_) ?_ ?_
   rotate_left
   ·show Act.put _ (some 28) _ = _
    simp only [Act.put,qS_,qZ_,qC_,y19,y18]
    rfl
   exact norm_ qy5 (hCont ((AP_,cP_),(AQ_,cQ_),(AW_,cW_),(g6_,loW_,hiW_)) _ ⟨HJ.out,OW_.out,LOW_.out,HIW_.out,GE6_.out,OR_.out,BK6_.out⟩)
 rintro ⟨⟨AP_,cP_⟩,⟨AQ_,cQ_⟩,⟨AW,cW⟩,⟨gv,loW,hiW⟩⟩ w5_z ⟨hb,ho_,h1_,h2_,h3_,h4_,h5_⟩
 dsimp only at ho_ h1_ h2_ h3_ h4_ h5_
 have n0_ := y0.mk ((ho_ : QIv.OS k48 48 loW hiW (.slice AW gs.length cW) gs w5_z))
 have n1_ := y0.mk ((h2_ : hiW ≤ w5_z.heap.size))
 have n2_ := y0.mk ((Nat.le_trans HB.out.size h1_ : w.heap.size ≤ loW))
 have n3_ := y0.mk ((Nat.lt_of_lt_of_le (QIv.ki_lt BKa.out) h1_ : ga < loW))
 have n4_ := y0.mk ((Nat.lt_of_lt_of_le (QIv.ki_lt BKb.out) h1_ : gb < loW))
 have n5_ := y0.mk ((h5_ : w5_z.heap[gv]? = some (.cells #[.int .i64 0,.slice none 0 0] 31 (0,0))))
 have n6_ := y0.mk ((Nat.le_trans HB.out.size h3_ : w.heap.size ≤ gv))
 have n7_ := y0.mk ((h4_ : gv < loW ∨ hiW ≤ gv))
 have n8_ := y0.mk ((Nat.ne_of_lt (Nat.lt_of_lt_of_le (QIv.ki_lt BKa.out) h3_) : ga ≠ gv))
 have n9_ := y0.mk ((Nat.ne_of_lt (Nat.lt_of_lt_of_le (QIv.ki_lt BKb.out) h3_) : gb ≠ gv))
 have n10_ := y0.mk (y7 (g := ga) (o := (.cells #[.int .i64 a,.slice A0 l0.length c0] 24 (0,0))) BKa.out hb)
 have n11_ := y0.mk (y7 (g := gb) (o := (.cells #[.int .i64 b,.slice A1 l1.length c1] 24 (0,0))) BKb.out hb)
 have n12_ := y0.mk (y5 HB.out hb)
 clear BKa BKb HB
 have OW := n0_
 have LW := n1_
 have BW := n2_
 have Ea_W := n3_
 have Eb_W := n4_
 have BKv := n5_
 have GEv := n6_
 have EW_v := n7_
 have Na_v := n8_
 have Nb_v := n9_
 have BKa := n10_
 have BKb := n11_
 have HB := n12_
 clear n0_ n1_ n2_ n3_ n4_ n5_ n6_ n7_ n8_ n9_ n10_ n11_ n12_
 clear hb ho_ h1_ h2_ h3_ h4_ h5_
 have hHeld : w5_z.cell? ⟨ga,0,none⟩ = some (.int .i64 a) ∧ w5_z.cell? ⟨ga,1,none⟩ = some (.slice A0 l0.length c0) ∧ w5_z.cell? ⟨gb,0,none⟩ = some (.int .i64 b) ∧ w5_z.cell? ⟨gb,1,none⟩ = some (.slice A1 l1.length c1) := ⟨(y8 BKa.out 0).trans rfl,(y8 BKa.out 1).trans rfl,(y8 BKb.out 0).trans rfl,(y8 BKb.out 1).trans rfl⟩
 refine norm_ (a' := ?_) ?_ ?_
 rotate_left
 ·simp only [putAll,Act.put,qS_,qZ_,qC_]
  rfl
 refine last_ (i := 6) (N := none) #[true,true,true,true,true,true,true] rfl rfl (by kernel_rfl) (by decide) (fun K hK => ?_)
 have hcs0 : w5_z.cell? ⟨gv,0,none⟩ = some (.int .i64 0) := (y8 BKv.out 0).trans rfl
 have hcs1 : w5_z.cell? ⟨gv,1,none⟩ = some (.slice none 0 0) := (y8 BKv.out 1).trans rfl
 have hfs0 := y12 BKv.out 0
 have hfs1 := y12 BKv.out 1
 refine skip_ (w1 := (w5_z.setCell ⟨gv,0,none⟩ (.int .i64 gr)).setCell ⟨gv,1,none⟩ (.slice AW gs.length cW)) (by rfl) rfl ?_ ?_
 ·first | (go_simp; done) | (go_simp; rfl)
 clear hcs0 hcs1 hfs0 hfs1
 refine hK.out _ _ ?_
 clear hK K
 refine done_ (by kernel_rfl) ?_
 (try clear hca0)
 (try clear hca1)
 (try clear hcb0)
 (try clear hcb1)
 (try clear hcv0)
 (try clear hcv1)
 (try clear hfa0)
 (try clear hfa1)
 (try clear hfb0)
 (try clear hfb1)
 (try clear hfv0)
 (try clear hfv1)
 have n0_ := y0.mk (((OW.out.set (EW_v.out) _ _).set (EW_v.out) _ _) : QIv.OS k48 48 loW hiW (.slice AW gs.length cW) gs ((w5_z.setCell ⟨gv,0,none⟩ (.int .i64 gr)).setCell ⟨gv,1,none⟩ (.slice AW gs.length cW)))
 have n1_ := y0.mk (by simpa using LW.out : hiW ≤ ((w5_z.setCell ⟨gv,0,none⟩ (.int .i64 gr)).setCell ⟨gv,1,none⟩ (.slice AW gs.length cW)).heap.size)
 have n2_ := y0.mk ((y11 (y11 BKa.out (Na_v.out) _) (Na_v.out) _) : ((w5_z.setCell ⟨gv,0,none⟩ (.int .i64 gr)).setCell ⟨gv,1,none⟩ (.slice AW gs.length cW)).heap[ga]? = some (.cells #[.int .i64 a,.slice A0 l0.length c0] 24 (0,0)))
 have n3_ := y0.mk ((y11 (y11 BKb.out (Nb_v.out) _) (Nb_v.out) _) : ((w5_z.setCell ⟨gv,0,none⟩ (.int .i64 gr)).setCell ⟨gv,1,none⟩ (.slice AW gs.length cW)).heap[gb]? = some (.cells #[.int .i64 b,.slice A1 l1.length c1] 24 (0,0)))
 have n4_ := y0.mk ((blk_set (blk_set BKv.out 0 (.int .i64 gr)) 1 (.slice AW gs.length cW)) : ((w5_z.setCell ⟨gv,0,none⟩ (.int .i64 gr)).setCell ⟨gv,1,none⟩ (.slice AW gs.length cW)).heap[gv]? = some (.cells #[.int .i64 gr,.slice AW gs.length cW] 31 (0,0)))
 have n5_ := y0.mk ((below_set (below_set HB.out GEv.out) GEv.out) : Below w.heap.size w ((w5_z.setCell ⟨gv,0,none⟩ (.int .i64 gr)).setCell ⟨gv,1,none⟩ (.slice AW gs.length cW)))
 clear OW LW BKa BKb BKv HB
 generalize ((w5_z.setCell ⟨gv,0,none⟩ (.int .i64 gr)).setCell ⟨gv,1,none⟩ (.slice AW gs.length cW)) = w6 at n0_ n1_ n2_ n3_ n4_ n5_ ⊢
 have OW := n0_
 have LW := n1_
 have BKa := n2_
 have BKb := n3_
 have BKv := n4_
 have HB := n5_
 clear n0_ n1_ n2_ n3_ n4_ n5_
 have hca0 : w6.cell? ⟨ga,0,none⟩ = some (.int .i64 a) := (y8 BKa.out 0).trans rfl
 have hfa0 := y12 BKa.out 0
 have hca1 : w6.cell? ⟨ga,1,none⟩ = some (.slice A0 l0.length c0) := (y8 BKa.out 1).trans rfl
 have hfa1 := y12 BKa.out 1
 have hcb0 : w6.cell? ⟨gb,0,none⟩ = some (.int .i64 b) := (y8 BKb.out 0).trans rfl
 have hfb0 := y12 BKb.out 0
 have hcb1 : w6.cell? ⟨gb,1,none⟩ = some (.slice A1 l1.length c1) := (y8 BKb.out 1).trans rfl
 have hfb1 := y12 BKb.out 1
 have hcv0 : w6.cell? ⟨gv,0,none⟩ = some (.int .i64 gr) := (y8 BKv.out 0).trans rfl
 have hfv0 := y12 BKv.out 0
 have hcv1 : w6.cell? ⟨gv,1,none⟩ = some (.slice AW gs.length cW) := (y8 BKv.out 1).trans rfl
 have hfv1 := y12 BKv.out 1
 go_upto_region 10 with (first
  | (go_at_call 10; (with_reducible refine (laws_toRel.calls k a _ _ l0 ar xs _ (Kd.C_below HR0.out HB.out) HC0.out F1.out).mono ?_); rintro e w7 ⟨v_,rfl,ho,hb⟩; obtain ⟨loX,hiX,hlo_,hhi_,hO_⟩ := QIv.OS.new ho; obtain ⟨AX,cX,eA_⟩ := hO_.slice; subst eA_; (try clear hca0); (try clear hca1); (try clear hcb0); (try clear hcb1); (try clear hcv0); (try clear hcv1); (try clear hfa0); (try clear hfa1); (try clear hfb0); (try clear hfb1); (try clear hfv0); (try clear hfv1); have n0_ := y0.mk (hO_); have n1_ := y0.mk ((by rw [hhi_]; exact Nat.le_refl _ : hiX ≤ _)); have n2_ := y0.mk ((by rw [hlo_]; exact HB.out.size : w.heap.size ≤ loX)); have n3_ := y0.mk ((by rw [hlo_]; exact LW.out : hiW ≤ loX)); have n4_ := y0.mk ((by rw [hlo_]; exact QIv.ki_lt BKa.out : ga < loX)); have n5_ := y0.mk ((by rw [hlo_]; exact QIv.ki_lt BKb.out : gb < loX)); have n6_ := y0.mk ((by rw [hlo_]; exact QIv.ki_lt BKv.out : gv < loX)); have n7_ := y0.mk (OW.out.below hb); have n8_ := y0.mk (Nat.le_trans LW.out hb.size); have n9_ := y0.mk (y7 (g := ga) (o := (.cells #[.int .i64 a,.slice A0 l0.length c0] 24 (0,0))) BKa.out hb); have n10_ := y0.mk (y7 (g := gb) (o := (.cells #[.int .i64 b,.slice A1 l1.length c1] 24 (0,0))) BKb.out hb); have n11_ := y0.mk (y7 (g := gv) (o := (.cells #[.int .i64 gr,.slice AW gs.length cW] 31 (0,0))) BKv.out hb); have n12_ := y0.mk (y5 HB.out hb); clear OW LW BKa BKb BKv HB; have OX := n0_; have LX := n1_; have BX := n2_; have DW_X := n3_; have Ea_X := n4_; have Eb_X := n5_; have Ev_X := n6_; have OW := n7_; have LW := n8_; have BKa := n9_; have BKb := n10_; have BKv := n11_; have HB := n12_; clear n0_ n1_ n2_ n3_ n4_ n5_ n6_ n7_ n8_ n9_ n10_ n11_ n12_; (try clear hb); (try clear ho); (try clear hlo_); (try clear hhi_); have hca0 : w7.cell? ⟨ga,0,none⟩ = some (.int .i64 a) := (y8 BKa.out 0).trans rfl; have hfa0 := y12 BKa.out 0; have hca1 : w7.cell? ⟨ga,1,none⟩ = some (.slice A0 l0.length c0) := (y8 BKa.out 1).trans rfl; have hfa1 := y12 BKa.out 1; have hcb0 : w7.cell? ⟨gb,0,none⟩ = some (.int .i64 b) := (y8 BKb.out 0).trans rfl; have hfb0 := y12 BKb.out 0; have hcb1 : w7.cell? ⟨gb,1,none⟩ = some (.slice A1 l1.length c1) := (y8 BKb.out 1).trans rfl; have hfb1 := y12 BKb.out 1; have hcv0 : w7.cell? ⟨gv,0,none⟩ = some (.int .i64 gr) := (y8 BKv.out 0).trans rfl; have hfv0 := y12 BKv.out 0; have hcv1 : w7.cell? ⟨gv,1,none⟩ = some (.slice AW gs.length cW) := (y8 BKv.out 1).trans rfl; have hfv1 := y12 BKv.out 1)
  | ((with_reducible refine y16 (N := 7) rfl ?_); refine qe 7 #[.int .i64 0,.slice none 0 0] 31 ?_; intro gx hg w8 hbox hb; (try clear hca0); (try clear hca1); (try clear hcb0); (try clear hcb1); (try clear hcv0); (try clear hcv1); (try clear hfa0); (try clear hfa1); (try clear hfb0); (try clear hfb1); (try clear hfv0); (try clear hfv1); have n0_ := y0.mk (hbox); have n1_ := y0.mk ((by rw [hg]; exact HB.out.size : w.heap.size ≤ gx)); have n2_ := y0.mk ((by rw [hg]; exact LW.out : hiW ≤ gx)); have n3_ := y0.mk ((by rw [hg]; exact LX.out : hiX ≤ gx)); have n4_ := y0.mk ((by rw [hg]; exact Nat.ne_of_lt (QIv.ki_lt BKa.out) : ga ≠ gx)); have n5_ := y0.mk ((by rw [hg]; exact Nat.ne_of_lt (QIv.ki_lt BKb.out) : gb ≠ gx)); have n6_ := y0.mk ((by rw [hg]; exact Nat.ne_of_lt (QIv.ki_lt BKv.out) : gv ≠ gx)); have n7_ := y0.mk (OW.out.below hb); have n8_ := y0.mk (OX.out.below hb); have n9_ := y0.mk (Nat.le_trans LW.out hb.size); have n10_ := y0.mk (Nat.le_trans LX.out hb.size); have n11_ := y0.mk (y7 (g := ga) (o := (.cells #[.int .i64 a,.slice A0 l0.length c0] 24 (0,0))) BKa.out hb); have n12_ := y0.mk (y7 (g := gb) (o := (.cells #[.int .i64 b,.slice A1 l1.length c1] 24 (0,0))) BKb.out hb); have n13_ := y0.mk (y7 (g := gv) (o := (.cells #[.int .i64 gr,.slice AW gs.length cW] 31 (0,0))) BKv.out hb); have n14_ := y0.mk (y5 HB.out hb); clear OW OX LW LX BKa BKb BKv HB; have BKx := n0_; have GEx := n1_; have EW_x := n2_; have EX_x := n3_; have Na_x := n4_; have Nb_x := n5_; have Nv_x := n6_; have OW := n7_; have OX := n8_; have LW := n9_; have LX := n10_; have BKa := n11_; have BKb := n12_; have BKv := n13_; have HB := n14_; clear n0_ n1_ n2_ n3_ n4_ n5_ n6_ n7_ n8_ n9_ n10_ n11_ n12_ n13_ n14_; clear hb hg hbox; have hca0 : w8.cell? ⟨ga,0,none⟩ = some (.int .i64 a) := (y8 BKa.out 0).trans rfl; have hfa0 := y12 BKa.out 0; have hca1 : w8.cell? ⟨ga,1,none⟩ = some (.slice A0 l0.length c0) := (y8 BKa.out 1).trans rfl; have hfa1 := y12 BKa.out 1; have hcb0 : w8.cell? ⟨gb,0,none⟩ = some (.int .i64 b) := (y8 BKb.out 0).trans rfl; have hfb0 := y12 BKb.out 0; have hcb1 : w8.cell? ⟨gb,1,none⟩ = some (.slice A1 l1.length c1) := (y8 BKb.out 1).trans rfl; have hfb1 := y12 BKb.out 1; have hcv0 : w8.cell? ⟨gv,0,none⟩ = some (.int .i64 gr) := (y8 BKv.out 0).trans rfl; have hfv0 := y12 BKv.out 0; have hcv1 : w8.cell? ⟨gv,1,none⟩ = some (.slice AW gs.length cW) := (y8 BKv.out 1).trans rfl; have hfv1 := y12 BKv.out 1; have hcx0 : w8.cell? ⟨gx,0,none⟩ = some (.int .i64 0) := (y8 BKx.out 0).trans rfl; have hfx0 := y12 BKx.out 0; have hcx1 : w8.cell? ⟨gx,1,none⟩ = some (.slice none 0 0) := (y8 BKx.out 1).trans rfl; have hfx1 := y12 BKx.out 1))
 (try clear hca0)
 (try clear hca1)
 (try clear hcb0)
 (try clear hcb1)
 (try clear hcv0)
 (try clear hcv1)
 (try clear hcx0)
 (try clear hcx1)
 (try clear hfa0)
 (try clear hfa1)
 (try clear hfb0)
 (try clear hfb1)
 (try clear hfv0)
 (try clear hfv1)
 (try clear hfx0)
 (try clear hfx1)
 have n0_ := y0.mk (((OW.out.set (.inr EW_x.out) _ _).set (.inr EW_x.out) _ _) : QIv.OS k48 48 loW hiW (.slice AW gs.length cW) gs ((w8.setCell ⟨gx,0,none⟩ (.int .i64 ar)).setCell ⟨gx,1,none⟩ (.slice AX xs.length cX)))
 have n1_ := y0.mk (by simpa using LW.out : hiW ≤ ((w8.setCell ⟨gx,0,none⟩ (.int .i64 ar)).setCell ⟨gx,1,none⟩ (.slice AX xs.length cX)).heap.size)
 have n2_ := y0.mk (((OX.out.set (.inr EX_x.out) _ _).set (.inr EX_x.out) _ _) : QIv.OS k48 48 loX hiX (.slice AX xs.length cX) xs ((w8.setCell ⟨gx,0,none⟩ (.int .i64 ar)).setCell ⟨gx,1,none⟩ (.slice AX xs.length cX)))
 have n3_ := y0.mk (by simpa using LX.out : hiX ≤ ((w8.setCell ⟨gx,0,none⟩ (.int .i64 ar)).setCell ⟨gx,1,none⟩ (.slice AX xs.length cX)).heap.size)
 have n4_ := y0.mk ((y11 (y11 BKa.out (Na_x.out) _) (Na_x.out) _) : ((w8.setCell ⟨gx,0,none⟩ (.int .i64 ar)).setCell ⟨gx,1,none⟩ (.slice AX xs.length cX)).heap[ga]? = some (.cells #[.int .i64 a,.slice A0 l0.length c0] 24 (0,0)))
 have n5_ := y0.mk ((y11 (y11 BKb.out (Nb_x.out) _) (Nb_x.out) _) : ((w8.setCell ⟨gx,0,none⟩ (.int .i64 ar)).setCell ⟨gx,1,none⟩ (.slice AX xs.length cX)).heap[gb]? = some (.cells #[.int .i64 b,.slice A1 l1.length c1] 24 (0,0)))
 have n6_ := y0.mk ((y11 (y11 BKv.out (Nv_x.out) _) (Nv_x.out) _) : ((w8.setCell ⟨gx,0,none⟩ (.int .i64 ar)).setCell ⟨gx,1,none⟩ (.slice AX xs.length cX)).heap[gv]? = some (.cells #[.int .i64 gr,.slice AW gs.length cW] 31 (0,0)))
 have n7_ := y0.mk ((blk_set (blk_set BKx.out 0 (.int .i64 ar)) 1 (.slice AX xs.length cX)) : ((w8.setCell ⟨gx,0,none⟩ (.int .i64 ar)).setCell ⟨gx,1,none⟩ (.slice AX xs.length cX)).heap[gx]? = some (.cells #[.int .i64 ar,.slice AX xs.length cX] 31 (0,0)))
 have n8_ := y0.mk ((below_set (below_set HB.out GEx.out) GEx.out) : Below w.heap.size w ((w8.setCell ⟨gx,0,none⟩ (.int .i64 ar)).setCell ⟨gx,1,none⟩ (.slice AX xs.length cX)))
 clear OW LW OX LX BKa BKb BKv BKx HB
 generalize ((w8.setCell ⟨gx,0,none⟩ (.int .i64 ar)).setCell ⟨gx,1,none⟩ (.slice AX xs.length cX)) = w9 at n0_ n1_ n2_ n3_ n4_ n5_ n6_ n7_ n8_ ⊢
 have OW := n0_
 have LW := n1_
 have OX := n2_
 have LX := n3_
 have BKa := n4_
 have BKb := n5_
 have BKv := n6_
 have BKx := n7_
 have HB := n8_
 clear n0_ n1_ n2_ n3_ n4_ n5_ n6_ n7_ n8_
 have hca0 : w9.cell? ⟨ga,0,none⟩ = some (.int .i64 a) := (y8 BKa.out 0).trans rfl
 have hfa0 := y12 BKa.out 0
 have hca1 : w9.cell? ⟨ga,1,none⟩ = some (.slice A0 l0.length c0) := (y8 BKa.out 1).trans rfl
 have hfa1 := y12 BKa.out 1
 have hcb0 : w9.cell? ⟨gb,0,none⟩ = some (.int .i64 b) := (y8 BKb.out 0).trans rfl
 have hfb0 := y12 BKb.out 0
 have hcb1 : w9.cell? ⟨gb,1,none⟩ = some (.slice A1 l1.length c1) := (y8 BKb.out 1).trans rfl
 have hfb1 := y12 BKb.out 1
 have hcv0 : w9.cell? ⟨gv,0,none⟩ = some (.int .i64 gr) := (y8 BKv.out 0).trans rfl
 have hfv0 := y12 BKv.out 0
 have hcv1 : w9.cell? ⟨gv,1,none⟩ = some (.slice AW gs.length cW) := (y8 BKv.out 1).trans rfl
 have hfv1 := y12 BKv.out 1
 have hcx0 : w9.cell? ⟨gx,0,none⟩ = some (.int .i64 ar) := (y8 BKx.out 0).trans rfl
 have hfx0 := y12 BKx.out 0
 have hcx1 : w9.cell? ⟨gx,1,none⟩ = some (.slice AX xs.length cX) := (y8 BKx.out 1).trans rfl
 have hfx1 := y12 BKx.out 1
 go_upto_region 11 with (first
  | (go_at_call 10; (with_reducible refine (laws_toRel.calls k b _ _ l1 br ys _ (Kd.C_below HR1.out HB.out) HC1.out F2.out).mono ?_); rintro e w10 ⟨v_,rfl,ho,hb⟩; obtain ⟨loY,hiY,hlo_,hhi_,hO_⟩ := QIv.OS.new ho; obtain ⟨AY,cY,eA_⟩ := hO_.slice; subst eA_; (try clear hca0); (try clear hca1); (try clear hcb0); (try clear hcb1); (try clear hcv0); (try clear hcv1); (try clear hcx0); (try clear hcx1); (try clear hfa0); (try clear hfa1); (try clear hfb0); (try clear hfb1); (try clear hfv0); (try clear hfv1); (try clear hfx0); (try clear hfx1); have n0_ := y0.mk (hO_); have n1_ := y0.mk ((by rw [hhi_]; exact Nat.le_refl _ : hiY ≤ _)); have n2_ := y0.mk ((by rw [hlo_]; exact HB.out.size : w.heap.size ≤ loY)); have n3_ := y0.mk ((by rw [hlo_]; exact LW.out : hiW ≤ loY)); have n4_ := y0.mk ((by rw [hlo_]; exact LX.out : hiX ≤ loY)); have n5_ := y0.mk ((by rw [hlo_]; exact QIv.ki_lt BKa.out : ga < loY)); have n6_ := y0.mk ((by rw [hlo_]; exact QIv.ki_lt BKb.out : gb < loY)); have n7_ := y0.mk ((by rw [hlo_]; exact QIv.ki_lt BKv.out : gv < loY)); have n8_ := y0.mk ((by rw [hlo_]; exact QIv.ki_lt BKx.out : gx < loY)); have n9_ := y0.mk (OW.out.below hb); have n10_ := y0.mk (OX.out.below hb); have n11_ := y0.mk (Nat.le_trans LW.out hb.size); have n12_ := y0.mk (Nat.le_trans LX.out hb.size); have n13_ := y0.mk (y7 (g := ga) (o := (.cells #[.int .i64 a,.slice A0 l0.length c0] 24 (0,0))) BKa.out hb); have n14_ := y0.mk (y7 (g := gb) (o := (.cells #[.int .i64 b,.slice A1 l1.length c1] 24 (0,0))) BKb.out hb); have n15_ := y0.mk (y7 (g := gv) (o := (.cells #[.int .i64 gr,.slice AW gs.length cW] 31 (0,0))) BKv.out hb); have n16_ := y0.mk (y7 (g := gx) (o := (.cells #[.int .i64 ar,.slice AX xs.length cX] 31 (0,0))) BKx.out hb); have n17_ := y0.mk (y5 HB.out hb); clear OW OX LW LX BKa BKb BKv BKx HB; have OY := n0_; have LY := n1_; have BY := n2_; have DW_Y := n3_; have DX_Y := n4_; have Ea_Y := n5_; have Eb_Y := n6_; have Ev_Y := n7_; have Ex_Y := n8_; have OW := n9_; have OX := n10_; have LW := n11_; have LX := n12_; have BKa := n13_; have BKb := n14_; have BKv := n15_; have BKx := n16_; have HB := n17_; clear n0_ n1_ n2_ n3_ n4_ n5_ n6_ n7_ n8_ n9_ n10_ n11_ n12_ n13_ n14_ n15_ n16_ n17_; (try clear hb); (try clear ho); (try clear hlo_); (try clear hhi_); have hca0 : w10.cell? ⟨ga,0,none⟩ = some (.int .i64 a) := (y8 BKa.out 0).trans rfl; have hfa0 := y12 BKa.out 0; have hca1 : w10.cell? ⟨ga,1,none⟩ = some (.slice A0 l0.length c0) := (y8 BKa.out 1).trans rfl; have hfa1 := y12 BKa.out 1; have hcb0 : w10.cell? ⟨gb,0,none⟩ = some (.int .i64 b) := (y8 BKb.out 0).trans rfl; have hfb0 := y12 BKb.out 0; have hcb1 : w10.cell? ⟨gb,1,none⟩ = some (.slice A1 l1.length c1) := (y8 BKb.out 1).trans rfl; have hfb1 := y12 BKb.out 1; have hcv0 : w10.cell? ⟨gv,0,none⟩ = some (.int .i64 gr) := (y8 BKv.out 0).trans rfl; have hfv0 := y12 BKv.out 0; have hcv1 : w10.cell? ⟨gv,1,none⟩ = some (.slice AW gs.length cW) := (y8 BKv.out 1).trans rfl; have hfv1 := y12 BKv.out 1; have hcx0 : w10.cell? ⟨gx,0,none⟩ = some (.int .i64 ar) := (y8 BKx.out 0).trans rfl; have hfx0 := y12 BKx.out 0; have hcx1 : w10.cell? ⟨gx,1,none⟩ = some (.slice AX xs.length cX) := (y8 BKx.out 1).trans rfl; have hfx1 := y12 BKx.out 1)
  | ((with_reducible refine y16 (N := 8) rfl ?_); refine qe 8 #[.int .i64 0,.slice none 0 0] 31 ?_; intro gy hg w11 hbox hb; (try clear hca0); (try clear hca1); (try clear hcb0); (try clear hcb1); (try clear hcv0); (try clear hcv1); (try clear hcx0); (try clear hcx1); (try clear hfa0); (try clear hfa1); (try clear hfb0); (try clear hfb1); (try clear hfv0); (try clear hfv1); (try clear hfx0); (try clear hfx1); have n0_ := y0.mk (hbox); have n1_ := y0.mk ((by rw [hg]; exact HB.out.size : w.heap.size ≤ gy)); have n2_ := y0.mk ((by rw [hg]; exact LW.out : hiW ≤ gy)); have n3_ := y0.mk ((by rw [hg]; exact LX.out : hiX ≤ gy)); have n4_ := y0.mk ((by rw [hg]; exact LY.out : hiY ≤ gy)); have n5_ := y0.mk ((by rw [hg]; exact Nat.ne_of_lt (QIv.ki_lt BKa.out) : ga ≠ gy)); have n6_ := y0.mk ((by rw [hg]; exact Nat.ne_of_lt (QIv.ki_lt BKb.out) : gb ≠ gy)); have n7_ := y0.mk ((by rw [hg]; exact Nat.ne_of_lt (QIv.ki_lt BKv.out) : gv ≠ gy)); have n8_ := y0.mk ((by rw [hg]; exact Nat.ne_of_lt (QIv.ki_lt BKx.out) : gx ≠ gy)); have n9_ := y0.mk (OW.out.below hb); have n10_ := y0.mk (OX.out.below hb); have n11_ := y0.mk (OY.out.below hb); have n12_ := y0.mk (Nat.le_trans LW.out hb.size); have n13_ := y0.mk (Nat.le_trans LX.out hb.size); have n14_ := y0.mk (Nat.le_trans LY.out hb.size); have n15_ := y0.mk (y7 (g := ga) (o := (.cells #[.int .i64 a,.slice A0 l0.length c0] 24 (0,0))) BKa.out hb); have n16_ := y0.mk (y7 (g := gb) (o := (.cells #[.int .i64 b,.slice A1 l1.length c1] 24 (0,0))) BKb.out hb); have n17_ := y0.mk (y7 (g := gv) (o := (.cells #[.int .i64 gr,.slice AW gs.length cW] 31 (0,0))) BKv.out hb); have n18_ := y0.mk (y7 (g := gx) (o := (.cells #[.int .i64 ar,.slice AX xs.length cX] 31 (0,0))) BKx.out hb); have n19_ := y0.mk (y5 HB.out hb); clear OW OX OY LW LX LY BKa BKb BKv BKx HB; have BKy := n0_; have GEy := n1_; have EW_y := n2_; have EX_y := n3_; have EY_y := n4_; have Na_y := n5_; have Nb_y := n6_; have Nv_y := n7_; have Nx_y := n8_; have OW := n9_; have OX := n10_; have OY := n11_; have LW := n12_; have LX := n13_; have LY := n14_; have BKa := n15_; have BKb := n16_; have BKv := n17_; have BKx := n18_; have HB := n19_; clear n0_ n1_ n2_ n3_ n4_ n5_ n6_ n7_ n8_ n9_ n10_ n11_ n12_ n13_ n14_ n15_ n16_ n17_ n18_ n19_; clear hb hg hbox; have hca0 : w11.cell? ⟨ga,0,none⟩ = some (.int .i64 a) := (y8 BKa.out 0).trans rfl; have hfa0 := y12 BKa.out 0; have hca1 : w11.cell? ⟨ga,1,none⟩ = some (.slice A0 l0.length c0) := (y8 BKa.out 1).trans rfl; have hfa1 := y12 BKa.out 1; have hcb0 : w11.cell? ⟨gb,0,none⟩ = some (.int .i64 b) := (y8 BKb.out 0).trans rfl; have hfb0 := y12 BKb.out 0; have hcb1 : w11.cell? ⟨gb,1,none⟩ = some (.slice A1 l1.length c1) := (y8 BKb.out 1).trans rfl; have hfb1 := y12 BKb.out 1; have hcv0 : w11.cell? ⟨gv,0,none⟩ = some (.int .i64 gr) := (y8 BKv.out 0).trans rfl; have hfv0 := y12 BKv.out 0; have hcv1 : w11.cell? ⟨gv,1,none⟩ = some (.slice AW gs.length cW) := (y8 BKv.out 1).trans rfl; have hfv1 := y12 BKv.out 1; have hcx0 : w11.cell? ⟨gx,0,none⟩ = some (.int .i64 ar) := (y8 BKx.out 0).trans rfl; have hfx0 := y12 BKx.out 0; have hcx1 : w11.cell? ⟨gx,1,none⟩ = some (.slice AX xs.length cX) := (y8 BKx.out 1).trans rfl; have hfx1 := y12 BKx.out 1; have hcy0 : w11.cell? ⟨gy,0,none⟩ = some (.int .i64 0) := (y8 BKy.out 0).trans rfl; have hfy0 := y12 BKy.out 0; have hcy1 : w11.cell? ⟨gy,1,none⟩ = some (.slice none 0 0) := (y8 BKy.out 1).trans rfl; have hfy1 := y12 BKy.out 1))
 (try clear hca0)
 (try clear hca1)
 (try clear hcb0)
 (try clear hcb1)
 (try clear hcv0)
 (try clear hcv1)
 (try clear hcx0)
 (try clear hcx1)
 (try clear hcy0)
 (try clear hcy1)
 (try clear hfa0)
 (try clear hfa1)
 (try clear hfb0)
 (try clear hfb1)
 (try clear hfv0)
 (try clear hfv1)
 (try clear hfx0)
 (try clear hfx1)
 (try clear hfy0)
 (try clear hfy1)
 have n0_ := y0.mk (((OW.out.set (.inr EW_y.out) _ _).set (.inr EW_y.out) _ _) : QIv.OS k48 48 loW hiW (.slice AW gs.length cW) gs ((w11.setCell ⟨gy,0,none⟩ (.int .i64 br)).setCell ⟨gy,1,none⟩ (.slice AY ys.length cY)))
 have n1_ := y0.mk (by simpa using LW.out : hiW ≤ ((w11.setCell ⟨gy,0,none⟩ (.int .i64 br)).setCell ⟨gy,1,none⟩ (.slice AY ys.length cY)).heap.size)
 have n2_ := y0.mk (((OX.out.set (.inr EX_y.out) _ _).set (.inr EX_y.out) _ _) : QIv.OS k48 48 loX hiX (.slice AX xs.length cX) xs ((w11.setCell ⟨gy,0,none⟩ (.int .i64 br)).setCell ⟨gy,1,none⟩ (.slice AY ys.length cY)))
 have n3_ := y0.mk (by simpa using LX.out : hiX ≤ ((w11.setCell ⟨gy,0,none⟩ (.int .i64 br)).setCell ⟨gy,1,none⟩ (.slice AY ys.length cY)).heap.size)
 have n4_ := y0.mk (((OY.out.set (.inr EY_y.out) _ _).set (.inr EY_y.out) _ _) : QIv.OS k48 48 loY hiY (.slice AY ys.length cY) ys ((w11.setCell ⟨gy,0,none⟩ (.int .i64 br)).setCell ⟨gy,1,none⟩ (.slice AY ys.length cY)))
 have n5_ := y0.mk (by simpa using LY.out : hiY ≤ ((w11.setCell ⟨gy,0,none⟩ (.int .i64 br)).setCell ⟨gy,1,none⟩ (.slice AY ys.length cY)).heap.size)
 have n6_ := y0.mk ((y11 (y11 BKa.out (Na_y.out) _) (Na_y.out) _) : ((w11.setCell ⟨gy,0,none⟩ (.int .i64 br)).setCell ⟨gy,1,none⟩ (.slice AY ys.length cY)).heap[ga]? = some (.cells #[.int .i64 a,.slice A0 l0.length c0] 24 (0,0)))
 have n7_ := y0.mk ((y11 (y11 BKb.out (Nb_y.out) _) (Nb_y.out) _) : ((w11.setCell ⟨gy,0,none⟩ (.int .i64 br)).setCell ⟨gy,1,none⟩ (.slice AY ys.length cY)).heap[gb]? = some (.cells #[.int .i64 b,.slice A1 l1.length c1] 24 (0,0)))
 have n8_ := y0.mk ((y11 (y11 BKv.out (Nv_y.out) _) (Nv_y.out) _) : ((w11.setCell ⟨gy,0,none⟩ (.int .i64 br)).setCell ⟨gy,1,none⟩ (.slice AY ys.length cY)).heap[gv]? = some (.cells #[.int .i64 gr,.slice AW gs.length cW] 31 (0,0)))
 have n9_ := y0.mk ((y11 (y11 BKx.out (Nx_y.out) _) (Nx_y.out) _) : ((w11.setCell ⟨gy,0,none⟩ (.int .i64 br)).setCell ⟨gy,1,none⟩ (.slice AY ys.length cY)).heap[gx]? = some (.cells #[.int .i64 ar,.slice AX xs.length cX] 31 (0,0)))
 have n10_ := y0.mk ((blk_set (blk_set BKy.out 0 (.int .i64 br)) 1 (.slice AY ys.length cY)) : ((w11.setCell ⟨gy,0,none⟩ (.int .i64 br)).setCell ⟨gy,1,none⟩ (.slice AY ys.length cY)).heap[gy]? = some (.cells #[.int .i64 br,.slice AY ys.length cY] 31 (0,0)))
 have n11_ := y0.mk ((below_set (below_set HB.out GEy.out) GEy.out) : Below w.heap.size w ((w11.setCell ⟨gy,0,none⟩ (.int .i64 br)).setCell ⟨gy,1,none⟩ (.slice AY ys.length cY)))
 clear OW LW OX LX OY LY BKa BKb BKv BKx BKy HB
 generalize ((w11.setCell ⟨gy,0,none⟩ (.int .i64 br)).setCell ⟨gy,1,none⟩ (.slice AY ys.length cY)) = w12 at n0_ n1_ n2_ n3_ n4_ n5_ n6_ n7_ n8_ n9_ n10_ n11_ ⊢
 have OW := n0_
 have LW := n1_
 have OX := n2_
 have LX := n3_
 have OY := n4_
 have LY := n5_
 have BKa := n6_
 have BKb := n7_
 have BKv := n8_
 have BKx := n9_
 have BKy := n10_
 have HB := n11_
 clear n0_ n1_ n2_ n3_ n4_ n5_ n6_ n7_ n8_ n9_ n10_ n11_
 have hca0 : w12.cell? ⟨ga,0,none⟩ = some (.int .i64 a) := (y8 BKa.out 0).trans rfl
 have hfa0 := y12 BKa.out 0
 have hca1 : w12.cell? ⟨ga,1,none⟩ = some (.slice A0 l0.length c0) := (y8 BKa.out 1).trans rfl
 have hfa1 := y12 BKa.out 1
 have hcb0 : w12.cell? ⟨gb,0,none⟩ = some (.int .i64 b) := (y8 BKb.out 0).trans rfl
 have hfb0 := y12 BKb.out 0
 have hcb1 : w12.cell? ⟨gb,1,none⟩ = some (.slice A1 l1.length c1) := (y8 BKb.out 1).trans rfl
 have hfb1 := y12 BKb.out 1
 have hcv0 : w12.cell? ⟨gv,0,none⟩ = some (.int .i64 gr) := (y8 BKv.out 0).trans rfl
 have hfv0 := y12 BKv.out 0
 have hcv1 : w12.cell? ⟨gv,1,none⟩ = some (.slice AW gs.length cW) := (y8 BKv.out 1).trans rfl
 have hfv1 := y12 BKv.out 1
 have hcx0 : w12.cell? ⟨gx,0,none⟩ = some (.int .i64 ar) := (y8 BKx.out 0).trans rfl
 have hfx0 := y12 BKx.out 0
 have hcx1 : w12.cell? ⟨gx,1,none⟩ = some (.slice AX xs.length cX) := (y8 BKx.out 1).trans rfl
 have hfx1 := y12 BKx.out 1
 have hcy0 : w12.cell? ⟨gy,0,none⟩ = some (.int .i64 br) := (y8 BKy.out 0).trans rfl
 have hfy0 := y12 BKy.out 0
 have hcy1 : w12.cell? ⟨gy,1,none⟩ = some (.slice AY ys.length cY) := (y8 BKy.out 1).trans rfl
 have hfy1 := y12 BKy.out 1
 go_upto_region 12 with (first
  | (go_at_call 21; (with_reducible refine (impl_RelLess.calls k ar _ _ xs br _ _ ys gr gs _ OX.out.C OX.out.le OY.out.C OY.out.le (Tb.below HT.out HB.out) F4.out).mono ?_); rintro e w13 ⟨v_,rfl,ho,hb⟩; obtain ⟨loG,hiG,hlo_,hhi_,hO_⟩ := QIv.OS.new ho; obtain ⟨AG,cG,eA_⟩ := hO_.slice; subst eA_; (try clear hca0); (try clear hca1); (try clear hcb0); (try clear hcb1); (try clear hcv0); (try clear hcv1); (try clear hcx0); (try clear hcx1); (try clear hcy0); (try clear hcy1); (try clear hfa0); (try clear hfa1); (try clear hfb0); (try clear hfb1); (try clear hfv0); (try clear hfv1); (try clear hfx0); (try clear hfx1); (try clear hfy0); (try clear hfy1); have n0_ := y0.mk (hO_); have n1_ := y0.mk ((by rw [hhi_]; exact Nat.le_refl _ : hiG ≤ _)); have n2_ := y0.mk ((by rw [hlo_]; exact HB.out.size : w.heap.size ≤ loG)); have n3_ := y0.mk ((by rw [hlo_]; exact LW.out : hiW ≤ loG)); have n4_ := y0.mk ((by rw [hlo_]; exact LX.out : hiX ≤ loG)); have n5_ := y0.mk ((by rw [hlo_]; exact LY.out : hiY ≤ loG)); have n6_ := y0.mk ((by rw [hlo_]; exact QIv.ki_lt BKa.out : ga < loG)); have n7_ := y0.mk ((by rw [hlo_]; exact QIv.ki_lt BKb.out : gb < loG)); have n8_ := y0.mk ((by rw [hlo_]; exact QIv.ki_lt BKv.out : gv < loG)); have n9_ := y0.mk ((by rw [hlo_]; exact QIv.ki_lt BKx.out : gx < loG)); have n10_ := y0.mk ((by rw [hlo_]; exact QIv.ki_lt BKy.out : gy < loG)); have n11_ := y0.mk (OW.out.below hb); have n12_ := y0.mk (OX.out.below hb); have n13_ := y0.mk (OY.out.below hb); have n14_ := y0.mk (Nat.le_trans LW.out hb.size); have n15_ := y0.mk (Nat.le_trans LX.out hb.size); have n16_ := y0.mk (Nat.le_trans LY.out hb.size); have n17_ := y0.mk (y7 (g := ga) (o := (.cells #[.int .i64 a,.slice A0 l0.length c0] 24 (0,0))) BKa.out hb); have n18_ := y0.mk (y7 (g := gb) (o := (.cells #[.int .i64 b,.slice A1 l1.length c1] 24 (0,0))) BKb.out hb); have n19_ := y0.mk (y7 (g := gv) (o := (.cells #[.int .i64 gr,.slice AW gs.length cW] 31 (0,0))) BKv.out hb); have n20_ := y0.mk (y7 (g := gx) (o := (.cells #[.int .i64 ar,.slice AX xs.length cX] 31 (0,0))) BKx.out hb); have n21_ := y0.mk (y7 (g := gy) (o := (.cells #[.int .i64 br,.slice AY ys.length cY] 31 (0,0))) BKy.out hb); have n22_ := y0.mk (y5 HB.out hb); clear OW OX OY LW LX LY BKa BKb BKv BKx BKy HB; have OG := n0_; have LG := n1_; have BG := n2_; have DW_G := n3_; have DX_G := n4_; have DY_G := n5_; have Ea_G := n6_; have Eb_G := n7_; have Ev_G := n8_; have Ex_G := n9_; have Ey_G := n10_; have OW := n11_; have OX := n12_; have OY := n13_; have LW := n14_; have LX := n15_; have LY := n16_; have BKa := n17_; have BKb := n18_; have BKv := n19_; have BKx := n20_; have BKy := n21_; have HB := n22_; clear n0_ n1_ n2_ n3_ n4_ n5_ n6_ n7_ n8_ n9_ n10_ n11_ n12_ n13_ n14_ n15_ n16_ n17_ n18_ n19_ n20_ n21_ n22_; (try clear hb); (try clear ho); (try clear hlo_); (try clear hhi_); have hca0 : w13.cell? ⟨ga,0,none⟩ = some (.int .i64 a) := (y8 BKa.out 0).trans rfl; have hfa0 := y12 BKa.out 0; have hca1 : w13.cell? ⟨ga,1,none⟩ = some (.slice A0 l0.length c0) := (y8 BKa.out 1).trans rfl; have hfa1 := y12 BKa.out 1; have hcb0 : w13.cell? ⟨gb,0,none⟩ = some (.int .i64 b) := (y8 BKb.out 0).trans rfl; have hfb0 := y12 BKb.out 0; have hcb1 : w13.cell? ⟨gb,1,none⟩ = some (.slice A1 l1.length c1) := (y8 BKb.out 1).trans rfl; have hfb1 := y12 BKb.out 1; have hcv0 : w13.cell? ⟨gv,0,none⟩ = some (.int .i64 gr) := (y8 BKv.out 0).trans rfl; have hfv0 := y12 BKv.out 0; have hcv1 : w13.cell? ⟨gv,1,none⟩ = some (.slice AW gs.length cW) := (y8 BKv.out 1).trans rfl; have hfv1 := y12 BKv.out 1; have hcx0 : w13.cell? ⟨gx,0,none⟩ = some (.int .i64 ar) := (y8 BKx.out 0).trans rfl; have hfx0 := y12 BKx.out 0; have hcx1 : w13.cell? ⟨gx,1,none⟩ = some (.slice AX xs.length cX) := (y8 BKx.out 1).trans rfl; have hfx1 := y12 BKx.out 1; have hcy0 : w13.cell? ⟨gy,0,none⟩ = some (.int .i64 br) := (y8 BKy.out 0).trans rfl; have hfy0 := y12 BKy.out 0; have hcy1 : w13.cell? ⟨gy,1,none⟩ = some (.slice AY ys.length cY) := (y8 BKy.out 1).trans rfl; have hfy1 := y12 BKy.out 1)
  | ((with_reducible refine y16 (N := 9) rfl ?_); refine qe 9 #[.int .i64 0,.slice none 0 0] 31 ?_; intro gg hg w14 hbox hb; (try clear hca0); (try clear hca1); (try clear hcb0); (try clear hcb1); (try clear hcv0); (try clear hcv1); (try clear hcx0); (try clear hcx1); (try clear hcy0); (try clear hcy1); (try clear hfa0); (try clear hfa1); (try clear hfb0); (try clear hfb1); (try clear hfv0); (try clear hfv1); (try clear hfx0); (try clear hfx1); (try clear hfy0); (try clear hfy1); have n0_ := y0.mk (hbox); have n1_ := y0.mk ((by rw [hg]; exact HB.out.size : w.heap.size ≤ gg)); have n2_ := y0.mk ((by rw [hg]; exact LW.out : hiW ≤ gg)); have n3_ := y0.mk ((by rw [hg]; exact LX.out : hiX ≤ gg)); have n4_ := y0.mk ((by rw [hg]; exact LY.out : hiY ≤ gg)); have n5_ := y0.mk ((by rw [hg]; exact LG.out : hiG ≤ gg)); have n6_ := y0.mk ((by rw [hg]; exact Nat.ne_of_lt (QIv.ki_lt BKa.out) : ga ≠ gg)); have n7_ := y0.mk ((by rw [hg]; exact Nat.ne_of_lt (QIv.ki_lt BKb.out) : gb ≠ gg)); have n8_ := y0.mk ((by rw [hg]; exact Nat.ne_of_lt (QIv.ki_lt BKv.out) : gv ≠ gg)); have n9_ := y0.mk ((by rw [hg]; exact Nat.ne_of_lt (QIv.ki_lt BKx.out) : gx ≠ gg)); have n10_ := y0.mk ((by rw [hg]; exact Nat.ne_of_lt (QIv.ki_lt BKy.out) : gy ≠ gg)); have n11_ := y0.mk (OW.out.below hb); have n12_ := y0.mk (OX.out.below hb); have n13_ := y0.mk (OY.out.below hb); have n14_ := y0.mk (OG.out.below hb); have n15_ := y0.mk (Nat.le_trans LW.out hb.size); have n16_ := y0.mk (Nat.le_trans LX.out hb.size); have n17_ := y0.mk (Nat.le_trans LY.out hb.size); have n18_ := y0.mk (Nat.le_trans LG.out hb.size); have n19_ := y0.mk (y7 (g := ga) (o := (.cells #[.int .i64 a,.slice A0 l0.length c0] 24 (0,0))) BKa.out hb); have n20_ := y0.mk (y7 (g := gb) (o := (.cells #[.int .i64 b,.slice A1 l1.length c1] 24 (0,0))) BKb.out hb); have n21_ := y0.mk (y7 (g := gv) (o := (.cells #[.int .i64 gr,.slice AW gs.length cW] 31 (0,0))) BKv.out hb); have n22_ := y0.mk (y7 (g := gx) (o := (.cells #[.int .i64 ar,.slice AX xs.length cX] 31 (0,0))) BKx.out hb); have n23_ := y0.mk (y7 (g := gy) (o := (.cells #[.int .i64 br,.slice AY ys.length cY] 31 (0,0))) BKy.out hb); have n24_ := y0.mk (y5 HB.out hb); clear OW OX OY OG LW LX LY LG BKa BKb BKv BKx BKy HB; have BKg := n0_; have GEg := n1_; have EW_g := n2_; have EX_g := n3_; have EY_g := n4_; have EG_g := n5_; have Na_g := n6_; have Nb_g := n7_; have Nv_g := n8_; have Nx_g := n9_; have Ny_g := n10_; have OW := n11_; have OX := n12_; have OY := n13_; have OG := n14_; have LW := n15_; have LX := n16_; have LY := n17_; have LG := n18_; have BKa := n19_; have BKb := n20_; have BKv := n21_; have BKx := n22_; have BKy := n23_; have HB := n24_; clear n0_ n1_ n2_ n3_ n4_ n5_ n6_ n7_ n8_ n9_ n10_ n11_ n12_ n13_ n14_ n15_ n16_ n17_ n18_ n19_ n20_ n21_ n22_ n23_ n24_; clear hb hg hbox; have hca0 : w14.cell? ⟨ga,0,none⟩ = some (.int .i64 a) := (y8 BKa.out 0).trans rfl; have hfa0 := y12 BKa.out 0; have hca1 : w14.cell? ⟨ga,1,none⟩ = some (.slice A0 l0.length c0) := (y8 BKa.out 1).trans rfl; have hfa1 := y12 BKa.out 1; have hcb0 : w14.cell? ⟨gb,0,none⟩ = some (.int .i64 b) := (y8 BKb.out 0).trans rfl; have hfb0 := y12 BKb.out 0; have hcb1 : w14.cell? ⟨gb,1,none⟩ = some (.slice A1 l1.length c1) := (y8 BKb.out 1).trans rfl; have hfb1 := y12 BKb.out 1; have hcv0 : w14.cell? ⟨gv,0,none⟩ = some (.int .i64 gr) := (y8 BKv.out 0).trans rfl; have hfv0 := y12 BKv.out 0; have hcv1 : w14.cell? ⟨gv,1,none⟩ = some (.slice AW gs.length cW) := (y8 BKv.out 1).trans rfl; have hfv1 := y12 BKv.out 1; have hcx0 : w14.cell? ⟨gx,0,none⟩ = some (.int .i64 ar) := (y8 BKx.out 0).trans rfl; have hfx0 := y12 BKx.out 0; have hcx1 : w14.cell? ⟨gx,1,none⟩ = some (.slice AX xs.length cX) := (y8 BKx.out 1).trans rfl; have hfx1 := y12 BKx.out 1; have hcy0 : w14.cell? ⟨gy,0,none⟩ = some (.int .i64 br) := (y8 BKy.out 0).trans rfl; have hfy0 := y12 BKy.out 0; have hcy1 : w14.cell? ⟨gy,1,none⟩ = some (.slice AY ys.length cY) := (y8 BKy.out 1).trans rfl; have hfy1 := y12 BKy.out 1; have hcg0 : w14.cell? ⟨gg,0,none⟩ = some (.int .i64 0) := (y8 BKg.out 0).trans rfl; have hfg0 := y12 BKg.out 0; have hcg1 : w14.cell? ⟨gg,1,none⟩ = some (.slice none 0 0) := (y8 BKg.out 1).trans rfl; have hfg1 := y12 BKg.out 1))
 (try clear hca0)
 (try clear hca1)
 (try clear hcb0)
 (try clear hcb1)
 (try clear hcv0)
 (try clear hcv1)
 (try clear hcx0)
 (try clear hcx1)
 (try clear hcy0)
 (try clear hcy1)
 (try clear hcg0)
 (try clear hcg1)
 (try clear hfa0)
 (try clear hfa1)
 (try clear hfb0)
 (try clear hfb1)
 (try clear hfv0)
 (try clear hfv1)
 (try clear hfx0)
 (try clear hfx1)
 (try clear hfy0)
 (try clear hfy1)
 (try clear hfg0)
 (try clear hfg1)
 have n0_ := y0.mk (((OW.out.set (.inr EW_g.out) _ _).set (.inr EW_g.out) _ _) : QIv.OS k48 48 loW hiW (.slice AW gs.length cW) gs ((w14.setCell ⟨gg,0,none⟩ (.int .i64 gr)).setCell ⟨gg,1,none⟩ (.slice AG gs.length cG)))
 have n1_ := y0.mk (by simpa using LW.out : hiW ≤ ((w14.setCell ⟨gg,0,none⟩ (.int .i64 gr)).setCell ⟨gg,1,none⟩ (.slice AG gs.length cG)).heap.size)
 have n2_ := y0.mk (((OX.out.set (.inr EX_g.out) _ _).set (.inr EX_g.out) _ _) : QIv.OS k48 48 loX hiX (.slice AX xs.length cX) xs ((w14.setCell ⟨gg,0,none⟩ (.int .i64 gr)).setCell ⟨gg,1,none⟩ (.slice AG gs.length cG)))
 have n3_ := y0.mk (by simpa using LX.out : hiX ≤ ((w14.setCell ⟨gg,0,none⟩ (.int .i64 gr)).setCell ⟨gg,1,none⟩ (.slice AG gs.length cG)).heap.size)
 have n4_ := y0.mk (((OY.out.set (.inr EY_g.out) _ _).set (.inr EY_g.out) _ _) : QIv.OS k48 48 loY hiY (.slice AY ys.length cY) ys ((w14.setCell ⟨gg,0,none⟩ (.int .i64 gr)).setCell ⟨gg,1,none⟩ (.slice AG gs.length cG)))
 have n5_ := y0.mk (by simpa using LY.out : hiY ≤ ((w14.setCell ⟨gg,0,none⟩ (.int .i64 gr)).setCell ⟨gg,1,none⟩ (.slice AG gs.length cG)).heap.size)
 have n6_ := y0.mk (((OG.out.set (.inr EG_g.out) _ _).set (.inr EG_g.out) _ _) : QIv.OS k48 48 loG hiG (.slice AG gs.length cG) gs ((w14.setCell ⟨gg,0,none⟩ (.int .i64 gr)).setCell ⟨gg,1,none⟩ (.slice AG gs.length cG)))
 have n7_ := y0.mk (by simpa using LG.out : hiG ≤ ((w14.setCell ⟨gg,0,none⟩ (.int .i64 gr)).setCell ⟨gg,1,none⟩ (.slice AG gs.length cG)).heap.size)
 have n8_ := y0.mk ((y11 (y11 BKa.out (Na_g.out) _) (Na_g.out) _) : ((w14.setCell ⟨gg,0,none⟩ (.int .i64 gr)).setCell ⟨gg,1,none⟩ (.slice AG gs.length cG)).heap[ga]? = some (.cells #[.int .i64 a,.slice A0 l0.length c0] 24 (0,0)))
 have n9_ := y0.mk ((y11 (y11 BKb.out (Nb_g.out) _) (Nb_g.out) _) : ((w14.setCell ⟨gg,0,none⟩ (.int .i64 gr)).setCell ⟨gg,1,none⟩ (.slice AG gs.length cG)).heap[gb]? = some (.cells #[.int .i64 b,.slice A1 l1.length c1] 24 (0,0)))
 have n10_ := y0.mk ((y11 (y11 BKv.out (Nv_g.out) _) (Nv_g.out) _) : ((w14.setCell ⟨gg,0,none⟩ (.int .i64 gr)).setCell ⟨gg,1,none⟩ (.slice AG gs.length cG)).heap[gv]? = some (.cells #[.int .i64 gr,.slice AW gs.length cW] 31 (0,0)))
 have n11_ := y0.mk ((y11 (y11 BKx.out (Nx_g.out) _) (Nx_g.out) _) : ((w14.setCell ⟨gg,0,none⟩ (.int .i64 gr)).setCell ⟨gg,1,none⟩ (.slice AG gs.length cG)).heap[gx]? = some (.cells #[.int .i64 ar,.slice AX xs.length cX] 31 (0,0)))
 have n12_ := y0.mk ((y11 (y11 BKy.out (Ny_g.out) _) (Ny_g.out) _) : ((w14.setCell ⟨gg,0,none⟩ (.int .i64 gr)).setCell ⟨gg,1,none⟩ (.slice AG gs.length cG)).heap[gy]? = some (.cells #[.int .i64 br,.slice AY ys.length cY] 31 (0,0)))
 have n13_ := y0.mk ((blk_set (blk_set BKg.out 0 (.int .i64 gr)) 1 (.slice AG gs.length cG)) : ((w14.setCell ⟨gg,0,none⟩ (.int .i64 gr)).setCell ⟨gg,1,none⟩ (.slice AG gs.length cG)).heap[gg]? = some (.cells #[.int .i64 gr,.slice AG gs.length cG] 31 (0,0)))
 have n14_ := y0.mk ((below_set (below_set HB.out GEg.out) GEg.out) : Below w.heap.size w ((w14.setCell ⟨gg,0,none⟩ (.int .i64 gr)).setCell ⟨gg,1,none⟩ (.slice AG gs.length cG)))
 clear OW LW OX LX OY LY OG LG BKa BKb BKv BKx BKy BKg HB
 generalize ((w14.setCell ⟨gg,0,none⟩ (.int .i64 gr)).setCell ⟨gg,1,none⟩ (.slice AG gs.length cG)) = w15 at n0_ n1_ n2_ n3_ n4_ n5_ n6_ n7_ n8_ n9_ n10_ n11_ n12_ n13_ n14_ ⊢
 have OW := n0_
 have LW := n1_
 have OX := n2_
 have LX := n3_
 have OY := n4_
 have LY := n5_
 have OG := n6_
 have LG := n7_
 have BKa := n8_
 have BKb := n9_
 have BKv := n10_
 have BKx := n11_
 have BKy := n12_
 have BKg := n13_
 have HB := n14_
 clear n0_ n1_ n2_ n3_ n4_ n5_ n6_ n7_ n8_ n9_ n10_ n11_ n12_ n13_ n14_
 have hca0 : w15.cell? ⟨ga,0,none⟩ = some (.int .i64 a) := (y8 BKa.out 0).trans rfl
 have hfa0 := y12 BKa.out 0
 have hca1 : w15.cell? ⟨ga,1,none⟩ = some (.slice A0 l0.length c0) := (y8 BKa.out 1).trans rfl
 have hfa1 := y12 BKa.out 1
 have hcb0 : w15.cell? ⟨gb,0,none⟩ = some (.int .i64 b) := (y8 BKb.out 0).trans rfl
 have hfb0 := y12 BKb.out 0
 have hcb1 : w15.cell? ⟨gb,1,none⟩ = some (.slice A1 l1.length c1) := (y8 BKb.out 1).trans rfl
 have hfb1 := y12 BKb.out 1
 have hcv0 : w15.cell? ⟨gv,0,none⟩ = some (.int .i64 gr) := (y8 BKv.out 0).trans rfl
 have hfv0 := y12 BKv.out 0
 have hcv1 : w15.cell? ⟨gv,1,none⟩ = some (.slice AW gs.length cW) := (y8 BKv.out 1).trans rfl
 have hfv1 := y12 BKv.out 1
 have hcx0 : w15.cell? ⟨gx,0,none⟩ = some (.int .i64 ar) := (y8 BKx.out 0).trans rfl
 have hfx0 := y12 BKx.out 0
 have hcx1 : w15.cell? ⟨gx,1,none⟩ = some (.slice AX xs.length cX) := (y8 BKx.out 1).trans rfl
 have hfx1 := y12 BKx.out 1
 have hcy0 : w15.cell? ⟨gy,0,none⟩ = some (.int .i64 br) := (y8 BKy.out 0).trans rfl
 have hfy0 := y12 BKy.out 0
 have hcy1 : w15.cell? ⟨gy,1,none⟩ = some (.slice AY ys.length cY) := (y8 BKy.out 1).trans rfl
 have hfy1 := y12 BKy.out 1
 have hcg0 : w15.cell? ⟨gg,0,none⟩ = some (.int .i64 gr) := (y8 BKg.out 0).trans rfl
 have hfg0 := y12 BKg.out 0
 have hcg1 : w15.cell? ⟨gg,1,none⟩ = some (.slice AG gs.length cG) := (y8 BKg.out 1).trans rfl
 have hfg1 := y12 BKg.out 1
 go_upto_region 14 with (first
  | (go_at_call 14; (with_reducible refine (laws_eqRel.calls k gr _ _ gs gr _ _ gs true _ OG.out.C OG.out.le OW.out.C OW.out.le F5.out).mono ?_); rintro e w16 ⟨rfl,hb⟩; (try clear hca0); (try clear hca1); (try clear hcb0); (try clear hcb1); (try clear hcv0); (try clear hcv1); (try clear hcx0); (try clear hcx1); (try clear hcy0); (try clear hcy1); (try clear hcg0); (try clear hcg1); (try clear hfa0); (try clear hfa1); (try clear hfb0); (try clear hfb1); (try clear hfv0); (try clear hfv1); (try clear hfx0); (try clear hfx1); (try clear hfy0); (try clear hfy1); (try clear hfg0); (try clear hfg1); have n0_ := y0.mk (OW.out.below hb); have n1_ := y0.mk (OX.out.below hb); have n2_ := y0.mk (OY.out.below hb); have n3_ := y0.mk (OG.out.below hb); have n4_ := y0.mk (Nat.le_trans LW.out hb.size); have n5_ := y0.mk (Nat.le_trans LX.out hb.size); have n6_ := y0.mk (Nat.le_trans LY.out hb.size); have n7_ := y0.mk (Nat.le_trans LG.out hb.size); have n8_ := y0.mk (y7 (g := ga) (o := (.cells #[.int .i64 a,.slice A0 l0.length c0] 24 (0,0))) BKa.out hb); have n9_ := y0.mk (y7 (g := gb) (o := (.cells #[.int .i64 b,.slice A1 l1.length c1] 24 (0,0))) BKb.out hb); have n10_ := y0.mk (y7 (g := gv) (o := (.cells #[.int .i64 gr,.slice AW gs.length cW] 31 (0,0))) BKv.out hb); have n11_ := y0.mk (y7 (g := gx) (o := (.cells #[.int .i64 ar,.slice AX xs.length cX] 31 (0,0))) BKx.out hb); have n12_ := y0.mk (y7 (g := gy) (o := (.cells #[.int .i64 br,.slice AY ys.length cY] 31 (0,0))) BKy.out hb); have n13_ := y0.mk (y7 (g := gg) (o := (.cells #[.int .i64 gr,.slice AG gs.length cG] 31 (0,0))) BKg.out hb); have n14_ := y0.mk (y5 HB.out hb); clear OW OX OY OG LW LX LY LG BKa BKb BKv BKx BKy BKg HB; have OW := n0_; have OX := n1_; have OY := n2_; have OG := n3_; have LW := n4_; have LX := n5_; have LY := n6_; have LG := n7_; have BKa := n8_; have BKb := n9_; have BKv := n10_; have BKx := n11_; have BKy := n12_; have BKg := n13_; have HB := n14_; clear n0_ n1_ n2_ n3_ n4_ n5_ n6_ n7_ n8_ n9_ n10_ n11_ n12_ n13_ n14_; (try clear hb); have hca0 : w16.cell? ⟨ga,0,none⟩ = some (.int .i64 a) := (y8 BKa.out 0).trans rfl; have hfa0 := y12 BKa.out 0; have hca1 : w16.cell? ⟨ga,1,none⟩ = some (.slice A0 l0.length c0) := (y8 BKa.out 1).trans rfl; have hfa1 := y12 BKa.out 1; have hcb0 : w16.cell? ⟨gb,0,none⟩ = some (.int .i64 b) := (y8 BKb.out 0).trans rfl; have hfb0 := y12 BKb.out 0; have hcb1 : w16.cell? ⟨gb,1,none⟩ = some (.slice A1 l1.length c1) := (y8 BKb.out 1).trans rfl; have hfb1 := y12 BKb.out 1; have hcv0 : w16.cell? ⟨gv,0,none⟩ = some (.int .i64 gr) := (y8 BKv.out 0).trans rfl; have hfv0 := y12 BKv.out 0; have hcv1 : w16.cell? ⟨gv,1,none⟩ = some (.slice AW gs.length cW) := (y8 BKv.out 1).trans rfl; have hfv1 := y12 BKv.out 1; have hcx0 : w16.cell? ⟨gx,0,none⟩ = some (.int .i64 ar) := (y8 BKx.out 0).trans rfl; have hfx0 := y12 BKx.out 0; have hcx1 : w16.cell? ⟨gx,1,none⟩ = some (.slice AX xs.length cX) := (y8 BKx.out 1).trans rfl; have hfx1 := y12 BKx.out 1; have hcy0 : w16.cell? ⟨gy,0,none⟩ = some (.int .i64 br) := (y8 BKy.out 0).trans rfl; have hfy0 := y12 BKy.out 0; have hcy1 : w16.cell? ⟨gy,1,none⟩ = some (.slice AY ys.length cY) := (y8 BKy.out 1).trans rfl; have hfy1 := y12 BKy.out 1; have hcg0 : w16.cell? ⟨gg,0,none⟩ = some (.int .i64 gr) := (y8 BKg.out 0).trans rfl; have hfg0 := y12 BKg.out 0; have hcg1 : w16.cell? ⟨gg,1,none⟩ = some (.slice AG gs.length cG) := (y8 BKg.out 1).trans rfl; have hfg1 := y12 BKg.out 1))
 (try clear hca0)
 (try clear hca1)
 (try clear hcb0)
 (try clear hcb1)
 (try clear hcv0)
 (try clear hcv1)
 (try clear hcx0)
 (try clear hcx1)
 (try clear hcy0)
 (try clear hcy1)
 (try clear hcg0)
 (try clear hcg1)
 (try clear hfa0)
 (try clear hfa1)
 (try clear hfb0)
 (try clear hfb1)
 (try clear hfv0)
 (try clear hfv1)
 (try clear hfx0)
 (try clear hfx1)
 (try clear hfy0)
 (try clear hfy1)
 (try clear hfg0)
 (try clear hfg1)
 refine start_ (n := 5) (S := fun w' => w'.cell? ⟨ga,0,none⟩ = some (.int .i64 a) ∧ w'.cell? ⟨ga,1,none⟩ = some (.slice A0 l0.length c0) ∧ w'.cell? ⟨gb,0,none⟩ = some (.int .i64 b) ∧ w'.cell? ⟨gb,1,none⟩ = some (.slice A1 l1.length c1) ∧ w'.cell? ⟨gv,0,none⟩ = some (.int .i64 gr) ∧ w'.cell? ⟨gv,1,none⟩ = some (.slice AW gs.length cW) ∧ w'.cell? ⟨gx,0,none⟩ = some (.int .i64 ar) ∧ w'.cell? ⟨gx,1,none⟩ = some (.slice AX xs.length cX) ∧ w'.cell? ⟨gy,0,none⟩ = some (.int .i64 br) ∧ w'.cell? ⟨gy,1,none⟩ = some (.slice AY ys.length cY) ∧ w'.cell? ⟨gg,0,none⟩ = some (.int .i64 gr) ∧ w'.cell? ⟨gg,1,none⟩ = some (.slice AG gs.length cG)) (ds := []) #[false,false,false,false,false] (by kernel_rfl) rfl rfl ⟨(y8 BKa.out 0).trans rfl,(y8 BKa.out 1).trans rfl,(y8 BKb.out 0).trans rfl,(y8 BKb.out 1).trans rfl,(y8 BKv.out 0).trans rfl,(y8 BKv.out 1).trans rfl,(y8 BKx.out 0).trans rfl,(y8 BKx.out 1).trans rfl,(y8 BKy.out 0).trans rfl,(y8 BKy.out 1).trans rfl,(y8 BKg.out 0).trans rfl,(y8 BKg.out 1).trans rfl⟩ (fun hHeld => ?_)
 have n0_ := y0.mk (OW.out.drew)
 have n1_ := y0.mk (OX.out.drew)
 have n2_ := y0.mk (OY.out.drew)
 have n3_ := y0.mk (OG.out.drew)
 have n4_ := y0.mk ((show hiW ≤ w16.drew.heap.size from LW.out))
 have n5_ := y0.mk ((show hiX ≤ w16.drew.heap.size from LX.out))
 have n6_ := y0.mk ((show hiY ≤ w16.drew.heap.size from LY.out))
 have n7_ := y0.mk ((show hiG ≤ w16.drew.heap.size from LG.out))
 have n8_ := y0.mk (y9 BKa.out)
 have n9_ := y0.mk (y9 BKb.out)
 have n10_ := y0.mk (y9 BKv.out)
 have n11_ := y0.mk (y9 BKx.out)
 have n12_ := y0.mk (y9 BKy.out)
 have n13_ := y0.mk (y9 BKg.out)
 have n14_ := y0.mk (y3 HB.out)
 clear OW OX OY OG LW LX LY LG BKa BKb BKv BKx BKy BKg HB
 have OW := n0_
 have OX := n1_
 have OY := n2_
 have OG := n3_
 have LW := n4_
 have LX := n5_
 have LY := n6_
 have LG := n7_
 have BKa := n8_
 have BKb := n9_
 have BKv := n10_
 have BKx := n11_
 have BKy := n12_
 have BKg := n13_
 have HB := n14_
 clear n0_ n1_ n2_ n3_ n4_ n5_ n6_ n7_ n8_ n9_ n10_ n11_ n12_ n13_ n14_
 generalize w16.drew = w17 at OW OX OY OG LW LX LY LG BKa BKb BKv BKx BKy BKg HB hHeld ⊢
 refine take_ (i := 0) (N := some 40) (v := ?_) (a' := ?_) #[true,false,false,false,false] rfl rfl (by kernel_rfl) (fun _ _ _ h => h) (Or.inl ⟨by rfl, ?_⟩) hHeld ?_ ?_
 rotate_left
 ·rintro w' ⟨s0,s1,s2,s3,s4,s5,s6,s7,s8,s9,s10,s11⟩
  go_simp
  with_reducible rfl
 rotate_left
 ·simp only [Act.put,qS_,qZ_,qC_,y19,y18]
  rfl
 refine take_ (i := 1) (N := some 41) (v := ?_) (a' := ?_) #[true,true,false,false,false] rfl rfl (by kernel_rfl) (fun _ _ _ h => h) (Or.inl ⟨by rfl, ?_⟩) hHeld ?_ ?_
 rotate_left
 ·rintro w' ⟨s0,s1,s2,s3,s4,s5,s6,s7,s8,s9,s10,s11⟩
  go_simp
  with_reducible rfl
 rotate_left
 ·simp only [Act.put,qS_,qZ_,qC_,y19,y18]
  rfl
 refine one_ (i := 2) (N := some 42) #[true,true,true,false,false] rfl rfl (by kernel_rfl) (by decide) (fun K hK => ?_)
 refine goes_ Tryz.func10 (by kernel_rfl) rfl #[.agg #[.int .i64 a,.slice A0 l0.length c0]] (by rfl) rfl rfl qy4 ?_
 (with_reducible refine (laws_toRel.calls k a _ _ l0 ar xs _ (Kd.C_below HR0.out HB.out) HC0.out F1.out).mono ?_)
 rintro e w18 ⟨v_,rfl,ho,hb⟩
 refine ⟨_,rfl, ?_⟩
 obtain ⟨loZ,hiZ,hlo_,hhi_,hO_⟩ := QIv.OS.new ho
 obtain ⟨AZ,cZ,eA_⟩ := hO_.slice
 subst eA_
 (try clear hca0)
 (try clear hca1)
 (try clear hcb0)
 (try clear hcb1)
 (try clear hcv0)
 (try clear hcv1)
 (try clear hcx0)
 (try clear hcx1)
 (try clear hcy0)
 (try clear hcy1)
 (try clear hcg0)
 (try clear hcg1)
 (try clear hfa0)
 (try clear hfa1)
 (try clear hfb0)
 (try clear hfb1)
 (try clear hfv0)
 (try clear hfv1)
 (try clear hfx0)
 (try clear hfx1)
 (try clear hfy0)
 (try clear hfy1)
 (try clear hfg0)
 (try clear hfg1)
 have n0_ := y0.mk (hO_)
 have n1_ := y0.mk ((by rw [hhi_]; exact Nat.le_refl _ : hiZ ≤ _))
 have n2_ := y0.mk ((by rw [hlo_]; exact HB.out.size : w.heap.size ≤ loZ))
 have n3_ := y0.mk ((by rw [hlo_]; exact LW.out : hiW ≤ loZ))
 have n4_ := y0.mk ((by rw [hlo_]; exact LX.out : hiX ≤ loZ))
 have n5_ := y0.mk ((by rw [hlo_]; exact LY.out : hiY ≤ loZ))
 have n6_ := y0.mk ((by rw [hlo_]; exact LG.out : hiG ≤ loZ))
 have n7_ := y0.mk ((by rw [hlo_]; exact QIv.ki_lt BKa.out : ga < loZ))
 have n8_ := y0.mk ((by rw [hlo_]; exact QIv.ki_lt BKb.out : gb < loZ))
 have n9_ := y0.mk ((by rw [hlo_]; exact QIv.ki_lt BKv.out : gv < loZ))
 have n10_ := y0.mk ((by rw [hlo_]; exact QIv.ki_lt BKx.out : gx < loZ))
 have n11_ := y0.mk ((by rw [hlo_]; exact QIv.ki_lt BKy.out : gy < loZ))
 have n12_ := y0.mk ((by rw [hlo_]; exact QIv.ki_lt BKg.out : gg < loZ))
 have n13_ := y0.mk (OW.out.below hb)
 have n14_ := y0.mk (OX.out.below hb)
 have n15_ := y0.mk (OY.out.below hb)
 have n16_ := y0.mk (OG.out.below hb)
 have n17_ := y0.mk (Nat.le_trans LW.out hb.size)
 have n18_ := y0.mk (Nat.le_trans LX.out hb.size)
 have n19_ := y0.mk (Nat.le_trans LY.out hb.size)
 have n20_ := y0.mk (Nat.le_trans LG.out hb.size)
 have n21_ := y0.mk (y7 (g := ga) (o := (.cells #[.int .i64 a,.slice A0 l0.length c0] 24 (0,0))) BKa.out hb)
 have n22_ := y0.mk (y7 (g := gb) (o := (.cells #[.int .i64 b,.slice A1 l1.length c1] 24 (0,0))) BKb.out hb)
 have n23_ := y0.mk (y7 (g := gv) (o := (.cells #[.int .i64 gr,.slice AW gs.length cW] 31 (0,0))) BKv.out hb)
 have n24_ := y0.mk (y7 (g := gx) (o := (.cells #[.int .i64 ar,.slice AX xs.length cX] 31 (0,0))) BKx.out hb)
 have n25_ := y0.mk (y7 (g := gy) (o := (.cells #[.int .i64 br,.slice AY ys.length cY] 31 (0,0))) BKy.out hb)
 have n26_ := y0.mk (y7 (g := gg) (o := (.cells #[.int .i64 gr,.slice AG gs.length cG] 31 (0,0))) BKg.out hb)
 have n27_ := y0.mk (y5 HB.out hb)
 clear OW OX OY OG LW LX LY LG BKa BKb BKv BKx BKy BKg HB
 have OZ := n0_
 have LZ := n1_
 have BZ := n2_
 have DW_Z := n3_
 have DX_Z := n4_
 have DY_Z := n5_
 have DG_Z := n6_
 have Ea_Z := n7_
 have Eb_Z := n8_
 have Ev_Z := n9_
 have Ex_Z := n10_
 have Ey_Z := n11_
 have Eg_Z := n12_
 have OW := n13_
 have OX := n14_
 have OY := n15_
 have OG := n16_
 have LW := n17_
 have LX := n18_
 have LY := n19_
 have LG := n20_
 have BKa := n21_
 have BKb := n22_
 have BKv := n23_
 have BKx := n24_
 have BKy := n25_
 have BKg := n26_
 have HB := n27_
 clear n0_ n1_ n2_ n3_ n4_ n5_ n6_ n7_ n8_ n9_ n10_ n11_ n12_ n13_ n14_ n15_ n16_ n17_ n18_ n19_ n20_ n21_ n22_ n23_ n24_ n25_ n26_ n27_
 (try clear hb)
 (try clear ho)
 (try clear hlo_)
 (try clear hhi_)
 have hca0 : w18.cell? ⟨ga,0,none⟩ = some (.int .i64 a) := (y8 BKa.out 0).trans rfl
 have hfa0 := y12 BKa.out 0
 have hca1 : w18.cell? ⟨ga,1,none⟩ = some (.slice A0 l0.length c0) := (y8 BKa.out 1).trans rfl
 have hfa1 := y12 BKa.out 1
 have hcb0 : w18.cell? ⟨gb,0,none⟩ = some (.int .i64 b) := (y8 BKb.out 0).trans rfl
 have hfb0 := y12 BKb.out 0
 have hcb1 : w18.cell? ⟨gb,1,none⟩ = some (.slice A1 l1.length c1) := (y8 BKb.out 1).trans rfl
 have hfb1 := y12 BKb.out 1
 have hcv0 : w18.cell? ⟨gv,0,none⟩ = some (.int .i64 gr) := (y8 BKv.out 0).trans rfl
 have hfv0 := y12 BKv.out 0
 have hcv1 : w18.cell? ⟨gv,1,none⟩ = some (.slice AW gs.length cW) := (y8 BKv.out 1).trans rfl
 have hfv1 := y12 BKv.out 1
 have hcx0 : w18.cell? ⟨gx,0,none⟩ = some (.int .i64 ar) := (y8 BKx.out 0).trans rfl
 have hfx0 := y12 BKx.out 0
 have hcx1 : w18.cell? ⟨gx,1,none⟩ = some (.slice AX xs.length cX) := (y8 BKx.out 1).trans rfl
 have hfx1 := y12 BKx.out 1
 have hcy0 : w18.cell? ⟨gy,0,none⟩ = some (.int .i64 br) := (y8 BKy.out 0).trans rfl
 have hfy0 := y12 BKy.out 0
 have hcy1 : w18.cell? ⟨gy,1,none⟩ = some (.slice AY ys.length cY) := (y8 BKy.out 1).trans rfl
 have hfy1 := y12 BKy.out 1
 have hcg0 : w18.cell? ⟨gg,0,none⟩ = some (.int .i64 gr) := (y8 BKg.out 0).trans rfl
 have hfg0 := y12 BKg.out 0
 have hcg1 : w18.cell? ⟨gg,1,none⟩ = some (.slice AG gs.length cG) := (y8 BKg.out 1).trans rfl
 have hfg1 := y12 BKg.out 1
 (try clear hca0)
 (try clear hca1)
 (try clear hcb0)
 (try clear hcb1)
 (try clear hcv0)
 (try clear hcv1)
 (try clear hcx0)
 (try clear hcx1)
 (try clear hcy0)
 (try clear hcy1)
 (try clear hcg0)
 (try clear hcg1)
 (try clear hfa0)
 (try clear hfa1)
 (try clear hfb0)
 (try clear hfb1)
 (try clear hfv0)
 (try clear hfv1)
 (try clear hfx0)
 (try clear hfx1)
 (try clear hfy0)
 (try clear hfy1)
 (try clear hfg0)
 (try clear hfg1)
 refine hK.out _ _ ⟨(y8 BKa.out 0).trans rfl,(y8 BKa.out 1).trans rfl,(y8 BKb.out 0).trans rfl,(y8 BKb.out 1).trans rfl,(y8 BKv.out 0).trans rfl,(y8 BKv.out 1).trans rfl,(y8 BKx.out 0).trans rfl,(y8 BKx.out 1).trans rfl,(y8 BKy.out 0).trans rfl,(y8 BKy.out 1).trans rfl,(y8 BKg.out 0).trans rfl,(y8 BKg.out 1).trans rfl⟩ (fun hHeld => ?_)
 clear hK K
 refine norm_ (a' := ?_) ?_ ?_
 rotate_left
 ·show Act.put _ (some 42) _ = _
  simp only [Act.put,qS_,qZ_,qC_,y19,y18]
  rfl
 refine one_ (i := 3) (N := some 43) #[true,true,true,true,false] rfl rfl (by kernel_rfl) (by decide) (fun K hK => ?_)
 refine goes_ Tryz.func14 (by kernel_rfl) rfl #[.agg #[.int .i64 ar,.slice AX xs.length cX],.agg #[.int .i64 ar,.slice AZ xs.length cZ]] (by rfl) rfl rfl qy4 ?_
 (with_reducible refine (laws_eqRel.calls k ar _ _ xs ar _ _ xs true _ OX.out.C OX.out.le OZ.out.C OZ.out.le F6.out).mono ?_)
 rintro e w19 ⟨rfl,hb⟩
 refine ⟨_,rfl, ?_⟩
 (try clear hca0)
 (try clear hca1)
 (try clear hcb0)
 (try clear hcb1)
 (try clear hcv0)
 (try clear hcv1)
 (try clear hcx0)
 (try clear hcx1)
 (try clear hcy0)
 (try clear hcy1)
 (try clear hcg0)
 (try clear hcg1)
 (try clear hfa0)
 (try clear hfa1)
 (try clear hfb0)
 (try clear hfb1)
 (try clear hfv0)
 (try clear hfv1)
 (try clear hfx0)
 (try clear hfx1)
 (try clear hfy0)
 (try clear hfy1)
 (try clear hfg0)
 (try clear hfg1)
 have n0_ := y0.mk (OW.out.below hb)
 have n1_ := y0.mk (OX.out.below hb)
 have n2_ := y0.mk (OY.out.below hb)
 have n3_ := y0.mk (OG.out.below hb)
 have n4_ := y0.mk (OZ.out.below hb)
 have n5_ := y0.mk (Nat.le_trans LW.out hb.size)
 have n6_ := y0.mk (Nat.le_trans LX.out hb.size)
 have n7_ := y0.mk (Nat.le_trans LY.out hb.size)
 have n8_ := y0.mk (Nat.le_trans LG.out hb.size)
 have n9_ := y0.mk (Nat.le_trans LZ.out hb.size)
 have n10_ := y0.mk (y7 (g := ga) (o := (.cells #[.int .i64 a,.slice A0 l0.length c0] 24 (0,0))) BKa.out hb)
 have n11_ := y0.mk (y7 (g := gb) (o := (.cells #[.int .i64 b,.slice A1 l1.length c1] 24 (0,0))) BKb.out hb)
 have n12_ := y0.mk (y7 (g := gv) (o := (.cells #[.int .i64 gr,.slice AW gs.length cW] 31 (0,0))) BKv.out hb)
 have n13_ := y0.mk (y7 (g := gx) (o := (.cells #[.int .i64 ar,.slice AX xs.length cX] 31 (0,0))) BKx.out hb)
 have n14_ := y0.mk (y7 (g := gy) (o := (.cells #[.int .i64 br,.slice AY ys.length cY] 31 (0,0))) BKy.out hb)
 have n15_ := y0.mk (y7 (g := gg) (o := (.cells #[.int .i64 gr,.slice AG gs.length cG] 31 (0,0))) BKg.out hb)
 have n16_ := y0.mk (y5 HB.out hb)
 clear OW OX OY OG OZ LW LX LY LG LZ BKa BKb BKv BKx BKy BKg HB
 have OW := n0_
 have OX := n1_
 have OY := n2_
 have OG := n3_
 have OZ := n4_
 have LW := n5_
 have LX := n6_
 have LY := n7_
 have LG := n8_
 have LZ := n9_
 have BKa := n10_
 have BKb := n11_
 have BKv := n12_
 have BKx := n13_
 have BKy := n14_
 have BKg := n15_
 have HB := n16_
 clear n0_ n1_ n2_ n3_ n4_ n5_ n6_ n7_ n8_ n9_ n10_ n11_ n12_ n13_ n14_ n15_ n16_
 (try clear hb)
 have hca0 : w19.cell? ⟨ga,0,none⟩ = some (.int .i64 a) := (y8 BKa.out 0).trans rfl
 have hfa0 := y12 BKa.out 0
 have hca1 : w19.cell? ⟨ga,1,none⟩ = some (.slice A0 l0.length c0) := (y8 BKa.out 1).trans rfl
 have hfa1 := y12 BKa.out 1
 have hcb0 : w19.cell? ⟨gb,0,none⟩ = some (.int .i64 b) := (y8 BKb.out 0).trans rfl
 have hfb0 := y12 BKb.out 0
 have hcb1 : w19.cell? ⟨gb,1,none⟩ = some (.slice A1 l1.length c1) := (y8 BKb.out 1).trans rfl
 have hfb1 := y12 BKb.out 1
 have hcv0 : w19.cell? ⟨gv,0,none⟩ = some (.int .i64 gr) := (y8 BKv.out 0).trans rfl
 have hfv0 := y12 BKv.out 0
 have hcv1 : w19.cell? ⟨gv,1,none⟩ = some (.slice AW gs.length cW) := (y8 BKv.out 1).trans rfl
 have hfv1 := y12 BKv.out 1
 have hcx0 : w19.cell? ⟨gx,0,none⟩ = some (.int .i64 ar) := (y8 BKx.out 0).trans rfl
 have hfx0 := y12 BKx.out 0
 have hcx1 : w19.cell? ⟨gx,1,none⟩ = some (.slice AX xs.length cX) := (y8 BKx.out 1).trans rfl
 have hfx1 := y12 BKx.out 1
 have hcy0 : w19.cell? ⟨gy,0,none⟩ = some (.int .i64 br) := (y8 BKy.out 0).trans rfl
 have hfy0 := y12 BKy.out 0
 have hcy1 : w19.cell? ⟨gy,1,none⟩ = some (.slice AY ys.length cY) := (y8 BKy.out 1).trans rfl
 have hfy1 := y12 BKy.out 1
 have hcg0 : w19.cell? ⟨gg,0,none⟩ = some (.int .i64 gr) := (y8 BKg.out 0).trans rfl
 have hfg0 := y12 BKg.out 0
 have hcg1 : w19.cell? ⟨gg,1,none⟩ = some (.slice AG gs.length cG) := (y8 BKg.out 1).trans rfl
 have hfg1 := y12 BKg.out 1
 (try clear hca0)
 (try clear hca1)
 (try clear hcb0)
 (try clear hcb1)
 (try clear hcv0)
 (try clear hcv1)
 (try clear hcx0)
 (try clear hcx1)
 (try clear hcy0)
 (try clear hcy1)
 (try clear hcg0)
 (try clear hcg1)
 (try clear hfa0)
 (try clear hfa1)
 (try clear hfb0)
 (try clear hfb1)
 (try clear hfv0)
 (try clear hfv1)
 (try clear hfx0)
 (try clear hfx1)
 (try clear hfy0)
 (try clear hfy1)
 (try clear hfg0)
 (try clear hfg1)
 refine hK.out _ _ ⟨(y8 BKa.out 0).trans rfl,(y8 BKa.out 1).trans rfl,(y8 BKb.out 0).trans rfl,(y8 BKb.out 1).trans rfl,(y8 BKv.out 0).trans rfl,(y8 BKv.out 1).trans rfl,(y8 BKx.out 0).trans rfl,(y8 BKx.out 1).trans rfl,(y8 BKy.out 0).trans rfl,(y8 BKy.out 1).trans rfl,(y8 BKg.out 0).trans rfl,(y8 BKg.out 1).trans rfl⟩ (fun hHeld => ?_)
 clear hK K
 refine norm_ (a' := ?_) ?_ ?_
 rotate_left
 ·show Act.put _ (some 43) _ = _
  simp only [Act.put,qS_,qZ_,qC_,y19,y18]
  rfl
 refine y20 (i := 4) (N := some 44) (v := ?_) (a' := ?_) #[true,true,true,true,true] rfl rfl (by kernel_rfl) (fun _ _ _ h => h) (Or.inl ⟨by rfl, ?_⟩) ?_ ?_
 rotate_left
 ·intro w'
  go_simp
  with_reducible rfl
 rotate_left
 ·simp only [Act.put,qS_,qZ_,qC_,y19,y18]
  rfl
 refine done_ (by kernel_rfl) ?_
 clear OZ LZ
 clear hHeld
 have hca0 : w19.cell? ⟨ga,0,none⟩ = some (.int .i64 a) := (y8 BKa.out 0).trans rfl
 have hfa0 := y12 BKa.out 0
 have hca1 : w19.cell? ⟨ga,1,none⟩ = some (.slice A0 l0.length c0) := (y8 BKa.out 1).trans rfl
 have hfa1 := y12 BKa.out 1
 have hcb0 : w19.cell? ⟨gb,0,none⟩ = some (.int .i64 b) := (y8 BKb.out 0).trans rfl
 have hfb0 := y12 BKb.out 0
 have hcb1 : w19.cell? ⟨gb,1,none⟩ = some (.slice A1 l1.length c1) := (y8 BKb.out 1).trans rfl
 have hfb1 := y12 BKb.out 1
 have hcv0 : w19.cell? ⟨gv,0,none⟩ = some (.int .i64 gr) := (y8 BKv.out 0).trans rfl
 have hfv0 := y12 BKv.out 0
 have hcv1 : w19.cell? ⟨gv,1,none⟩ = some (.slice AW gs.length cW) := (y8 BKv.out 1).trans rfl
 have hfv1 := y12 BKv.out 1
 have hcx0 : w19.cell? ⟨gx,0,none⟩ = some (.int .i64 ar) := (y8 BKx.out 0).trans rfl
 have hfx0 := y12 BKx.out 0
 have hcx1 : w19.cell? ⟨gx,1,none⟩ = some (.slice AX xs.length cX) := (y8 BKx.out 1).trans rfl
 have hfx1 := y12 BKx.out 1
 have hcy0 : w19.cell? ⟨gy,0,none⟩ = some (.int .i64 br) := (y8 BKy.out 0).trans rfl
 have hfy0 := y12 BKy.out 0
 have hcy1 : w19.cell? ⟨gy,1,none⟩ = some (.slice AY ys.length cY) := (y8 BKy.out 1).trans rfl
 have hfy1 := y12 BKy.out 1
 have hcg0 : w19.cell? ⟨gg,0,none⟩ = some (.int .i64 gr) := (y8 BKg.out 0).trans rfl
 have hfg0 := y12 BKg.out 0
 have hcg1 : w19.cell? ⟨gg,1,none⟩ = some (.slice AG gs.length cG) := (y8 BKg.out 1).trans rfl
 have hfg1 := y12 BKg.out 1
 go_upto_region 16 with (first
  | fail)
 (try clear hca0)
 (try clear hca1)
 (try clear hcb0)
 (try clear hcb1)
 (try clear hcv0)
 (try clear hcv1)
 (try clear hcx0)
 (try clear hcx1)
 (try clear hcy0)
 (try clear hcy1)
 (try clear hcg0)
 (try clear hcg1)
 (try clear hfa0)
 (try clear hfa1)
 (try clear hfb0)
 (try clear hfb1)
 (try clear hfv0)
 (try clear hfv1)
 (try clear hfx0)
 (try clear hfx1)
 (try clear hfy0)
 (try clear hfy1)
 (try clear hfg0)
 (try clear hfg1)
 refine start_ (n := 5) (S := fun w' => w'.cell? ⟨ga,0,none⟩ = some (.int .i64 a) ∧ w'.cell? ⟨ga,1,none⟩ = some (.slice A0 l0.length c0) ∧ w'.cell? ⟨gb,0,none⟩ = some (.int .i64 b) ∧ w'.cell? ⟨gb,1,none⟩ = some (.slice A1 l1.length c1) ∧ w'.cell? ⟨gv,0,none⟩ = some (.int .i64 gr) ∧ w'.cell? ⟨gv,1,none⟩ = some (.slice AW gs.length cW) ∧ w'.cell? ⟨gx,0,none⟩ = some (.int .i64 ar) ∧ w'.cell? ⟨gx,1,none⟩ = some (.slice AX xs.length cX) ∧ w'.cell? ⟨gy,0,none⟩ = some (.int .i64 br) ∧ w'.cell? ⟨gy,1,none⟩ = some (.slice AY ys.length cY) ∧ w'.cell? ⟨gg,0,none⟩ = some (.int .i64 gr) ∧ w'.cell? ⟨gg,1,none⟩ = some (.slice AG gs.length cG)) (ds := []) #[false,false,false,false,false] (by kernel_rfl) rfl rfl ⟨(y8 BKa.out 0).trans rfl,(y8 BKa.out 1).trans rfl,(y8 BKb.out 0).trans rfl,(y8 BKb.out 1).trans rfl,(y8 BKv.out 0).trans rfl,(y8 BKv.out 1).trans rfl,(y8 BKx.out 0).trans rfl,(y8 BKx.out 1).trans rfl,(y8 BKy.out 0).trans rfl,(y8 BKy.out 1).trans rfl,(y8 BKg.out 0).trans rfl,(y8 BKg.out 1).trans rfl⟩ (fun hHeld => ?_)
 have n0_ := y0.mk (OW.out.drew)
 have n1_ := y0.mk (OX.out.drew)
 have n2_ := y0.mk (OY.out.drew)
 have n3_ := y0.mk (OG.out.drew)
 have n4_ := y0.mk ((show hiW ≤ w19.drew.heap.size from LW.out))
 have n5_ := y0.mk ((show hiX ≤ w19.drew.heap.size from LX.out))
 have n6_ := y0.mk ((show hiY ≤ w19.drew.heap.size from LY.out))
 have n7_ := y0.mk ((show hiG ≤ w19.drew.heap.size from LG.out))
 have n8_ := y0.mk (y9 BKa.out)
 have n9_ := y0.mk (y9 BKb.out)
 have n10_ := y0.mk (y9 BKv.out)
 have n11_ := y0.mk (y9 BKx.out)
 have n12_ := y0.mk (y9 BKy.out)
 have n13_ := y0.mk (y9 BKg.out)
 have n14_ := y0.mk (y3 HB.out)
 clear OW OX OY OG LW LX LY LG BKa BKb BKv BKx BKy BKg HB
 have OW := n0_
 have OX := n1_
 have OY := n2_
 have OG := n3_
 have LW := n4_
 have LX := n5_
 have LY := n6_
 have LG := n7_
 have BKa := n8_
 have BKb := n9_
 have BKv := n10_
 have BKx := n11_
 have BKy := n12_
 have BKg := n13_
 have HB := n14_
 clear n0_ n1_ n2_ n3_ n4_ n5_ n6_ n7_ n8_ n9_ n10_ n11_ n12_ n13_ n14_
 generalize w19.drew = w20 at OW OX OY OG LW LX LY LG BKa BKb BKv BKx BKy BKg HB hHeld ⊢
 refine take_ (i := 0) (N := some 45) (v := ?_) (a' := ?_) #[true,false,false,false,false] rfl rfl (by kernel_rfl) (fun _ _ _ h => h) (Or.inl ⟨by rfl, ?_⟩) hHeld ?_ ?_
 rotate_left
 ·rintro w' ⟨s0,s1,s2,s3,s4,s5,s6,s7,s8,s9,s10,s11⟩
  go_simp
  with_reducible rfl
 rotate_left
 ·simp only [Act.put,qS_,qZ_,qC_,y19,y18]
  rfl
 refine take_ (i := 1) (N := some 46) (v := ?_) (a' := ?_) #[true,true,false,false,false] rfl rfl (by kernel_rfl) (fun _ _ _ h => h) (Or.inl ⟨by rfl, ?_⟩) hHeld ?_ ?_
 rotate_left
 ·rintro w' ⟨s0,s1,s2,s3,s4,s5,s6,s7,s8,s9,s10,s11⟩
  go_simp
  with_reducible rfl
 rotate_left
 ·simp only [Act.put,qS_,qZ_,qC_,y19,y18]
  rfl
 refine one_ (i := 2) (N := some 47) #[true,true,true,false,false] rfl rfl (by kernel_rfl) (by decide) (fun K hK => ?_)
 refine goes_ Tryz.func10 (by kernel_rfl) rfl #[.agg #[.int .i64 b,.slice A1 l1.length c1]] (by rfl) rfl rfl qy4 ?_
 (with_reducible refine (laws_toRel.calls k b _ _ l1 br ys _ (Kd.C_below HR1.out HB.out) HC1.out F2.out).mono ?_)
 rintro e w21 ⟨v_,rfl,ho,hb⟩
 refine ⟨_,rfl, ?_⟩
 obtain ⟨loZ2,hiZ2,hlo_,hhi_,hO_⟩ := QIv.OS.new ho
 obtain ⟨AZ2,cZ2,eA_⟩ := hO_.slice
 subst eA_
 (try clear hca0)
 (try clear hca1)
 (try clear hcb0)
 (try clear hcb1)
 (try clear hcv0)
 (try clear hcv1)
 (try clear hcx0)
 (try clear hcx1)
 (try clear hcy0)
 (try clear hcy1)
 (try clear hcg0)
 (try clear hcg1)
 (try clear hfa0)
 (try clear hfa1)
 (try clear hfb0)
 (try clear hfb1)
 (try clear hfv0)
 (try clear hfv1)
 (try clear hfx0)
 (try clear hfx1)
 (try clear hfy0)
 (try clear hfy1)
 (try clear hfg0)
 (try clear hfg1)
 have n0_ := y0.mk (hO_)
 have n1_ := y0.mk ((by rw [hhi_]; exact Nat.le_refl _ : hiZ2 ≤ _))
 have n2_ := y0.mk ((by rw [hlo_]; exact HB.out.size : w.heap.size ≤ loZ2))
 have n3_ := y0.mk ((by rw [hlo_]; exact LW.out : hiW ≤ loZ2))
 have n4_ := y0.mk ((by rw [hlo_]; exact LX.out : hiX ≤ loZ2))
 have n5_ := y0.mk ((by rw [hlo_]; exact LY.out : hiY ≤ loZ2))
 have n6_ := y0.mk ((by rw [hlo_]; exact LG.out : hiG ≤ loZ2))
 have n7_ := y0.mk ((by rw [hlo_]; exact QIv.ki_lt BKa.out : ga < loZ2))
 have n8_ := y0.mk ((by rw [hlo_]; exact QIv.ki_lt BKb.out : gb < loZ2))
 have n9_ := y0.mk ((by rw [hlo_]; exact QIv.ki_lt BKv.out : gv < loZ2))
 have n10_ := y0.mk ((by rw [hlo_]; exact QIv.ki_lt BKx.out : gx < loZ2))
 have n11_ := y0.mk ((by rw [hlo_]; exact QIv.ki_lt BKy.out : gy < loZ2))
 have n12_ := y0.mk ((by rw [hlo_]; exact QIv.ki_lt BKg.out : gg < loZ2))
 have n13_ := y0.mk (OW.out.below hb)
 have n14_ := y0.mk (OX.out.below hb)
 have n15_ := y0.mk (OY.out.below hb)
 have n16_ := y0.mk (OG.out.below hb)
 have n17_ := y0.mk (Nat.le_trans LW.out hb.size)
 have n18_ := y0.mk (Nat.le_trans LX.out hb.size)
 have n19_ := y0.mk (Nat.le_trans LY.out hb.size)
 have n20_ := y0.mk (Nat.le_trans LG.out hb.size)
 have n21_ := y0.mk (y7 (g := ga) (o := (.cells #[.int .i64 a,.slice A0 l0.length c0] 24 (0,0))) BKa.out hb)
 have n22_ := y0.mk (y7 (g := gb) (o := (.cells #[.int .i64 b,.slice A1 l1.length c1] 24 (0,0))) BKb.out hb)
 have n23_ := y0.mk (y7 (g := gv) (o := (.cells #[.int .i64 gr,.slice AW gs.length cW] 31 (0,0))) BKv.out hb)
 have n24_ := y0.mk (y7 (g := gx) (o := (.cells #[.int .i64 ar,.slice AX xs.length cX] 31 (0,0))) BKx.out hb)
 have n25_ := y0.mk (y7 (g := gy) (o := (.cells #[.int .i64 br,.slice AY ys.length cY] 31 (0,0))) BKy.out hb)
 have n26_ := y0.mk (y7 (g := gg) (o := (.cells #[.int .i64 gr,.slice AG gs.length cG] 31 (0,0))) BKg.out hb)
 have n27_ := y0.mk (y5 HB.out hb)
 clear OW OX OY OG LW LX LY LG BKa BKb BKv BKx BKy BKg HB
 have OZ2 := n0_
 have LZ2 := n1_
 have BZ2 := n2_
 have DW_Z2 := n3_
 have DX_Z2 := n4_
 have DY_Z2 := n5_
 have DG_Z2 := n6_
 have Ea_Z2 := n7_
 have Eb_Z2 := n8_
 have Ev_Z2 := n9_
 have Ex_Z2 := n10_
 have Ey_Z2 := n11_
 have Eg_Z2 := n12_
 have OW := n13_
 have OX := n14_
 have OY := n15_
 have OG := n16_
 have LW := n17_
 have LX := n18_
 have LY := n19_
 have LG := n20_
 have BKa := n21_
 have BKb := n22_
 have BKv := n23_
 have BKx := n24_
 have BKy := n25_
 have BKg := n26_
 have HB := n27_
 clear n0_ n1_ n2_ n3_ n4_ n5_ n6_ n7_ n8_ n9_ n10_ n11_ n12_ n13_ n14_ n15_ n16_ n17_ n18_ n19_ n20_ n21_ n22_ n23_ n24_ n25_ n26_ n27_
 (try clear hb)
 (try clear ho)
 (try clear hlo_)
 (try clear hhi_)
 have hca0 : w21.cell? ⟨ga,0,none⟩ = some (.int .i64 a) := (y8 BKa.out 0).trans rfl
 have hfa0 := y12 BKa.out 0
 have hca1 : w21.cell? ⟨ga,1,none⟩ = some (.slice A0 l0.length c0) := (y8 BKa.out 1).trans rfl
 have hfa1 := y12 BKa.out 1
 have hcb0 : w21.cell? ⟨gb,0,none⟩ = some (.int .i64 b) := (y8 BKb.out 0).trans rfl
 have hfb0 := y12 BKb.out 0
 have hcb1 : w21.cell? ⟨gb,1,none⟩ = some (.slice A1 l1.length c1) := (y8 BKb.out 1).trans rfl
 have hfb1 := y12 BKb.out 1
 have hcv0 : w21.cell? ⟨gv,0,none⟩ = some (.int .i64 gr) := (y8 BKv.out 0).trans rfl
 have hfv0 := y12 BKv.out 0
 have hcv1 : w21.cell? ⟨gv,1,none⟩ = some (.slice AW gs.length cW) := (y8 BKv.out 1).trans rfl
 have hfv1 := y12 BKv.out 1
 have hcx0 : w21.cell? ⟨gx,0,none⟩ = some (.int .i64 ar) := (y8 BKx.out 0).trans rfl
 have hfx0 := y12 BKx.out 0
 have hcx1 : w21.cell? ⟨gx,1,none⟩ = some (.slice AX xs.length cX) := (y8 BKx.out 1).trans rfl
 have hfx1 := y12 BKx.out 1
 have hcy0 : w21.cell? ⟨gy,0,none⟩ = some (.int .i64 br) := (y8 BKy.out 0).trans rfl
 have hfy0 := y12 BKy.out 0
 have hcy1 : w21.cell? ⟨gy,1,none⟩ = some (.slice AY ys.length cY) := (y8 BKy.out 1).trans rfl
 have hfy1 := y12 BKy.out 1
 have hcg0 : w21.cell? ⟨gg,0,none⟩ = some (.int .i64 gr) := (y8 BKg.out 0).trans rfl
 have hfg0 := y12 BKg.out 0
 have hcg1 : w21.cell? ⟨gg,1,none⟩ = some (.slice AG gs.length cG) := (y8 BKg.out 1).trans rfl
 have hfg1 := y12 BKg.out 1
 (try clear hca0)
 (try clear hca1)
 (try clear hcb0)
 (try clear hcb1)
 (try clear hcv0)
 (try clear hcv1)
 (try clear hcx0)
 (try clear hcx1)
 (try clear hcy0)
 (try clear hcy1)
 (try clear hcg0)
 (try clear hcg1)
 (try clear hfa0)
 (try clear hfa1)
 (try clear hfb0)
 (try clear hfb1)
 (try clear hfv0)
 (try clear hfv1)
 (try clear hfx0)
 (try clear hfx1)
 (try clear hfy0)
 (try clear hfy1)
 (try clear hfg0)
 (try clear hfg1)
 refine hK.out _ _ ⟨(y8 BKa.out 0).trans rfl,(y8 BKa.out 1).trans rfl,(y8 BKb.out 0).trans rfl,(y8 BKb.out 1).trans rfl,(y8 BKv.out 0).trans rfl,(y8 BKv.out 1).trans rfl,(y8 BKx.out 0).trans rfl,(y8 BKx.out 1).trans rfl,(y8 BKy.out 0).trans rfl,(y8 BKy.out 1).trans rfl,(y8 BKg.out 0).trans rfl,(y8 BKg.out 1).trans rfl⟩ (fun hHeld => ?_)
 clear hK K
 refine norm_ (a' := ?_) ?_ ?_
 rotate_left
 ·show Act.put _ (some 47) _ = _
  simp only [Act.put,qS_,qZ_,qC_,y19,y18]
  rfl
 refine one_ (i := 3) (N := some 48) #[true,true,true,true,false] rfl rfl (by kernel_rfl) (by decide) (fun K hK => ?_)
 refine goes_ Tryz.func14 (by kernel_rfl) rfl #[.agg #[.int .i64 br,.slice AY ys.length cY],.agg #[.int .i64 br,.slice AZ2 ys.length cZ2]] (by rfl) rfl rfl qy4 ?_
 (with_reducible refine (laws_eqRel.calls k br _ _ ys br _ _ ys true _ OY.out.C OY.out.le OZ2.out.C OZ2.out.le F7.out).mono ?_)
 rintro e w22 ⟨rfl,hb⟩
 refine ⟨_,rfl, ?_⟩
 (try clear hca0)
 (try clear hca1)
 (try clear hcb0)
 (try clear hcb1)
 (try clear hcv0)
 (try clear hcv1)
 (try clear hcx0)
 (try clear hcx1)
 (try clear hcy0)
 (try clear hcy1)
 (try clear hcg0)
 (try clear hcg1)
 (try clear hfa0)
 (try clear hfa1)
 (try clear hfb0)
 (try clear hfb1)
 (try clear hfv0)
 (try clear hfv1)
 (try clear hfx0)
 (try clear hfx1)
 (try clear hfy0)
 (try clear hfy1)
 (try clear hfg0)
 (try clear hfg1)
 have n0_ := y0.mk (OW.out.below hb)
 have n1_ := y0.mk (OX.out.below hb)
 have n2_ := y0.mk (OY.out.below hb)
 have n3_ := y0.mk (OG.out.below hb)
 have n4_ := y0.mk (OZ2.out.below hb)
 have n5_ := y0.mk (Nat.le_trans LW.out hb.size)
 have n6_ := y0.mk (Nat.le_trans LX.out hb.size)
 have n7_ := y0.mk (Nat.le_trans LY.out hb.size)
 have n8_ := y0.mk (Nat.le_trans LG.out hb.size)
 have n9_ := y0.mk (Nat.le_trans LZ2.out hb.size)
 have n10_ := y0.mk (y7 (g := ga) (o := (.cells #[.int .i64 a,.slice A0 l0.length c0] 24 (0,0))) BKa.out hb)
 have n11_ := y0.mk (y7 (g := gb) (o := (.cells #[.int .i64 b,.slice A1 l1.length c1] 24 (0,0))) BKb.out hb)
 have n12_ := y0.mk (y7 (g := gv) (o := (.cells #[.int .i64 gr,.slice AW gs.length cW] 31 (0,0))) BKv.out hb)
 have n13_ := y0.mk (y7 (g := gx) (o := (.cells #[.int .i64 ar,.slice AX xs.length cX] 31 (0,0))) BKx.out hb)
 have n14_ := y0.mk (y7 (g := gy) (o := (.cells #[.int .i64 br,.slice AY ys.length cY] 31 (0,0))) BKy.out hb)
 have n15_ := y0.mk (y7 (g := gg) (o := (.cells #[.int .i64 gr,.slice AG gs.length cG] 31 (0,0))) BKg.out hb)
 have n16_ := y0.mk (y5 HB.out hb)
 clear OW OX OY OG OZ2 LW LX LY LG LZ2 BKa BKb BKv BKx BKy BKg HB
 have OW := n0_
 have OX := n1_
 have OY := n2_
 have OG := n3_
 have OZ2 := n4_
 have LW := n5_
 have LX := n6_
 have LY := n7_
 have LG := n8_
 have LZ2 := n9_
 have BKa := n10_
 have BKb := n11_
 have BKv := n12_
 have BKx := n13_
 have BKy := n14_
 have BKg := n15_
 have HB := n16_
 clear n0_ n1_ n2_ n3_ n4_ n5_ n6_ n7_ n8_ n9_ n10_ n11_ n12_ n13_ n14_ n15_ n16_
 (try clear hb)
 have hca0 : w22.cell? ⟨ga,0,none⟩ = some (.int .i64 a) := (y8 BKa.out 0).trans rfl
 have hfa0 := y12 BKa.out 0
 have hca1 : w22.cell? ⟨ga,1,none⟩ = some (.slice A0 l0.length c0) := (y8 BKa.out 1).trans rfl
 have hfa1 := y12 BKa.out 1
 have hcb0 : w22.cell? ⟨gb,0,none⟩ = some (.int .i64 b) := (y8 BKb.out 0).trans rfl
 have hfb0 := y12 BKb.out 0
 have hcb1 : w22.cell? ⟨gb,1,none⟩ = some (.slice A1 l1.length c1) := (y8 BKb.out 1).trans rfl
 have hfb1 := y12 BKb.out 1
 have hcv0 : w22.cell? ⟨gv,0,none⟩ = some (.int .i64 gr) := (y8 BKv.out 0).trans rfl
 have hfv0 := y12 BKv.out 0
 have hcv1 : w22.cell? ⟨gv,1,none⟩ = some (.slice AW gs.length cW) := (y8 BKv.out 1).trans rfl
 have hfv1 := y12 BKv.out 1
 have hcx0 : w22.cell? ⟨gx,0,none⟩ = some (.int .i64 ar) := (y8 BKx.out 0).trans rfl
 have hfx0 := y12 BKx.out 0
 have hcx1 : w22.cell? ⟨gx,1,none⟩ = some (.slice AX xs.length cX) := (y8 BKx.out 1).trans rfl
 have hfx1 := y12 BKx.out 1
 have hcy0 : w22.cell? ⟨gy,0,none⟩ = some (.int .i64 br) := (y8 BKy.out 0).trans rfl
 have hfy0 := y12 BKy.out 0
 have hcy1 : w22.cell? ⟨gy,1,none⟩ = some (.slice AY ys.length cY) := (y8 BKy.out 1).trans rfl
 have hfy1 := y12 BKy.out 1
 have hcg0 : w22.cell? ⟨gg,0,none⟩ = some (.int .i64 gr) := (y8 BKg.out 0).trans rfl
 have hfg0 := y12 BKg.out 0
 have hcg1 : w22.cell? ⟨gg,1,none⟩ = some (.slice AG gs.length cG) := (y8 BKg.out 1).trans rfl
 have hfg1 := y12 BKg.out 1
 (try clear hca0)
 (try clear hca1)
 (try clear hcb0)
 (try clear hcb1)
 (try clear hcv0)
 (try clear hcv1)
 (try clear hcx0)
 (try clear hcx1)
 (try clear hcy0)
 (try clear hcy1)
 (try clear hcg0)
 (try clear hcg1)
 (try clear hfa0)
 (try clear hfa1)
 (try clear hfb0)
 (try clear hfb1)
 (try clear hfv0)
 (try clear hfv1)
 (try clear hfx0)
 (try clear hfx1)
 (try clear hfy0)
 (try clear hfy1)
 (try clear hfg0)
 (try clear hfg1)
 refine hK.out _ _ ⟨(y8 BKa.out 0).trans rfl,(y8 BKa.out 1).trans rfl,(y8 BKb.out 0).trans rfl,(y8 BKb.out 1).trans rfl,(y8 BKv.out 0).trans rfl,(y8 BKv.out 1).trans rfl,(y8 BKx.out 0).trans rfl,(y8 BKx.out 1).trans rfl,(y8 BKy.out 0).trans rfl,(y8 BKy.out 1).trans rfl,(y8 BKg.out 0).trans rfl,(y8 BKg.out 1).trans rfl⟩ (fun hHeld => ?_)
 clear hK K
 refine norm_ (a' := ?_) ?_ ?_
 rotate_left
 ·show Act.put _ (some 48) _ = _
  simp only [Act.put,qS_,qZ_,qC_,y19,y18]
  rfl
 refine y20 (i := 4) (N := some 49) (v := ?_) (a' := ?_) #[true,true,true,true,true] rfl rfl (by kernel_rfl) (fun _ _ _ h => h) (Or.inl ⟨by rfl, ?_⟩) ?_ ?_
 rotate_left
 ·intro w'
  go_simp
  with_reducible rfl
 rotate_left
 ·simp only [Act.put,qS_,qZ_,qC_,y19,y18]
  rfl
 refine done_ (by kernel_rfl) ?_
 clear OZ2 LZ2
 clear hHeld
 have hca0 : w22.cell? ⟨ga,0,none⟩ = some (.int .i64 a) := (y8 BKa.out 0).trans rfl
 have hfa0 := y12 BKa.out 0
 have hca1 : w22.cell? ⟨ga,1,none⟩ = some (.slice A0 l0.length c0) := (y8 BKa.out 1).trans rfl
 have hfa1 := y12 BKa.out 1
 have hcb0 : w22.cell? ⟨gb,0,none⟩ = some (.int .i64 b) := (y8 BKb.out 0).trans rfl
 have hfb0 := y12 BKb.out 0
 have hcb1 : w22.cell? ⟨gb,1,none⟩ = some (.slice A1 l1.length c1) := (y8 BKb.out 1).trans rfl
 have hfb1 := y12 BKb.out 1
 have hcv0 : w22.cell? ⟨gv,0,none⟩ = some (.int .i64 gr) := (y8 BKv.out 0).trans rfl
 have hfv0 := y12 BKv.out 0
 have hcv1 : w22.cell? ⟨gv,1,none⟩ = some (.slice AW gs.length cW) := (y8 BKv.out 1).trans rfl
 have hfv1 := y12 BKv.out 1
 have hcx0 : w22.cell? ⟨gx,0,none⟩ = some (.int .i64 ar) := (y8 BKx.out 0).trans rfl
 have hfx0 := y12 BKx.out 0
 have hcx1 : w22.cell? ⟨gx,1,none⟩ = some (.slice AX xs.length cX) := (y8 BKx.out 1).trans rfl
 have hfx1 := y12 BKx.out 1
 have hcy0 : w22.cell? ⟨gy,0,none⟩ = some (.int .i64 br) := (y8 BKy.out 0).trans rfl
 have hfy0 := y12 BKy.out 0
 have hcy1 : w22.cell? ⟨gy,1,none⟩ = some (.slice AY ys.length cY) := (y8 BKy.out 1).trans rfl
 have hfy1 := y12 BKy.out 1
 have hcg0 : w22.cell? ⟨gg,0,none⟩ = some (.int .i64 gr) := (y8 BKg.out 0).trans rfl
 have hfg0 := y12 BKg.out 0
 have hcg1 : w22.cell? ⟨gg,1,none⟩ = some (.slice AG gs.length cG) := (y8 BKg.out 1).trans rfl
 have hfg1 := y12 BKg.out 1
 go_upto_region 20 with (first
  | (go_at_call 16; (with_reducible refine (laws_markRel.calls k loX hiX ar _ _ xs 1 m1 xm w _ HB.out BX.out OX.out F8.out).mono ?_); rintro e w23 ⟨rfl,ho,hb,hk⟩; (try clear hca0); (try clear hca1); (try clear hcb0); (try clear hcb1); (try clear hcv0); (try clear hcv1); (try clear hcx0); (try clear hcx1); (try clear hcy0); (try clear hcy1); (try clear hcg0); (try clear hcg1); (try clear hfa0); (try clear hfa1); (try clear hfb0); (try clear hfb1); (try clear hfv0); (try clear hfv1); (try clear hfx0); (try clear hfx1); (try clear hfy0); (try clear hfy1); (try clear hfg0); (try clear hfg1); have n0_ := y0.mk (OW.out.ki hk (.inl DW_X.out)); have n1_ := y0.mk (OY.out.ki hk (.inr DX_Y.out)); have n2_ := y0.mk (OG.out.ki hk (.inr DX_G.out)); have n3_ := y0.mk (Nat.le_trans LW.out hk.1); have n4_ := y0.mk (Nat.le_trans LX.out hk.1); have n5_ := y0.mk (Nat.le_trans LY.out hk.1); have n6_ := y0.mk (Nat.le_trans LG.out hk.1); have n7_ := y0.mk (QIv.ki_blk BKa.out hk (.inl Ea_X.out)); have n8_ := y0.mk (QIv.ki_blk BKb.out hk (.inl Eb_X.out)); have n9_ := y0.mk (QIv.ki_blk BKv.out hk (.inl Ev_X.out)); have n10_ := y0.mk (QIv.ki_blk BKx.out hk (.inr EX_x.out)); have n11_ := y0.mk (QIv.ki_blk BKy.out hk (.inr EX_y.out)); have n12_ := y0.mk (QIv.ki_blk BKg.out hk (.inr EX_g.out)); have n13_ := y0.mk (hb); clear OW OY OG LW LX LY LG BKa BKb BKv BKx BKy BKg HB; have OW := n0_; have OY := n1_; have OG := n2_; have LW := n3_; have LX := n4_; have LY := n5_; have LG := n6_; have BKa := n7_; have BKb := n8_; have BKv := n9_; have BKx := n10_; have BKy := n11_; have BKg := n12_; have HB := n13_; clear n0_ n1_ n2_ n3_ n4_ n5_ n6_ n7_ n8_ n9_ n10_ n11_ n12_ n13_; (try clear hb); (try clear ho); (try clear hk); clear OX LX; have hca0 : w23.cell? ⟨ga,0,none⟩ = some (.int .i64 a) := (y8 BKa.out 0).trans rfl; have hfa0 := y12 BKa.out 0; have hca1 : w23.cell? ⟨ga,1,none⟩ = some (.slice A0 l0.length c0) := (y8 BKa.out 1).trans rfl; have hfa1 := y12 BKa.out 1; have hcb0 : w23.cell? ⟨gb,0,none⟩ = some (.int .i64 b) := (y8 BKb.out 0).trans rfl; have hfb0 := y12 BKb.out 0; have hcb1 : w23.cell? ⟨gb,1,none⟩ = some (.slice A1 l1.length c1) := (y8 BKb.out 1).trans rfl; have hfb1 := y12 BKb.out 1; have hcv0 : w23.cell? ⟨gv,0,none⟩ = some (.int .i64 gr) := (y8 BKv.out 0).trans rfl; have hfv0 := y12 BKv.out 0; have hcv1 : w23.cell? ⟨gv,1,none⟩ = some (.slice AW gs.length cW) := (y8 BKv.out 1).trans rfl; have hfv1 := y12 BKv.out 1; have hcx0 : w23.cell? ⟨gx,0,none⟩ = some (.int .i64 ar) := (y8 BKx.out 0).trans rfl; have hfx0 := y12 BKx.out 0; have hcx1 : w23.cell? ⟨gx,1,none⟩ = some (.slice AX xs.length cX) := (y8 BKx.out 1).trans rfl; have hfx1 := y12 BKx.out 1; have hcy0 : w23.cell? ⟨gy,0,none⟩ = some (.int .i64 br) := (y8 BKy.out 0).trans rfl; have hfy0 := y12 BKy.out 0; have hcy1 : w23.cell? ⟨gy,1,none⟩ = some (.slice AY ys.length cY) := (y8 BKy.out 1).trans rfl; have hfy1 := y12 BKy.out 1; have hcg0 : w23.cell? ⟨gg,0,none⟩ = some (.int .i64 gr) := (y8 BKg.out 0).trans rfl; have hfg0 := y12 BKg.out 0; have hcg1 : w23.cell? ⟨gg,1,none⟩ = some (.slice AG gs.length cG) := (y8 BKg.out 1).trans rfl; have hfg1 := y12 BKg.out 1))
 go_upto_region 21 with (first
  | (go_at_call 16; (with_reducible refine (laws_markRel.calls k loY hiY br _ _ ys m1 m2 ym w _ HB.out BY.out OY.out F9.out).mono ?_); rintro e w24 ⟨rfl,ho,hb,hk⟩; (try clear hca0); (try clear hca1); (try clear hcb0); (try clear hcb1); (try clear hcv0); (try clear hcv1); (try clear hcx0); (try clear hcx1); (try clear hcy0); (try clear hcy1); (try clear hcg0); (try clear hcg1); (try clear hfa0); (try clear hfa1); (try clear hfb0); (try clear hfb1); (try clear hfv0); (try clear hfv1); (try clear hfx0); (try clear hfx1); (try clear hfy0); (try clear hfy1); (try clear hfg0); (try clear hfg1); have n0_ := y0.mk (OW.out.ki hk (.inl DW_Y.out)); have n1_ := y0.mk (OG.out.ki hk (.inr DY_G.out)); have n2_ := y0.mk (Nat.le_trans LW.out hk.1); have n3_ := y0.mk (Nat.le_trans LY.out hk.1); have n4_ := y0.mk (Nat.le_trans LG.out hk.1); have n5_ := y0.mk (QIv.ki_blk BKa.out hk (.inl Ea_Y.out)); have n6_ := y0.mk (QIv.ki_blk BKb.out hk (.inl Eb_Y.out)); have n7_ := y0.mk (QIv.ki_blk BKv.out hk (.inl Ev_Y.out)); have n8_ := y0.mk (QIv.ki_blk BKx.out hk (.inl Ex_Y.out)); have n9_ := y0.mk (QIv.ki_blk BKy.out hk (.inr EY_y.out)); have n10_ := y0.mk (QIv.ki_blk BKg.out hk (.inr EY_g.out)); have n11_ := y0.mk (hb); clear OW OG LW LY LG BKa BKb BKv BKx BKy BKg HB; have OW := n0_; have OG := n1_; have LW := n2_; have LY := n3_; have LG := n4_; have BKa := n5_; have BKb := n6_; have BKv := n7_; have BKx := n8_; have BKy := n9_; have BKg := n10_; have HB := n11_; clear n0_ n1_ n2_ n3_ n4_ n5_ n6_ n7_ n8_ n9_ n10_ n11_; (try clear hb); (try clear ho); (try clear hk); clear OY LY; have hca0 : w24.cell? ⟨ga,0,none⟩ = some (.int .i64 a) := (y8 BKa.out 0).trans rfl; have hfa0 := y12 BKa.out 0; have hca1 : w24.cell? ⟨ga,1,none⟩ = some (.slice A0 l0.length c0) := (y8 BKa.out 1).trans rfl; have hfa1 := y12 BKa.out 1; have hcb0 : w24.cell? ⟨gb,0,none⟩ = some (.int .i64 b) := (y8 BKb.out 0).trans rfl; have hfb0 := y12 BKb.out 0; have hcb1 : w24.cell? ⟨gb,1,none⟩ = some (.slice A1 l1.length c1) := (y8 BKb.out 1).trans rfl; have hfb1 := y12 BKb.out 1; have hcv0 : w24.cell? ⟨gv,0,none⟩ = some (.int .i64 gr) := (y8 BKv.out 0).trans rfl; have hfv0 := y12 BKv.out 0; have hcv1 : w24.cell? ⟨gv,1,none⟩ = some (.slice AW gs.length cW) := (y8 BKv.out 1).trans rfl; have hfv1 := y12 BKv.out 1; have hcx0 : w24.cell? ⟨gx,0,none⟩ = some (.int .i64 ar) := (y8 BKx.out 0).trans rfl; have hfx0 := y12 BKx.out 0; have hcx1 : w24.cell? ⟨gx,1,none⟩ = some (.slice AX xs.length cX) := (y8 BKx.out 1).trans rfl; have hfx1 := y12 BKx.out 1; have hcy0 : w24.cell? ⟨gy,0,none⟩ = some (.int .i64 br) := (y8 BKy.out 0).trans rfl; have hfy0 := y12 BKy.out 0; have hcy1 : w24.cell? ⟨gy,1,none⟩ = some (.slice AY ys.length cY) := (y8 BKy.out 1).trans rfl; have hfy1 := y12 BKy.out 1; have hcg0 : w24.cell? ⟨gg,0,none⟩ = some (.int .i64 gr) := (y8 BKg.out 0).trans rfl; have hfg0 := y12 BKg.out 0; have hcg1 : w24.cell? ⟨gg,1,none⟩ = some (.slice AG gs.length cG) := (y8 BKg.out 1).trans rfl; have hfg1 := y12 BKg.out 1))
 go_upto_region 23 with (first
  | (go_at_call 14; (with_reducible refine (laws_eqRel.calls k gr _ _ gs gr _ _ gs true _ OG.out.C OG.out.le OW.out.C OW.out.le F5.out).mono ?_); rintro e w25 ⟨rfl,hb⟩; (try clear hca0); (try clear hca1); (try clear hcb0); (try clear hcb1); (try clear hcv0); (try clear hcv1); (try clear hcx0); (try clear hcx1); (try clear hcy0); (try clear hcy1); (try clear hcg0); (try clear hcg1); (try clear hfa0); (try clear hfa1); (try clear hfb0); (try clear hfb1); (try clear hfv0); (try clear hfv1); (try clear hfx0); (try clear hfx1); (try clear hfy0); (try clear hfy1); (try clear hfg0); (try clear hfg1); have n0_ := y0.mk (OW.out.below hb); have n1_ := y0.mk (OG.out.below hb); have n2_ := y0.mk (Nat.le_trans LW.out hb.size); have n3_ := y0.mk (Nat.le_trans LG.out hb.size); have n4_ := y0.mk (y7 (g := ga) (o := (.cells #[.int .i64 a,.slice A0 l0.length c0] 24 (0,0))) BKa.out hb); have n5_ := y0.mk (y7 (g := gb) (o := (.cells #[.int .i64 b,.slice A1 l1.length c1] 24 (0,0))) BKb.out hb); have n6_ := y0.mk (y7 (g := gv) (o := (.cells #[.int .i64 gr,.slice AW gs.length cW] 31 (0,0))) BKv.out hb); have n7_ := y0.mk (y7 (g := gx) (o := (.cells #[.int .i64 ar,.slice AX xs.length cX] 31 (0,0))) BKx.out hb); have n8_ := y0.mk (y7 (g := gy) (o := (.cells #[.int .i64 br,.slice AY ys.length cY] 31 (0,0))) BKy.out hb); have n9_ := y0.mk (y7 (g := gg) (o := (.cells #[.int .i64 gr,.slice AG gs.length cG] 31 (0,0))) BKg.out hb); have n10_ := y0.mk (y5 HB.out hb); clear OW OG LW LG BKa BKb BKv BKx BKy BKg HB; have OW := n0_; have OG := n1_; have LW := n2_; have LG := n3_; have BKa := n4_; have BKb := n5_; have BKv := n6_; have BKx := n7_; have BKy := n8_; have BKg := n9_; have HB := n10_; clear n0_ n1_ n2_ n3_ n4_ n5_ n6_ n7_ n8_ n9_ n10_; (try clear hb); have hca0 : w25.cell? ⟨ga,0,none⟩ = some (.int .i64 a) := (y8 BKa.out 0).trans rfl; have hfa0 := y12 BKa.out 0; have hca1 : w25.cell? ⟨ga,1,none⟩ = some (.slice A0 l0.length c0) := (y8 BKa.out 1).trans rfl; have hfa1 := y12 BKa.out 1; have hcb0 : w25.cell? ⟨gb,0,none⟩ = some (.int .i64 b) := (y8 BKb.out 0).trans rfl; have hfb0 := y12 BKb.out 0; have hcb1 : w25.cell? ⟨gb,1,none⟩ = some (.slice A1 l1.length c1) := (y8 BKb.out 1).trans rfl; have hfb1 := y12 BKb.out 1; have hcv0 : w25.cell? ⟨gv,0,none⟩ = some (.int .i64 gr) := (y8 BKv.out 0).trans rfl; have hfv0 := y12 BKv.out 0; have hcv1 : w25.cell? ⟨gv,1,none⟩ = some (.slice AW gs.length cW) := (y8 BKv.out 1).trans rfl; have hfv1 := y12 BKv.out 1; have hcx0 : w25.cell? ⟨gx,0,none⟩ = some (.int .i64 ar) := (y8 BKx.out 0).trans rfl; have hfx0 := y12 BKx.out 0; have hcx1 : w25.cell? ⟨gx,1,none⟩ = some (.slice AX xs.length cX) := (y8 BKx.out 1).trans rfl; have hfx1 := y12 BKx.out 1; have hcy0 : w25.cell? ⟨gy,0,none⟩ = some (.int .i64 br) := (y8 BKy.out 0).trans rfl; have hfy0 := y12 BKy.out 0; have hcy1 : w25.cell? ⟨gy,1,none⟩ = some (.slice AY ys.length cY) := (y8 BKy.out 1).trans rfl; have hfy1 := y12 BKy.out 1; have hcg0 : w25.cell? ⟨gg,0,none⟩ = some (.int .i64 gr) := (y8 BKg.out 0).trans rfl; have hfg0 := y12 BKg.out 0; have hcg1 : w25.cell? ⟨gg,1,none⟩ = some (.slice AG gs.length cG) := (y8 BKg.out 1).trans rfl; have hfg1 := y12 BKg.out 1))
 go_upto_region 25 with (first
  | (go_at_call 16; (with_reducible refine (laws_markRel.calls k loG hiG gr _ _ gs 1 m3 gm w _ HB.out BG.out OG.out F11.out).mono ?_); rintro e w26 ⟨rfl,ho,hb,hk⟩; (try clear hca0); (try clear hca1); (try clear hcb0); (try clear hcb1); (try clear hcv0); (try clear hcv1); (try clear hcx0); (try clear hcx1); (try clear hcy0); (try clear hcy1); (try clear hcg0); (try clear hcg1); (try clear hfa0); (try clear hfa1); (try clear hfb0); (try clear hfb1); (try clear hfv0); (try clear hfv1); (try clear hfx0); (try clear hfx1); (try clear hfy0); (try clear hfy1); (try clear hfg0); (try clear hfg1); have n0_ := y0.mk (OW.out.ki hk (.inl DW_G.out)); have n1_ := y0.mk (Nat.le_trans LW.out hk.1); have n2_ := y0.mk (Nat.le_trans LG.out hk.1); have n3_ := y0.mk (QIv.ki_blk BKa.out hk (.inl Ea_G.out)); have n4_ := y0.mk (QIv.ki_blk BKb.out hk (.inl Eb_G.out)); have n5_ := y0.mk (QIv.ki_blk BKv.out hk (.inl Ev_G.out)); have n6_ := y0.mk (QIv.ki_blk BKx.out hk (.inl Ex_G.out)); have n7_ := y0.mk (QIv.ki_blk BKy.out hk (.inl Ey_G.out)); have n8_ := y0.mk (QIv.ki_blk BKg.out hk (.inr EG_g.out)); have n9_ := y0.mk (hb); have n10_ := y0.mk (ho); clear OW LW LG BKa BKb BKv BKx BKy BKg HB OG; have OW := n0_; have LW := n1_; have LG := n2_; have BKa := n3_; have BKb := n4_; have BKv := n5_; have BKx := n6_; have BKy := n7_; have BKg := n8_; have HB := n9_; have OG := n10_; clear n0_ n1_ n2_ n3_ n4_ n5_ n6_ n7_ n8_ n9_ n10_; (try clear hb); (try clear ho); (try clear hk); have hca0 : w26.cell? ⟨ga,0,none⟩ = some (.int .i64 a) := (y8 BKa.out 0).trans rfl; have hfa0 := y12 BKa.out 0; have hca1 : w26.cell? ⟨ga,1,none⟩ = some (.slice A0 l0.length c0) := (y8 BKa.out 1).trans rfl; have hfa1 := y12 BKa.out 1; have hcb0 : w26.cell? ⟨gb,0,none⟩ = some (.int .i64 b) := (y8 BKb.out 0).trans rfl; have hfb0 := y12 BKb.out 0; have hcb1 : w26.cell? ⟨gb,1,none⟩ = some (.slice A1 l1.length c1) := (y8 BKb.out 1).trans rfl; have hfb1 := y12 BKb.out 1; have hcv0 : w26.cell? ⟨gv,0,none⟩ = some (.int .i64 gr) := (y8 BKv.out 0).trans rfl; have hfv0 := y12 BKv.out 0; have hcv1 : w26.cell? ⟨gv,1,none⟩ = some (.slice AW gs.length cW) := (y8 BKv.out 1).trans rfl; have hfv1 := y12 BKv.out 1; have hcx0 : w26.cell? ⟨gx,0,none⟩ = some (.int .i64 ar) := (y8 BKx.out 0).trans rfl; have hfx0 := y12 BKx.out 0; have hcx1 : w26.cell? ⟨gx,1,none⟩ = some (.slice AX xs.length cX) := (y8 BKx.out 1).trans rfl; have hfx1 := y12 BKx.out 1; have hcy0 : w26.cell? ⟨gy,0,none⟩ = some (.int .i64 br) := (y8 BKy.out 0).trans rfl; have hfy0 := y12 BKy.out 0; have hcy1 : w26.cell? ⟨gy,1,none⟩ = some (.slice AY ys.length cY) := (y8 BKy.out 1).trans rfl; have hfy1 := y12 BKy.out 1; have hcg0 : w26.cell? ⟨gg,0,none⟩ = some (.int .i64 gr) := (y8 BKg.out 0).trans rfl; have hfg0 := y12 BKg.out 0; have hcg1 : w26.cell? ⟨gg,1,none⟩ = some (.slice AG gs.length cG) := (y8 BKg.out 1).trans rfl; have hfg1 := y12 BKg.out 1))
 go_upto_region 31 with (first
  | (go_at_call 22; (with_reducible refine (HELD.out _ _ _ OG.out.C (by have h_ := QIv.OS.len OG.out; have := HGL.out; omega)).mono ?_); rintro e w27 ⟨rfl,hb⟩; (try clear hca0); (try clear hca1); (try clear hcb0); (try clear hcb1); (try clear hcv0); (try clear hcv1); (try clear hcx0); (try clear hcx1); (try clear hcy0); (try clear hcy1); (try clear hcg0); (try clear hcg1); (try clear hfa0); (try clear hfa1); (try clear hfb0); (try clear hfb1); (try clear hfv0); (try clear hfv1); (try clear hfx0); (try clear hfx1); (try clear hfy0); (try clear hfy1); (try clear hfg0); (try clear hfg1); have n0_ := y0.mk (OW.out.below hb); have n1_ := y0.mk (OG.out.below hb); have n2_ := y0.mk (Nat.le_trans LW.out hb.size); have n3_ := y0.mk (Nat.le_trans LG.out hb.size); have n4_ := y0.mk (y7 (g := ga) (o := (.cells #[.int .i64 a,.slice A0 l0.length c0] 24 (0,0))) BKa.out hb); have n5_ := y0.mk (y7 (g := gb) (o := (.cells #[.int .i64 b,.slice A1 l1.length c1] 24 (0,0))) BKb.out hb); have n6_ := y0.mk (y7 (g := gv) (o := (.cells #[.int .i64 gr,.slice AW gs.length cW] 31 (0,0))) BKv.out hb); have n7_ := y0.mk (y7 (g := gx) (o := (.cells #[.int .i64 ar,.slice AX xs.length cX] 31 (0,0))) BKx.out hb); have n8_ := y0.mk (y7 (g := gy) (o := (.cells #[.int .i64 br,.slice AY ys.length cY] 31 (0,0))) BKy.out hb); have n9_ := y0.mk (y7 (g := gg) (o := (.cells #[.int .i64 gr,.slice AG gs.length cG] 31 (0,0))) BKg.out hb); have n10_ := y0.mk (y5 HB.out hb); clear OW OG LW LG BKa BKb BKv BKx BKy BKg HB; have OW := n0_; have OG := n1_; have LW := n2_; have LG := n3_; have BKa := n4_; have BKb := n5_; have BKv := n6_; have BKx := n7_; have BKy := n8_; have BKg := n9_; have HB := n10_; clear n0_ n1_ n2_ n3_ n4_ n5_ n6_ n7_ n8_ n9_ n10_; (try clear hb); have hca0 : w27.cell? ⟨ga,0,none⟩ = some (.int .i64 a) := (y8 BKa.out 0).trans rfl; have hfa0 := y12 BKa.out 0; have hca1 : w27.cell? ⟨ga,1,none⟩ = some (.slice A0 l0.length c0) := (y8 BKa.out 1).trans rfl; have hfa1 := y12 BKa.out 1; have hcb0 : w27.cell? ⟨gb,0,none⟩ = some (.int .i64 b) := (y8 BKb.out 0).trans rfl; have hfb0 := y12 BKb.out 0; have hcb1 : w27.cell? ⟨gb,1,none⟩ = some (.slice A1 l1.length c1) := (y8 BKb.out 1).trans rfl; have hfb1 := y12 BKb.out 1; have hcv0 : w27.cell? ⟨gv,0,none⟩ = some (.int .i64 gr) := (y8 BKv.out 0).trans rfl; have hfv0 := y12 BKv.out 0; have hcv1 : w27.cell? ⟨gv,1,none⟩ = some (.slice AW gs.length cW) := (y8 BKv.out 1).trans rfl; have hfv1 := y12 BKv.out 1; have hcx0 : w27.cell? ⟨gx,0,none⟩ = some (.int .i64 ar) := (y8 BKx.out 0).trans rfl; have hfx0 := y12 BKx.out 0; have hcx1 : w27.cell? ⟨gx,1,none⟩ = some (.slice AX xs.length cX) := (y8 BKx.out 1).trans rfl; have hfx1 := y12 BKx.out 1; have hcy0 : w27.cell? ⟨gy,0,none⟩ = some (.int .i64 br) := (y8 BKy.out 0).trans rfl; have hfy0 := y12 BKy.out 0; have hcy1 : w27.cell? ⟨gy,1,none⟩ = some (.slice AY ys.length cY) := (y8 BKy.out 1).trans rfl; have hfy1 := y12 BKy.out 1; have hcg0 : w27.cell? ⟨gg,0,none⟩ = some (.int .i64 gr) := (y8 BKg.out 0).trans rfl; have hfg0 := y12 BKg.out 0; have hcg1 : w27.cell? ⟨gg,1,none⟩ = some (.slice AG gs.length cG) := (y8 BKg.out 1).trans rfl; have hfg1 := y12 BKg.out 1))
 (try clear hca0)
 (try clear hca1)
 (try clear hcb0)
 (try clear hcb1)
 (try clear hcv0)
 (try clear hcv1)
 (try clear hcx0)
 (try clear hcx1)
 (try clear hcy0)
 (try clear hcy1)
 (try clear hcg0)
 (try clear hcg1)
 (try clear hfa0)
 (try clear hfa1)
 (try clear hfb0)
 (try clear hfb1)
 (try clear hfv0)
 (try clear hfv1)
 (try clear hfx0)
 (try clear hfx1)
 (try clear hfy0)
 (try clear hfy1)
 (try clear hfg0)
 (try clear hfg1)
 refine start_ (n := 7) (S := fun w' => w'.cell? ⟨ga,0,none⟩ = some (.int .i64 a) ∧ w'.cell? ⟨ga,1,none⟩ = some (.slice A0 l0.length c0) ∧ w'.cell? ⟨gb,0,none⟩ = some (.int .i64 b) ∧ w'.cell? ⟨gb,1,none⟩ = some (.slice A1 l1.length c1) ∧ w'.cell? ⟨gv,0,none⟩ = some (.int .i64 gr) ∧ w'.cell? ⟨gv,1,none⟩ = some (.slice AW gs.length cW) ∧ w'.cell? ⟨gx,0,none⟩ = some (.int .i64 ar) ∧ w'.cell? ⟨gx,1,none⟩ = some (.slice AX xs.length cX) ∧ w'.cell? ⟨gy,0,none⟩ = some (.int .i64 br) ∧ w'.cell? ⟨gy,1,none⟩ = some (.slice AY ys.length cY) ∧ w'.cell? ⟨gg,0,none⟩ = some (.int .i64 gr) ∧ w'.cell? ⟨gg,1,none⟩ = some (.slice AG gs.length cG)) (ds := [6]) #[false,false,false,false,false,false,false] (by kernel_rfl) rfl rfl ⟨(y8 BKa.out 0).trans rfl,(y8 BKa.out 1).trans rfl,(y8 BKb.out 0).trans rfl,(y8 BKb.out 1).trans rfl,(y8 BKv.out 0).trans rfl,(y8 BKv.out 1).trans rfl,(y8 BKx.out 0).trans rfl,(y8 BKx.out 1).trans rfl,(y8 BKy.out 0).trans rfl,(y8 BKy.out 1).trans rfl,(y8 BKg.out 0).trans rfl,(y8 BKg.out 1).trans rfl⟩ (fun hHeld => ?_)
 have n0_ := y0.mk (OW.out.drew)
 have n1_ := y0.mk (OG.out.drew)
 have n2_ := y0.mk ((show hiW ≤ w27.drew.heap.size from LW.out))
 have n3_ := y0.mk ((show hiG ≤ w27.drew.heap.size from LG.out))
 have n4_ := y0.mk (y9 BKa.out)
 have n5_ := y0.mk (y9 BKb.out)
 have n6_ := y0.mk (y9 BKv.out)
 have n7_ := y0.mk (y9 BKx.out)
 have n8_ := y0.mk (y9 BKy.out)
 have n9_ := y0.mk (y9 BKg.out)
 have n10_ := y0.mk (y3 HB.out)
 clear OW OG LW LG BKa BKb BKv BKx BKy BKg HB
 have OW := n0_
 have OG := n1_
 have LW := n2_
 have LG := n3_
 have BKa := n4_
 have BKb := n5_
 have BKv := n6_
 have BKx := n7_
 have BKy := n8_
 have BKg := n9_
 have HB := n10_
 clear n0_ n1_ n2_ n3_ n4_ n5_ n6_ n7_ n8_ n9_ n10_
 generalize w27.drew = w28 at OW OG LW LG BKa BKb BKv BKx BKy BKg HB hHeld ⊢
 refine take_ (i := 0) (N := some 75) (v := ?_) (a' := ?_) #[true,false,false,false,false,false,false] rfl rfl (by kernel_rfl) (fun _ _ _ h => h) (Or.inl ⟨by rfl, ?_⟩) hHeld ?_ ?_
 rotate_left
 ·rintro w' ⟨s0,s1,s2,s3,s4,s5,s6,s7,s8,s9,s10,s11⟩
  go_simp
  with_reducible rfl
 rotate_left
 ·simp only [Act.put,qS_,qZ_,qC_,y19,y18]
  rfl
 refine take_ (i := 2) (N := some 77) (v := ?_) (a' := ?_) #[true,false,true,false,false,false,false] rfl rfl (by kernel_rfl) (fun _ _ _ h => h) (Or.inl ⟨by rfl, ?_⟩) hHeld ?_ ?_
 rotate_left
 ·rintro w' ⟨s0,s1,s2,s3,s4,s5,s6,s7,s8,s9,s10,s11⟩
  go_simp
  with_reducible rfl
 rotate_left
 ·simp only [Act.put,qS_,qZ_,qC_,y19,y18]
  rfl
 refine join_ (σ := (Option Addr × Nat) × (Option Addr × Nat) × (Option Addr × Nat) × (Nat × Nat × Nat)) 1 #[true,true,true,true,true,true,false] (fun s => [(76,.agg #[.int .i64 ar,.slice s.1.1 xs.length s.1.2]),(78,.agg #[.int .i64 br,.slice s.2.1.1 ys.length s.2.1.2]),(79,.agg #[.int .i64 gr,.slice s.2.2.1.1 gs.length s.2.2.1.2]),(13,.pointer (some ⟨s.2.2.2.1,0,none⟩))]) (fun s w' => Below w28.heap.size w28 w' ∧ QIv.OS k48 48 s.2.2.2.2.1 s.2.2.2.2.2 (.slice s.2.2.1.1 gs.length s.2.2.1.2) gs w' ∧ w28.heap.size ≤ s.2.2.2.2.1 ∧ s.2.2.2.2.2 ≤ w'.heap.size ∧ w28.heap.size ≤ s.2.2.2.1 ∧ (s.2.2.2.1 < s.2.2.2.2.1 ∨ s.2.2.2.2.2 ≤ s.2.2.2.1) ∧ w'.heap[s.2.2.2.1]? = some (.cells #[.int .i64 0,.slice none 0 0] 31 (0,0))) ?_ ?_
 rotate_left
 ·intro hCont
  refine two_ (i := 1) (j := 5) (Ni := some 76) (Nj := some 13) #[true,true,true,false,false,false,false] #[true,false,true,false,false,true,false] rfl rfl rfl rfl (by kernel_rfl) (by decide) (by decide) (fun K hK => ?_) (fun K hK => ?_)
  ·skip
   refine goes_ Tryz.func10 (by kernel_rfl) rfl #[.agg #[.int .i64 a,.slice A0 l0.length c0]] (by rfl) rfl rfl qy4 ?_
   with_reducible refine (laws_toRel.calls k a _ _ l0 ar xs _ (Kd.C_below HR0.out (y5 HB.out (Below.refl w28.heap.size w28))) HC0.out F1.out).mono ?_
   rintro e w28_1 ⟨v_,rfl,ho,hb⟩
   refine ⟨_,rfl, ?_⟩
   obtain ⟨loP_,hiP_,_,_,hO_⟩ := QIv.OS.new ho
   obtain ⟨AP_,cP_,eA_⟩ := hO_.slice
   subst eA_
   have OP_ := y0.mk (hO_)
   have HJ := y0.mk (y5 (Below.refl w28.heap.size w28) hb)
   clear hb ho hO_
   refine hK.out _ _ ⟨(y8 (y7 BKa.out HJ.out) 0).trans rfl,(y8 (y7 BKa.out HJ.out) 1).trans rfl,(y8 (y7 BKb.out HJ.out) 0).trans rfl,(y8 (y7 BKb.out HJ.out) 1).trans rfl,(y8 (y7 BKv.out HJ.out) 0).trans rfl,(y8 (y7 BKv.out HJ.out) 1).trans rfl,(y8 (y7 BKx.out HJ.out) 0).trans rfl,(y8 (y7 BKx.out HJ.out) 1).trans rfl,(y8 (y7 BKy.out HJ.out) 0).trans rfl,(y8 (y7 BKy.out HJ.out) 1).trans rfl,(y8 (y7 BKg.out HJ.out) 0).trans rfl,(y8 (y7 BKg.out HJ.out) 1).trans rfl⟩ (fun hHeld => ?_)
   clear hK K
   refine norm_ (a' := ?_) ?_ ?_
   rotate_left
   ·show Act.put _ (some 76) _ = _
    simp only [Act.put,qS_,qZ_,qC_,y19,y18]
    rfl
   refine two_ (i := 3) (j := 5) (Ni := some 78) (Nj := some 13) #[true,true,true,true,false,false,false] #[true,true,true,false,false,true,false] rfl rfl rfl rfl (by kernel_rfl) (by decide) (by decide) (fun K hK => ?_) (fun K hK => ?_)
   ·skip
    refine goes_ Tryz.func10 (by kernel_rfl) rfl #[.agg #[.int .i64 b,.slice A1 l1.length c1]] (by rfl) rfl rfl qy4 ?_
    with_reducible refine (laws_toRel.calls k b _ _ l1 br ys _ (Kd.C_below HR1.out (y5 HB.out HJ.out)) HC1.out F2.out).mono ?_
    rintro e w28_13 ⟨v_,rfl,ho,hb⟩
    refine ⟨_,rfl, ?_⟩
    obtain ⟨loQ_,hiQ_,_,_,hO_⟩ := QIv.OS.new ho
    obtain ⟨AQ_,cQ_,eA_⟩ := hO_.slice
    subst eA_
    have n0_ := y0.mk (OP_.out.below hb)
    have n1_ := y0.mk (hO_)
    have n2_ := y0.mk (y5 HJ.out hb)
    clear OP_ HJ
    have OP_ := n0_
    have OQ_ := n1_
    have HJ := n2_
    clear n0_ n1_ n2_
    clear hb ho hO_
    refine hK.out _ _ ⟨(y8 (y7 BKa.out HJ.out) 0).trans rfl,(y8 (y7 BKa.out HJ.out) 1).trans rfl,(y8 (y7 BKb.out HJ.out) 0).trans rfl,(y8 (y7 BKb.out HJ.out) 1).trans rfl,(y8 (y7 BKv.out HJ.out) 0).trans rfl,(y8 (y7 BKv.out HJ.out) 1).trans rfl,(y8 (y7 BKx.out HJ.out) 0).trans rfl,(y8 (y7 BKx.out HJ.out) 1).trans rfl,(y8 (y7 BKy.out HJ.out) 0).trans rfl,(y8 (y7 BKy.out HJ.out) 1).trans rfl,(y8 (y7 BKg.out HJ.out) 0).trans rfl,(y8 (y7 BKg.out HJ.out) 1).trans rfl⟩ (fun hHeld => ?_)
    clear hK K
    refine norm_ (a' := ?_) ?_ ?_
    rotate_left
    ·show Act.put _ (some 78) _ = _
     simp only [Act.put,qS_,qZ_,qC_,y19,y18]
     rfl
    refine two_ (i := 4) (j := 5) (Ni := some 79) (Nj := some 13) #[true,true,true,true,true,false,false] #[true,true,true,true,false,true,false] rfl rfl rfl rfl (by kernel_rfl) (by decide) (by decide) (fun K hK => ?_) (fun K hK => ?_)
    ·skip
     refine goes_ Tryz.func21 (by kernel_rfl) rfl #[.agg #[.int .i64 ar,.slice AP_ xs.length cP_],.agg #[.int .i64 br,.slice AQ_ ys.length cQ_]] (by rfl) rfl rfl qy4 ?_
     with_reducible refine (impl_RelLess.calls k ar _ _ xs br _ _ ys gr gs _ OP_.out.C OP_.out.le OQ_.out.C OQ_.out.le (Tb.below HT.out (y5 HB.out HJ.out)) F4.out).mono ?_
     rintro e w28_134 ⟨v_,rfl,ho,hb⟩
     refine ⟨_,rfl, ?_⟩
     obtain ⟨loW_,hiW_,hlo_,hhi_,hO_⟩ := QIv.OS.new ho
     obtain ⟨AW_,cW_,eA_⟩ := hO_.slice
     subst eA_
     have OW_ := y0.mk (hO_)
     have LOW_ := y0.mk ((by rw [hlo_]; exact HJ.out.size : w28.heap.size ≤ loW_))
     have HIW_ := y0.mk ((Nat.le_of_eq hhi_ : hiW_ ≤ w28_134.heap.size))
     replace HJ := y0.mk (y5 HJ.out hb)
     clear hb ho hO_ hlo_ hhi_
     refine hK.out _ _ ⟨(y8 (y7 BKa.out HJ.out) 0).trans rfl,(y8 (y7 BKa.out HJ.out) 1).trans rfl,(y8 (y7 BKb.out HJ.out) 0).trans rfl,(y8 (y7 BKb.out HJ.out) 1).trans rfl,(y8 (y7 BKv.out HJ.out) 0).trans rfl,(y8 (y7 BKv.out HJ.out) 1).trans rfl,(y8 (y7 BKx.out HJ.out) 0).trans rfl,(y8 (y7 BKx.out HJ.out) 1).trans rfl,(y8 (y7 BKy.out HJ.out) 0).trans rfl,(y8 (y7 BKy.out HJ.out) 1).trans rfl,(y8 (y7 BKg.out HJ.out) 0).trans rfl,(y8 (y7 BKg.out HJ.out) 1).trans rfl⟩ (fun hHeld => ?_)
     clear hK K
     refine norm_ (a' := ?_) ?_ ?_
     rotate_left
     ·show Act.put _ (some 79) _ = _
      simp only [Act.put,qS_,qZ_,qC_,y19,y18]
      rfl
     refine one_ (i := 5) (N := some 13) #[true,true,true,true,true,true,false] rfl rfl (by kernel_rfl) (by decide) (fun K hK => ?_)
     refine value_ (w1 := w28_134.alloc (.cells #[.int .i64 0,.slice none 0 0] 31 (0,0))) (v := .pointer (some ⟨w28_134.heap.size,0,none⟩)) (by rfl) rfl ?_ ?_
     ·first | (go_simp; done) | (go_simp; rfl)
     have hbx := blk_new w28_134 (.cells #[.int .i64 0,.slice none 0 0] 31 (0,0))
     have hb := below_alloc (Below.refl w28_134.heap.size w28_134) (.cells #[.int .i64 0,.slice none 0 0] 31 (0,0))
     generalize w28_134.alloc (.cells #[.int .i64 0,.slice none 0 0] 31 (0,0)) = w28_1345 at hbx hb ⊢
     obtain ⟨g6_,hg_⟩ : ∃ g,g = w28_134.heap.size := ⟨_,rfl⟩
     rw [← hg_] at hbx ⊢
     have n0_ := y0.mk (OW_.out.below hb)
     have n1_ := y0.mk (Nat.le_trans HIW_.out hb.size)
     have n2_ := y0.mk (hbx)
     have n3_ := y0.mk ((by rw [hg_]; exact HJ.out.size : w28.heap.size ≤ g6_))
     have n4_ := y0.mk ((by rw [hg_]; exact .inr HIW_.out : g6_ < loW_ ∨ hiW_ ≤ g6_))
     have n5_ := y0.mk (y5 HJ.out hb)
     clear OW_ HIW_ HJ
     have OW_ := n0_
     have HIW_ := n1_
     have BK6_ := n2_
     have GE6_ := n3_
     have OR_ := n4_
     have HJ := n5_
     clear n0_ n1_ n2_ n3_ n4_ n5_
     clear hb hbx hg_
     refine hK.out _ _ ⟨(y8 (y7 BKa.out HJ.out) 0).trans rfl,(y8 (y7 BKa.out HJ.out) 1).trans rfl,(y8 (y7 BKb.out HJ.out) 0).trans rfl,(y8 (y7 BKb.out HJ.out) 1).trans rfl,(y8 (y7 BKv.out HJ.out) 0).trans rfl,(y8 (y7 BKv.out HJ.out) 1).trans rfl,(y8 (y7 BKx.out HJ.out) 0).trans rfl,(y8 (y7 BKx.out HJ.out) 1).trans rfl,(y8 (y7 BKy.out HJ.out) 0).trans rfl,(y8 (y7 BKy.out HJ.out) 1).trans rfl,(y8 (y7 BKg.out HJ.out) 0).trans rfl,(y8 (y7 BKg.out HJ.out) 1).trans rfl⟩ (fun hHeld => ?_)
     clear hK K
     refine norm_ (a' := ?_) ?_ ?_
     rotate_left
     ·show Act.put _ (some 13) _ = _
      simp only [Act.put,qS_,qZ_,qC_,y19,y18]
      rfl
     exact norm_ qy5 (hCont ((AP_,cP_),(AQ_,cQ_),(AW_,cW_),(g6_,loW_,hiW_)) _ ⟨HJ.out,OW_.out,LOW_.out,HIW_.out,GE6_.out,OR_.out,BK6_.out⟩)
    ·skip
     refine value_ (w1 := w28_13.alloc (.cells #[.int .i64 0,.slice none 0 0] 31 (0,0))) (v := .pointer (some ⟨w28_13.heap.size,0,none⟩)) (by rfl) rfl ?_ ?_
     ·first | (go_simp; done) | (go_simp; rfl)
     have hbx := blk_new w28_13 (.cells #[.int .i64 0,.slice none 0 0] 31 (0,0))
     have hb := below_alloc (Below.refl w28_13.heap.size w28_13) (.cells #[.int .i64 0,.slice none 0 0] 31 (0,0))
     generalize w28_13.alloc (.cells #[.int .i64 0,.slice none 0 0] 31 (0,0)) = w28_135 at hbx hb ⊢
     obtain ⟨g6_,hg_⟩ : ∃ g,g = w28_13.heap.size := ⟨_,rfl⟩
     rw [← hg_] at hbx ⊢
     have n0_ := y0.mk (OP_.out.below hb)
     have n1_ := y0.mk (OQ_.out.below hb)
     have n2_ := y0.mk (hbx)
     have n3_ := y0.mk ((by rw [hg_]; exact HJ.out.size : w28.heap.size ≤ g6_))
     have n4_ := y0.mk (y5 HJ.out hb)
     clear OP_ OQ_ HJ
     have OP_ := n0_
     have OQ_ := n1_
     have BK6_ := n2_
     have GE6_ := n3_
     have HJ := n4_
     clear n0_ n1_ n2_ n3_ n4_
     clear hb hbx hg_
     refine hK.out _ _ ⟨(y8 (y7 BKa.out HJ.out) 0).trans rfl,(y8 (y7 BKa.out HJ.out) 1).trans rfl,(y8 (y7 BKb.out HJ.out) 0).trans rfl,(y8 (y7 BKb.out HJ.out) 1).trans rfl,(y8 (y7 BKv.out HJ.out) 0).trans rfl,(y8 (y7 BKv.out HJ.out) 1).trans rfl,(y8 (y7 BKx.out HJ.out) 0).trans rfl,(y8 (y7 BKx.out HJ.out) 1).trans rfl,(y8 (y7 BKy.out HJ.out) 0).trans rfl,(y8 (y7 BKy.out HJ.out) 1).trans rfl,(y8 (y7 BKg.out HJ.out) 0).trans rfl,(y8 (y7 BKg.out HJ.out) 1).trans rfl⟩ (fun hHeld => ?_)
     clear hK K
     refine norm_ (a' := ?_) ?_ ?_
     rotate_left
     ·show Act.put _ (some 13) _ = _
      simp only [Act.put,qS_,qZ_,qC_,y19,y18]
      rfl
     refine one_ (i := 4) (N := some 79) #[true,true,true,true,true,true,false] rfl rfl (by kernel_rfl) (by decide) (fun K hK => ?_)
     refine goes_ Tryz.func21 (by kernel_rfl) rfl #[.agg #[.int .i64 ar,.slice AP_ xs.length cP_],.agg #[.int .i64 br,.slice AQ_ ys.length cQ_]] (by rfl) rfl rfl qy4 ?_
     with_reducible refine (impl_RelLess.calls k ar _ _ xs br _ _ ys gr gs _ OP_.out.C OP_.out.le OQ_.out.C OQ_.out.le (Tb.below HT.out (y5 HB.out HJ.out)) F4.out).mono ?_
     rintro e w28_1354 ⟨v_,rfl,ho,hb⟩
     refine ⟨_,rfl, ?_⟩
     obtain ⟨loW_,hiW_,hlo_,hhi_,hO_⟩ := QIv.OS.new ho
     obtain ⟨AW_,cW_,eA_⟩ := hO_.slice
     subst eA_
     have n0_ := y0.mk (y7 BK6_.out hb)
     have n1_ := y0.mk (hO_)
     have n2_ := y0.mk ((by rw [hlo_]; exact HJ.out.size : w28.heap.size ≤ loW_))
     have n3_ := y0.mk ((Nat.le_of_eq hhi_ : hiW_ ≤ w28_1354.heap.size))
     have n4_ := y0.mk ((by rw [hlo_]; exact .inl (QIv.ki_lt BK6_.out) : g6_ < loW_ ∨ hiW_ ≤ g6_))
     have n5_ := y0.mk (y5 HJ.out hb)
     clear BK6_ HJ
     have BK6_ := n0_
     have OW_ := n1_
     have LOW_ := n2_
     have HIW_ := n3_
     have OR_ := n4_
     have HJ := n5_
     clear n0_ n1_ n2_ n3_ n4_ n5_
     clear hb ho hO_ hlo_ hhi_
     refine hK.out _ _ ⟨(y8 (y7 BKa.out HJ.out) 0).trans rfl,(y8 (y7 BKa.out HJ.out) 1).trans rfl,(y8 (y7 BKb.out HJ.out) 0).trans rfl,(y8 (y7 BKb.out HJ.out) 1).trans rfl,(y8 (y7 BKv.out HJ.out) 0).trans rfl,(y8 (y7 BKv.out HJ.out) 1).trans rfl,(y8 (y7 BKx.out HJ.out) 0).trans rfl,(y8 (y7 BKx.out HJ.out) 1).trans rfl,(y8 (y7 BKy.out HJ.out) 0).trans rfl,(y8 (y7 BKy.out HJ.out) 1).trans rfl,(y8 (y7 BKg.out HJ.out) 0).trans rfl,(y8 (y7 BKg.out HJ.out) 1).trans rfl⟩ (fun hHeld => ?_)
     clear hK K
     refine norm_ (a' := ?_) ?_ ?_
     rotate_left
     ·show Act.put _ (some 79) _ = _
      simp only [Act.put,qS_,qZ_,qC_,y19,y18]
      rfl
     exact norm_ qy5 (hCont ((AP_,cP_),(AQ_,cQ_),(AW_,cW_),(g6_,loW_,hiW_)) _ ⟨HJ.out,OW_.out,LOW_.out,HIW_.out,GE6_.out,OR_.out,BK6_.out⟩)
   ·skip
    refine value_ (w1 := w28_1.alloc (.cells #[.int .i64 0,.slice none 0 0] 31 (0,0))) (v := .pointer (some ⟨w28_1.heap.size,0,none⟩)) (by rfl) rfl ?_ ?_
    ·first | (go_simp; done) | (go_simp; rfl)
    have hbx := blk_new w28_1 (.cells #[.int .i64 0,.slice none 0 0] 31 (0,0))
    have hb := below_alloc (Below.refl w28_1.heap.size w28_1) (.cells #[.int .i64 0,.slice none 0 0] 31 (0,0))
    generalize w28_1.alloc (.cells #[.int .i64 0,.slice none 0 0] 31 (0,0)) = w28_15 at hbx hb ⊢
    obtain ⟨g6_,hg_⟩ : ∃ g,g = w28_1.heap.size := ⟨_,rfl⟩
    rw [← hg_] at hbx ⊢
    have n0_ := y0.mk (OP_.out.below hb)
    have n1_ := y0.mk (hbx)
    have n2_ := y0.mk ((by rw [hg_]; exact HJ.out.size : w28.heap.size ≤ g6_))
    have n3_ := y0.mk (y5 HJ.out hb)
    clear OP_ HJ
    have OP_ := n0_
    have BK6_ := n1_
    have GE6_ := n2_
    have HJ := n3_
    clear n0_ n1_ n2_ n3_
    clear hb hbx hg_
    refine hK.out _ _ ⟨(y8 (y7 BKa.out HJ.out) 0).trans rfl,(y8 (y7 BKa.out HJ.out) 1).trans rfl,(y8 (y7 BKb.out HJ.out) 0).trans rfl,(y8 (y7 BKb.out HJ.out) 1).trans rfl,(y8 (y7 BKv.out HJ.out) 0).trans rfl,(y8 (y7 BKv.out HJ.out) 1).trans rfl,(y8 (y7 BKx.out HJ.out) 0).trans rfl,(y8 (y7 BKx.out HJ.out) 1).trans rfl,(y8 (y7 BKy.out HJ.out) 0).trans rfl,(y8 (y7 BKy.out HJ.out) 1).trans rfl,(y8 (y7 BKg.out HJ.out) 0).trans rfl,(y8 (y7 BKg.out HJ.out) 1).trans rfl⟩ (fun hHeld => ?_)
    clear hK K
    refine norm_ (a' := ?_) ?_ ?_
    rotate_left
    ·show Act.put _ (some 13) _ = _
     simp only [Act.put,qS_,qZ_,qC_,y19,y18]
     rfl
    refine one_ (i := 3) (N := some 78) #[true,true,true,true,false,true,false] rfl rfl (by kernel_rfl) (by decide) (fun K hK => ?_)
    refine goes_ Tryz.func10 (by kernel_rfl) rfl #[.agg #[.int .i64 b,.slice A1 l1.length c1]] (by rfl) rfl rfl qy4 ?_
    with_reducible refine (laws_toRel.calls k b _ _ l1 br ys _ (Kd.C_below HR1.out (y5 HB.out HJ.out)) HC1.out F2.out).mono ?_
    rintro e w28_153 ⟨v_,rfl,ho,hb⟩
    refine ⟨_,rfl, ?_⟩
    obtain ⟨loQ_,hiQ_,_,_,hO_⟩ := QIv.OS.new ho
    obtain ⟨AQ_,cQ_,eA_⟩ := hO_.slice
    subst eA_
    have n0_ := y0.mk (y7 BK6_.out hb)
    have n1_ := y0.mk (OP_.out.below hb)
    have n2_ := y0.mk (hO_)
    have n3_ := y0.mk (y5 HJ.out hb)
    clear BK6_ OP_ HJ
    have BK6_ := n0_
    have OP_ := n1_
    have OQ_ := n2_
    have HJ := n3_
    clear n0_ n1_ n2_ n3_
    clear hb ho hO_
    refine hK.out _ _ ⟨(y8 (y7 BKa.out HJ.out) 0).trans rfl,(y8 (y7 BKa.out HJ.out) 1).trans rfl,(y8 (y7 BKb.out HJ.out) 0).trans rfl,(y8 (y7 BKb.out HJ.out) 1).trans rfl,(y8 (y7 BKv.out HJ.out) 0).trans rfl,(y8 (y7 BKv.out HJ.out) 1).trans rfl,(y8 (y7 BKx.out HJ.out) 0).trans rfl,(y8 (y7 BKx.out HJ.out) 1).trans rfl,(y8 (y7 BKy.out HJ.out) 0).trans rfl,(y8 (y7 BKy.out HJ.out) 1).trans rfl,(y8 (y7 BKg.out HJ.out) 0).trans rfl,(y8 (y7 BKg.out HJ.out) 1).trans rfl⟩ (fun hHeld => ?_)
    clear hK K
    refine norm_ (a' := ?_) ?_ ?_
    rotate_left
    ·show Act.put _ (some 78) _ = _
     simp only [Act.put,qS_,qZ_,qC_,y19,y18]
     rfl
    refine one_ (i := 4) (N := some 79) #[true,true,true,true,true,true,false] rfl rfl (by kernel_rfl) (by decide) (fun K hK => ?_)
    refine goes_ Tryz.func21 (by kernel_rfl) rfl #[.agg #[.int .i64 ar,.slice AP_ xs.length cP_],.agg #[.int .i64 br,.slice AQ_ ys.length cQ_]] (by rfl) rfl rfl qy4 ?_
    with_reducible refine (impl_RelLess.calls k ar _ _ xs br _ _ ys gr gs _ OP_.out.C OP_.out.le OQ_.out.C OQ_.out.le (Tb.below HT.out (y5 HB.out HJ.out)) F4.out).mono ?_
    rintro e w28_1534 ⟨v_,rfl,ho,hb⟩
    refine ⟨_,rfl, ?_⟩
    obtain ⟨loW_,hiW_,hlo_,hhi_,hO_⟩ := QIv.OS.new ho
    obtain ⟨AW_,cW_,eA_⟩ := hO_.slice
    subst eA_
    have n0_ := y0.mk (y7 BK6_.out hb)
    have n1_ := y0.mk (hO_)
    have n2_ := y0.mk ((by rw [hlo_]; exact HJ.out.size : w28.heap.size ≤ loW_))
    have n3_ := y0.mk ((Nat.le_of_eq hhi_ : hiW_ ≤ w28_1534.heap.size))
    have n4_ := y0.mk ((by rw [hlo_]; exact .inl (QIv.ki_lt BK6_.out) : g6_ < loW_ ∨ hiW_ ≤ g6_))
    have n5_ := y0.mk (y5 HJ.out hb)
    clear BK6_ HJ
    have BK6_ := n0_
    have OW_ := n1_
    have LOW_ := n2_
    have HIW_ := n3_
    have OR_ := n4_
    have HJ := n5_
    clear n0_ n1_ n2_ n3_ n4_ n5_
    clear hb ho hO_ hlo_ hhi_
    refine hK.out _ _ ⟨(y8 (y7 BKa.out HJ.out) 0).trans rfl,(y8 (y7 BKa.out HJ.out) 1).trans rfl,(y8 (y7 BKb.out HJ.out) 0).trans rfl,(y8 (y7 BKb.out HJ.out) 1).trans rfl,(y8 (y7 BKv.out HJ.out) 0).trans rfl,(y8 (y7 BKv.out HJ.out) 1).trans rfl,(y8 (y7 BKx.out HJ.out) 0).trans rfl,(y8 (y7 BKx.out HJ.out) 1).trans rfl,(y8 (y7 BKy.out HJ.out) 0).trans rfl,(y8 (y7 BKy.out HJ.out) 1).trans rfl,(y8 (y7 BKg.out HJ.out) 0).trans rfl,(y8 (y7 BKg.out HJ.out) 1).trans rfl⟩ (fun hHeld => ?_)
    clear hK K
    refine norm_ (a' := ?_) ?_ ?_
    rotate_left
    ·show Act.put _ (some 79) _ = _
     simp only [Act.put,qS_,qZ_,qC_,y19,y18]
     rfl
    exact norm_ qy5 (hCont ((AP_,cP_),(AQ_,cQ_),(AW_,cW_),(g6_,loW_,hiW_)) _ ⟨HJ.out,OW_.out,LOW_.out,HIW_.out,GE6_.out,OR_.out,BK6_.out⟩)
  ·skip
   refine value_ (w1 := w28.alloc (.cells #[.int .i64 0,.slice none 0 0] 31 (0,0))) (v := .pointer (some ⟨w28.heap.size,0,none⟩)) (by rfl) rfl ?_ ?_
   ·first | (go_simp; done) | (go_simp; rfl)
   have hbx := blk_new w28 (.cells #[.int .i64 0,.slice none 0 0] 31 (0,0))
   have hb := below_alloc (Below.refl w28.heap.size w28) (.cells #[.int .i64 0,.slice none 0 0] 31 (0,0))
   generalize w28.alloc (.cells #[.int .i64 0,.slice none 0 0] 31 (0,0)) = w28_5 at hbx hb ⊢
   obtain ⟨g6_,hg_⟩ : ∃ g,g = w28.heap.size := ⟨_,rfl⟩
   rw [← hg_] at hbx ⊢
   have BK6_ := y0.mk (hbx)
   have GE6_ := y0.mk ((by rw [hg_]; exact (Below.refl w28.heap.size w28).size : w28.heap.size ≤ g6_))
   have HJ := y0.mk (y5 (Below.refl w28.heap.size w28) hb)
   clear hb hbx hg_
   refine hK.out _ _ ⟨(y8 (y7 BKa.out HJ.out) 0).trans rfl,(y8 (y7 BKa.out HJ.out) 1).trans rfl,(y8 (y7 BKb.out HJ.out) 0).trans rfl,(y8 (y7 BKb.out HJ.out) 1).trans rfl,(y8 (y7 BKv.out HJ.out) 0).trans rfl,(y8 (y7 BKv.out HJ.out) 1).trans rfl,(y8 (y7 BKx.out HJ.out) 0).trans rfl,(y8 (y7 BKx.out HJ.out) 1).trans rfl,(y8 (y7 BKy.out HJ.out) 0).trans rfl,(y8 (y7 BKy.out HJ.out) 1).trans rfl,(y8 (y7 BKg.out HJ.out) 0).trans rfl,(y8 (y7 BKg.out HJ.out) 1).trans rfl⟩ (fun hHeld => ?_)
   clear hK K
   refine norm_ (a' := ?_) ?_ ?_
   rotate_left
   ·show Act.put _ (some 13) _ = _
    simp only [Act.put,qS_,qZ_,qC_,y19,y18]
    rfl
   refine one_ (i := 1) (N := some 76) #[true,true,true,false,false,true,false] rfl rfl (by kernel_rfl) (by decide) (fun K hK => ?_)
   refine goes_ Tryz.func10 (by kernel_rfl) rfl #[.agg #[.int .i64 a,.slice A0 l0.length c0]] (by rfl) rfl rfl qy4 ?_
   with_reducible refine (laws_toRel.calls k a _ _ l0 ar xs _ (Kd.C_below HR0.out (y5 HB.out HJ.out)) HC0.out F1.out).mono ?_
   rintro e w28_51 ⟨v_,rfl,ho,hb⟩
   refine ⟨_,rfl, ?_⟩
   obtain ⟨loP_,hiP_,_,_,hO_⟩ := QIv.OS.new ho
   obtain ⟨AP_,cP_,eA_⟩ := hO_.slice
   subst eA_
   have n0_ := y0.mk (y7 BK6_.out hb)
   have n1_ := y0.mk (hO_)
   have n2_ := y0.mk (y5 HJ.out hb)
   clear BK6_ HJ
   have BK6_ := n0_
   have OP_ := n1_
   have HJ := n2_
   clear n0_ n1_ n2_
   clear hb ho hO_
   refine hK.out _ _ ⟨(y8 (y7 BKa.out HJ.out) 0).trans rfl,(y8 (y7 BKa.out HJ.out) 1).trans rfl,(y8 (y7 BKb.out HJ.out) 0).trans rfl,(y8 (y7 BKb.out HJ.out) 1).trans rfl,(y8 (y7 BKv.out HJ.out) 0).trans rfl,(y8 (y7 BKv.out HJ.out) 1).trans rfl,(y8 (y7 BKx.out HJ.out) 0).trans rfl,(y8 (y7 BKx.out HJ.out) 1).trans rfl,(y8 (y7 BKy.out HJ.out) 0).trans rfl,(y8 (y7 BKy.out HJ.out) 1).trans rfl,(y8 (y7 BKg.out HJ.out) 0).trans rfl,(y8 (y7 BKg.out HJ.out) 1).trans rfl⟩ (fun hHeld => ?_)
   clear hK K
   refine norm_ (a' := ?_) ?_ ?_
   rotate_left
   ·show Act.put _ (some 76) _ = _
    simp only [Act.put,qS_,qZ_,qC_,y19,y18]
    rfl
   refine one_ (i := 3) (N := some 78) #[true,true,true,true,false,true,false] rfl rfl (by kernel_rfl) (by decide) (fun K hK => ?_)
   refine goes_ Tryz.func10 (by kernel_rfl) rfl #[.agg #[.int .i64 b,.slice A1 l1.length c1]] (by rfl) rfl rfl qy4 ?_
   with_reducible refine (laws_toRel.calls k b _ _ l1 br ys _ (Kd.C_below HR1.out (y5 HB.out HJ.out)) HC1.out F2.out).mono ?_
   rintro e w28_513 ⟨v_,rfl,ho,hb⟩
   refine ⟨_,rfl, ?_⟩
   obtain ⟨loQ_,hiQ_,_,_,hO_⟩ := QIv.OS.new ho
   obtain ⟨AQ_,cQ_,eA_⟩ := hO_.slice
   subst eA_
   have n0_ := y0.mk (y7 BK6_.out hb)
   have n1_ := y0.mk (OP_.out.below hb)
   have n2_ := y0.mk (hO_)
   have n3_ := y0.mk (y5 HJ.out hb)
   clear BK6_ OP_ HJ
   have BK6_ := n0_
   have OP_ := n1_
   have OQ_ := n2_
   have HJ := n3_
   clear n0_ n1_ n2_ n3_
   clear hb ho hO_
   refine hK.out _ _ ⟨(y8 (y7 BKa.out HJ.out) 0).trans rfl,(y8 (y7 BKa.out HJ.out) 1).trans rfl,(y8 (y7 BKb.out HJ.out) 0).trans rfl,(y8 (y7 BKb.out HJ.out) 1).trans rfl,(y8 (y7 BKv.out HJ.out) 0).trans rfl,(y8 (y7 BKv.out HJ.out) 1).trans rfl,(y8 (y7 BKx.out HJ.out) 0).trans rfl,(y8 (y7 BKx.out HJ.out) 1).trans rfl,(y8 (y7 BKy.out HJ.out) 0).trans rfl,(y8 (y7 BKy.out HJ.out) 1).trans rfl,(y8 (y7 BKg.out HJ.out) 0).trans rfl,(y8 (y7 BKg.out HJ.out) 1).trans rfl⟩ (fun hHeld => ?_)
   clear hK K
   refine norm_ (a' := ?_) ?_ ?_
   rotate_left
   ·show Act.put _ (some 78) _ = _
    simp only [Act.put,qS_,qZ_,qC_,y19,y18]
    rfl
   refine one_ (i := 4) (N := some 79) #[true,true,true,true,true,true,false] rfl rfl (by kernel_rfl) (by decide) (fun K hK => ?_)
   refine goes_ Tryz.func21 (by kernel_rfl) rfl #[.agg #[.int .i64 ar,.slice AP_ xs.length cP_],.agg #[.int .i64 br,.slice AQ_ ys.length cQ_]] (by rfl) rfl rfl qy4 ?_
   with_reducible refine (impl_RelLess.calls k ar _ _ xs br _ _ ys gr gs _ OP_.out.C OP_.out.le OQ_.out.C OQ_.out.le (Tb.below HT.out (y5 HB.out HJ.out)) F4.out).mono ?_
   rintro e w28_5134 ⟨v_,rfl,ho,hb⟩
   refine ⟨_,rfl, ?_⟩
   obtain ⟨loW_,hiW_,hlo_,hhi_,hO_⟩ := QIv.OS.new ho
   obtain ⟨AW_,cW_,eA_⟩ := hO_.slice
   subst eA_
   have n0_ := y0.mk (y7 BK6_.out hb)
   have n1_ := y0.mk (hO_)
   have n2_ := y0.mk ((by rw [hlo_]; exact HJ.out.size : w28.heap.size ≤ loW_))
   have n3_ := y0.mk ((Nat.le_of_eq hhi_ : hiW_ ≤ w28_5134.heap.size))
   have n4_ := y0.mk ((by rw [hlo_]; exact .inl (QIv.ki_lt BK6_.out) : g6_ < loW_ ∨ hiW_ ≤ g6_))
   have n5_ := y0.mk (y5 HJ.out hb)
   clear BK6_ HJ
   have BK6_ := n0_
   have OW_ := n1_
   have LOW_ := n2_
   have HIW_ := n3_
   have OR_ := n4_
   have HJ := n5_
   clear n0_ n1_ n2_ n3_ n4_ n5_
   clear hb ho hO_ hlo_ hhi_
   refine hK.out _ _ ⟨(y8 (y7 BKa.out HJ.out) 0).trans rfl,(y8 (y7 BKa.out HJ.out) 1).trans rfl,(y8 (y7 BKb.out HJ.out) 0).trans rfl,(y8 (y7 BKb.out HJ.out) 1).trans rfl,(y8 (y7 BKv.out HJ.out) 0).trans rfl,(y8 (y7 BKv.out HJ.out) 1).trans rfl,(y8 (y7 BKx.out HJ.out) 0).trans rfl,(y8 (y7 BKx.out HJ.out) 1).trans rfl,(y8 (y7 BKy.out HJ.out) 0).trans rfl,(y8 (y7 BKy.out HJ.out) 1).trans rfl,(y8 (y7 BKg.out HJ.out) 0).trans rfl,(y8 (y7 BKg.out HJ.out) 1).trans rfl⟩ (fun hHeld => ?_)
   clear hK K
   refine norm_ (a' := ?_) ?_ ?_
   rotate_left
   ·show Act.put _ (some 79) _ = _
    simp only [Act.put,qS_,qZ_,qC_,y19,y18]
    rfl
   exact norm_ qy5 (hCont ((AP_,cP_),(AQ_,cQ_),(AW_,cW_),(g6_,loW_,hiW_)) _ ⟨HJ.out,OW_.out,LOW_.out,HIW_.out,GE6_.out,OR_.out,BK6_.out⟩)
 rintro ⟨⟨AP_,cP_⟩,⟨AQ_,cQ_⟩,⟨AH,cH⟩,⟨gh,loH,hiH⟩⟩ w28_z ⟨hb,ho_,h1_,h2_,h3_,h4_,h5_⟩
 dsimp only at ho_ h1_ h2_ h3_ h4_ h5_
 have n0_ := y0.mk ((ho_ : QIv.OS k48 48 loH hiH (.slice AH gs.length cH) gs w28_z))
 have n1_ := y0.mk ((h2_ : hiH ≤ w28_z.heap.size))
 have n2_ := y0.mk ((Nat.le_trans HB.out.size h1_ : w.heap.size ≤ loH))
 have n3_ := y0.mk ((Nat.le_trans LW.out h1_ : hiW ≤ loH))
 have n4_ := y0.mk ((Nat.le_trans LG.out h1_ : hiG ≤ loH))
 have n5_ := y0.mk ((Nat.lt_of_lt_of_le (QIv.ki_lt BKa.out) h1_ : ga < loH))
 have n6_ := y0.mk ((Nat.lt_of_lt_of_le (QIv.ki_lt BKb.out) h1_ : gb < loH))
 have n7_ := y0.mk ((Nat.lt_of_lt_of_le (QIv.ki_lt BKv.out) h1_ : gv < loH))
 have n8_ := y0.mk ((Nat.lt_of_lt_of_le (QIv.ki_lt BKx.out) h1_ : gx < loH))
 have n9_ := y0.mk ((Nat.lt_of_lt_of_le (QIv.ki_lt BKy.out) h1_ : gy < loH))
 have n10_ := y0.mk ((Nat.lt_of_lt_of_le (QIv.ki_lt BKg.out) h1_ : gg < loH))
 have n11_ := y0.mk ((h5_ : w28_z.heap[gh]? = some (.cells #[.int .i64 0,.slice none 0 0] 31 (0,0))))
 have n12_ := y0.mk ((Nat.le_trans HB.out.size h3_ : w.heap.size ≤ gh))
 have n13_ := y0.mk ((h4_ : gh < loH ∨ hiH ≤ gh))
 have n14_ := y0.mk ((Nat.le_trans LW.out h3_ : hiW ≤ gh))
 have n15_ := y0.mk ((Nat.le_trans LG.out h3_ : hiG ≤ gh))
 have n16_ := y0.mk ((Nat.ne_of_lt (Nat.lt_of_lt_of_le (QIv.ki_lt BKa.out) h3_) : ga ≠ gh))
 have n17_ := y0.mk ((Nat.ne_of_lt (Nat.lt_of_lt_of_le (QIv.ki_lt BKb.out) h3_) : gb ≠ gh))
 have n18_ := y0.mk ((Nat.ne_of_lt (Nat.lt_of_lt_of_le (QIv.ki_lt BKv.out) h3_) : gv ≠ gh))
 have n19_ := y0.mk ((Nat.ne_of_lt (Nat.lt_of_lt_of_le (QIv.ki_lt BKx.out) h3_) : gx ≠ gh))
 have n20_ := y0.mk ((Nat.ne_of_lt (Nat.lt_of_lt_of_le (QIv.ki_lt BKy.out) h3_) : gy ≠ gh))
 have n21_ := y0.mk ((Nat.ne_of_lt (Nat.lt_of_lt_of_le (QIv.ki_lt BKg.out) h3_) : gg ≠ gh))
 have n22_ := y0.mk (OW.out.below hb)
 have n23_ := y0.mk (OG.out.below hb)
 have n24_ := y0.mk (Nat.le_trans LW.out hb.size)
 have n25_ := y0.mk (Nat.le_trans LG.out hb.size)
 have n26_ := y0.mk (y7 (g := ga) (o := (.cells #[.int .i64 a,.slice A0 l0.length c0] 24 (0,0))) BKa.out hb)
 have n27_ := y0.mk (y7 (g := gb) (o := (.cells #[.int .i64 b,.slice A1 l1.length c1] 24 (0,0))) BKb.out hb)
 have n28_ := y0.mk (y7 (g := gv) (o := (.cells #[.int .i64 gr,.slice AW gs.length cW] 31 (0,0))) BKv.out hb)
 have n29_ := y0.mk (y7 (g := gx) (o := (.cells #[.int .i64 ar,.slice AX xs.length cX] 31 (0,0))) BKx.out hb)
 have n30_ := y0.mk (y7 (g := gy) (o := (.cells #[.int .i64 br,.slice AY ys.length cY] 31 (0,0))) BKy.out hb)
 have n31_ := y0.mk (y7 (g := gg) (o := (.cells #[.int .i64 gr,.slice AG gs.length cG] 31 (0,0))) BKg.out hb)
 have n32_ := y0.mk (y5 HB.out hb)
 clear OW OG LW LG BKa BKb BKv BKx BKy BKg HB
 have OH := n0_
 have LH := n1_
 have BH := n2_
 have DW_H := n3_
 have DG_H := n4_
 have Ea_H := n5_
 have Eb_H := n6_
 have Ev_H := n7_
 have Ex_H := n8_
 have Ey_H := n9_
 have Eg_H := n10_
 have BKh := n11_
 have GEh := n12_
 have EH_h := n13_
 have EW_h := n14_
 have EG_h := n15_
 have Na_h := n16_
 have Nb_h := n17_
 have Nv_h := n18_
 have Nx_h := n19_
 have Ny_h := n20_
 have Ng_h := n21_
 have OW := n22_
 have OG := n23_
 have LW := n24_
 have LG := n25_
 have BKa := n26_
 have BKb := n27_
 have BKv := n28_
 have BKx := n29_
 have BKy := n30_
 have BKg := n31_
 have HB := n32_
 clear n0_ n1_ n2_ n3_ n4_ n5_ n6_ n7_ n8_ n9_ n10_ n11_ n12_ n13_ n14_ n15_ n16_ n17_ n18_ n19_ n20_ n21_ n22_ n23_ n24_ n25_ n26_ n27_ n28_ n29_ n30_ n31_ n32_
 clear hb ho_ h1_ h2_ h3_ h4_ h5_
 have hHeld : w28_z.cell? ⟨ga,0,none⟩ = some (.int .i64 a) ∧ w28_z.cell? ⟨ga,1,none⟩ = some (.slice A0 l0.length c0) ∧ w28_z.cell? ⟨gb,0,none⟩ = some (.int .i64 b) ∧ w28_z.cell? ⟨gb,1,none⟩ = some (.slice A1 l1.length c1) ∧ w28_z.cell? ⟨gv,0,none⟩ = some (.int .i64 gr) ∧ w28_z.cell? ⟨gv,1,none⟩ = some (.slice AW gs.length cW) ∧ w28_z.cell? ⟨gx,0,none⟩ = some (.int .i64 ar) ∧ w28_z.cell? ⟨gx,1,none⟩ = some (.slice AX xs.length cX) ∧ w28_z.cell? ⟨gy,0,none⟩ = some (.int .i64 br) ∧ w28_z.cell? ⟨gy,1,none⟩ = some (.slice AY ys.length cY) ∧ w28_z.cell? ⟨gg,0,none⟩ = some (.int .i64 gr) ∧ w28_z.cell? ⟨gg,1,none⟩ = some (.slice AG gs.length cG) := ⟨(y8 BKa.out 0).trans rfl,(y8 BKa.out 1).trans rfl,(y8 BKb.out 0).trans rfl,(y8 BKb.out 1).trans rfl,(y8 BKv.out 0).trans rfl,(y8 BKv.out 1).trans rfl,(y8 BKx.out 0).trans rfl,(y8 BKx.out 1).trans rfl,(y8 BKy.out 0).trans rfl,(y8 BKy.out 1).trans rfl,(y8 BKg.out 0).trans rfl,(y8 BKg.out 1).trans rfl⟩
 refine norm_ (a' := ?_) ?_ ?_
 rotate_left
 ·simp only [putAll,Act.put,qS_,qZ_,qC_]
  rfl
 refine last_ (i := 6) (N := none) #[true,true,true,true,true,true,true] rfl rfl (by kernel_rfl) (by decide) (fun K hK => ?_)
 have hcs0 : w28_z.cell? ⟨gh,0,none⟩ = some (.int .i64 0) := (y8 BKh.out 0).trans rfl
 have hcs1 : w28_z.cell? ⟨gh,1,none⟩ = some (.slice none 0 0) := (y8 BKh.out 1).trans rfl
 have hfs0 := y12 BKh.out 0
 have hfs1 := y12 BKh.out 1
 refine skip_ (w1 := (w28_z.setCell ⟨gh,0,none⟩ (.int .i64 gr)).setCell ⟨gh,1,none⟩ (.slice AH gs.length cH)) (by rfl) rfl ?_ ?_
 ·first | (go_simp; done) | (go_simp; rfl)
 clear hcs0 hcs1 hfs0 hfs1
 refine hK.out _ _ ?_
 clear hK K
 refine done_ (by kernel_rfl) ?_
 (try clear hca0)
 (try clear hca1)
 (try clear hcb0)
 (try clear hcb1)
 (try clear hcv0)
 (try clear hcv1)
 (try clear hcx0)
 (try clear hcx1)
 (try clear hcy0)
 (try clear hcy1)
 (try clear hcg0)
 (try clear hcg1)
 (try clear hch0)
 (try clear hch1)
 (try clear hfa0)
 (try clear hfa1)
 (try clear hfb0)
 (try clear hfb1)
 (try clear hfv0)
 (try clear hfv1)
 (try clear hfx0)
 (try clear hfx1)
 (try clear hfy0)
 (try clear hfy1)
 (try clear hfg0)
 (try clear hfg1)
 (try clear hfh0)
 (try clear hfh1)
 have n0_ := y0.mk (((OW.out.set (.inr EW_h.out) _ _).set (.inr EW_h.out) _ _) : QIv.OS k48 48 loW hiW (.slice AW gs.length cW) gs ((w28_z.setCell ⟨gh,0,none⟩ (.int .i64 gr)).setCell ⟨gh,1,none⟩ (.slice AH gs.length cH)))
 have n1_ := y0.mk (by simpa using LW.out : hiW ≤ ((w28_z.setCell ⟨gh,0,none⟩ (.int .i64 gr)).setCell ⟨gh,1,none⟩ (.slice AH gs.length cH)).heap.size)
 have n2_ := y0.mk (((OG.out.set (.inr EG_h.out) _ _).set (.inr EG_h.out) _ _) : QIv.OS k48 48 loG hiG (.slice AG gs.length cG) gm ((w28_z.setCell ⟨gh,0,none⟩ (.int .i64 gr)).setCell ⟨gh,1,none⟩ (.slice AH gs.length cH)))
 have n3_ := y0.mk (by simpa using LG.out : hiG ≤ ((w28_z.setCell ⟨gh,0,none⟩ (.int .i64 gr)).setCell ⟨gh,1,none⟩ (.slice AH gs.length cH)).heap.size)
 have n4_ := y0.mk (((OH.out.set (EH_h.out) _ _).set (EH_h.out) _ _) : QIv.OS k48 48 loH hiH (.slice AH gs.length cH) gs ((w28_z.setCell ⟨gh,0,none⟩ (.int .i64 gr)).setCell ⟨gh,1,none⟩ (.slice AH gs.length cH)))
 have n5_ := y0.mk (by simpa using LH.out : hiH ≤ ((w28_z.setCell ⟨gh,0,none⟩ (.int .i64 gr)).setCell ⟨gh,1,none⟩ (.slice AH gs.length cH)).heap.size)
 have n6_ := y0.mk ((y11 (y11 BKa.out (Na_h.out) _) (Na_h.out) _) : ((w28_z.setCell ⟨gh,0,none⟩ (.int .i64 gr)).setCell ⟨gh,1,none⟩ (.slice AH gs.length cH)).heap[ga]? = some (.cells #[.int .i64 a,.slice A0 l0.length c0] 24 (0,0)))
 have n7_ := y0.mk ((y11 (y11 BKb.out (Nb_h.out) _) (Nb_h.out) _) : ((w28_z.setCell ⟨gh,0,none⟩ (.int .i64 gr)).setCell ⟨gh,1,none⟩ (.slice AH gs.length cH)).heap[gb]? = some (.cells #[.int .i64 b,.slice A1 l1.length c1] 24 (0,0)))
 have n8_ := y0.mk ((y11 (y11 BKv.out (Nv_h.out) _) (Nv_h.out) _) : ((w28_z.setCell ⟨gh,0,none⟩ (.int .i64 gr)).setCell ⟨gh,1,none⟩ (.slice AH gs.length cH)).heap[gv]? = some (.cells #[.int .i64 gr,.slice AW gs.length cW] 31 (0,0)))
 have n9_ := y0.mk ((y11 (y11 BKx.out (Nx_h.out) _) (Nx_h.out) _) : ((w28_z.setCell ⟨gh,0,none⟩ (.int .i64 gr)).setCell ⟨gh,1,none⟩ (.slice AH gs.length cH)).heap[gx]? = some (.cells #[.int .i64 ar,.slice AX xs.length cX] 31 (0,0)))
 have n10_ := y0.mk ((y11 (y11 BKy.out (Ny_h.out) _) (Ny_h.out) _) : ((w28_z.setCell ⟨gh,0,none⟩ (.int .i64 gr)).setCell ⟨gh,1,none⟩ (.slice AH gs.length cH)).heap[gy]? = some (.cells #[.int .i64 br,.slice AY ys.length cY] 31 (0,0)))
 have n11_ := y0.mk ((y11 (y11 BKg.out (Ng_h.out) _) (Ng_h.out) _) : ((w28_z.setCell ⟨gh,0,none⟩ (.int .i64 gr)).setCell ⟨gh,1,none⟩ (.slice AH gs.length cH)).heap[gg]? = some (.cells #[.int .i64 gr,.slice AG gs.length cG] 31 (0,0)))
 have n12_ := y0.mk ((blk_set (blk_set BKh.out 0 (.int .i64 gr)) 1 (.slice AH gs.length cH)) : ((w28_z.setCell ⟨gh,0,none⟩ (.int .i64 gr)).setCell ⟨gh,1,none⟩ (.slice AH gs.length cH)).heap[gh]? = some (.cells #[.int .i64 gr,.slice AH gs.length cH] 31 (0,0)))
 have n13_ := y0.mk ((below_set (below_set HB.out GEh.out) GEh.out) : Below w.heap.size w ((w28_z.setCell ⟨gh,0,none⟩ (.int .i64 gr)).setCell ⟨gh,1,none⟩ (.slice AH gs.length cH)))
 clear OW LW OG LG OH LH BKa BKb BKv BKx BKy BKg BKh HB
 generalize ((w28_z.setCell ⟨gh,0,none⟩ (.int .i64 gr)).setCell ⟨gh,1,none⟩ (.slice AH gs.length cH)) = w29 at n0_ n1_ n2_ n3_ n4_ n5_ n6_ n7_ n8_ n9_ n10_ n11_ n12_ n13_ ⊢
 have OW := n0_
 have LW := n1_
 have OG := n2_
 have LG := n3_
 have OH := n4_
 have LH := n5_
 have BKa := n6_
 have BKb := n7_
 have BKv := n8_
 have BKx := n9_
 have BKy := n10_
 have BKg := n11_
 have BKh := n12_
 have HB := n13_
 clear n0_ n1_ n2_ n3_ n4_ n5_ n6_ n7_ n8_ n9_ n10_ n11_ n12_ n13_
 have hca0 : w29.cell? ⟨ga,0,none⟩ = some (.int .i64 a) := (y8 BKa.out 0).trans rfl
 have hfa0 := y12 BKa.out 0
 have hca1 : w29.cell? ⟨ga,1,none⟩ = some (.slice A0 l0.length c0) := (y8 BKa.out 1).trans rfl
 have hfa1 := y12 BKa.out 1
 have hcb0 : w29.cell? ⟨gb,0,none⟩ = some (.int .i64 b) := (y8 BKb.out 0).trans rfl
 have hfb0 := y12 BKb.out 0
 have hcb1 : w29.cell? ⟨gb,1,none⟩ = some (.slice A1 l1.length c1) := (y8 BKb.out 1).trans rfl
 have hfb1 := y12 BKb.out 1
 have hcv0 : w29.cell? ⟨gv,0,none⟩ = some (.int .i64 gr) := (y8 BKv.out 0).trans rfl
 have hfv0 := y12 BKv.out 0
 have hcv1 : w29.cell? ⟨gv,1,none⟩ = some (.slice AW gs.length cW) := (y8 BKv.out 1).trans rfl
 have hfv1 := y12 BKv.out 1
 have hcx0 : w29.cell? ⟨gx,0,none⟩ = some (.int .i64 ar) := (y8 BKx.out 0).trans rfl
 have hfx0 := y12 BKx.out 0
 have hcx1 : w29.cell? ⟨gx,1,none⟩ = some (.slice AX xs.length cX) := (y8 BKx.out 1).trans rfl
 have hfx1 := y12 BKx.out 1
 have hcy0 : w29.cell? ⟨gy,0,none⟩ = some (.int .i64 br) := (y8 BKy.out 0).trans rfl
 have hfy0 := y12 BKy.out 0
 have hcy1 : w29.cell? ⟨gy,1,none⟩ = some (.slice AY ys.length cY) := (y8 BKy.out 1).trans rfl
 have hfy1 := y12 BKy.out 1
 have hcg0 : w29.cell? ⟨gg,0,none⟩ = some (.int .i64 gr) := (y8 BKg.out 0).trans rfl
 have hfg0 := y12 BKg.out 0
 have hcg1 : w29.cell? ⟨gg,1,none⟩ = some (.slice AG gs.length cG) := (y8 BKg.out 1).trans rfl
 have hfg1 := y12 BKg.out 1
 have hch0 : w29.cell? ⟨gh,0,none⟩ = some (.int .i64 gr) := (y8 BKh.out 0).trans rfl
 have hfh0 := y12 BKh.out 0
 have hch1 : w29.cell? ⟨gh,1,none⟩ = some (.slice AH gs.length cH) := (y8 BKh.out 1).trans rfl
 have hfh1 := y12 BKh.out 1
 go_upto_region 34 with (first
  | (go_at_call 14; (with_reducible refine (laws_eqRel.calls k gr _ _ gs gr _ _ gs true _ OH.out.C OH.out.le OW.out.C OW.out.le F5.out).mono ?_); rintro e w30 ⟨rfl,hb⟩; (try clear hca0); (try clear hca1); (try clear hcb0); (try clear hcb1); (try clear hcv0); (try clear hcv1); (try clear hcx0); (try clear hcx1); (try clear hcy0); (try clear hcy1); (try clear hcg0); (try clear hcg1); (try clear hch0); (try clear hch1); (try clear hfa0); (try clear hfa1); (try clear hfb0); (try clear hfb1); (try clear hfv0); (try clear hfv1); (try clear hfx0); (try clear hfx1); (try clear hfy0); (try clear hfy1); (try clear hfg0); (try clear hfg1); (try clear hfh0); (try clear hfh1); have n0_ := y0.mk (OW.out.below hb); have n1_ := y0.mk (OG.out.below hb); have n2_ := y0.mk (OH.out.below hb); have n3_ := y0.mk (Nat.le_trans LW.out hb.size); have n4_ := y0.mk (Nat.le_trans LG.out hb.size); have n5_ := y0.mk (Nat.le_trans LH.out hb.size); have n6_ := y0.mk (y7 (g := ga) (o := (.cells #[.int .i64 a,.slice A0 l0.length c0] 24 (0,0))) BKa.out hb); have n7_ := y0.mk (y7 (g := gb) (o := (.cells #[.int .i64 b,.slice A1 l1.length c1] 24 (0,0))) BKb.out hb); have n8_ := y0.mk (y7 (g := gv) (o := (.cells #[.int .i64 gr,.slice AW gs.length cW] 31 (0,0))) BKv.out hb); have n9_ := y0.mk (y7 (g := gx) (o := (.cells #[.int .i64 ar,.slice AX xs.length cX] 31 (0,0))) BKx.out hb); have n10_ := y0.mk (y7 (g := gy) (o := (.cells #[.int .i64 br,.slice AY ys.length cY] 31 (0,0))) BKy.out hb); have n11_ := y0.mk (y7 (g := gg) (o := (.cells #[.int .i64 gr,.slice AG gs.length cG] 31 (0,0))) BKg.out hb); have n12_ := y0.mk (y7 (g := gh) (o := (.cells #[.int .i64 gr,.slice AH gs.length cH] 31 (0,0))) BKh.out hb); have n13_ := y0.mk (y5 HB.out hb); clear OW OG OH LW LG LH BKa BKb BKv BKx BKy BKg BKh HB; have OW := n0_; have OG := n1_; have OH := n2_; have LW := n3_; have LG := n4_; have LH := n5_; have BKa := n6_; have BKb := n7_; have BKv := n8_; have BKx := n9_; have BKy := n10_; have BKg := n11_; have BKh := n12_; have HB := n13_; clear n0_ n1_ n2_ n3_ n4_ n5_ n6_ n7_ n8_ n9_ n10_ n11_ n12_ n13_; (try clear hb); have hca0 : w30.cell? ⟨ga,0,none⟩ = some (.int .i64 a) := (y8 BKa.out 0).trans rfl; have hfa0 := y12 BKa.out 0; have hca1 : w30.cell? ⟨ga,1,none⟩ = some (.slice A0 l0.length c0) := (y8 BKa.out 1).trans rfl; have hfa1 := y12 BKa.out 1; have hcb0 : w30.cell? ⟨gb,0,none⟩ = some (.int .i64 b) := (y8 BKb.out 0).trans rfl; have hfb0 := y12 BKb.out 0; have hcb1 : w30.cell? ⟨gb,1,none⟩ = some (.slice A1 l1.length c1) := (y8 BKb.out 1).trans rfl; have hfb1 := y12 BKb.out 1; have hcv0 : w30.cell? ⟨gv,0,none⟩ = some (.int .i64 gr) := (y8 BKv.out 0).trans rfl; have hfv0 := y12 BKv.out 0; have hcv1 : w30.cell? ⟨gv,1,none⟩ = some (.slice AW gs.length cW) := (y8 BKv.out 1).trans rfl; have hfv1 := y12 BKv.out 1; have hcx0 : w30.cell? ⟨gx,0,none⟩ = some (.int .i64 ar) := (y8 BKx.out 0).trans rfl; have hfx0 := y12 BKx.out 0; have hcx1 : w30.cell? ⟨gx,1,none⟩ = some (.slice AX xs.length cX) := (y8 BKx.out 1).trans rfl; have hfx1 := y12 BKx.out 1; have hcy0 : w30.cell? ⟨gy,0,none⟩ = some (.int .i64 br) := (y8 BKy.out 0).trans rfl; have hfy0 := y12 BKy.out 0; have hcy1 : w30.cell? ⟨gy,1,none⟩ = some (.slice AY ys.length cY) := (y8 BKy.out 1).trans rfl; have hfy1 := y12 BKy.out 1; have hcg0 : w30.cell? ⟨gg,0,none⟩ = some (.int .i64 gr) := (y8 BKg.out 0).trans rfl; have hfg0 := y12 BKg.out 0; have hcg1 : w30.cell? ⟨gg,1,none⟩ = some (.slice AG gs.length cG) := (y8 BKg.out 1).trans rfl; have hfg1 := y12 BKg.out 1; have hch0 : w30.cell? ⟨gh,0,none⟩ = some (.int .i64 gr) := (y8 BKh.out 0).trans rfl; have hfh0 := y12 BKh.out 0; have hch1 : w30.cell? ⟨gh,1,none⟩ = some (.slice AH gs.length cH) := (y8 BKh.out 1).trans rfl; have hfh1 := y12 BKh.out 1))
 go_wp2_with (first
  | (go_at_call 22; (with_reducible refine (HELD.out _ _ _ OG.out.C (by have h_ := QIv.OS.len OG.out; have := HGL.out; omega)).mono ?_); rintro e w31 ⟨rfl,hb⟩; (try clear hca0); (try clear hca1); (try clear hcb0); (try clear hcb1); (try clear hcv0); (try clear hcv1); (try clear hcx0); (try clear hcx1); (try clear hcy0); (try clear hcy1); (try clear hcg0); (try clear hcg1); (try clear hch0); (try clear hch1); (try clear hfa0); (try clear hfa1); (try clear hfb0); (try clear hfb1); (try clear hfv0); (try clear hfv1); (try clear hfx0); (try clear hfx1); (try clear hfy0); (try clear hfy1); (try clear hfg0); (try clear hfg1); (try clear hfh0); (try clear hfh1); have n0_ := y0.mk (OW.out.below hb); have n1_ := y0.mk (OG.out.below hb); have n2_ := y0.mk (OH.out.below hb); have n3_ := y0.mk (Nat.le_trans LW.out hb.size); have n4_ := y0.mk (Nat.le_trans LG.out hb.size); have n5_ := y0.mk (Nat.le_trans LH.out hb.size); have n6_ := y0.mk (y7 (g := ga) (o := (.cells #[.int .i64 a,.slice A0 l0.length c0] 24 (0,0))) BKa.out hb); have n7_ := y0.mk (y7 (g := gb) (o := (.cells #[.int .i64 b,.slice A1 l1.length c1] 24 (0,0))) BKb.out hb); have n8_ := y0.mk (y7 (g := gv) (o := (.cells #[.int .i64 gr,.slice AW gs.length cW] 31 (0,0))) BKv.out hb); have n9_ := y0.mk (y7 (g := gx) (o := (.cells #[.int .i64 ar,.slice AX xs.length cX] 31 (0,0))) BKx.out hb); have n10_ := y0.mk (y7 (g := gy) (o := (.cells #[.int .i64 br,.slice AY ys.length cY] 31 (0,0))) BKy.out hb); have n11_ := y0.mk (y7 (g := gg) (o := (.cells #[.int .i64 gr,.slice AG gs.length cG] 31 (0,0))) BKg.out hb); have n12_ := y0.mk (y7 (g := gh) (o := (.cells #[.int .i64 gr,.slice AH gs.length cH] 31 (0,0))) BKh.out hb); have n13_ := y0.mk (y5 HB.out hb); clear OW OG OH LW LG LH BKa BKb BKv BKx BKy BKg BKh HB; have OW := n0_; have OG := n1_; have OH := n2_; have LW := n3_; have LG := n4_; have LH := n5_; have BKa := n6_; have BKb := n7_; have BKv := n8_; have BKx := n9_; have BKy := n10_; have BKg := n11_; have BKh := n12_; have HB := n13_; clear n0_ n1_ n2_ n3_ n4_ n5_ n6_ n7_ n8_ n9_ n10_ n11_ n12_ n13_; (try clear hb); have hca0 : w31.cell? ⟨ga,0,none⟩ = some (.int .i64 a) := (y8 BKa.out 0).trans rfl; have hfa0 := y12 BKa.out 0; have hca1 : w31.cell? ⟨ga,1,none⟩ = some (.slice A0 l0.length c0) := (y8 BKa.out 1).trans rfl; have hfa1 := y12 BKa.out 1; have hcb0 : w31.cell? ⟨gb,0,none⟩ = some (.int .i64 b) := (y8 BKb.out 0).trans rfl; have hfb0 := y12 BKb.out 0; have hcb1 : w31.cell? ⟨gb,1,none⟩ = some (.slice A1 l1.length c1) := (y8 BKb.out 1).trans rfl; have hfb1 := y12 BKb.out 1; have hcv0 : w31.cell? ⟨gv,0,none⟩ = some (.int .i64 gr) := (y8 BKv.out 0).trans rfl; have hfv0 := y12 BKv.out 0; have hcv1 : w31.cell? ⟨gv,1,none⟩ = some (.slice AW gs.length cW) := (y8 BKv.out 1).trans rfl; have hfv1 := y12 BKv.out 1; have hcx0 : w31.cell? ⟨gx,0,none⟩ = some (.int .i64 ar) := (y8 BKx.out 0).trans rfl; have hfx0 := y12 BKx.out 0; have hcx1 : w31.cell? ⟨gx,1,none⟩ = some (.slice AX xs.length cX) := (y8 BKx.out 1).trans rfl; have hfx1 := y12 BKx.out 1; have hcy0 : w31.cell? ⟨gy,0,none⟩ = some (.int .i64 br) := (y8 BKy.out 0).trans rfl; have hfy0 := y12 BKy.out 0; have hcy1 : w31.cell? ⟨gy,1,none⟩ = some (.slice AY ys.length cY) := (y8 BKy.out 1).trans rfl; have hfy1 := y12 BKy.out 1; have hcg0 : w31.cell? ⟨gg,0,none⟩ = some (.int .i64 gr) := (y8 BKg.out 0).trans rfl; have hfg0 := y12 BKg.out 0; have hcg1 : w31.cell? ⟨gg,1,none⟩ = some (.slice AG gs.length cG) := (y8 BKg.out 1).trans rfl; have hfg1 := y12 BKg.out 1; have hch0 : w31.cell? ⟨gh,0,none⟩ = some (.int .i64 gr) := (y8 BKh.out 0).trans rfl; have hfh0 := y12 BKh.out 0; have hch1 : w31.cell? ⟨gh,1,none⟩ = some (.slice AH gs.length cH) := (y8 BKh.out 1).trans rfl; have hfh1 := y12 BKh.out 1))
 go_ret
 exact ⟨by first | rfl | (simp [y13,y14] <;> rfl),HB.out⟩
/-- THE ONE PURE STATEMENT of laws_FnExactRelLess. -/
def laws_FnExactRelLess.Pure : Prop := ∀ (x0 : S24) (x1 : S24),okT24 x0 → okT24 x1 → ∃ k,laws_FnExactRelLess.Run k x0.f0 x0.f1 x1.f0 x1.f1
theorem laws_FnExactRelLess.walk (P : laws_FnExactRelLess.Pure) (x0 : S24) (x1 : S24) (A0_1 : Option Addr) (c0_1 : Nat) (A1_1 : Option Addr) (c1_1 : Nat) (w : World) (hr0_1 : Kd.C k49 w A0_1 x0.f1.length x0.f1) (hc0_1 : x0.f1.length ≤ c0_1) (hr1_1 : Kd.C k49 w A1_1 x1.f1.length x1.f1) (hc1_1 : x1.f1.length ≤ c1_1) (k0 : okT24 x0) (k1 : okT24 x1) (hT : Tb w) :
  Calls Tryz.prog 4 #[.agg #[.int .i64 x0.f0,.slice A0_1 x0.f1.length c0_1],.agg #[.int .i64 x1.f0,.slice A1_1 x1.f1.length c1_1]] w fun e w' => e = .returned (.bool true) ∧ Below w.heap.size w w' := by
 obtain ⟨k,h⟩ := P x0 x1 k0 k1
 refine (laws_FnExactRelLess.calls k x0.f0 A0_1 c0_1 x0.f1 x1.f0 A1_1 c1_1 x1.f1 w hr0_1 hc0_1 hr1_1 hc1_1 hT h).mono ?_
 rintro e w' ⟨rfl,hd⟩
 exact ⟨rfl,hd⟩
end Go.Proofs.YtocmfolajckaeaaGreatDoor.Pe

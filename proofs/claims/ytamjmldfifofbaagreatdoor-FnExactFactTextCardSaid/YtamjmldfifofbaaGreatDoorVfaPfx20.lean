-- Cut by prune.py, a program of this session, out of the texts of this claim: Lean checks it.
import Derived.Test.YtamjmldfifofbaaGreatDoorVfaPfx0
import Derived.Test.YtamjmldfifofbaaGreatDoorVfaPfx5
import Derived.Test.YtamjmldfifofbaaGreatDoorVfaPfx9
import Derived.Test.YtamjmldfifofbaaGreatDoorVfaPfx11
import Derived.Test.YtamjmldfifofbaaGreatDoorVfaPfx15
namespace Go.Proofs.YtamjmldfifofbaaGreatDoor.Pf
open Go.RowKit Go.Proofs.YtamjmldfifofbaaGreatDoorW.PrintWords Go.Proofs.YtamjmldfifofbaaGreatDoorW.PrintLast Go.Proofs.YtamjmldfifofbaaGreatDoorW.PrintMore
attribute [local go_sem] max2_int min2_int max_two min_two max_three min_three max_four min_four   -- for this text's walks alone
set_option linter.unusedVariables false
set_option linter.unusedSimpArgs false
def laws_FnExactFactText.f (k : Nat) (l0_0 : List (S63)) (l0_1 : List (S65)) (l0_2 : List (S73)) (a1 : Int) (l2_0 : List ByteArray) : Option (Bool) := (laws_szProg.f k l0_0 l0_1 l0_2 1048576).bind fun t425 => (if t425 < 0 then (some true) else ((laws_szTuple.f k l2_0 t425).bind fun t426 => (if t426 < 0 then (some true) else ((laws_toProg.f k l0_0 l0_1 l0_2).bind fun bt427 => ((laws_toTuple.f k l2_0).bind fun t436 => ((spec_FactText.f k bt427.1 bt427.2.1 bt427.2.2 a1 t436).bind fun t439 => ((laws_toProg.f k l0_0 l0_1 l0_2).bind fun bt440 => ((laws_toTuple.f k l2_0).bind fun t450 => ((impl_FactText.f k bt440.1 bt440.2.1 bt440.2.2 a1 t450).bind fun t454 => (if t454.toList = t439.toList then ((laws_toProg.f k l0_0 l0_1 l0_2).bind fun bt455 => ((laws_eqProg.f k bt440.1 bt440.2.1 bt440.2.2 bt455.1 bt455.2.1 bt455.2.2).bind fun t464 => (if t464 = true then ((laws_toTuple.f k l2_0).bind fun t465 => ((laws_eqTuple.f k t450 t465).bind fun t468 => (if t468 = true then (some true) else (some false)))) else (some false)))) else (some false)))))))))))
set_option maxHeartbeats 8000000 in
set_option maxRecDepth 100000 in
theorem laws_FnExactFactText.calls (k : Nat) (A0_0 : Option Addr) (c0_0 : Nat) (l0_0 : List (S63)) (A0_1 : Option Addr) (c0_1 : Nat) (l0_1 : List (S65)) (A0_2 : Option Addr) (c0_2 : Nat) (l0_2 : List (S73)) (a1 : Int) (A2_0 : Option Addr) (c2_0 : Nat) (l2_0 : List ByteArray) (r : Bool) (w : World) (hr0_0 : Kd.C k63 w A0_0 l0_0.length l0_0) (hc0_0 : l0_0.length ≤ c0_0) (hr0_1 : Kd.C k65 w A0_1 l0_1.length l0_1) (hc0_1 : l0_1.length ≤ c0_1) (hr0_2 : Kd.C k73 w A0_2 l0_2.length l0_2) (hc0_2 : l0_2.length ≤ c0_2) (hr2_0 : Kd.C Kd.string w A2_0 l2_0.length l2_0) (hc2_0 : l2_0.length ≤ c2_0) (hT : Tb w) (h : laws_FnExactFactText.f k l0_0 l0_1 l0_2 a1 l2_0 = some r) (htrue_ : r = true) :
  Calls Tryz.prog 3 #[.agg #[.slice A0_0 l0_0.length c0_0,.slice A0_1 l0_1.length c0_1,.slice A0_2 l0_2.length c0_2],.int .i64 a1,.agg #[.slice A2_0 l2_0.length c2_0]] w fun e w' => e = .returned (.bool r) ∧ Below w.heap.size w w' := by
 have hu26 := Tryz.underlying26
 have hu29 := Tryz.underlying29
 have hu37 := Tryz.underlying37
 have hu39 := Tryz.underlying39
 have HT := y0.mk hT
 clear hT
 have HR0_0 := y0.mk hr0_0
 have HC0_0 := y0.mk hc0_0
 clear hr0_0 hc0_0
 have HR0_1 := y0.mk hr0_1
 have HC0_1 := y0.mk hc0_1
 clear hr0_1 hc0_1
 have HR0_2 := y0.mk hr0_2
 have HC0_2 := y0.mk hc0_2
 clear hr0_2 hc0_2
 have HR2_0 := y0.mk hr2_0
 have HC2_0 := y0.mk hc2_0
 clear hr2_0 hc2_0
 have HB := y0.mk (Below.refl w.heap.size w)
 have H : ((laws_szProg.f k l0_0 l0_1 l0_2 1048576).bind fun t425 => (if t425 < 0 then (some true) else ((laws_szTuple.f k l2_0 t425).bind fun t426 => (if t426 < 0 then (some true) else ((laws_toProg.f k l0_0 l0_1 l0_2).bind fun bt427 => ((laws_toTuple.f k l2_0).bind fun t436 => ((spec_FactText.f k bt427.1 bt427.2.1 bt427.2.2 a1 t436).bind fun t439 => ((laws_toProg.f k l0_0 l0_1 l0_2).bind fun bt440 => ((laws_toTuple.f k l2_0).bind fun t450 => ((impl_FactText.f k bt440.1 bt440.2.1 bt440.2.2 a1 t450).bind fun t454 => (if t454.toList = t439.toList then ((laws_toProg.f k l0_0 l0_1 l0_2).bind fun bt455 => ((laws_eqProg.f k bt440.1 bt440.2.1 bt440.2.2 bt455.1 bt455.2.1 bt455.2.2).bind fun t464 => (if t464 = true then ((laws_toTuple.f k l2_0).bind fun t465 => ((laws_eqTuple.f k t450 t465).bind fun t468 => (if t468 = true then (some true) else (some false)))) else (some false)))) else (some false)))))))))))) = some r := h
 clear h
 replace H := Option.bind_eq_some_iff.mp H
 obtain ⟨t425,A40,H⟩ := H
 replace H : (if t425 < 0 then (some true) else ((laws_szTuple.f k l2_0 t425).bind fun t426 => (if t426 < 0 then (some true) else ((laws_toProg.f k l0_0 l0_1 l0_2).bind fun bt427 => ((laws_toTuple.f k l2_0).bind fun t436 => ((spec_FactText.f k bt427.1 bt427.2.1 bt427.2.2 a1 t436).bind fun t439 => ((laws_toProg.f k l0_0 l0_1 l0_2).bind fun bt440 => ((laws_toTuple.f k l2_0).bind fun t450 => ((impl_FactText.f k bt440.1 bt440.2.1 bt440.2.2 a1 t450).bind fun t454 => (if t454.toList = t439.toList then ((laws_toProg.f k l0_0 l0_1 l0_2).bind fun bt455 => ((laws_eqProg.f k bt440.1 bt440.2.1 bt440.2.2 bt455.1 bt455.2.1 bt455.2.2).bind fun t464 => (if t464 = true then ((laws_toTuple.f k l2_0).bind fun t465 => ((laws_eqTuple.f k t450 t465).bind fun t468 => (if t468 = true then (some true) else (some false)))) else (some false)))) else (some false))))))))))) = some r := H
 have A4 := y0.mk A40
 clear A40
 by_cases c5 : t425 < 0
 ·as_aux_lemma =>
  rw [if_pos c5] at H
  have c5b0 : decide (t425 < 0) = true := decide_eq_true c5
  clear c5
  obtain rfl := Option.some.inj H
  go_enter Tryz.func3,Tryz.ntmps3
  go_wp2_with (first | ((with_reducible refine y19 (N := 3) rfl ?_); refine y15 ?hg (N := 3) ?hd (cs := #[.slice A0_0 l0_0.length c0_0,.slice A0_1 l0_1.length c0_1,.slice A0_2 l0_2.length c0_2]) (t := 26) ?hr ?_; (case hd => rfl); (case hg => rfl); (case hr => first | (go_simp; done) | (go_simp; rfl)); intro gb423 hg w6 hbox hb; have n0_ := y0.mk (y7 (by repeat (first | (with_reducible first | exact HB.out | apply y3 | apply y23 | apply y4) | exact HB.out)) hb); have n1_ := y0.mk (hbox); have n2_ := y0.mk ((by rw [hg]; exact (y6 (by repeat (first | (with_reducible first | exact HB.out | apply y3 | apply y23 | apply y4) | exact HB.out))) : w.heap.size ≤ gb423)); have n3_ := y0.mk ((by rw [hg]; exact (y6 (by repeat (first | (with_reducible first | exact HB.out | apply y3 | apply y23 | apply y4) | exact HB.out))) : w.heap.size ≤ gb423)); clear HB; have HB := n0_; have BK423 := n1_; have GW423 := n2_; have GE423 := n3_; clear n0_ n1_ n2_ n3_; clear hb hbox hg) | ((with_reducible refine y19 (N := 5) rfl ?_); refine y15 ?hg (N := 5) ?hd (cs := #[.slice A2_0 l2_0.length c2_0]) (t := 29) ?hr ?_; (case hd => rfl); (case hg => rfl); (case hr => first | (go_simp; done) | (go_simp; rfl)); intro gb424 hg w7 hbox hb; have n0_ := y0.mk (y9 (g := gb423) (o := .cells #[.slice A0_0 l0_0.length c0_0,.slice A0_1 l0_1.length c0_1,.slice A0_2 l0_2.length c0_2] 26 (0,0)) (by (with_reducible repeat (first | refine y12 ?_ _ | refine y11 ?_ | refine y8 ?_ _)); exact BK423.out) hb); have n1_ := y0.mk (y7 (by repeat (first | (with_reducible first | exact HB.out | apply y3 | apply y23 | apply y4 | refine y5 ?_ GE423.out) | exact HB.out)) hb); have n2_ := y0.mk (hbox); have n3_ := y0.mk ((by rw [hg]; exact (y6 (by repeat (first | (with_reducible first | exact HB.out | apply y3 | apply y23 | apply y4 | refine y5 ?_ GE423.out) | exact HB.out))) : w.heap.size ≤ gb424)); have n4_ := y0.mk ((by rw [hg]; exact (y6 (by repeat (first | (with_reducible first | exact HB.out | apply y3 | apply y23 | apply y4 | refine y5 ?_ GE423.out) | exact HB.out))) : w.heap.size ≤ gb424)); have n5_ := y0.mk ((by rw [hg]; exact Nat.ne_of_lt (y14 (g := gb423) (o := .cells #[.slice A0_0 l0_0.length c0_0,.slice A0_1 l0_1.length c0_1,.slice A0_2 l0_2.length c0_2] 26 (0,0)) (by (with_reducible repeat (first | refine y12 ?_ _ | refine y11 ?_ | refine y8 ?_ _)); exact BK423.out)) : gb423 ≠ gb424)); have n6_ := y0.mk ((by rw [hg]; exact Nat.ne_of_gt (y14 (g := gb423) (o := .cells #[.slice A0_0 l0_0.length c0_0,.slice A0_1 l0_1.length c0_1,.slice A0_2 l0_2.length c0_2] 26 (0,0)) (by (with_reducible repeat (first | refine y12 ?_ _ | refine y11 ?_ | refine y8 ?_ _)); exact BK423.out)) : gb424 ≠ gb423)); clear BK423; clear HB; have BK423 := n0_; have HB := n1_; have BK424 := n2_; have GW424 := n3_; have GE424 := n4_; have NB423_424 := n5_; have NB424_423 := n6_; clear n0_ n1_ n2_ n3_ n4_ n5_ n6_; clear hb hbox hg; have hnb8 := NB423_424.out; have hnc8 := NB424_423.out; have hcz9_0 : w7.cell? ⟨gb423,0,none⟩ = some (.slice A0_0 l0_0.length c0_0) := (y10 BK423.out 0).trans rfl; have hcz9_1 : w7.cell? ⟨gb423,1,none⟩ = some (.slice A0_1 l0_1.length c0_1) := (y10 BK423.out 1).trans rfl; have hcz9_2 : w7.cell? ⟨gb423,2,none⟩ = some (.slice A0_2 l0_2.length c0_2) := (y10 BK423.out 2).trans rfl; have hfz9_0 := y13 BK423.out 0; have hfz9_1 := y13 BK423.out 1; have hfz9_2 := y13 BK423.out 2) | ((with_reducible refine y18 (f := 4) rfl ?_); refine y20 (some 14) rfl rfl Tryz.func4 (by kernel_rfl) rfl #[.agg #[.slice A0_0 l0_0.length c0_0,.slice A0_1 l0_1.length c0_1,.slice A0_2 l0_2.length c0_2],.int .i64 1048576] rfl (by (try simp only [qM_,List.map_cons,List.map_nil]); first | done | rfl | (simp only [qD_,qT_]; rfl)) ?_; (with_reducible refine (laws_szProg.calls k _ _ l0_0 _ _ l0_1 _ _ l0_2 1048576 t425 _ ?side1 ?side2 ?side3 ?side4 ?side5 ?side6 A4.out).mono ?_); (case side1 => repeat (first | exact (Kd.C_below HR0_0.out HB.out) | (with_reducible refine Kd.C_alloc ?_ _) | (with_reducible refine Kd.C_drewN ?_ _) | (with_reducible refine Kd.C_drew ?_))); (case side2 => exact HC0_0.out); (case side3 => repeat (first | exact (Kd.C_below HR0_1.out HB.out) | (with_reducible refine Kd.C_alloc ?_ _) | (with_reducible refine Kd.C_drewN ?_ _) | (with_reducible refine Kd.C_drew ?_))); (case side4 => exact HC0_1.out); (case side5 => repeat (first | exact (Kd.C_below HR0_2.out HB.out) | (with_reducible refine Kd.C_alloc ?_ _) | (with_reducible refine Kd.C_drewN ?_ _) | (with_reducible refine Kd.C_drew ?_))); (case side6 => exact HC0_2.out); rintro e w10 ⟨rfl,hb⟩; refine ⟨_,rfl, ?_⟩; have n0_ := y0.mk (y9 (g := gb423) (o := .cells #[.slice A0_0 l0_0.length c0_0,.slice A0_1 l0_1.length c0_1,.slice A0_2 l0_2.length c0_2] 26 (0,0)) (by (with_reducible repeat (first | refine y12 ?_ _ | refine y11 ?_ | refine y8 ?_ _)); exact BK423.out) hb); have n1_ := y0.mk (y9 (g := gb424) (o := .cells #[.slice A2_0 l2_0.length c2_0] 29 (0,0)) (by (with_reducible repeat (first | refine y12 ?_ _ | refine y11 ?_ | refine y8 ?_ _)); exact BK424.out) hb); have n2_ := y0.mk (y7 (by repeat (first | (with_reducible first | exact HB.out | apply y3 | apply y23 | apply y4 | refine y5 ?_ GE423.out | refine y5 ?_ GE424.out) | exact HB.out)) hb); clear BK423; clear BK424; clear HB; have BK423 := n0_; have BK424 := n1_; have HB := n2_; clear n0_ n1_ n2_; (try clear hb); (try clear hb2); (try clear hk); (try clear hi)))
  go_ret
  exact ⟨by first | rfl | (simp [y16,y17] <;> rfl) | (simp [*,y16,y17] <;> rfl),by repeat (first | (with_reducible first | exact HB.out | apply y3 | apply y23 | apply y4 | refine y5 ?_ GE423.out | refine y5 ?_ GE424.out) | exact HB.out)⟩
 ·as_aux_lemma =>
  rw [if_neg c5] at H
  have c5b0 : decide (t425 < 0) = false := decide_eq_false c5
  clear c5
  replace H := Option.bind_eq_some_iff.mp H
  obtain ⟨t426,A110,H⟩ := H
  replace H : (if t426 < 0 then (some true) else ((laws_toProg.f k l0_0 l0_1 l0_2).bind fun bt427 => ((laws_toTuple.f k l2_0).bind fun t436 => ((spec_FactText.f k bt427.1 bt427.2.1 bt427.2.2 a1 t436).bind fun t439 => ((laws_toProg.f k l0_0 l0_1 l0_2).bind fun bt440 => ((laws_toTuple.f k l2_0).bind fun t450 => ((impl_FactText.f k bt440.1 bt440.2.1 bt440.2.2 a1 t450).bind fun t454 => (if t454.toList = t439.toList then ((laws_toProg.f k l0_0 l0_1 l0_2).bind fun bt455 => ((laws_eqProg.f k bt440.1 bt440.2.1 bt440.2.2 bt455.1 bt455.2.1 bt455.2.2).bind fun t464 => (if t464 = true then ((laws_toTuple.f k l2_0).bind fun t465 => ((laws_eqTuple.f k t450 t465).bind fun t468 => (if t468 = true then (some true) else (some false)))) else (some false)))) else (some false))))))))) = some r := H
  have A11 := y0.mk A110
  clear A110
  by_cases c12 : t426 < 0
  ·as_aux_lemma =>
   rw [if_pos c12] at H
   have c12b0 : decide (t426 < 0) = true := decide_eq_true c12
   clear c12
   obtain rfl := Option.some.inj H
   go_enter Tryz.func3,Tryz.ntmps3
   go_wp2_with (first | ((with_reducible refine y19 (N := 3) rfl ?_); refine y15 ?hg (N := 3) ?hd (cs := #[.slice A0_0 l0_0.length c0_0,.slice A0_1 l0_1.length c0_1,.slice A0_2 l0_2.length c0_2]) (t := 26) ?hr ?_; (case hd => rfl); (case hg => rfl); (case hr => first | (go_simp; done) | (go_simp; rfl)); intro gb423 hg w13 hbox hb; have n0_ := y0.mk (y7 (by repeat (first | (with_reducible first | exact HB.out | apply y3 | apply y23 | apply y4) | exact HB.out)) hb); have n1_ := y0.mk (hbox); have n2_ := y0.mk ((by rw [hg]; exact (y6 (by repeat (first | (with_reducible first | exact HB.out | apply y3 | apply y23 | apply y4) | exact HB.out))) : w.heap.size ≤ gb423)); have n3_ := y0.mk ((by rw [hg]; exact (y6 (by repeat (first | (with_reducible first | exact HB.out | apply y3 | apply y23 | apply y4) | exact HB.out))) : w.heap.size ≤ gb423)); clear HB; have HB := n0_; have BK423 := n1_; have GW423 := n2_; have GE423 := n3_; clear n0_ n1_ n2_ n3_; clear hb hbox hg) | ((with_reducible refine y19 (N := 5) rfl ?_); refine y15 ?hg (N := 5) ?hd (cs := #[.slice A2_0 l2_0.length c2_0]) (t := 29) ?hr ?_; (case hd => rfl); (case hg => rfl); (case hr => first | (go_simp; done) | (go_simp; rfl)); intro gb424 hg w14 hbox hb; have n0_ := y0.mk (y9 (g := gb423) (o := .cells #[.slice A0_0 l0_0.length c0_0,.slice A0_1 l0_1.length c0_1,.slice A0_2 l0_2.length c0_2] 26 (0,0)) (by (with_reducible repeat (first | refine y12 ?_ _ | refine y11 ?_ | refine y8 ?_ _)); exact BK423.out) hb); have n1_ := y0.mk (y7 (by repeat (first | (with_reducible first | exact HB.out | apply y3 | apply y23 | apply y4 | refine y5 ?_ GE423.out) | exact HB.out)) hb); have n2_ := y0.mk (hbox); have n3_ := y0.mk ((by rw [hg]; exact (y6 (by repeat (first | (with_reducible first | exact HB.out | apply y3 | apply y23 | apply y4 | refine y5 ?_ GE423.out) | exact HB.out))) : w.heap.size ≤ gb424)); have n4_ := y0.mk ((by rw [hg]; exact (y6 (by repeat (first | (with_reducible first | exact HB.out | apply y3 | apply y23 | apply y4 | refine y5 ?_ GE423.out) | exact HB.out))) : w.heap.size ≤ gb424)); have n5_ := y0.mk ((by rw [hg]; exact Nat.ne_of_lt (y14 (g := gb423) (o := .cells #[.slice A0_0 l0_0.length c0_0,.slice A0_1 l0_1.length c0_1,.slice A0_2 l0_2.length c0_2] 26 (0,0)) (by (with_reducible repeat (first | refine y12 ?_ _ | refine y11 ?_ | refine y8 ?_ _)); exact BK423.out)) : gb423 ≠ gb424)); have n6_ := y0.mk ((by rw [hg]; exact Nat.ne_of_gt (y14 (g := gb423) (o := .cells #[.slice A0_0 l0_0.length c0_0,.slice A0_1 l0_1.length c0_1,.slice A0_2 l0_2.length c0_2] 26 (0,0)) (by (with_reducible repeat (first | refine y12 ?_ _ | refine y11 ?_ | refine y8 ?_ _)); exact BK423.out)) : gb424 ≠ gb423)); clear BK423; clear HB; have BK423 := n0_; have HB := n1_; have BK424 := n2_; have GW424 := n3_; have GE424 := n4_; have NB423_424 := n5_; have NB424_423 := n6_; clear n0_ n1_ n2_ n3_ n4_ n5_ n6_; clear hb hbox hg; have hnb15 := NB423_424.out; have hnc15 := NB424_423.out; have hcz16_0 : w14.cell? ⟨gb423,0,none⟩ = some (.slice A0_0 l0_0.length c0_0) := (y10 BK423.out 0).trans rfl; have hcz16_1 : w14.cell? ⟨gb423,1,none⟩ = some (.slice A0_1 l0_1.length c0_1) := (y10 BK423.out 1).trans rfl; have hcz16_2 : w14.cell? ⟨gb423,2,none⟩ = some (.slice A0_2 l0_2.length c0_2) := (y10 BK423.out 2).trans rfl; have hfz16_0 := y13 BK423.out 0; have hfz16_1 := y13 BK423.out 1; have hfz16_2 := y13 BK423.out 2) | ((with_reducible refine y18 (f := 4) rfl ?_); refine y20 (some 14) rfl rfl Tryz.func4 (by kernel_rfl) rfl #[.agg #[.slice A0_0 l0_0.length c0_0,.slice A0_1 l0_1.length c0_1,.slice A0_2 l0_2.length c0_2],.int .i64 1048576] rfl (by (try simp only [qM_,List.map_cons,List.map_nil]); first | done | rfl | (simp only [qD_,qT_]; rfl)) ?_; (with_reducible refine (laws_szProg.calls k _ _ l0_0 _ _ l0_1 _ _ l0_2 1048576 t425 _ ?side1 ?side2 ?side3 ?side4 ?side5 ?side6 A4.out).mono ?_); (case side1 => repeat (first | exact (Kd.C_below HR0_0.out HB.out) | (with_reducible refine Kd.C_alloc ?_ _) | (with_reducible refine Kd.C_drewN ?_ _) | (with_reducible refine Kd.C_drew ?_))); (case side2 => exact HC0_0.out); (case side3 => repeat (first | exact (Kd.C_below HR0_1.out HB.out) | (with_reducible refine Kd.C_alloc ?_ _) | (with_reducible refine Kd.C_drewN ?_ _) | (with_reducible refine Kd.C_drew ?_))); (case side4 => exact HC0_1.out); (case side5 => repeat (first | exact (Kd.C_below HR0_2.out HB.out) | (with_reducible refine Kd.C_alloc ?_ _) | (with_reducible refine Kd.C_drewN ?_ _) | (with_reducible refine Kd.C_drew ?_))); (case side6 => exact HC0_2.out); rintro e w17 ⟨rfl,hb⟩; refine ⟨_,rfl, ?_⟩; have n0_ := y0.mk (y9 (g := gb423) (o := .cells #[.slice A0_0 l0_0.length c0_0,.slice A0_1 l0_1.length c0_1,.slice A0_2 l0_2.length c0_2] 26 (0,0)) (by (with_reducible repeat (first | refine y12 ?_ _ | refine y11 ?_ | refine y8 ?_ _)); exact BK423.out) hb); have n1_ := y0.mk (y9 (g := gb424) (o := .cells #[.slice A2_0 l2_0.length c2_0] 29 (0,0)) (by (with_reducible repeat (first | refine y12 ?_ _ | refine y11 ?_ | refine y8 ?_ _)); exact BK424.out) hb); have n2_ := y0.mk (y7 (by repeat (first | (with_reducible first | exact HB.out | apply y3 | apply y23 | apply y4 | refine y5 ?_ GE423.out | refine y5 ?_ GE424.out) | exact HB.out)) hb); clear BK423; clear BK424; clear HB; have BK423 := n0_; have BK424 := n1_; have HB := n2_; clear n0_ n1_ n2_; (try clear hb); (try clear hb2); (try clear hk); (try clear hi); have hcz18_0 : w17.cell? ⟨gb424,0,none⟩ = some (.slice A2_0 l2_0.length c2_0) := (y10 BK424.out 0).trans rfl; have hfz18_0 := y13 BK424.out 0) | ((with_reducible refine y18 (f := 5) rfl ?_); refine y20 (some 19) rfl rfl Tryz.func5 (by kernel_rfl) rfl #[.agg #[.slice A2_0 l2_0.length c2_0],.int .i64 t425] rfl (by (try simp only [qM_,List.map_cons,List.map_nil]); first | done | rfl | (simp only [qD_,qT_]; rfl)) ?_; (with_reducible refine (laws_szTuple.calls k _ _ l2_0 t425 t426 _ ?side1 ?side2 A11.out).mono ?_); (case side1 => repeat (first | exact (Kd.C_below HR2_0.out HB.out) | (with_reducible refine Kd.C_alloc ?_ _) | (with_reducible refine Kd.C_drewN ?_ _) | (with_reducible refine Kd.C_drew ?_))); (case side2 => exact HC2_0.out); rintro e w19 ⟨rfl,hb⟩; refine ⟨_,rfl, ?_⟩; have n0_ := y0.mk (y9 (g := gb423) (o := .cells #[.slice A0_0 l0_0.length c0_0,.slice A0_1 l0_1.length c0_1,.slice A0_2 l0_2.length c0_2] 26 (0,0)) (by (with_reducible repeat (first | refine y12 ?_ _ | refine y11 ?_ | refine y8 ?_ _)); exact BK423.out) hb); have n1_ := y0.mk (y9 (g := gb424) (o := .cells #[.slice A2_0 l2_0.length c2_0] 29 (0,0)) (by (with_reducible repeat (first | refine y12 ?_ _ | refine y11 ?_ | refine y8 ?_ _)); exact BK424.out) hb); have n2_ := y0.mk (y7 (by repeat (first | (with_reducible first | exact HB.out | apply y3 | apply y23 | apply y4 | refine y5 ?_ GE423.out | refine y5 ?_ GE424.out) | exact HB.out)) hb); clear BK423; clear BK424; clear HB; have BK423 := n0_; have BK424 := n1_; have HB := n2_; clear n0_ n1_ n2_; (try clear hb); (try clear hb2); (try clear hk); (try clear hi)))
   go_ret
   exact ⟨by first | rfl | (simp [y16,y17] <;> rfl) | (simp [*,y16,y17] <;> rfl),by repeat (first | (with_reducible first | exact HB.out | apply y3 | apply y23 | apply y4 | refine y5 ?_ GE423.out | refine y5 ?_ GE424.out) | exact HB.out)⟩
  ·as_aux_lemma =>
   rw [if_neg c12] at H
   have c12b0 : decide (t426 < 0) = false := decide_eq_false c12
   clear c12
   replace H := Option.bind_eq_some_iff.mp H
   obtain ⟨⟨t427,t430,t433⟩,A200,H⟩ := H
   replace H : ((laws_toTuple.f k l2_0).bind fun t436 => ((spec_FactText.f k t427 t430 t433 a1 t436).bind fun t439 => ((laws_toProg.f k l0_0 l0_1 l0_2).bind fun bt440 => ((laws_toTuple.f k l2_0).bind fun t450 => ((impl_FactText.f k bt440.1 bt440.2.1 bt440.2.2 a1 t450).bind fun t454 => (if t454.toList = t439.toList then ((laws_toProg.f k l0_0 l0_1 l0_2).bind fun bt455 => ((laws_eqProg.f k bt440.1 bt440.2.1 bt440.2.2 bt455.1 bt455.2.1 bt455.2.2).bind fun t464 => (if t464 = true then ((laws_toTuple.f k l2_0).bind fun t465 => ((laws_eqTuple.f k t450 t465).bind fun t468 => (if t468 = true then (some true) else (some false)))) else (some false)))) else (some false))))))) = some r := H
   have A20 := y0.mk A200
   clear A200
   replace H := Option.bind_eq_some_iff.mp H
   obtain ⟨t436,A210,H⟩ := H
   replace H : ((spec_FactText.f k t427 t430 t433 a1 t436).bind fun t439 => ((laws_toProg.f k l0_0 l0_1 l0_2).bind fun bt440 => ((laws_toTuple.f k l2_0).bind fun t450 => ((impl_FactText.f k bt440.1 bt440.2.1 bt440.2.2 a1 t450).bind fun t454 => (if t454.toList = t439.toList then ((laws_toProg.f k l0_0 l0_1 l0_2).bind fun bt455 => ((laws_eqProg.f k bt440.1 bt440.2.1 bt440.2.2 bt455.1 bt455.2.1 bt455.2.2).bind fun t464 => (if t464 = true then ((laws_toTuple.f k l2_0).bind fun t465 => ((laws_eqTuple.f k t450 t465).bind fun t468 => (if t468 = true then (some true) else (some false)))) else (some false)))) else (some false)))))) = some r := H
   have A21 := y0.mk A210
   clear A210
   replace H := Option.bind_eq_some_iff.mp H
   obtain ⟨t439,A220,H⟩ := H
   replace H : ((laws_toProg.f k l0_0 l0_1 l0_2).bind fun bt440 => ((laws_toTuple.f k l2_0).bind fun t450 => ((impl_FactText.f k bt440.1 bt440.2.1 bt440.2.2 a1 t450).bind fun t454 => (if t454.toList = t439.toList then ((laws_toProg.f k l0_0 l0_1 l0_2).bind fun bt455 => ((laws_eqProg.f k bt440.1 bt440.2.1 bt440.2.2 bt455.1 bt455.2.1 bt455.2.2).bind fun t464 => (if t464 = true then ((laws_toTuple.f k l2_0).bind fun t465 => ((laws_eqTuple.f k t450 t465).bind fun t468 => (if t468 = true then (some true) else (some false)))) else (some false)))) else (some false))))) = some r := H
   have A22 := y0.mk A220
   clear A220
   replace H := Option.bind_eq_some_iff.mp H
   obtain ⟨⟨t440,t443,t446⟩,A230,H⟩ := H
   replace H : ((laws_toTuple.f k l2_0).bind fun t450 => ((impl_FactText.f k t440 t443 t446 a1 t450).bind fun t454 => (if t454.toList = t439.toList then ((laws_toProg.f k l0_0 l0_1 l0_2).bind fun bt455 => ((laws_eqProg.f k t440 t443 t446 bt455.1 bt455.2.1 bt455.2.2).bind fun t464 => (if t464 = true then ((laws_toTuple.f k l2_0).bind fun t465 => ((laws_eqTuple.f k t450 t465).bind fun t468 => (if t468 = true then (some true) else (some false)))) else (some false)))) else (some false)))) = some r := H
   have A23 := y0.mk A230
   clear A230
   replace H := Option.bind_eq_some_iff.mp H
   obtain ⟨t450,A240,H⟩ := H
   replace H : ((impl_FactText.f k t440 t443 t446 a1 t450).bind fun t454 => (if t454.toList = t439.toList then ((laws_toProg.f k l0_0 l0_1 l0_2).bind fun bt455 => ((laws_eqProg.f k t440 t443 t446 bt455.1 bt455.2.1 bt455.2.2).bind fun t464 => (if t464 = true then ((laws_toTuple.f k l2_0).bind fun t465 => ((laws_eqTuple.f k t450 t465).bind fun t468 => (if t468 = true then (some true) else (some false)))) else (some false)))) else (some false))) = some r := H
   have A24 := y0.mk A240
   clear A240
   replace H := Option.bind_eq_some_iff.mp H
   obtain ⟨t454,A250,H⟩ := H
   replace H : (if t454.toList = t439.toList then ((laws_toProg.f k l0_0 l0_1 l0_2).bind fun bt455 => ((laws_eqProg.f k t440 t443 t446 bt455.1 bt455.2.1 bt455.2.2).bind fun t464 => (if t464 = true then ((laws_toTuple.f k l2_0).bind fun t465 => ((laws_eqTuple.f k t450 t465).bind fun t468 => (if t468 = true then (some true) else (some false)))) else (some false)))) else (some false)) = some r := H
   have A25 := y0.mk A250
   clear A250
   by_cases c26 : t454.toList = t439.toList
   ·as_aux_lemma =>
    rw [if_pos c26] at H
    have c26b0 : (t454.toList == t439.toList) = true := beq_iff_eq.mpr c26
    have c26b1 : (t454.toList != t439.toList) = false := bne_eq_false_iff_eq.mpr c26
    clear c26
    replace H := Option.bind_eq_some_iff.mp H
    obtain ⟨⟨t455,t458,t461⟩,A270,H⟩ := H
    replace H : ((laws_eqProg.f k t440 t443 t446 t455 t458 t461).bind fun t464 => (if t464 = true then ((laws_toTuple.f k l2_0).bind fun t465 => ((laws_eqTuple.f k t450 t465).bind fun t468 => (if t468 = true then (some true) else (some false)))) else (some false))) = some r := H
    have A27 := y0.mk A270
    clear A270
    replace H := Option.bind_eq_some_iff.mp H
    obtain ⟨t464,A280,H⟩ := H
    replace H : (if t464 = true then ((laws_toTuple.f k l2_0).bind fun t465 => ((laws_eqTuple.f k t450 t465).bind fun t468 => (if t468 = true then (some true) else (some false)))) else (some false)) = some r := H
    have A28 := y0.mk A280
    clear A280
    by_cases c29 : t464 = true
    ·subst c29
     have H1 : ((laws_toTuple.f k l2_0).bind fun t465 => ((laws_eqTuple.f k t450 t465).bind fun t468 => (if t468 = true then (some true) else (some false)))) = some r := by rw [if_pos rfl] at H; exact H
     clear H
     have H := H1
     clear H1
     replace H := Option.bind_eq_some_iff.mp H
     obtain ⟨t465,A300,H⟩ := H
     replace H : ((laws_eqTuple.f k t450 t465).bind fun t468 => (if t468 = true then (some true) else (some false))) = some r := H
     have A30 := y0.mk A300
     clear A300
     replace H := Option.bind_eq_some_iff.mp H
     obtain ⟨t468,A310,H⟩ := H
     replace H : (if t468 = true then (some true) else (some false)) = some r := H
     have A31 := y0.mk A310
     clear A310
     by_cases c32 : t468 = true
     ·subst c32
      have H1 : (some true) = some r := by rw [if_pos rfl] at H; exact H
      clear H
      have H := H1
      clear H1
      obtain rfl := Option.some.inj H
      go_enter Tryz.func3,Tryz.ntmps3
      try go_wp2_with (first | ((with_reducible refine y19 (N := 3) rfl ?_); refine y15 ?hg (N := 3) ?hd (cs := #[.slice A0_0 l0_0.length c0_0,.slice A0_1 l0_1.length c0_1,.slice A0_2 l0_2.length c0_2]) (t := 26) ?hr ?_; (case hd => rfl); (case hg => rfl); (case hr => first | (go_simp; done) | (go_simp; rfl)); intro gb423 hg w33 hbox hb; have n0_ := y0.mk (y7 (by repeat (first | (with_reducible first | exact HB.out | apply y3 | apply y23 | apply y4) | exact HB.out)) hb); have n1_ := y0.mk (hbox); have n2_ := y0.mk ((by rw [hg]; exact (y6 (by repeat (first | (with_reducible first | exact HB.out | apply y3 | apply y23 | apply y4) | exact HB.out))) : w.heap.size ≤ gb423)); have n3_ := y0.mk ((by rw [hg]; exact (y6 (by repeat (first | (with_reducible first | exact HB.out | apply y3 | apply y23 | apply y4) | exact HB.out))) : w.heap.size ≤ gb423)); clear HB; have HB := n0_; have BK423 := n1_; have GW423 := n2_; have GE423 := n3_; clear n0_ n1_ n2_ n3_; clear hb hbox hg) | ((with_reducible refine y19 (N := 5) rfl ?_); refine y15 ?hg (N := 5) ?hd (cs := #[.slice A2_0 l2_0.length c2_0]) (t := 29) ?hr ?_; (case hd => rfl); (case hg => rfl); (case hr => first | (go_simp; done) | (go_simp; rfl)); intro gb424 hg w34 hbox hb; have n0_ := y0.mk (y9 (g := gb423) (o := .cells #[.slice A0_0 l0_0.length c0_0,.slice A0_1 l0_1.length c0_1,.slice A0_2 l0_2.length c0_2] 26 (0,0)) (by (with_reducible repeat (first | refine y12 ?_ _ | refine y11 ?_ | refine y8 ?_ _)); exact BK423.out) hb); have n1_ := y0.mk (y7 (by repeat (first | (with_reducible first | exact HB.out | apply y3 | apply y23 | apply y4 | refine y5 ?_ GE423.out) | exact HB.out)) hb); have n2_ := y0.mk (hbox); have n3_ := y0.mk ((by rw [hg]; exact (y6 (by repeat (first | (with_reducible first | exact HB.out | apply y3 | apply y23 | apply y4 | refine y5 ?_ GE423.out) | exact HB.out))) : w.heap.size ≤ gb424)); have n4_ := y0.mk ((by rw [hg]; exact (y6 (by repeat (first | (with_reducible first | exact HB.out | apply y3 | apply y23 | apply y4 | refine y5 ?_ GE423.out) | exact HB.out))) : w.heap.size ≤ gb424)); have n5_ := y0.mk ((by rw [hg]; exact Nat.ne_of_lt (y14 (g := gb423) (o := .cells #[.slice A0_0 l0_0.length c0_0,.slice A0_1 l0_1.length c0_1,.slice A0_2 l0_2.length c0_2] 26 (0,0)) (by (with_reducible repeat (first | refine y12 ?_ _ | refine y11 ?_ | refine y8 ?_ _)); exact BK423.out)) : gb423 ≠ gb424)); have n6_ := y0.mk ((by rw [hg]; exact Nat.ne_of_gt (y14 (g := gb423) (o := .cells #[.slice A0_0 l0_0.length c0_0,.slice A0_1 l0_1.length c0_1,.slice A0_2 l0_2.length c0_2] 26 (0,0)) (by (with_reducible repeat (first | refine y12 ?_ _ | refine y11 ?_ | refine y8 ?_ _)); exact BK423.out)) : gb424 ≠ gb423)); clear BK423; clear HB; have BK423 := n0_; have HB := n1_; have BK424 := n2_; have GW424 := n3_; have GE424 := n4_; have NB423_424 := n5_; have NB424_423 := n6_; clear n0_ n1_ n2_ n3_ n4_ n5_ n6_; clear hb hbox hg; have hnb35 := NB423_424.out; have hnc35 := NB424_423.out; have hcz36_0 : w34.cell? ⟨gb423,0,none⟩ = some (.slice A0_0 l0_0.length c0_0) := (y10 BK423.out 0).trans rfl; have hcz36_1 : w34.cell? ⟨gb423,1,none⟩ = some (.slice A0_1 l0_1.length c0_1) := (y10 BK423.out 1).trans rfl; have hcz36_2 : w34.cell? ⟨gb423,2,none⟩ = some (.slice A0_2 l0_2.length c0_2) := (y10 BK423.out 2).trans rfl; have hfz36_0 := y13 BK423.out 0; have hfz36_1 := y13 BK423.out 1; have hfz36_2 := y13 BK423.out 2) | ((with_reducible refine y18 (f := 4) rfl ?_); refine y20 (some 14) rfl rfl Tryz.func4 (by kernel_rfl) rfl #[.agg #[.slice A0_0 l0_0.length c0_0,.slice A0_1 l0_1.length c0_1,.slice A0_2 l0_2.length c0_2],.int .i64 1048576] rfl (by (try simp only [qM_,List.map_cons,List.map_nil]); first | done | rfl | (simp only [qD_,qT_]; rfl)) ?_; (with_reducible refine (laws_szProg.calls k _ _ l0_0 _ _ l0_1 _ _ l0_2 1048576 t425 _ ?side1 ?side2 ?side3 ?side4 ?side5 ?side6 A4.out).mono ?_); (case side1 => repeat (first | exact (Kd.C_below HR0_0.out HB.out) | (with_reducible refine Kd.C_alloc ?_ _) | (with_reducible refine Kd.C_drewN ?_ _) | (with_reducible refine Kd.C_drew ?_))); (case side2 => exact HC0_0.out); (case side3 => repeat (first | exact (Kd.C_below HR0_1.out HB.out) | (with_reducible refine Kd.C_alloc ?_ _) | (with_reducible refine Kd.C_drewN ?_ _) | (with_reducible refine Kd.C_drew ?_))); (case side4 => exact HC0_1.out); (case side5 => repeat (first | exact (Kd.C_below HR0_2.out HB.out) | (with_reducible refine Kd.C_alloc ?_ _) | (with_reducible refine Kd.C_drewN ?_ _) | (with_reducible refine Kd.C_drew ?_))); (case side6 => exact HC0_2.out); rintro e w37 ⟨rfl,hb⟩; refine ⟨_,rfl, ?_⟩; have n0_ := y0.mk (y9 (g := gb423) (o := .cells #[.slice A0_0 l0_0.length c0_0,.slice A0_1 l0_1.length c0_1,.slice A0_2 l0_2.length c0_2] 26 (0,0)) (by (with_reducible repeat (first | refine y12 ?_ _ | refine y11 ?_ | refine y8 ?_ _)); exact BK423.out) hb); have n1_ := y0.mk (y9 (g := gb424) (o := .cells #[.slice A2_0 l2_0.length c2_0] 29 (0,0)) (by (with_reducible repeat (first | refine y12 ?_ _ | refine y11 ?_ | refine y8 ?_ _)); exact BK424.out) hb); have n2_ := y0.mk (y7 (by repeat (first | (with_reducible first | exact HB.out | apply y3 | apply y23 | apply y4 | refine y5 ?_ GE423.out | refine y5 ?_ GE424.out) | exact HB.out)) hb); clear BK423; clear BK424; clear HB; have BK423 := n0_; have BK424 := n1_; have HB := n2_; clear n0_ n1_ n2_; (try clear hb); (try clear hb2); (try clear hk); (try clear hi); have hcz38_0 : w37.cell? ⟨gb424,0,none⟩ = some (.slice A2_0 l2_0.length c2_0) := (y10 BK424.out 0).trans rfl; have hfz38_0 := y13 BK424.out 0) | ((with_reducible refine y18 (f := 5) rfl ?_); refine y20 (some 19) rfl rfl Tryz.func5 (by kernel_rfl) rfl #[.agg #[.slice A2_0 l2_0.length c2_0],.int .i64 t425] rfl (by (try simp only [qM_,List.map_cons,List.map_nil]); first | done | rfl | (simp only [qD_,qT_]; rfl)) ?_; (with_reducible refine (laws_szTuple.calls k _ _ l2_0 t425 t426 _ ?side1 ?side2 A11.out).mono ?_); (case side1 => repeat (first | exact (Kd.C_below HR2_0.out HB.out) | (with_reducible refine Kd.C_alloc ?_ _) | (with_reducible refine Kd.C_drewN ?_ _) | (with_reducible refine Kd.C_drew ?_))); (case side2 => exact HC2_0.out); rintro e w39 ⟨rfl,hb⟩; refine ⟨_,rfl, ?_⟩; have n0_ := y0.mk (y9 (g := gb423) (o := .cells #[.slice A0_0 l0_0.length c0_0,.slice A0_1 l0_1.length c0_1,.slice A0_2 l0_2.length c0_2] 26 (0,0)) (by (with_reducible repeat (first | refine y12 ?_ _ | refine y11 ?_ | refine y8 ?_ _)); exact BK423.out) hb); have n1_ := y0.mk (y9 (g := gb424) (o := .cells #[.slice A2_0 l2_0.length c2_0] 29 (0,0)) (by (with_reducible repeat (first | refine y12 ?_ _ | refine y11 ?_ | refine y8 ?_ _)); exact BK424.out) hb); have n2_ := y0.mk (y7 (by repeat (first | (with_reducible first | exact HB.out | apply y3 | apply y23 | apply y4 | refine y5 ?_ GE423.out | refine y5 ?_ GE424.out) | exact HB.out)) hb); clear BK423; clear BK424; clear HB; have BK423 := n0_; have BK424 := n1_; have HB := n2_; clear n0_ n1_ n2_; (try clear hb); (try clear hb2); (try clear hk); (try clear hi)))
      have n0_ := y0.mk (y11 BK423.out)
      have n1_ := y0.mk (y11 BK424.out)
      have n2_ := y0.mk (y4 HB.out)
      clear BK423
      clear BK424
      clear HB
      have BK423 := n0_
      have BK424 := n1_
      have HB := n2_
      clear n0_ n1_ n2_
      refine start_ (n := 7) (S := fun w' => w'.cell? ⟨gb423,0,none⟩ = some (.slice A0_0 l0_0.length c0_0) ∧ w'.cell? ⟨gb423,1,none⟩ = some (.slice A0_1 l0_1.length c0_1) ∧ w'.cell? ⟨gb423,2,none⟩ = some (.slice A0_2 l0_2.length c0_2) ∧ w'.cell? ⟨gb424,0,none⟩ = some (.slice A2_0 l2_0.length c2_0)) (ds := []) #[false,false,false,false,false,false,false] (by kernel_rfl) rfl rfl ⟨(y10 BK423.out 0).trans rfl,(y10 BK423.out 1).trans rfl,(y10 BK423.out 2).trans rfl,(y10 BK424.out 0).trans rfl⟩ (fun hHeld => ?_)
      generalize w39.drew = w40 at BK423 BK424 HB hHeld ⊢
      refine pure_ (i := 2) (N := some 24) (v := ?_) (a' := ?_) #[false,false,true,false,false,false,false] rfl rfl (by kernel_rfl) (fun _ _ _ h => h) (Or.inl ⟨by rfl, ?_⟩) ?_ ?_
      rotate_left
      ·intro w'
       go_simp
       with_reducible rfl
      rotate_left
      ·simp only [Act.put,qS_,qZ_,qC_,y22,y21]
       rfl
      refine take_ (i := 0) (N := some 22) (v := ?_) (a' := ?_) #[true,false,true,false,false,false,false] rfl rfl (by kernel_rfl) (fun _ _ _ h => h) (Or.inl ⟨by rfl, ?_⟩) hHeld ?_ ?_
      rotate_left
      ·rintro w' ⟨s0,s1,s2,s3⟩
       go_simp
       with_reducible rfl
      rotate_left
      ·simp only [Act.put,qS_,qZ_,qC_,y22,y21]
       rfl
      refine take_ (i := 3) (N := some 25) (v := ?_) (a' := ?_) #[true,false,true,true,false,false,false] rfl rfl (by kernel_rfl) (fun _ _ _ h => h) (Or.inl ⟨by rfl, ?_⟩) hHeld ?_ ?_
      rotate_left
      ·rintro w' ⟨s0,s1,s2,s3⟩
       go_simp
       with_reducible rfl
      rotate_left
      ·simp only [Act.put,qS_,qZ_,qC_,y22,y21]
       rfl
      refine one_ (i := 1) (N := some 23) #[true,true,true,true,false,false,false] rfl rfl (by kernel_rfl) (by decide) (fun K hK => ?_)
      refine goes_ Tryz.func7 (by kernel_rfl) rfl #[.agg #[.slice A0_0 l0_0.length c0_0,.slice A0_1 l0_1.length c0_1,.slice A0_2 l0_2.length c0_2]] (by rfl) rfl rfl (by (try simp only [qM_,List.map_cons,List.map_nil]); first | done | rfl | (simp only [qD_,qT_]; rfl)) ?_
      with_reducible refine (laws_toProg.calls k _ _ l0_0 _ _ l0_1 _ _ l0_2 t427 t430 t433 _ ?side1 ?side2 ?side3 ?side4 ?side5 ?side6 A20.out).mono ?_
      (case side1 => repeat (first | exact (Kd.C_below HR0_0.out HB.out) | (with_reducible refine Kd.C_alloc ?_ _) | (with_reducible refine Kd.C_drewN ?_ _) | (with_reducible refine Kd.C_drew ?_)))
      (case side2 => exact HC0_0.out)
      (case side3 => repeat (first | exact (Kd.C_below HR0_1.out HB.out) | (with_reducible refine Kd.C_alloc ?_ _) | (with_reducible refine Kd.C_drewN ?_ _) | (with_reducible refine Kd.C_drew ?_)))
      (case side4 => exact HC0_1.out)
      (case side5 => repeat (first | exact (Kd.C_below HR0_2.out HB.out) | (with_reducible refine Kd.C_alloc ?_ _) | (with_reducible refine Kd.C_drewN ?_ _) | (with_reducible refine Kd.C_drew ?_)))
      (case side6 => exact HC0_2.out)
      rintro e w41 ⟨v428,v431,v434,rfl,ho0,ho1,ho2,hb⟩
      refine ⟨_,rfl, ?_⟩
      have n0_ := y0.mk (Kd.R_lower ho0 (y6 (by repeat (first | (with_reducible first | exact HB.out | apply y3 | apply y23 | apply y4 | refine y5 ?_ GE423.out | refine y5 ?_ GE424.out) | exact HB.out))))
      have n1_ := y0.mk (Kd.S_lower ho1 (y6 (by repeat (first | (with_reducible first | exact HB.out | apply y3 | apply y23 | apply y4 | refine y5 ?_ GE423.out | refine y5 ?_ GE424.out) | exact HB.out))))
      have n2_ := y0.mk (Kd.R_lower ho2 (y6 (by repeat (first | (with_reducible first | exact HB.out | apply y3 | apply y23 | apply y4 | refine y5 ?_ GE423.out | refine y5 ?_ GE424.out) | exact HB.out))))
      have n3_ := y0.mk (y9 (g := gb423) (o := .cells #[.slice A0_0 l0_0.length c0_0,.slice A0_1 l0_1.length c0_1,.slice A0_2 l0_2.length c0_2] 26 (0,0)) (by (with_reducible repeat (first | refine y12 ?_ _ | refine y11 ?_ | refine y8 ?_ _)); exact BK423.out) hb)
      have n4_ := y0.mk (y9 (g := gb424) (o := .cells #[.slice A2_0 l2_0.length c2_0] 29 (0,0)) (by (with_reducible repeat (first | refine y12 ?_ _ | refine y11 ?_ | refine y8 ?_ _)); exact BK424.out) hb)
      have n5_ := y0.mk (y7 (by repeat (first | (with_reducible first | exact HB.out | apply y3 | apply y23 | apply y4 | refine y5 ?_ GE423.out | refine y5 ?_ GE424.out) | exact HB.out)) hb)
      clear BK423
      clear BK424
      clear HB
      have HO429 := n0_
      have HO432 := n1_
      have HO435 := n2_
      have BK423 := n3_
      have BK424 := n4_
      have HB := n5_
      clear n0_ n1_ n2_ n3_ n4_ n5_
      (try clear hb)
      (try clear hb2)
      (try clear hk)
      (try clear hi)
      (try clear ho0)
      (try clear ho1)
      (try clear ho2)
      refine hK.out _ _ ⟨(y10 BK423.out 0).trans rfl,(y10 BK423.out 1).trans rfl,(y10 BK423.out 2).trans rfl,(y10 BK424.out 0).trans rfl⟩ (fun hHeld => ?_)
      clear hK K
      refine norm_ (a' := ?_) ?_ ?_
      rotate_left
      ·show Act.put _ (some 23) _ = _
       simp only [Act.put,qS_,qZ_,qC_,y22,y21]
       rfl
      refine one_ (i := 4) (N := some 26) #[true,true,true,true,true,false,false] rfl rfl (by kernel_rfl) (by decide) (fun K hK => ?_)
      refine goes_ Tryz.func8 (by kernel_rfl) rfl #[.agg #[.slice A2_0 l2_0.length c2_0]] (by rfl) rfl rfl (by (try simp only [qM_,List.map_cons,List.map_nil]); first | done | rfl | (simp only [qD_,qT_]; rfl)) ?_
      with_reducible refine (laws_toTuple.calls k _ _ l2_0 t436 _ ?side1 ?side2 A21.out).mono ?_
      (case side1 => repeat (first | exact (Kd.C_below HR2_0.out HB.out) | (with_reducible refine Kd.C_alloc ?_ _) | (with_reducible refine Kd.C_drewN ?_ _) | (with_reducible refine Kd.C_drew ?_)))
      (case side2 => exact HC2_0.out)
      rintro e w42 ⟨v437,rfl,ho0,hb⟩
      refine ⟨_,rfl, ?_⟩
      have n0_ := y0.mk (Kd.R_elder' (by (with_reducible repeat (first | apply Kd.R_alloc | apply Kd.R_drewN | apply Kd.R_drew)); exact HO429.out) (Kd.R_base ho0) hb)
      have n1_ := y0.mk (Kd.S_elder' (by (with_reducible repeat (first | apply Kd.S_alloc | apply Kd.S_drewN | apply Kd.S_drew)); exact HO432.out) (Kd.R_base ho0) hb)
      have n2_ := y0.mk (Kd.R_below (by (with_reducible repeat (first | apply Kd.R_alloc | apply Kd.R_drewN | apply Kd.R_drew)); exact HO435.out) hb)
      have n3_ := y0.mk (Kd.R_lower ho0 (y6 (by repeat (first | (with_reducible first | exact HB.out | apply y3 | apply y23 | apply y4 | refine y5 ?_ GE423.out | refine y5 ?_ GE424.out) | exact HB.out))))
      have n4_ := y0.mk (y9 (g := gb423) (o := .cells #[.slice A0_0 l0_0.length c0_0,.slice A0_1 l0_1.length c0_1,.slice A0_2 l0_2.length c0_2] 26 (0,0)) (by (with_reducible repeat (first | refine y12 ?_ _ | refine y11 ?_ | refine y8 ?_ _)); exact BK423.out) hb)
      have n5_ := y0.mk (y9 (g := gb424) (o := .cells #[.slice A2_0 l2_0.length c2_0] 29 (0,0)) (by (with_reducible repeat (first | refine y12 ?_ _ | refine y11 ?_ | refine y8 ?_ _)); exact BK424.out) hb)
      have n6_ := y0.mk (y7 (by repeat (first | (with_reducible first | exact HB.out | apply y3 | apply y23 | apply y4 | refine y5 ?_ GE423.out | refine y5 ?_ GE424.out) | exact HB.out)) hb)
      clear HO429
      clear HO432
      clear HO435
      clear BK423
      clear BK424
      clear HB
      have HO429 := n0_
      have HO432 := n1_
      have HO435 := n2_
      have HO438 := n3_
      have BK423 := n4_
      have BK424 := n5_
      have HB := n6_
      clear n0_ n1_ n2_ n3_ n4_ n5_ n6_
      (try clear hb)
      (try clear hb2)
      (try clear hk)
      (try clear hi)
      (try clear ho0)
      obtain ⟨Ao43,co43,eo43⟩ := Kd.R_slice HO429.out
      (first | subst eo43 | (injection eo43 with f1_ f2_ f3_; have f4_ := f1_.symm; have f5_ := f3_.symm; clear f1_ f2_ f3_; subst f4_; subst f5_))
      obtain ⟨Ao44,co44,eo44⟩ := Kd.S_slice HO432.out
      (first | subst eo44 | (injection eo44 with f1_ f2_ f3_; have f4_ := f1_.symm; have f5_ := f3_.symm; clear f1_ f2_ f3_; subst f4_; subst f5_))
      obtain ⟨Ao45,co45,eo45⟩ := Kd.R_slice HO435.out
      (first | subst eo45 | (injection eo45 with f1_ f2_ f3_; have f4_ := f1_.symm; have f5_ := f3_.symm; clear f1_ f2_ f3_; subst f4_; subst f5_))
      obtain ⟨Ao46,co46,eo46⟩ := Kd.R_slice HO438.out
      (first | subst eo46 | (injection eo46 with f1_ f2_ f3_; have f4_ := f1_.symm; have f5_ := f3_.symm; clear f1_ f2_ f3_; subst f4_; subst f5_))
      refine hK.out _ _ ⟨(y10 BK423.out 0).trans rfl,(y10 BK423.out 1).trans rfl,(y10 BK423.out 2).trans rfl,(y10 BK424.out 0).trans rfl⟩ (fun hHeld => ?_)
      clear hK K
      refine norm_ (a' := ?_) ?_ ?_
      rotate_left
      ·show Act.put _ (some 26) _ = _
       simp only [Act.put,qS_,qZ_,qC_,y22,y21]
       rfl
      refine one_ (i := 5) (N := some 27) #[true,true,true,true,true,true,false] rfl rfl (by kernel_rfl) (by decide) (fun K hK => ?_)
      refine goes_ Tryz.func6 (by kernel_rfl) rfl #[.agg #[.slice Ao43 t427.length co43,.slice Ao44 t430.length co44,.slice Ao45 t433.length co45],.int .i64 a1,.agg #[.slice Ao46 t436.length co46]] (by rfl) rfl rfl (by (try simp only [qM_,List.map_cons,List.map_nil]); first | done | rfl | (simp only [qD_,qT_]; rfl)) ?_
      with_reducible refine (spec_FactText.calls k _ _ t427 _ _ t430 _ _ t433 a1 _ _ t436 t439 _ ?side1 ?side2 ?side3 ?side4 ?side5 ?side6 ?side7 ?side8 A22.out).mono ?_
      (case side1 => repeat (first | exact (Kd.R_reads' HO429.out).2.2 | (with_reducible refine Kd.C_alloc ?_ _) | (with_reducible refine Kd.C_drewN ?_ _) | (with_reducible refine Kd.C_drew ?_)))
      (case side2 => exact (Kd.R_reads' HO429.out).2.1)
      (case side3 => repeat (first | exact (Kd.S_reads' HO432.out).2.2 | (with_reducible refine Kd.C_alloc ?_ _) | (with_reducible refine Kd.C_drewN ?_ _) | (with_reducible refine Kd.C_drew ?_)))
      (case side4 => exact (Kd.S_reads' HO432.out).2.1)
      (case side5 => repeat (first | exact (Kd.R_reads' HO435.out).2.2 | (with_reducible refine Kd.C_alloc ?_ _) | (with_reducible refine Kd.C_drewN ?_ _) | (with_reducible refine Kd.C_drew ?_)))
      (case side6 => exact (Kd.R_reads' HO435.out).2.1)
      (case side7 => repeat (first | exact (Kd.R_reads' HO438.out).2.2 | (with_reducible refine Kd.C_alloc ?_ _) | (with_reducible refine Kd.C_drewN ?_ _) | (with_reducible refine Kd.C_drew ?_)))
      (case side8 => exact (Kd.R_reads' HO438.out).2.1)
      rintro e w47 ⟨rfl,hb⟩
      refine ⟨_,rfl, ?_⟩
      have n0_ := y0.mk (Kd.R_below (by (with_reducible repeat (first | apply Kd.R_alloc | apply Kd.R_drewN | apply Kd.R_drew)); exact HO429.out) hb)
      have n1_ := y0.mk (Kd.S_below (by (with_reducible repeat (first | apply Kd.S_alloc | apply Kd.S_drewN | apply Kd.S_drew)); exact HO432.out) hb)
      have n2_ := y0.mk (Kd.R_below (by (with_reducible repeat (first | apply Kd.R_alloc | apply Kd.R_drewN | apply Kd.R_drew)); exact HO435.out) hb)
      have n3_ := y0.mk (Kd.R_below (by (with_reducible repeat (first | apply Kd.R_alloc | apply Kd.R_drewN | apply Kd.R_drew)); exact HO438.out) hb)
      have n4_ := y0.mk (y9 (g := gb423) (o := .cells #[.slice A0_0 l0_0.length c0_0,.slice A0_1 l0_1.length c0_1,.slice A0_2 l0_2.length c0_2] 26 (0,0)) (by (with_reducible repeat (first | refine y12 ?_ _ | refine y11 ?_ | refine y8 ?_ _)); exact BK423.out) hb)
      have n5_ := y0.mk (y9 (g := gb424) (o := .cells #[.slice A2_0 l2_0.length c2_0] 29 (0,0)) (by (with_reducible repeat (first | refine y12 ?_ _ | refine y11 ?_ | refine y8 ?_ _)); exact BK424.out) hb)
      have n6_ := y0.mk (y7 (by repeat (first | (with_reducible first | exact HB.out | apply y3 | apply y23 | apply y4 | refine y5 ?_ GE423.out | refine y5 ?_ GE424.out) | exact HB.out)) hb)
      clear HO429
      clear HO432
      clear HO435
      clear HO438
      clear BK423
      clear BK424
      clear HB
      have HO429 := n0_
      have HO432 := n1_
      have HO435 := n2_
      have HO438 := n3_
      have BK423 := n4_
      have BK424 := n5_
      have HB := n6_
      clear n0_ n1_ n2_ n3_ n4_ n5_ n6_
      (try clear hb)
      (try clear hb2)
      (try clear hk)
      (try clear hi)
      refine hK.out _ _ ⟨(y10 BK423.out 0).trans rfl,(y10 BK423.out 1).trans rfl,(y10 BK423.out 2).trans rfl,(y10 BK424.out 0).trans rfl⟩ (fun hHeld => ?_)
      clear hK K
      refine norm_ (a' := ?_) ?_ ?_
      rotate_left
      ·show Act.put _ (some 27) _ = _
       simp only [Act.put,qS_,qZ_,qC_,y22,y21]
       rfl
      refine pure_ (i := 6) (N := some 8) (v := ?_) (a' := ?_) #[true,true,true,true,true,true,true] rfl rfl (by kernel_rfl) (fun _ _ _ h => h) (Or.inl ⟨by rfl, ?_⟩) ?_ ?_
      rotate_left
      ·intro w'
       go_simp
       with_reducible rfl
      rotate_left
      ·simp only [Act.put,qS_,qZ_,qC_,y22,y21]
       rfl
      refine done_ (by kernel_rfl) ?_
      have hcz48_0 : w47.cell? ⟨gb423,0,none⟩ = some (.slice A0_0 l0_0.length c0_0) := (y10 BK423.out 0).trans rfl
      have hcz48_1 : w47.cell? ⟨gb423,1,none⟩ = some (.slice A0_1 l0_1.length c0_1) := (y10 BK423.out 1).trans rfl
      have hcz48_2 : w47.cell? ⟨gb423,2,none⟩ = some (.slice A0_2 l0_2.length c0_2) := (y10 BK423.out 2).trans rfl
      have hfz48_0 := y13 BK423.out 0
      have hfz48_1 := y13 BK423.out 1
      have hfz48_2 := y13 BK423.out 2
      try go_wp2_with (first | ((with_reducible refine y18 (f := 7) rfl ?_); refine y20 (some 29) rfl rfl Tryz.func7 (by kernel_rfl) rfl #[.agg #[.slice A0_0 l0_0.length c0_0,.slice A0_1 l0_1.length c0_1,.slice A0_2 l0_2.length c0_2]] rfl (by (try simp only [qM_,List.map_cons,List.map_nil]); first | done | rfl | (simp only [qD_,qT_]; rfl)) ?_; (with_reducible refine (laws_toProg.calls k _ _ l0_0 _ _ l0_1 _ _ l0_2 t440 t443 t446 _ ?side1 ?side2 ?side3 ?side4 ?side5 ?side6 A23.out).mono ?_); (case side1 => repeat (first | exact (Kd.C_below HR0_0.out HB.out) | (with_reducible refine Kd.C_alloc ?_ _) | (with_reducible refine Kd.C_drewN ?_ _) | (with_reducible refine Kd.C_drew ?_))); (case side2 => exact HC0_0.out); (case side3 => repeat (first | exact (Kd.C_below HR0_1.out HB.out) | (with_reducible refine Kd.C_alloc ?_ _) | (with_reducible refine Kd.C_drewN ?_ _) | (with_reducible refine Kd.C_drew ?_))); (case side4 => exact HC0_1.out); (case side5 => repeat (first | exact (Kd.C_below HR0_2.out HB.out) | (with_reducible refine Kd.C_alloc ?_ _) | (with_reducible refine Kd.C_drewN ?_ _) | (with_reducible refine Kd.C_drew ?_))); (case side6 => exact HC0_2.out); rintro e w49 ⟨v441,v444,v447,rfl,ho0,ho1,ho2,hb⟩; refine ⟨_,rfl, ?_⟩; have n0_ := y0.mk (Kd.R_elder' (by (with_reducible repeat (first | apply Kd.R_alloc | apply Kd.R_drewN | apply Kd.R_drew)); exact HO429.out) (Kd.R_base ho0) hb); have n1_ := y0.mk (Kd.S_elder' (by (with_reducible repeat (first | apply Kd.S_alloc | apply Kd.S_drewN | apply Kd.S_drew)); exact HO432.out) (Kd.S_base ho1) hb); have n2_ := y0.mk (Kd.R_elder' (by (with_reducible repeat (first | apply Kd.R_alloc | apply Kd.R_drewN | apply Kd.R_drew)); exact HO435.out) (Kd.R_base ho2) hb); have n3_ := y0.mk (Kd.R_below (by (with_reducible repeat (first | apply Kd.R_alloc | apply Kd.R_drewN | apply Kd.R_drew)); exact HO438.out) hb); have n4_ := y0.mk (Kd.R_lower (Kd.R_new' (Kd.R_new' ho0 (Kd.R_lt (by (with_reducible repeat (first | apply Kd.R_alloc | apply Kd.R_drewN | apply Kd.R_drew)); exact HO429.out))) (Kd.R_lt (by (with_reducible repeat (first | apply Kd.R_alloc | apply Kd.R_drewN | apply Kd.R_drew)); exact HO438.out))) (y6 (by repeat (first | (with_reducible first | exact HB.out | apply y3 | apply y23 | apply y4 | refine y5 ?_ GE423.out | refine y5 ?_ GE424.out) | exact HB.out)))); have n5_ := y0.mk (Kd.S_lower (Kd.S_new' (Kd.S_new' ho1 (Kd.S_lt (by (with_reducible repeat (first | apply Kd.S_alloc | apply Kd.S_drewN | apply Kd.S_drew)); exact HO432.out))) (Kd.R_lt (by (with_reducible repeat (first | apply Kd.R_alloc | apply Kd.R_drewN | apply Kd.R_drew)); exact HO438.out))) (y6 (by repeat (first | (with_reducible first | exact HB.out | apply y3 | apply y23 | apply y4 | refine y5 ?_ GE423.out | refine y5 ?_ GE424.out) | exact HB.out)))); have n6_ := y0.mk (Kd.R_lower (Kd.R_new' ho2 (Kd.R_lt (by (with_reducible repeat (first | apply Kd.R_alloc | apply Kd.R_drewN | apply Kd.R_drew)); exact HO435.out))) (y6 (by repeat (first | (with_reducible first | exact HB.out | apply y3 | apply y23 | apply y4 | refine y5 ?_ GE423.out | refine y5 ?_ GE424.out) | exact HB.out)))); have n7_ := y0.mk (y9 (g := gb423) (o := .cells #[.slice A0_0 l0_0.length c0_0,.slice A0_1 l0_1.length c0_1,.slice A0_2 l0_2.length c0_2] 26 (0,0)) (by (with_reducible repeat (first | refine y12 ?_ _ | refine y11 ?_ | refine y8 ?_ _)); exact BK423.out) hb); have n8_ := y0.mk (y9 (g := gb424) (o := .cells #[.slice A2_0 l2_0.length c2_0] 29 (0,0)) (by (with_reducible repeat (first | refine y12 ?_ _ | refine y11 ?_ | refine y8 ?_ _)); exact BK424.out) hb); have n9_ := y0.mk (y7 (by repeat (first | (with_reducible first | exact HB.out | apply y3 | apply y23 | apply y4 | refine y5 ?_ GE423.out | refine y5 ?_ GE424.out) | exact HB.out)) hb); clear HO429; clear HO432; clear HO435; clear HO438; clear BK423; clear BK424; clear HB; have HO429 := n0_; have HO432 := n1_; have HO435 := n2_; have HO438 := n3_; have HO442 := n4_; have HO445 := n5_; have HO448 := n6_; have BK423 := n7_; have BK424 := n8_; have HB := n9_; clear n0_ n1_ n2_ n3_ n4_ n5_ n6_ n7_ n8_ n9_; (try clear hb); (try clear hb2); (try clear hk); (try clear hi); (try clear ho0); (try clear ho1); (try clear ho2)) | ((with_reducible refine y19 (N := 9) rfl ?_); refine y15 ?hg (N := 9) ?hd (cs := #[.slice none 0 0,.slice none 0 0,.slice none 0 0]) (t := 37) ?hr ?_; (case hd => rfl); (case hg => rfl); (case hr => first | (go_simp; done) | (go_simp; rfl)); intro gb449 hg w50 hbox hb; have n0_ := y0.mk (Kd.R_below (by (with_reducible repeat (first | apply Kd.R_alloc | apply Kd.R_drewN | apply Kd.R_drew)); exact HO429.out) hb); have n1_ := y0.mk (Kd.S_below (by (with_reducible repeat (first | apply Kd.S_alloc | apply Kd.S_drewN | apply Kd.S_drew)); exact HO432.out) hb); have n2_ := y0.mk (Kd.R_below (by (with_reducible repeat (first | apply Kd.R_alloc | apply Kd.R_drewN | apply Kd.R_drew)); exact HO435.out) hb); have n3_ := y0.mk (Kd.R_below (by (with_reducible repeat (first | apply Kd.R_alloc | apply Kd.R_drewN | apply Kd.R_drew)); exact HO438.out) hb); have n4_ := y0.mk (Kd.R_below (by (with_reducible repeat (first | apply Kd.R_alloc | apply Kd.R_drewN | apply Kd.R_drew)); exact HO442.out) hb); have n5_ := y0.mk (Kd.S_below (by (with_reducible repeat (first | apply Kd.S_alloc | apply Kd.S_drewN | apply Kd.S_drew)); exact HO445.out) hb); have n6_ := y0.mk (Kd.R_below (by (with_reducible repeat (first | apply Kd.R_alloc | apply Kd.R_drewN | apply Kd.R_drew)); exact HO448.out) hb); have n7_ := y0.mk (y9 (g := gb423) (o := .cells #[.slice A0_0 l0_0.length c0_0,.slice A0_1 l0_1.length c0_1,.slice A0_2 l0_2.length c0_2] 26 (0,0)) (by (with_reducible repeat (first | refine y12 ?_ _ | refine y11 ?_ | refine y8 ?_ _)); exact BK423.out) hb); have n8_ := y0.mk (y9 (g := gb424) (o := .cells #[.slice A2_0 l2_0.length c2_0] 29 (0,0)) (by (with_reducible repeat (first | refine y12 ?_ _ | refine y11 ?_ | refine y8 ?_ _)); exact BK424.out) hb); have n9_ := y0.mk (y7 (by repeat (first | (with_reducible first | exact HB.out | apply y3 | apply y23 | apply y4 | refine y5 ?_ GE423.out | refine y5 ?_ GE424.out) | exact HB.out)) hb); have n10_ := y0.mk (hbox); have n11_ := y0.mk ((by rw [hg]; exact (y6 (by repeat (first | (with_reducible first | exact HB.out | apply y3 | apply y23 | apply y4 | refine y5 ?_ GE423.out | refine y5 ?_ GE424.out) | exact HB.out))) : w.heap.size ≤ gb449)); have n12_ := y0.mk ((by rw [hg]; exact (y6 (by repeat (first | (with_reducible first | exact HB.out | apply y3 | apply y23 | apply y4 | refine y5 ?_ GE423.out | refine y5 ?_ GE424.out) | exact HB.out))) : w.heap.size ≤ gb449)); have n13_ := y0.mk ((by rw [hg]; exact Nat.ne_of_lt (y14 (g := gb423) (o := .cells #[.slice A0_0 l0_0.length c0_0,.slice A0_1 l0_1.length c0_1,.slice A0_2 l0_2.length c0_2] 26 (0,0)) (by (with_reducible repeat (first | refine y12 ?_ _ | refine y11 ?_ | refine y8 ?_ _)); exact BK423.out)) : gb423 ≠ gb449)); have n14_ := y0.mk ((by rw [hg]; exact Nat.ne_of_gt (y14 (g := gb423) (o := .cells #[.slice A0_0 l0_0.length c0_0,.slice A0_1 l0_1.length c0_1,.slice A0_2 l0_2.length c0_2] 26 (0,0)) (by (with_reducible repeat (first | refine y12 ?_ _ | refine y11 ?_ | refine y8 ?_ _)); exact BK423.out)) : gb449 ≠ gb423)); have n15_ := y0.mk ((by rw [hg]; exact Nat.ne_of_lt (y14 (g := gb424) (o := .cells #[.slice A2_0 l2_0.length c2_0] 29 (0,0)) (by (with_reducible repeat (first | refine y12 ?_ _ | refine y11 ?_ | refine y8 ?_ _)); exact BK424.out)) : gb424 ≠ gb449)); have n16_ := y0.mk ((by rw [hg]; exact Nat.ne_of_gt (y14 (g := gb424) (o := .cells #[.slice A2_0 l2_0.length c2_0] 29 (0,0)) (by (with_reducible repeat (first | refine y12 ?_ _ | refine y11 ?_ | refine y8 ?_ _)); exact BK424.out)) : gb449 ≠ gb424)); clear HO429; clear HO432; clear HO435; clear HO438; clear HO442; clear HO445; clear HO448; clear BK423; clear BK424; clear HB; have HO429 := n0_; have HO432 := n1_; have HO435 := n2_; have HO438 := n3_; have HO442 := n4_; have HO445 := n5_; have HO448 := n6_; have BK423 := n7_; have BK424 := n8_; have HB := n9_; have BK449 := n10_; have GW449 := n11_; have GE449 := n12_; have NB423_449 := n13_; have NB449_423 := n14_; have NB424_449 := n15_; have NB449_424 := n16_; clear n0_ n1_ n2_ n3_ n4_ n5_ n6_ n7_ n8_ n9_ n10_ n11_ n12_ n13_ n14_ n15_ n16_; clear hb hbox hg; obtain ⟨Ao51,co51,eo51⟩ := Kd.R_slice HO442.out; subst eo51; have hnb52 := NB449_423.out; have hnc52 := NB423_449.out; have hnb53 := NB449_424.out; have hnc53 := NB424_449.out; have hcz54_0 : w50.cell? ⟨gb449,0,none⟩ = some (.slice none 0 0) := (y10 BK449.out 0).trans rfl; have hcz54_1 : w50.cell? ⟨gb449,1,none⟩ = some (.slice none 0 0) := (y10 BK449.out 1).trans rfl; have hcz54_2 : w50.cell? ⟨gb449,2,none⟩ = some (.slice none 0 0) := (y10 BK449.out 2).trans rfl; have hfz54_0 := y13 BK449.out 0; have hfz54_1 := y13 BK449.out 1; have hfz54_2 := y13 BK449.out 2; obtain ⟨Ao55,co55,eo55⟩ := Kd.S_slice HO445.out; subst eo55; obtain ⟨Ao56,co56,eo56⟩ := Kd.R_slice HO448.out; subst eo56; have hcz57_0 : w50.cell? ⟨gb424,0,none⟩ = some (.slice A2_0 l2_0.length c2_0) := (y10 BK424.out 0).trans rfl; have hfz57_0 := y13 BK424.out 0) | ((with_reducible refine y18 (f := 8) rfl ?_); refine y20 (some 31) rfl rfl Tryz.func8 (by kernel_rfl) rfl #[.agg #[.slice A2_0 l2_0.length c2_0]] rfl (by (try simp only [qM_,List.map_cons,List.map_nil]); first | done | rfl | (simp only [qD_,qT_]; rfl)) ?_; (with_reducible refine (laws_toTuple.calls k _ _ l2_0 t450 _ ?side1 ?side2 A24.out).mono ?_); (case side1 => exact Kd.C_below HR2_0.out (by repeat (first | (with_reducible first | exact HB.out | apply y3 | apply y23 | apply y4 | refine y5 ?_ GE423.out | refine y5 ?_ GE424.out | refine y5 ?_ GE449.out) | exact HB.out))); (case side2 => exact HC2_0.out); rintro e w58 ⟨v451,rfl,ho0,hb⟩; refine ⟨_,rfl, ?_⟩; have n0_ := y0.mk (Kd.R_elder' (by (with_reducible repeat (first | apply Kd.R_alloc | apply Kd.R_drewN | apply Kd.R_drew)); exact (Kd.R_mono (Kd.R_far (p := ⟨gb449,2,none⟩) (Kd.R_far (p := ⟨gb449,1,none⟩) (Kd.R_far (p := ⟨gb449,0,none⟩) (Kd.R_types HO429.out BK449.out (by decide)) (fun _ hk => hk.2) (.slice Ao51 t440.length co51)) (fun _ hk => hk.2) (.slice Ao55 t443.length co55)) (fun _ hk => hk.2) (.slice Ao56 t446.length co56)) (fun _ h_ => h_.1))) (Kd.R_base ho0) hb); have n1_ := y0.mk (Kd.S_elder' (by (with_reducible repeat (first | apply Kd.S_alloc | apply Kd.S_drewN | apply Kd.S_drew)); exact (Kd.S_mono (Kd.S_far (p := ⟨gb449,2,none⟩) (Kd.S_far (p := ⟨gb449,1,none⟩) (Kd.S_far (p := ⟨gb449,0,none⟩) (Kd.S_types HO432.out BK449.out (by decide)) (fun _ hk => hk.2) (.slice Ao51 t440.length co51)) (fun _ hk => hk.2) (.slice Ao55 t443.length co55)) (fun _ hk => hk.2) (.slice Ao56 t446.length co56)) (fun _ h_ => h_.1))) (Kd.R_base ho0) hb); have n2_ := y0.mk (Kd.R_below (by (with_reducible repeat (first | apply Kd.R_alloc | apply Kd.R_drewN | apply Kd.R_drew)); exact (Kd.R_mono (Kd.R_far (p := ⟨gb449,2,none⟩) (Kd.R_far (p := ⟨gb449,1,none⟩) (Kd.R_far (p := ⟨gb449,0,none⟩) (Kd.R_types HO435.out BK449.out (by decide)) (fun _ hk => hk.2) (.slice Ao51 t440.length co51)) (fun _ hk => hk.2) (.slice Ao55 t443.length co55)) (fun _ hk => hk.2) (.slice Ao56 t446.length co56)) (fun _ h_ => h_.1))) hb); have n3_ := y0.mk (Kd.R_elder' (by (with_reducible repeat (first | apply Kd.R_alloc | apply Kd.R_drewN | apply Kd.R_drew)); exact (Kd.R_mono (Kd.R_far (p := ⟨gb449,2,none⟩) (Kd.R_far (p := ⟨gb449,1,none⟩) (Kd.R_far (p := ⟨gb449,0,none⟩) (Kd.R_types HO438.out BK449.out (by decide)) (fun _ hk => hk.2) (.slice Ao51 t440.length co51)) (fun _ hk => hk.2) (.slice Ao55 t443.length co55)) (fun _ hk => hk.2) (.slice Ao56 t446.length co56)) (fun _ h_ => h_.1))) (Kd.R_base ho0) hb); have n4_ := y0.mk (Kd.R_elder' (by (with_reducible repeat (first | apply Kd.R_alloc | apply Kd.R_drewN | apply Kd.R_drew)); exact (Kd.R_mono (Kd.R_far (p := ⟨gb449,2,none⟩) (Kd.R_far (p := ⟨gb449,1,none⟩) (Kd.R_far (p := ⟨gb449,0,none⟩) (Kd.R_types HO442.out BK449.out (by decide)) (fun _ hk => hk.2) (.slice Ao51 t440.length co51)) (fun _ hk => hk.2) (.slice Ao55 t443.length co55)) (fun _ hk => hk.2) (.slice Ao56 t446.length co56)) (fun _ h_ => h_.1))) (Kd.R_base ho0) hb); have n5_ := y0.mk (Kd.S_elder' (by (with_reducible repeat (first | apply Kd.S_alloc | apply Kd.S_drewN | apply Kd.S_drew)); exact (Kd.S_mono (Kd.S_far (p := ⟨gb449,2,none⟩) (Kd.S_far (p := ⟨gb449,1,none⟩) (Kd.S_far (p := ⟨gb449,0,none⟩) (Kd.S_types HO445.out BK449.out (by decide)) (fun _ hk => hk.2) (.slice Ao51 t440.length co51)) (fun _ hk => hk.2) (.slice Ao55 t443.length co55)) (fun _ hk => hk.2) (.slice Ao56 t446.length co56)) (fun _ h_ => h_.1))) (Kd.R_base ho0) hb); have n6_ := y0.mk (Kd.R_below (by (with_reducible repeat (first | apply Kd.R_alloc | apply Kd.R_drewN | apply Kd.R_drew)); exact (Kd.R_mono (Kd.R_far (p := ⟨gb449,2,none⟩) (Kd.R_far (p := ⟨gb449,1,none⟩) (Kd.R_far (p := ⟨gb449,0,none⟩) (Kd.R_types HO448.out BK449.out (by decide)) (fun _ hk => hk.2) (.slice Ao51 t440.length co51)) (fun _ hk => hk.2) (.slice Ao55 t443.length co55)) (fun _ hk => hk.2) (.slice Ao56 t446.length co56)) (fun _ h_ => h_.1))) hb); have n7_ := y0.mk (Kd.R_lower (Kd.R_new' ho0 (Kd.R_lt (by (with_reducible repeat (first | apply Kd.R_alloc | apply Kd.R_drewN | apply Kd.R_drew)); exact (Kd.R_mono (Kd.R_far (p := ⟨gb449,2,none⟩) (Kd.R_far (p := ⟨gb449,1,none⟩) (Kd.R_far (p := ⟨gb449,0,none⟩) (Kd.R_types HO438.out BK449.out (by decide)) (fun _ hk => hk.2) (.slice Ao51 t440.length co51)) (fun _ hk => hk.2) (.slice Ao55 t443.length co55)) (fun _ hk => hk.2) (.slice Ao56 t446.length co56)) (fun _ h_ => h_.1))))) (y6 (by repeat (first | (with_reducible first | exact HB.out | apply y3 | apply y23 | apply y4 | refine y5 ?_ GE423.out | refine y5 ?_ GE424.out | refine y5 ?_ GE449.out) | exact HB.out)))); have n8_ := y0.mk (y9 (g := gb423) (o := .cells #[.slice A0_0 l0_0.length c0_0,.slice A0_1 l0_1.length c0_1,.slice A0_2 l0_2.length c0_2] 26 (0,0)) (by (with_reducible repeat (first | refine y12 ?_ _ | refine y11 ?_ | refine y8 ?_ _)); refine blk_far ?_ NB423_449.out _; (with_reducible repeat (first | refine y12 ?_ _ | refine y11 ?_ | refine y8 ?_ _)); refine blk_far ?_ NB423_449.out _; (with_reducible repeat (first | refine y12 ?_ _ | refine y11 ?_ | refine y8 ?_ _)); refine blk_far ?_ NB423_449.out _; (with_reducible repeat (first | refine y12 ?_ _ | refine y11 ?_ | refine y8 ?_ _)); exact BK423.out) hb); have n9_ := y0.mk (y9 (g := gb424) (o := .cells #[.slice A2_0 l2_0.length c2_0] 29 (0,0)) (by (with_reducible repeat (first | refine y12 ?_ _ | refine y11 ?_ | refine y8 ?_ _)); refine blk_far ?_ NB424_449.out _; (with_reducible repeat (first | refine y12 ?_ _ | refine y11 ?_ | refine y8 ?_ _)); refine blk_far ?_ NB424_449.out _; (with_reducible repeat (first | refine y12 ?_ _ | refine y11 ?_ | refine y8 ?_ _)); refine blk_far ?_ NB424_449.out _; (with_reducible repeat (first | refine y12 ?_ _ | refine y11 ?_ | refine y8 ?_ _)); exact BK424.out) hb); have n10_ := y0.mk (y9 (g := gb449) (o := .cells #[.slice Ao51 t440.length co51,.slice Ao55 t443.length co55,.slice Ao56 t446.length co56] 37 (0,0)) (by (with_reducible repeat (first | refine y12 ?_ _ | refine y11 ?_ | refine y8 ?_ _)); refine blk_put (cs := #[.slice Ao51 t440.length co51,.slice Ao55 t443.length co55,.slice none 0 0]) ?_ 2 _ rfl; (with_reducible repeat (first | refine y12 ?_ _ | refine y11 ?_ | refine y8 ?_ _)); refine blk_put (cs := #[.slice Ao51 t440.length co51,.slice none 0 0,.slice none 0 0]) ?_ 1 _ rfl; (with_reducible repeat (first | refine y12 ?_ _ | refine y11 ?_ | refine y8 ?_ _)); refine blk_put (cs := #[.slice none 0 0,.slice none 0 0,.slice none 0 0]) ?_ 0 _ rfl; (with_reducible repeat (first | refine y12 ?_ _ | refine y11 ?_ | refine y8 ?_ _)); exact BK449.out) hb); have n11_ := y0.mk (y7 (by repeat (first | (with_reducible first | exact HB.out | apply y3 | apply y23 | apply y4 | refine y5 ?_ GE423.out | refine y5 ?_ GE424.out | refine y5 ?_ GE449.out) | exact HB.out)) hb); clear HO429; clear HO432; clear HO435; clear HO438; clear HO442; clear HO445; clear HO448; clear BK423; clear BK424; clear BK449; clear HB; have HO429 := n0_; have HO432 := n1_; have HO435 := n2_; have HO438 := n3_; have HO442 := n4_; have HO445 := n5_; have HO448 := n6_; have HO452 := n7_; have BK423 := n8_; have BK424 := n9_; have BK449 := n10_; have HB := n11_; clear n0_ n1_ n2_ n3_ n4_ n5_ n6_ n7_ n8_ n9_ n10_ n11_; (try clear hb); (try clear hb2); (try clear hk); (try clear hi); (try clear ho0)) | ((with_reducible refine y19 (N := 10) rfl ?_); refine y15 ?hg (N := 10) ?hd (cs := #[.slice none 0 0]) (t := 39) ?hr ?_; (case hd => rfl); (case hg => rfl); (case hr => first | (go_simp; done) | (go_simp; rfl)); intro gb453 hg w59 hbox hb; have n0_ := y0.mk (Kd.R_below (by (with_reducible repeat (first | apply Kd.R_alloc | apply Kd.R_drewN | apply Kd.R_drew)); exact HO429.out) hb); have n1_ := y0.mk (Kd.S_below (by (with_reducible repeat (first | apply Kd.S_alloc | apply Kd.S_drewN | apply Kd.S_drew)); exact HO432.out) hb); have n2_ := y0.mk (Kd.R_below (by (with_reducible repeat (first | apply Kd.R_alloc | apply Kd.R_drewN | apply Kd.R_drew)); exact HO435.out) hb); have n3_ := y0.mk (Kd.R_below (by (with_reducible repeat (first | apply Kd.R_alloc | apply Kd.R_drewN | apply Kd.R_drew)); exact HO438.out) hb); have n4_ := y0.mk (Kd.R_below (by (with_reducible repeat (first | apply Kd.R_alloc | apply Kd.R_drewN | apply Kd.R_drew)); exact HO442.out) hb); have n5_ := y0.mk (Kd.S_below (by (with_reducible repeat (first | apply Kd.S_alloc | apply Kd.S_drewN | apply Kd.S_drew)); exact HO445.out) hb); have n6_ := y0.mk (Kd.R_below (by (with_reducible repeat (first | apply Kd.R_alloc | apply Kd.R_drewN | apply Kd.R_drew)); exact HO448.out) hb); have n7_ := y0.mk (Kd.R_below (by (with_reducible repeat (first | apply Kd.R_alloc | apply Kd.R_drewN | apply Kd.R_drew)); exact HO452.out) hb); have n8_ := y0.mk (y9 (g := gb423) (o := .cells #[.slice A0_0 l0_0.length c0_0,.slice A0_1 l0_1.length c0_1,.slice A0_2 l0_2.length c0_2] 26 (0,0)) (by (with_reducible repeat (first | refine y12 ?_ _ | refine y11 ?_ | refine y8 ?_ _)); exact BK423.out) hb); have n9_ := y0.mk (y9 (g := gb424) (o := .cells #[.slice A2_0 l2_0.length c2_0] 29 (0,0)) (by (with_reducible repeat (first | refine y12 ?_ _ | refine y11 ?_ | refine y8 ?_ _)); exact BK424.out) hb); have n10_ := y0.mk (y9 (g := gb449) (o := .cells #[.slice Ao51 t440.length co51,.slice Ao55 t443.length co55,.slice Ao56 t446.length co56] 37 (0,0)) (by (with_reducible repeat (first | refine y12 ?_ _ | refine y11 ?_ | refine y8 ?_ _)); exact BK449.out) hb); have n11_ := y0.mk (y7 (by repeat (first | (with_reducible first | exact HB.out | apply y3 | apply y23 | apply y4 | refine y5 ?_ GE423.out | refine y5 ?_ GE424.out | refine y5 ?_ GE449.out) | exact HB.out)) hb); have n12_ := y0.mk (hbox); have n13_ := y0.mk ((by rw [hg]; exact (y6 (by repeat (first | (with_reducible first | exact HB.out | apply y3 | apply y23 | apply y4 | refine y5 ?_ GE423.out | refine y5 ?_ GE424.out | refine y5 ?_ GE449.out) | exact HB.out))) : w.heap.size ≤ gb453)); have n14_ := y0.mk ((by rw [hg]; exact (y6 (by repeat (first | (with_reducible first | exact HB.out | apply y3 | apply y23 | apply y4 | refine y5 ?_ GE423.out | refine y5 ?_ GE424.out | refine y5 ?_ GE449.out) | exact HB.out))) : w.heap.size ≤ gb453)); have n15_ := y0.mk ((by rw [hg]; exact Nat.ne_of_lt (y14 (g := gb423) (o := .cells #[.slice A0_0 l0_0.length c0_0,.slice A0_1 l0_1.length c0_1,.slice A0_2 l0_2.length c0_2] 26 (0,0)) (by (with_reducible repeat (first | refine y12 ?_ _ | refine y11 ?_ | refine y8 ?_ _)); exact BK423.out)) : gb423 ≠ gb453)); have n16_ := y0.mk ((by rw [hg]; exact Nat.ne_of_gt (y14 (g := gb423) (o := .cells #[.slice A0_0 l0_0.length c0_0,.slice A0_1 l0_1.length c0_1,.slice A0_2 l0_2.length c0_2] 26 (0,0)) (by (with_reducible repeat (first | refine y12 ?_ _ | refine y11 ?_ | refine y8 ?_ _)); exact BK423.out)) : gb453 ≠ gb423)); have n17_ := y0.mk ((by rw [hg]; exact Nat.ne_of_lt (y14 (g := gb424) (o := .cells #[.slice A2_0 l2_0.length c2_0] 29 (0,0)) (by (with_reducible repeat (first | refine y12 ?_ _ | refine y11 ?_ | refine y8 ?_ _)); exact BK424.out)) : gb424 ≠ gb453)); have n18_ := y0.mk ((by rw [hg]; exact Nat.ne_of_gt (y14 (g := gb424) (o := .cells #[.slice A2_0 l2_0.length c2_0] 29 (0,0)) (by (with_reducible repeat (first | refine y12 ?_ _ | refine y11 ?_ | refine y8 ?_ _)); exact BK424.out)) : gb453 ≠ gb424)); have n19_ := y0.mk ((by rw [hg]; exact Nat.ne_of_lt (y14 (g := gb449) (o := .cells #[.slice Ao51 t440.length co51,.slice Ao55 t443.length co55,.slice Ao56 t446.length co56] 37 (0,0)) (by (with_reducible repeat (first | refine y12 ?_ _ | refine y11 ?_ | refine y8 ?_ _)); exact BK449.out)) : gb449 ≠ gb453)); have n20_ := y0.mk ((by rw [hg]; exact Nat.ne_of_gt (y14 (g := gb449) (o := .cells #[.slice Ao51 t440.length co51,.slice Ao55 t443.length co55,.slice Ao56 t446.length co56] 37 (0,0)) (by (with_reducible repeat (first | refine y12 ?_ _ | refine y11 ?_ | refine y8 ?_ _)); exact BK449.out)) : gb453 ≠ gb449)); clear HO429; clear HO432; clear HO435; clear HO438; clear HO442; clear HO445; clear HO448; clear HO452; clear BK423; clear BK424; clear BK449; clear HB; have HO429 := n0_; have HO432 := n1_; have HO435 := n2_; have HO438 := n3_; have HO442 := n4_; have HO445 := n5_; have HO448 := n6_; have HO452 := n7_; have BK423 := n8_; have BK424 := n9_; have BK449 := n10_; have HB := n11_; have BK453 := n12_; have GW453 := n13_; have GE453 := n14_; have NB423_453 := n15_; have NB453_423 := n16_; have NB424_453 := n17_; have NB453_424 := n18_; have NB449_453 := n19_; have NB453_449 := n20_; clear n0_ n1_ n2_ n3_ n4_ n5_ n6_ n7_ n8_ n9_ n10_ n11_ n12_ n13_ n14_ n15_ n16_ n17_ n18_ n19_ n20_; clear hb hbox hg; obtain ⟨Ao60,co60,eo60⟩ := Kd.R_slice HO452.out; subst eo60; have hnb61 := NB453_423.out; have hnc61 := NB423_453.out; have hnb62 := NB453_424.out; have hnc62 := NB424_453.out; have hnb63 := NB453_449.out; have hnc63 := NB449_453.out; have hcz64_0 : w59.cell? ⟨gb453,0,none⟩ = some (.slice none 0 0) := (y10 BK453.out 0).trans rfl; have hfz64_0 := y13 BK453.out 0; have hcz65_0 : w59.cell? ⟨gb449,0,none⟩ = some (.slice Ao51 t440.length co51) := (y10 BK449.out 0).trans rfl; have hcz65_1 : w59.cell? ⟨gb449,1,none⟩ = some (.slice Ao55 t443.length co55) := (y10 BK449.out 1).trans rfl; have hcz65_2 : w59.cell? ⟨gb449,2,none⟩ = some (.slice Ao56 t446.length co56) := (y10 BK449.out 2).trans rfl; have hfz65_0 := y13 BK449.out 0; have hfz65_1 := y13 BK449.out 1; have hfz65_2 := y13 BK449.out 2) | ((with_reducible refine y18 (f := 9) rfl ?_); refine y20 (some 35) rfl rfl Tryz.func9 (by kernel_rfl) rfl #[.agg #[.slice Ao51 t440.length co51,.slice Ao55 t443.length co55,.slice Ao56 t446.length co56],.int .i64 a1,.agg #[.slice Ao60 t450.length co60]] rfl (by (try simp only [qM_,List.map_cons,List.map_nil]); first | done | rfl | (simp only [qD_,qT_]; rfl)) ?_; (with_reducible refine (impl_FactText.calls k _ _ t440 _ _ t443 _ _ t446 a1 _ _ t450 t454 _ ?side1 ?side2 ?side3 ?side4 ?side5 ?side6 ?side7 ?side8 ?side9 A25.out).mono ?_); (case side1 => refine (Kd.R_reads' (e := 77) (base := w.heap.size) (ok := fun k_ => (((True ∧ some k_ ≠ (.slice Ao43 t427.length co43 : Value).ownBlock) ∧ some k_ ≠ (.slice Ao46 t436.length co46 : Value).ownBlock) ∧ some k_ ≠ (.slice Ao60 t450.length co60 : Value).ownBlock)) (n := t440.length) (c := co51) ?_).2.2; exact (by (with_reducible repeat (first | apply Kd.R_alloc | apply Kd.R_drewN | apply Kd.R_drew)); exact (Kd.R_mono (Kd.R_far (p := ⟨gb453,0,none⟩) (Kd.R_types HO442.out BK453.out (by decide)) (fun _ hk => hk.2) (.slice Ao60 t450.length co60)) (fun _ h_ => h_.1)))); (case side2 => exact (Kd.R_reads' HO442.out).2.1); (case side3 => refine (Kd.S_reads' (e := 51) (base := w.heap.size) (ok := fun k_ => (((True ∧ some k_ ≠ (.slice Ao44 t430.length co44 : Value).ownBlock) ∧ some k_ ≠ (.slice Ao46 t436.length co46 : Value).ownBlock) ∧ some k_ ≠ (.slice Ao60 t450.length co60 : Value).ownBlock)) (n := t443.length) (c := co55) ?_).2.2; exact (by (with_reducible repeat (first | apply Kd.S_alloc | apply Kd.S_drewN | apply Kd.S_drew)); exact (Kd.S_mono (Kd.S_far (p := ⟨gb453,0,none⟩) (Kd.S_types HO445.out BK453.out (by decide)) (fun _ hk => hk.2) (.slice Ao60 t450.length co60)) (fun _ h_ => h_.1)))); (case side4 => exact (Kd.S_reads' HO445.out).2.1); (case side5 => refine (Kd.R_reads' (e := 84) (base := w.heap.size) (ok := fun k_ => (True ∧ some k_ ≠ (.slice Ao45 t433.length co45 : Value).ownBlock)) (n := t446.length) (c := co56) ?_).2.2; exact (by (with_reducible repeat (first | apply Kd.R_alloc | apply Kd.R_drewN | apply Kd.R_drew)); exact (Kd.R_mono (Kd.R_far (p := ⟨gb453,0,none⟩) (Kd.R_types HO448.out BK453.out (by decide)) (fun _ hk => hk.2) (.slice Ao60 t450.length co60)) (fun _ h_ => h_.1)))); (case side6 => exact (Kd.R_reads' HO448.out).2.1); (case side7 => refine (Kd.R_reads' (e := 9) (base := w.heap.size) (ok := fun k_ => (True ∧ some k_ ≠ (.slice Ao46 t436.length co46 : Value).ownBlock)) (n := t450.length) (c := co60) ?_).2.2; exact (by (with_reducible repeat (first | apply Kd.R_alloc | apply Kd.R_drewN | apply Kd.R_drew)); exact (Kd.R_mono (Kd.R_far (p := ⟨gb453,0,none⟩) (Kd.R_types HO452.out BK453.out (by decide)) (fun _ hk => hk.2) (.slice Ao60 t450.length co60)) (fun _ h_ => h_.1)))); (case side8 => exact (Kd.R_reads' HO452.out).2.1); (case side9 => exact Tb.below HT.out (by repeat (first | (with_reducible first | exact HB.out | apply y3 | apply y23 | apply y4 | refine y5 ?_ GE423.out | refine y5 ?_ GE424.out | refine y5 ?_ GE449.out | refine y5 ?_ GE453.out) | exact HB.out))); rintro e w66 ⟨rfl,hb⟩; refine ⟨_,rfl, ?_⟩; have n0_ := y0.mk (Kd.R_below (by (with_reducible repeat (first | apply Kd.R_alloc | apply Kd.R_drewN | apply Kd.R_drew)); exact (Kd.R_mono (Kd.R_far (p := ⟨gb453,0,none⟩) (Kd.R_types HO429.out BK453.out (by decide)) (fun _ hk => hk.2) (.slice Ao60 t450.length co60)) (fun _ h_ => h_.1))) hb); have n1_ := y0.mk (Kd.S_below (by (with_reducible repeat (first | apply Kd.S_alloc | apply Kd.S_drewN | apply Kd.S_drew)); exact (Kd.S_mono (Kd.S_far (p := ⟨gb453,0,none⟩) (Kd.S_types HO432.out BK453.out (by decide)) (fun _ hk => hk.2) (.slice Ao60 t450.length co60)) (fun _ h_ => h_.1))) hb); have n2_ := y0.mk (Kd.R_below (by (with_reducible repeat (first | apply Kd.R_alloc | apply Kd.R_drewN | apply Kd.R_drew)); exact (Kd.R_mono (Kd.R_far (p := ⟨gb453,0,none⟩) (Kd.R_types HO435.out BK453.out (by decide)) (fun _ hk => hk.2) (.slice Ao60 t450.length co60)) (fun _ h_ => h_.1))) hb); have n3_ := y0.mk (Kd.R_below (by (with_reducible repeat (first | apply Kd.R_alloc | apply Kd.R_drewN | apply Kd.R_drew)); exact (Kd.R_mono (Kd.R_far (p := ⟨gb453,0,none⟩) (Kd.R_types HO438.out BK453.out (by decide)) (fun _ hk => hk.2) (.slice Ao60 t450.length co60)) (fun _ h_ => h_.1))) hb); have n4_ := y0.mk (Kd.R_below (by (with_reducible repeat (first | apply Kd.R_alloc | apply Kd.R_drewN | apply Kd.R_drew)); exact (Kd.R_mono (Kd.R_far (p := ⟨gb453,0,none⟩) (Kd.R_types HO442.out BK453.out (by decide)) (fun _ hk => hk.2) (.slice Ao60 t450.length co60)) (fun _ h_ => h_.1))) hb); have n5_ := y0.mk (Kd.S_below (by (with_reducible repeat (first | apply Kd.S_alloc | apply Kd.S_drewN | apply Kd.S_drew)); exact (Kd.S_mono (Kd.S_far (p := ⟨gb453,0,none⟩) (Kd.S_types HO445.out BK453.out (by decide)) (fun _ hk => hk.2) (.slice Ao60 t450.length co60)) (fun _ h_ => h_.1))) hb); have n6_ := y0.mk (Kd.R_below (by (with_reducible repeat (first | apply Kd.R_alloc | apply Kd.R_drewN | apply Kd.R_drew)); exact (Kd.R_mono (Kd.R_far (p := ⟨gb453,0,none⟩) (Kd.R_types HO448.out BK453.out (by decide)) (fun _ hk => hk.2) (.slice Ao60 t450.length co60)) (fun _ h_ => h_.1))) hb); have n7_ := y0.mk (Kd.R_below (by (with_reducible repeat (first | apply Kd.R_alloc | apply Kd.R_drewN | apply Kd.R_drew)); exact (Kd.R_mono (Kd.R_far (p := ⟨gb453,0,none⟩) (Kd.R_types HO452.out BK453.out (by decide)) (fun _ hk => hk.2) (.slice Ao60 t450.length co60)) (fun _ h_ => h_.1))) hb); have n8_ := y0.mk (y9 (g := gb423) (o := .cells #[.slice A0_0 l0_0.length c0_0,.slice A0_1 l0_1.length c0_1,.slice A0_2 l0_2.length c0_2] 26 (0,0)) (by (with_reducible repeat (first | refine y12 ?_ _ | refine y11 ?_ | refine y8 ?_ _)); refine blk_far ?_ NB423_453.out _; (with_reducible repeat (first | refine y12 ?_ _ | refine y11 ?_ | refine y8 ?_ _)); exact BK423.out) hb); have n9_ := y0.mk (y9 (g := gb424) (o := .cells #[.slice A2_0 l2_0.length c2_0] 29 (0,0)) (by (with_reducible repeat (first | refine y12 ?_ _ | refine y11 ?_ | refine y8 ?_ _)); refine blk_far ?_ NB424_453.out _; (with_reducible repeat (first | refine y12 ?_ _ | refine y11 ?_ | refine y8 ?_ _)); exact BK424.out) hb); have n10_ := y0.mk (y9 (g := gb449) (o := .cells #[.slice Ao51 t440.length co51,.slice Ao55 t443.length co55,.slice Ao56 t446.length co56] 37 (0,0)) (by (with_reducible repeat (first | refine y12 ?_ _ | refine y11 ?_ | refine y8 ?_ _)); refine blk_far ?_ NB449_453.out _; (with_reducible repeat (first | refine y12 ?_ _ | refine y11 ?_ | refine y8 ?_ _)); exact BK449.out) hb); have n11_ := y0.mk (y9 (g := gb453) (o := .cells #[.slice Ao60 t450.length co60] 39 (0,0)) (by (with_reducible repeat (first | refine y12 ?_ _ | refine y11 ?_ | refine y8 ?_ _)); refine blk_put (cs := #[.slice none 0 0]) ?_ 0 _ rfl; (with_reducible repeat (first | refine y12 ?_ _ | refine y11 ?_ | refine y8 ?_ _)); exact BK453.out) hb); have n12_ := y0.mk (y7 (by repeat (first | (with_reducible first | exact HB.out | apply y3 | apply y23 | apply y4 | refine y5 ?_ GE423.out | refine y5 ?_ GE424.out | refine y5 ?_ GE449.out | refine y5 ?_ GE453.out) | exact HB.out)) hb); clear HO429; clear HO432; clear HO435; clear HO438; clear HO442; clear HO445; clear HO448; clear HO452; clear BK423; clear BK424; clear BK449; clear BK453; clear HB; have HO429 := n0_; have HO432 := n1_; have HO435 := n2_; have HO438 := n3_; have HO442 := n4_; have HO445 := n5_; have HO448 := n6_; have HO452 := n7_; have BK423 := n8_; have BK424 := n9_; have BK449 := n10_; have BK453 := n11_; have HB := n12_; clear n0_ n1_ n2_ n3_ n4_ n5_ n6_ n7_ n8_ n9_ n10_ n11_ n12_; (try clear hb); (try clear hb2); (try clear hk); (try clear hi)))
      have n0_ := y0.mk (Kd.R_drew HO429.out)
      have n1_ := y0.mk (Kd.S_drew HO432.out)
      have n2_ := y0.mk (Kd.R_drew HO435.out)
      have n3_ := y0.mk (Kd.R_drew HO438.out)
      have n4_ := y0.mk (Kd.R_drew HO442.out)
      have n5_ := y0.mk (Kd.S_drew HO445.out)
      have n6_ := y0.mk (Kd.R_drew HO448.out)
      have n7_ := y0.mk (Kd.R_drew HO452.out)
      have n8_ := y0.mk (y11 BK423.out)
      have n9_ := y0.mk (y11 BK424.out)
      have n10_ := y0.mk (y11 BK449.out)
      have n11_ := y0.mk (y11 BK453.out)
      have n12_ := y0.mk (y4 HB.out)
      clear HO429
      clear HO432
      clear HO435
      clear HO438
      clear HO442
      clear HO445
      clear HO448
      clear HO452
      clear BK423
      clear BK424
      clear BK449
      clear BK453
      clear HB
      have HO429 := n0_
      have HO432 := n1_
      have HO435 := n2_
      have HO438 := n3_
      have HO442 := n4_
      have HO445 := n5_
      have HO448 := n6_
      have HO452 := n7_
      have BK423 := n8_
      have BK424 := n9_
      have BK449 := n10_
      have BK453 := n11_
      have HB := n12_
      clear n0_ n1_ n2_ n3_ n4_ n5_ n6_ n7_ n8_ n9_ n10_ n11_ n12_
      refine start_ (n := 5) (S := fun w' => w'.cell? ⟨gb449,0,none⟩ = some (.slice Ao51 t440.length co51) ∧ w'.cell? ⟨gb449,1,none⟩ = some (.slice Ao55 t443.length co55) ∧ w'.cell? ⟨gb449,2,none⟩ = some (.slice Ao56 t446.length co56) ∧ w'.cell? ⟨gb423,0,none⟩ = some (.slice A0_0 l0_0.length c0_0) ∧ w'.cell? ⟨gb423,1,none⟩ = some (.slice A0_1 l0_1.length c0_1) ∧ w'.cell? ⟨gb423,2,none⟩ = some (.slice A0_2 l0_2.length c0_2)) (ds := []) #[false,false,false,false,false] (by kernel_rfl) rfl rfl ⟨(y10 BK449.out 0).trans rfl,(y10 BK449.out 1).trans rfl,(y10 BK449.out 2).trans rfl,(y10 BK423.out 0).trans rfl,(y10 BK423.out 1).trans rfl,(y10 BK423.out 2).trans rfl⟩ (fun hHeld => ?_)
      generalize w66.drew = w67 at HO429 HO432 HO435 HO438 HO442 HO445 HO448 HO452 BK423 BK424 BK449 BK453 HB hHeld ⊢
      refine take_ (i := 0) (N := some 39) (v := ?_) (a' := ?_) #[true,false,false,false,false] rfl rfl (by kernel_rfl) (fun _ _ _ h => h) (Or.inl ⟨by rfl, ?_⟩) hHeld ?_ ?_
      rotate_left
      ·rintro w' ⟨s0,s1,s2,s3,s4,s5⟩
       go_simp
       with_reducible rfl
      rotate_left
      ·simp only [Act.put,qS_,qZ_,qC_,y22,y21]
       rfl
      refine take_ (i := 1) (N := some 40) (v := ?_) (a' := ?_) #[true,true,false,false,false] rfl rfl (by kernel_rfl) (fun _ _ _ h => h) (Or.inl ⟨by rfl, ?_⟩) hHeld ?_ ?_
      rotate_left
      ·rintro w' ⟨s0,s1,s2,s3,s4,s5⟩
       go_simp
       with_reducible rfl
      rotate_left
      ·simp only [Act.put,qS_,qZ_,qC_,y22,y21]
       rfl
      refine one_ (i := 2) (N := some 41) #[true,true,true,false,false] rfl rfl (by kernel_rfl) (by decide) (fun K hK => ?_)
      refine goes_ Tryz.func7 (by kernel_rfl) rfl #[.agg #[.slice A0_0 l0_0.length c0_0,.slice A0_1 l0_1.length c0_1,.slice A0_2 l0_2.length c0_2]] (by rfl) rfl rfl (by (try simp only [qM_,List.map_cons,List.map_nil]); first | done | rfl | (simp only [qD_,qT_]; rfl)) ?_
      with_reducible refine (laws_toProg.calls k _ _ l0_0 _ _ l0_1 _ _ l0_2 t455 t458 t461 _ ?side1 ?side2 ?side3 ?side4 ?side5 ?side6 A27.out).mono ?_
      (case side1 => repeat (first | exact (Kd.C_below HR0_0.out HB.out) | (with_reducible refine Kd.C_alloc ?_ _) | (with_reducible refine Kd.C_drewN ?_ _) | (with_reducible refine Kd.C_drew ?_)))
      (case side2 => exact HC0_0.out)
      (case side3 => repeat (first | exact (Kd.C_below HR0_1.out HB.out) | (with_reducible refine Kd.C_alloc ?_ _) | (with_reducible refine Kd.C_drewN ?_ _) | (with_reducible refine Kd.C_drew ?_)))
      (case side4 => exact HC0_1.out)
      (case side5 => repeat (first | exact (Kd.C_below HR0_2.out HB.out) | (with_reducible refine Kd.C_alloc ?_ _) | (with_reducible refine Kd.C_drewN ?_ _) | (with_reducible refine Kd.C_drew ?_)))
      (case side6 => exact HC0_2.out)
      rintro e w68 ⟨v456,v459,v462,rfl,ho0,ho1,ho2,hb⟩
      refine ⟨_,rfl, ?_⟩
      have n0_ := y0.mk (Kd.R_elder' (by (with_reducible repeat (first | apply Kd.R_alloc | apply Kd.R_drewN | apply Kd.R_drew)); exact HO429.out) (Kd.R_base ho0) hb)
      have n1_ := y0.mk (Kd.S_elder' (by (with_reducible repeat (first | apply Kd.S_alloc | apply Kd.S_drewN | apply Kd.S_drew)); exact HO432.out) (Kd.S_base ho1) hb)
      have n2_ := y0.mk (Kd.R_elder' (by (with_reducible repeat (first | apply Kd.R_alloc | apply Kd.R_drewN | apply Kd.R_drew)); exact HO435.out) (Kd.R_base ho2) hb)
      have n3_ := y0.mk (Kd.R_below (by (with_reducible repeat (first | apply Kd.R_alloc | apply Kd.R_drewN | apply Kd.R_drew)); exact HO438.out) hb)
      have n4_ := y0.mk (Kd.R_elder' (by (with_reducible repeat (first | apply Kd.R_alloc | apply Kd.R_drewN | apply Kd.R_drew)); exact HO442.out) (Kd.R_base ho0) hb)
      have n5_ := y0.mk (Kd.S_elder' (by (with_reducible repeat (first | apply Kd.S_alloc | apply Kd.S_drewN | apply Kd.S_drew)); exact HO445.out) (Kd.S_base ho1) hb)
      have n6_ := y0.mk (Kd.R_elder' (by (with_reducible repeat (first | apply Kd.R_alloc | apply Kd.R_drewN | apply Kd.R_drew)); exact HO448.out) (Kd.R_base ho2) hb)
      have n7_ := y0.mk (Kd.R_below (by (with_reducible repeat (first | apply Kd.R_alloc | apply Kd.R_drewN | apply Kd.R_drew)); exact HO452.out) hb)
      have n8_ := y0.mk (Kd.R_lower (Kd.R_new' (Kd.R_new' (Kd.R_new' (Kd.R_new' ho0 (Kd.R_lt (by (with_reducible repeat (first | apply Kd.R_alloc | apply Kd.R_drewN | apply Kd.R_drew)); exact HO429.out))) (Kd.R_lt (by (with_reducible repeat (first | apply Kd.R_alloc | apply Kd.R_drewN | apply Kd.R_drew)); exact HO438.out))) (Kd.R_lt (by (with_reducible repeat (first | apply Kd.R_alloc | apply Kd.R_drewN | apply Kd.R_drew)); exact HO442.out))) (Kd.R_lt (by (with_reducible repeat (first | apply Kd.R_alloc | apply Kd.R_drewN | apply Kd.R_drew)); exact HO452.out))) (y6 (by repeat (first | (with_reducible first | exact HB.out | apply y3 | apply y23 | apply y4 | refine y5 ?_ GE423.out | refine y5 ?_ GE424.out | refine y5 ?_ GE449.out | refine y5 ?_ GE453.out) | exact HB.out))))
      have n9_ := y0.mk (Kd.S_lower (Kd.S_new' (Kd.S_new' (Kd.S_new' (Kd.S_new' ho1 (Kd.S_lt (by (with_reducible repeat (first | apply Kd.S_alloc | apply Kd.S_drewN | apply Kd.S_drew)); exact HO432.out))) (Kd.R_lt (by (with_reducible repeat (first | apply Kd.R_alloc | apply Kd.R_drewN | apply Kd.R_drew)); exact HO438.out))) (Kd.S_lt (by (with_reducible repeat (first | apply Kd.S_alloc | apply Kd.S_drewN | apply Kd.S_drew)); exact HO445.out))) (Kd.R_lt (by (with_reducible repeat (first | apply Kd.R_alloc | apply Kd.R_drewN | apply Kd.R_drew)); exact HO452.out))) (y6 (by repeat (first | (with_reducible first | exact HB.out | apply y3 | apply y23 | apply y4 | refine y5 ?_ GE423.out | refine y5 ?_ GE424.out | refine y5 ?_ GE449.out | refine y5 ?_ GE453.out) | exact HB.out))))
      have n10_ := y0.mk (Kd.R_lower (Kd.R_new' (Kd.R_new' ho2 (Kd.R_lt (by (with_reducible repeat (first | apply Kd.R_alloc | apply Kd.R_drewN | apply Kd.R_drew)); exact HO435.out))) (Kd.R_lt (by (with_reducible repeat (first | apply Kd.R_alloc | apply Kd.R_drewN | apply Kd.R_drew)); exact HO448.out))) (y6 (by repeat (first | (with_reducible first | exact HB.out | apply y3 | apply y23 | apply y4 | refine y5 ?_ GE423.out | refine y5 ?_ GE424.out | refine y5 ?_ GE449.out | refine y5 ?_ GE453.out) | exact HB.out))))
      have n11_ := y0.mk (y9 (g := gb423) (o := .cells #[.slice A0_0 l0_0.length c0_0,.slice A0_1 l0_1.length c0_1,.slice A0_2 l0_2.length c0_2] 26 (0,0)) (by (with_reducible repeat (first | refine y12 ?_ _ | refine y11 ?_ | refine y8 ?_ _)); exact BK423.out) hb)
      have n12_ := y0.mk (y9 (g := gb424) (o := .cells #[.slice A2_0 l2_0.length c2_0] 29 (0,0)) (by (with_reducible repeat (first | refine y12 ?_ _ | refine y11 ?_ | refine y8 ?_ _)); exact BK424.out) hb)
      have n13_ := y0.mk (y9 (g := gb449) (o := .cells #[.slice Ao51 t440.length co51,.slice Ao55 t443.length co55,.slice Ao56 t446.length co56] 37 (0,0)) (by (with_reducible repeat (first | refine y12 ?_ _ | refine y11 ?_ | refine y8 ?_ _)); exact BK449.out) hb)
      have n14_ := y0.mk (y9 (g := gb453) (o := .cells #[.slice Ao60 t450.length co60] 39 (0,0)) (by (with_reducible repeat (first | refine y12 ?_ _ | refine y11 ?_ | refine y8 ?_ _)); exact BK453.out) hb)
      have n15_ := y0.mk (y7 (by repeat (first | (with_reducible first | exact HB.out | apply y3 | apply y23 | apply y4 | refine y5 ?_ GE423.out | refine y5 ?_ GE424.out | refine y5 ?_ GE449.out | refine y5 ?_ GE453.out) | exact HB.out)) hb)
      clear HO429
      clear HO432
      clear HO435
      clear HO438
      clear HO442
      clear HO445
      clear HO448
      clear HO452
      clear BK423
      clear BK424
      clear BK449
      clear BK453
      clear HB
      have HO429 := n0_
      have HO432 := n1_
      have HO435 := n2_
      have HO438 := n3_
      have HO442 := n4_
      have HO445 := n5_
      have HO448 := n6_
      have HO452 := n7_
      have HO457 := n8_
      have HO460 := n9_
      have HO463 := n10_
      have BK423 := n11_
      have BK424 := n12_
      have BK449 := n13_
      have BK453 := n14_
      have HB := n15_
      clear n0_ n1_ n2_ n3_ n4_ n5_ n6_ n7_ n8_ n9_ n10_ n11_ n12_ n13_ n14_ n15_
      (try clear hb)
      (try clear hb2)
      (try clear hk)
      (try clear hi)
      (try clear ho0)
      (try clear ho1)
      (try clear ho2)
      obtain ⟨Ao69,co69,eo69⟩ := Kd.R_slice HO457.out
      (first | subst eo69 | (injection eo69 with f1_ f2_ f3_; have f4_ := f1_.symm; have f5_ := f3_.symm; clear f1_ f2_ f3_; subst f4_; subst f5_))
      obtain ⟨Ao70,co70,eo70⟩ := Kd.S_slice HO460.out
      (first | subst eo70 | (injection eo70 with f1_ f2_ f3_; have f4_ := f1_.symm; have f5_ := f3_.symm; clear f1_ f2_ f3_; subst f4_; subst f5_))
      obtain ⟨Ao71,co71,eo71⟩ := Kd.R_slice HO463.out
      (first | subst eo71 | (injection eo71 with f1_ f2_ f3_; have f4_ := f1_.symm; have f5_ := f3_.symm; clear f1_ f2_ f3_; subst f4_; subst f5_))
      refine hK.out _ _ ⟨(y10 BK449.out 0).trans rfl,(y10 BK449.out 1).trans rfl,(y10 BK449.out 2).trans rfl,(y10 BK423.out 0).trans rfl,(y10 BK423.out 1).trans rfl,(y10 BK423.out 2).trans rfl⟩ (fun hHeld => ?_)
      clear hK K
      refine norm_ (a' := ?_) ?_ ?_
      rotate_left
      ·show Act.put _ (some 41) _ = _
       simp only [Act.put,qS_,qZ_,qC_,y22,y21]
       rfl
      refine one_ (i := 3) (N := some 42) #[true,true,true,true,false] rfl rfl (by kernel_rfl) (by decide) (fun K hK => ?_)
      refine goes_ Tryz.func10 (by kernel_rfl) rfl #[.agg #[.slice Ao51 t440.length co51,.slice Ao55 t443.length co55,.slice Ao56 t446.length co56],.agg #[.slice Ao69 t455.length co69,.slice Ao70 t458.length co70,.slice Ao71 t461.length co71]] (by rfl) rfl rfl (by (try simp only [qM_,List.map_cons,List.map_nil]); first | done | rfl | (simp only [qD_,qT_]; rfl)) ?_
      with_reducible refine (laws_eqProg.calls k _ _ t440 _ _ t443 _ _ t446 _ _ t455 _ _ t458 _ _ t461 true _ ?side1 ?side2 ?side3 ?side4 ?side5 ?side6 ?side7 ?side8 ?side9 ?side10 ?side11 ?side12 A28.out rfl).mono ?_
      (case side1 => repeat (first | exact (Kd.R_reads' HO442.out).2.2 | (with_reducible refine Kd.C_alloc ?_ _) | (with_reducible refine Kd.C_drewN ?_ _) | (with_reducible refine Kd.C_drew ?_)))
      (case side2 => exact (Kd.R_reads' HO442.out).2.1)
      (case side3 => repeat (first | exact (Kd.S_reads' HO445.out).2.2 | (with_reducible refine Kd.C_alloc ?_ _) | (with_reducible refine Kd.C_drewN ?_ _) | (with_reducible refine Kd.C_drew ?_)))
      (case side4 => exact (Kd.S_reads' HO445.out).2.1)
      (case side5 => repeat (first | exact (Kd.R_reads' HO448.out).2.2 | (with_reducible refine Kd.C_alloc ?_ _) | (with_reducible refine Kd.C_drewN ?_ _) | (with_reducible refine Kd.C_drew ?_)))
      (case side6 => exact (Kd.R_reads' HO448.out).2.1)
      (case side7 => repeat (first | exact (Kd.R_reads' HO457.out).2.2 | (with_reducible refine Kd.C_alloc ?_ _) | (with_reducible refine Kd.C_drewN ?_ _) | (with_reducible refine Kd.C_drew ?_)))
      (case side8 => exact (Kd.R_reads' HO457.out).2.1)
      (case side9 => repeat (first | exact (Kd.S_reads' HO460.out).2.2 | (with_reducible refine Kd.C_alloc ?_ _) | (with_reducible refine Kd.C_drewN ?_ _) | (with_reducible refine Kd.C_drew ?_)))
      (case side10 => exact (Kd.S_reads' HO460.out).2.1)
      (case side11 => repeat (first | exact (Kd.R_reads' HO463.out).2.2 | (with_reducible refine Kd.C_alloc ?_ _) | (with_reducible refine Kd.C_drewN ?_ _) | (with_reducible refine Kd.C_drew ?_)))
      (case side12 => exact (Kd.R_reads' HO463.out).2.1)
      rintro e w72 ⟨rfl,hb⟩
      refine ⟨_,rfl, ?_⟩
      have n0_ := y0.mk (Kd.R_below (by (with_reducible repeat (first | apply Kd.R_alloc | apply Kd.R_drewN | apply Kd.R_drew)); exact HO429.out) hb)
      have n1_ := y0.mk (Kd.S_below (by (with_reducible repeat (first | apply Kd.S_alloc | apply Kd.S_drewN | apply Kd.S_drew)); exact HO432.out) hb)
      have n2_ := y0.mk (Kd.R_below (by (with_reducible repeat (first | apply Kd.R_alloc | apply Kd.R_drewN | apply Kd.R_drew)); exact HO435.out) hb)
      have n3_ := y0.mk (Kd.R_below (by (with_reducible repeat (first | apply Kd.R_alloc | apply Kd.R_drewN | apply Kd.R_drew)); exact HO438.out) hb)
      have n4_ := y0.mk (Kd.R_below (by (with_reducible repeat (first | apply Kd.R_alloc | apply Kd.R_drewN | apply Kd.R_drew)); exact HO442.out) hb)
      have n5_ := y0.mk (Kd.S_below (by (with_reducible repeat (first | apply Kd.S_alloc | apply Kd.S_drewN | apply Kd.S_drew)); exact HO445.out) hb)
      have n6_ := y0.mk (Kd.R_below (by (with_reducible repeat (first | apply Kd.R_alloc | apply Kd.R_drewN | apply Kd.R_drew)); exact HO448.out) hb)
      have n7_ := y0.mk (Kd.R_below (by (with_reducible repeat (first | apply Kd.R_alloc | apply Kd.R_drewN | apply Kd.R_drew)); exact HO452.out) hb)
      have n8_ := y0.mk (Kd.R_below (by (with_reducible repeat (first | apply Kd.R_alloc | apply Kd.R_drewN | apply Kd.R_drew)); exact HO457.out) hb)
      have n9_ := y0.mk (Kd.S_below (by (with_reducible repeat (first | apply Kd.S_alloc | apply Kd.S_drewN | apply Kd.S_drew)); exact HO460.out) hb)
      have n10_ := y0.mk (Kd.R_below (by (with_reducible repeat (first | apply Kd.R_alloc | apply Kd.R_drewN | apply Kd.R_drew)); exact HO463.out) hb)
      have n11_ := y0.mk (y9 (g := gb423) (o := .cells #[.slice A0_0 l0_0.length c0_0,.slice A0_1 l0_1.length c0_1,.slice A0_2 l0_2.length c0_2] 26 (0,0)) (by (with_reducible repeat (first | refine y12 ?_ _ | refine y11 ?_ | refine y8 ?_ _)); exact BK423.out) hb)
      have n12_ := y0.mk (y9 (g := gb424) (o := .cells #[.slice A2_0 l2_0.length c2_0] 29 (0,0)) (by (with_reducible repeat (first | refine y12 ?_ _ | refine y11 ?_ | refine y8 ?_ _)); exact BK424.out) hb)
      have n13_ := y0.mk (y9 (g := gb449) (o := .cells #[.slice Ao51 t440.length co51,.slice Ao55 t443.length co55,.slice Ao56 t446.length co56] 37 (0,0)) (by (with_reducible repeat (first | refine y12 ?_ _ | refine y11 ?_ | refine y8 ?_ _)); exact BK449.out) hb)
      have n14_ := y0.mk (y9 (g := gb453) (o := .cells #[.slice Ao60 t450.length co60] 39 (0,0)) (by (with_reducible repeat (first | refine y12 ?_ _ | refine y11 ?_ | refine y8 ?_ _)); exact BK453.out) hb)
      have n15_ := y0.mk (y7 (by repeat (first | (with_reducible first | exact HB.out | apply y3 | apply y23 | apply y4 | refine y5 ?_ GE423.out | refine y5 ?_ GE424.out | refine y5 ?_ GE449.out | refine y5 ?_ GE453.out) | exact HB.out)) hb)
      clear HO429
      clear HO432
      clear HO435
      clear HO438
      clear HO442
      clear HO445
      clear HO448
      clear HO452
      clear HO457
      clear HO460
      clear HO463
      clear BK423
      clear BK424
      clear BK449
      clear BK453
      clear HB
      have HO429 := n0_
      have HO432 := n1_
      have HO435 := n2_
      have HO438 := n3_
      have HO442 := n4_
      have HO445 := n5_
      have HO448 := n6_
      have HO452 := n7_
      have HO457 := n8_
      have HO460 := n9_
      have HO463 := n10_
      have BK423 := n11_
      have BK424 := n12_
      have BK449 := n13_
      have BK453 := n14_
      have HB := n15_
      clear n0_ n1_ n2_ n3_ n4_ n5_ n6_ n7_ n8_ n9_ n10_ n11_ n12_ n13_ n14_ n15_
      (try clear hb)
      (try clear hb2)
      (try clear hk)
      (try clear hi)
      refine hK.out _ _ ⟨(y10 BK449.out 0).trans rfl,(y10 BK449.out 1).trans rfl,(y10 BK449.out 2).trans rfl,(y10 BK423.out 0).trans rfl,(y10 BK423.out 1).trans rfl,(y10 BK423.out 2).trans rfl⟩ (fun hHeld => ?_)
      clear hK K
      refine norm_ (a' := ?_) ?_ ?_
      rotate_left
      ·show Act.put _ (some 42) _ = _
       simp only [Act.put,qS_,qZ_,qC_,y22,y21]
       rfl
      refine pure_ (i := 4) (N := some 43) (v := ?_) (a' := ?_) #[true,true,true,true,true] rfl rfl (by kernel_rfl) (fun _ _ _ h => h) (Or.inl ⟨by rfl, ?_⟩) ?_ ?_
      rotate_left
      ·intro w'
       go_simp
       with_reducible rfl
      rotate_left
      ·simp only [Act.put,qS_,qZ_,qC_,y22,y21]
       rfl
      refine done_ (by kernel_rfl) ?_
      try go_wp2
      have n0_ := y0.mk (Kd.R_drew HO429.out)
      have n1_ := y0.mk (Kd.S_drew HO432.out)
      have n2_ := y0.mk (Kd.R_drew HO435.out)
      have n3_ := y0.mk (Kd.R_drew HO438.out)
      have n4_ := y0.mk (Kd.R_drew HO442.out)
      have n5_ := y0.mk (Kd.S_drew HO445.out)
      have n6_ := y0.mk (Kd.R_drew HO448.out)
      have n7_ := y0.mk (Kd.R_drew HO452.out)
      have n8_ := y0.mk (Kd.R_drew HO457.out)
      have n9_ := y0.mk (Kd.S_drew HO460.out)
      have n10_ := y0.mk (Kd.R_drew HO463.out)
      have n11_ := y0.mk (y11 BK423.out)
      have n12_ := y0.mk (y11 BK424.out)
      have n13_ := y0.mk (y11 BK449.out)
      have n14_ := y0.mk (y11 BK453.out)
      have n15_ := y0.mk (y4 HB.out)
      clear HO429
      clear HO432
      clear HO435
      clear HO438
      clear HO442
      clear HO445
      clear HO448
      clear HO452
      clear HO457
      clear HO460
      clear HO463
      clear BK423
      clear BK424
      clear BK449
      clear BK453
      clear HB
      have HO429 := n0_
      have HO432 := n1_
      have HO435 := n2_
      have HO438 := n3_
      have HO442 := n4_
      have HO445 := n5_
      have HO448 := n6_
      have HO452 := n7_
      have HO457 := n8_
      have HO460 := n9_
      have HO463 := n10_
      have BK423 := n11_
      have BK424 := n12_
      have BK449 := n13_
      have BK453 := n14_
      have HB := n15_
      clear n0_ n1_ n2_ n3_ n4_ n5_ n6_ n7_ n8_ n9_ n10_ n11_ n12_ n13_ n14_ n15_
      refine start_ (n := 5) (S := fun w' => w'.cell? ⟨gb453,0,none⟩ = some (.slice Ao60 t450.length co60) ∧ w'.cell? ⟨gb424,0,none⟩ = some (.slice A2_0 l2_0.length c2_0)) (ds := []) #[false,false,false,false,false] (by kernel_rfl) rfl rfl ⟨(y10 BK453.out 0).trans rfl,(y10 BK424.out 0).trans rfl⟩ (fun hHeld => ?_)
      generalize w72.drew = w73 at HO429 HO432 HO435 HO438 HO442 HO445 HO448 HO452 HO457 HO460 HO463 BK423 BK424 BK449 BK453 HB hHeld ⊢
      refine take_ (i := 0) (N := some 44) (v := ?_) (a' := ?_) #[true,false,false,false,false] rfl rfl (by kernel_rfl) (fun _ _ _ h => h) (Or.inl ⟨by rfl, ?_⟩) hHeld ?_ ?_
      rotate_left
      ·rintro w' ⟨s0,s1⟩
       go_simp
       with_reducible rfl
      rotate_left
      ·simp only [Act.put,qS_,qZ_,qC_,y22,y21]
       rfl
      refine take_ (i := 1) (N := some 45) (v := ?_) (a' := ?_) #[true,true,false,false,false] rfl rfl (by kernel_rfl) (fun _ _ _ h => h) (Or.inl ⟨by rfl, ?_⟩) hHeld ?_ ?_
      rotate_left
      ·rintro w' ⟨s0,s1⟩
       go_simp
       with_reducible rfl
      rotate_left
      ·simp only [Act.put,qS_,qZ_,qC_,y22,y21]
       rfl
      refine one_ (i := 2) (N := some 46) #[true,true,true,false,false] rfl rfl (by kernel_rfl) (by decide) (fun K hK => ?_)
      refine goes_ Tryz.func8 (by kernel_rfl) rfl #[.agg #[.slice A2_0 l2_0.length c2_0]] (by rfl) rfl rfl (by (try simp only [qM_,List.map_cons,List.map_nil]); first | done | rfl | (simp only [qD_,qT_]; rfl)) ?_
      with_reducible refine (laws_toTuple.calls k _ _ l2_0 t465 _ ?side1 ?side2 A30.out).mono ?_
      (case side1 => repeat (first | exact (Kd.C_below HR2_0.out HB.out) | (with_reducible refine Kd.C_alloc ?_ _) | (with_reducible refine Kd.C_drewN ?_ _) | (with_reducible refine Kd.C_drew ?_)))
      (case side2 => exact HC2_0.out)
      rintro e w74 ⟨v466,rfl,ho0,hb⟩
      refine ⟨_,rfl, ?_⟩
      have n0_ := y0.mk (Kd.R_elder' (by (with_reducible repeat (first | apply Kd.R_alloc | apply Kd.R_drewN | apply Kd.R_drew)); exact HO429.out) (Kd.R_base ho0) hb)
      have n1_ := y0.mk (Kd.S_elder' (by (with_reducible repeat (first | apply Kd.S_alloc | apply Kd.S_drewN | apply Kd.S_drew)); exact HO432.out) (Kd.R_base ho0) hb)
      have n2_ := y0.mk (Kd.R_below (by (with_reducible repeat (first | apply Kd.R_alloc | apply Kd.R_drewN | apply Kd.R_drew)); exact HO435.out) hb)
      have n3_ := y0.mk (Kd.R_elder' (by (with_reducible repeat (first | apply Kd.R_alloc | apply Kd.R_drewN | apply Kd.R_drew)); exact HO438.out) (Kd.R_base ho0) hb)
      have n4_ := y0.mk (Kd.R_elder' (by (with_reducible repeat (first | apply Kd.R_alloc | apply Kd.R_drewN | apply Kd.R_drew)); exact HO442.out) (Kd.R_base ho0) hb)
      have n5_ := y0.mk (Kd.S_elder' (by (with_reducible repeat (first | apply Kd.S_alloc | apply Kd.S_drewN | apply Kd.S_drew)); exact HO445.out) (Kd.R_base ho0) hb)
      have n6_ := y0.mk (Kd.R_below (by (with_reducible repeat (first | apply Kd.R_alloc | apply Kd.R_drewN | apply Kd.R_drew)); exact HO448.out) hb)
      have n7_ := y0.mk (Kd.R_elder' (by (with_reducible repeat (first | apply Kd.R_alloc | apply Kd.R_drewN | apply Kd.R_drew)); exact HO452.out) (Kd.R_base ho0) hb)
      have n8_ := y0.mk (Kd.R_elder' (by (with_reducible repeat (first | apply Kd.R_alloc | apply Kd.R_drewN | apply Kd.R_drew)); exact HO457.out) (Kd.R_base ho0) hb)
      have n9_ := y0.mk (Kd.S_elder' (by (with_reducible repeat (first | apply Kd.S_alloc | apply Kd.S_drewN | apply Kd.S_drew)); exact HO460.out) (Kd.R_base ho0) hb)
      have n10_ := y0.mk (Kd.R_below (by (with_reducible repeat (first | apply Kd.R_alloc | apply Kd.R_drewN | apply Kd.R_drew)); exact HO463.out) hb)
      have n11_ := y0.mk (Kd.R_lower (Kd.R_new' (Kd.R_new' ho0 (Kd.R_lt (by (with_reducible repeat (first | apply Kd.R_alloc | apply Kd.R_drewN | apply Kd.R_drew)); exact HO438.out))) (Kd.R_lt (by (with_reducible repeat (first | apply Kd.R_alloc | apply Kd.R_drewN | apply Kd.R_drew)); exact HO452.out))) (y6 (by repeat (first | (with_reducible first | exact HB.out | apply y3 | apply y23 | apply y4 | refine y5 ?_ GE423.out | refine y5 ?_ GE424.out | refine y5 ?_ GE449.out | refine y5 ?_ GE453.out) | exact HB.out))))
      have n12_ := y0.mk (y9 (g := gb423) (o := .cells #[.slice A0_0 l0_0.length c0_0,.slice A0_1 l0_1.length c0_1,.slice A0_2 l0_2.length c0_2] 26 (0,0)) (by (with_reducible repeat (first | refine y12 ?_ _ | refine y11 ?_ | refine y8 ?_ _)); exact BK423.out) hb)
      have n13_ := y0.mk (y9 (g := gb424) (o := .cells #[.slice A2_0 l2_0.length c2_0] 29 (0,0)) (by (with_reducible repeat (first | refine y12 ?_ _ | refine y11 ?_ | refine y8 ?_ _)); exact BK424.out) hb)
      have n14_ := y0.mk (y9 (g := gb449) (o := .cells #[.slice Ao51 t440.length co51,.slice Ao55 t443.length co55,.slice Ao56 t446.length co56] 37 (0,0)) (by (with_reducible repeat (first | refine y12 ?_ _ | refine y11 ?_ | refine y8 ?_ _)); exact BK449.out) hb)
      have n15_ := y0.mk (y9 (g := gb453) (o := .cells #[.slice Ao60 t450.length co60] 39 (0,0)) (by (with_reducible repeat (first | refine y12 ?_ _ | refine y11 ?_ | refine y8 ?_ _)); exact BK453.out) hb)
      have n16_ := y0.mk (y7 (by repeat (first | (with_reducible first | exact HB.out | apply y3 | apply y23 | apply y4 | refine y5 ?_ GE423.out | refine y5 ?_ GE424.out | refine y5 ?_ GE449.out | refine y5 ?_ GE453.out) | exact HB.out)) hb)
      clear HO429
      clear HO432
      clear HO435
      clear HO438
      clear HO442
      clear HO445
      clear HO448
      clear HO452
      clear HO457
      clear HO460
      clear HO463
      clear BK423
      clear BK424
      clear BK449
      clear BK453
      clear HB
      have HO429 := n0_
      have HO432 := n1_
      have HO435 := n2_
      have HO438 := n3_
      have HO442 := n4_
      have HO445 := n5_
      have HO448 := n6_
      have HO452 := n7_
      have HO457 := n8_
      have HO460 := n9_
      have HO463 := n10_
      have HO467 := n11_
      have BK423 := n12_
      have BK424 := n13_
      have BK449 := n14_
      have BK453 := n15_
      have HB := n16_
      clear n0_ n1_ n2_ n3_ n4_ n5_ n6_ n7_ n8_ n9_ n10_ n11_ n12_ n13_ n14_ n15_ n16_
      (try clear hb)
      (try clear hb2)
      (try clear hk)
      (try clear hi)
      (try clear ho0)
      obtain ⟨Ao75,co75,eo75⟩ := Kd.R_slice HO467.out
      (first | subst eo75 | (injection eo75 with f1_ f2_ f3_; have f4_ := f1_.symm; have f5_ := f3_.symm; clear f1_ f2_ f3_; subst f4_; subst f5_))
      refine hK.out _ _ ⟨(y10 BK453.out 0).trans rfl,(y10 BK424.out 0).trans rfl⟩ (fun hHeld => ?_)
      clear hK K
      refine norm_ (a' := ?_) ?_ ?_
      rotate_left
      ·show Act.put _ (some 46) _ = _
       simp only [Act.put,qS_,qZ_,qC_,y22,y21]
       rfl
      refine one_ (i := 3) (N := some 47) #[true,true,true,true,false] rfl rfl (by kernel_rfl) (by decide) (fun K hK => ?_)
      refine goes_ Tryz.func11 (by kernel_rfl) rfl #[.agg #[.slice Ao60 t450.length co60],.agg #[.slice Ao75 t465.length co75]] (by rfl) rfl rfl (by (try simp only [qM_,List.map_cons,List.map_nil]); first | done | rfl | (simp only [qD_,qT_]; rfl)) ?_
      with_reducible refine (laws_eqTuple.calls k _ _ t450 _ _ t465 true _ ?side1 ?side2 ?side3 ?side4 A31.out rfl).mono ?_
      (case side1 => repeat (first | exact (Kd.R_reads' HO452.out).2.2 | (with_reducible refine Kd.C_alloc ?_ _) | (with_reducible refine Kd.C_drewN ?_ _) | (with_reducible refine Kd.C_drew ?_)))
      (case side2 => exact (Kd.R_reads' HO452.out).2.1)
      (case side3 => repeat (first | exact (Kd.R_reads' HO467.out).2.2 | (with_reducible refine Kd.C_alloc ?_ _) | (with_reducible refine Kd.C_drewN ?_ _) | (with_reducible refine Kd.C_drew ?_)))
      (case side4 => exact (Kd.R_reads' HO467.out).2.1)
      rintro e w76 ⟨rfl,hb⟩
      refine ⟨_,rfl, ?_⟩
      have n0_ := y0.mk (Kd.R_below (by (with_reducible repeat (first | apply Kd.R_alloc | apply Kd.R_drewN | apply Kd.R_drew)); exact HO429.out) hb)
      have n1_ := y0.mk (Kd.S_below (by (with_reducible repeat (first | apply Kd.S_alloc | apply Kd.S_drewN | apply Kd.S_drew)); exact HO432.out) hb)
      have n2_ := y0.mk (Kd.R_below (by (with_reducible repeat (first | apply Kd.R_alloc | apply Kd.R_drewN | apply Kd.R_drew)); exact HO435.out) hb)
      have n3_ := y0.mk (Kd.R_below (by (with_reducible repeat (first | apply Kd.R_alloc | apply Kd.R_drewN | apply Kd.R_drew)); exact HO438.out) hb)
      have n4_ := y0.mk (Kd.R_below (by (with_reducible repeat (first | apply Kd.R_alloc | apply Kd.R_drewN | apply Kd.R_drew)); exact HO442.out) hb)
      have n5_ := y0.mk (Kd.S_below (by (with_reducible repeat (first | apply Kd.S_alloc | apply Kd.S_drewN | apply Kd.S_drew)); exact HO445.out) hb)
      have n6_ := y0.mk (Kd.R_below (by (with_reducible repeat (first | apply Kd.R_alloc | apply Kd.R_drewN | apply Kd.R_drew)); exact HO448.out) hb)
      have n7_ := y0.mk (Kd.R_below (by (with_reducible repeat (first | apply Kd.R_alloc | apply Kd.R_drewN | apply Kd.R_drew)); exact HO452.out) hb)
      have n8_ := y0.mk (Kd.R_below (by (with_reducible repeat (first | apply Kd.R_alloc | apply Kd.R_drewN | apply Kd.R_drew)); exact HO457.out) hb)
      have n9_ := y0.mk (Kd.S_below (by (with_reducible repeat (first | apply Kd.S_alloc | apply Kd.S_drewN | apply Kd.S_drew)); exact HO460.out) hb)
      have n10_ := y0.mk (Kd.R_below (by (with_reducible repeat (first | apply Kd.R_alloc | apply Kd.R_drewN | apply Kd.R_drew)); exact HO463.out) hb)
      have n11_ := y0.mk (Kd.R_below (by (with_reducible repeat (first | apply Kd.R_alloc | apply Kd.R_drewN | apply Kd.R_drew)); exact HO467.out) hb)
      have n12_ := y0.mk (y9 (g := gb423) (o := .cells #[.slice A0_0 l0_0.length c0_0,.slice A0_1 l0_1.length c0_1,.slice A0_2 l0_2.length c0_2] 26 (0,0)) (by (with_reducible repeat (first | refine y12 ?_ _ | refine y11 ?_ | refine y8 ?_ _)); exact BK423.out) hb)
      have n13_ := y0.mk (y9 (g := gb424) (o := .cells #[.slice A2_0 l2_0.length c2_0] 29 (0,0)) (by (with_reducible repeat (first | refine y12 ?_ _ | refine y11 ?_ | refine y8 ?_ _)); exact BK424.out) hb)
      have n14_ := y0.mk (y9 (g := gb449) (o := .cells #[.slice Ao51 t440.length co51,.slice Ao55 t443.length co55,.slice Ao56 t446.length co56] 37 (0,0)) (by (with_reducible repeat (first | refine y12 ?_ _ | refine y11 ?_ | refine y8 ?_ _)); exact BK449.out) hb)
      have n15_ := y0.mk (y9 (g := gb453) (o := .cells #[.slice Ao60 t450.length co60] 39 (0,0)) (by (with_reducible repeat (first | refine y12 ?_ _ | refine y11 ?_ | refine y8 ?_ _)); exact BK453.out) hb)
      have n16_ := y0.mk (y7 (by repeat (first | (with_reducible first | exact HB.out | apply y3 | apply y23 | apply y4 | refine y5 ?_ GE423.out | refine y5 ?_ GE424.out | refine y5 ?_ GE449.out | refine y5 ?_ GE453.out) | exact HB.out)) hb)
      clear HO429
      clear HO432
      clear HO435
      clear HO438
      clear HO442
      clear HO445
      clear HO448
      clear HO452
      clear HO457
      clear HO460
      clear HO463
      clear HO467
      clear BK423
      clear BK424
      clear BK449
      clear BK453
      clear HB
      have HO429 := n0_
      have HO432 := n1_
      have HO435 := n2_
      have HO438 := n3_
      have HO442 := n4_
      have HO445 := n5_
      have HO448 := n6_
      have HO452 := n7_
      have HO457 := n8_
      have HO460 := n9_
      have HO463 := n10_
      have HO467 := n11_
      have BK423 := n12_
      have BK424 := n13_
      have BK449 := n14_
      have BK453 := n15_
      have HB := n16_
      clear n0_ n1_ n2_ n3_ n4_ n5_ n6_ n7_ n8_ n9_ n10_ n11_ n12_ n13_ n14_ n15_ n16_
      (try clear hb)
      (try clear hb2)
      (try clear hk)
      (try clear hi)
      refine hK.out _ _ ⟨(y10 BK453.out 0).trans rfl,(y10 BK424.out 0).trans rfl⟩ (fun hHeld => ?_)
      clear hK K
      refine norm_ (a' := ?_) ?_ ?_
      rotate_left
      ·show Act.put _ (some 47) _ = _
       simp only [Act.put,qS_,qZ_,qC_,y22,y21]
       rfl
      refine pure_ (i := 4) (N := some 48) (v := ?_) (a' := ?_) #[true,true,true,true,true] rfl rfl (by kernel_rfl) (fun _ _ _ h => h) (Or.inl ⟨by rfl, ?_⟩) ?_ ?_
      rotate_left
      ·intro w'
       go_simp
       with_reducible rfl
      rotate_left
      ·simp only [Act.put,qS_,qZ_,qC_,y22,y21]
       rfl
      refine done_ (by kernel_rfl) ?_
      try go_wp2
      go_ret
      exact ⟨by first | rfl | (simp [y16,y17] <;> rfl) | (simp [*,y16,y17] <;> rfl),by repeat (first | (with_reducible first | exact HB.out | apply y3 | apply y23 | apply y4 | refine y5 ?_ GE423.out | refine y5 ?_ GE424.out | refine y5 ?_ GE449.out | refine y5 ?_ GE453.out) | exact HB.out)⟩
     ·replace c32 := Bool.eq_false_iff.mpr c32
      subst c32
      have H1 : (some false) = some r := by rw [if_neg (show ¬ (false = true) by decide)] at H; exact H
      clear H
      have H := H1
      clear H1
      exact absurd ((Option.some.inj H).trans htrue_) (by decide)
    ·replace c29 := Bool.eq_false_iff.mpr c29
     subst c29
     have H1 : (some false) = some r := by rw [if_neg (show ¬ (false = true) by decide)] at H; exact H
     clear H
     have H := H1
     clear H1
     exact absurd ((Option.some.inj H).trans htrue_) (by decide)
   ·as_aux_lemma =>
    rw [if_neg c26] at H
    have c26b0 : (t454.toList == t439.toList) = false := beq_eq_false_iff_ne.mpr c26
    have c26b1 : (t454.toList != t439.toList) = true := bne_iff_ne.mpr c26
    exact absurd ((Option.some.inj H).trans htrue_) (by decide)
/-- THE ONE PURE STATEMENT of laws_FnExactFactText. -/
def laws_FnExactFactText.Pure : Prop := ∀ (x0 : S26) (a1 : Int) (x2 : S29),okT26 x0 → (fun a => (Lit.int .i64 a).wf = true) a1 → okT29 x2 → ∃ k,laws_FnExactFactText.f k x0.f0 x0.f1 x0.f2 a1 x2.f0 = some true
theorem laws_FnExactFactText.walk (P : laws_FnExactFactText.Pure) (x0 : S26) (a1 : Int) (x2 : S29) (A0_0 : Option Addr) (c0_0 : Nat) (A0_1 : Option Addr) (c0_1 : Nat) (A0_2 : Option Addr) (c0_2 : Nat) (A2_0 : Option Addr) (c2_0 : Nat) (w : World) (hr0_0 : Kd.C k63 w A0_0 x0.f0.length x0.f0) (hc0_0 : x0.f0.length ≤ c0_0) (hr0_1 : Kd.C k65 w A0_1 x0.f1.length x0.f1) (hc0_1 : x0.f1.length ≤ c0_1) (hr0_2 : Kd.C k73 w A0_2 x0.f2.length x0.f2) (hc0_2 : x0.f2.length ≤ c0_2) (hr2_0 : Kd.C Kd.string w A2_0 x2.f0.length x2.f0) (hc2_0 : x2.f0.length ≤ c2_0) (k0 : okT26 x0) (k1 : (fun a => (Lit.int .i64 a).wf = true) a1) (k2 : okT29 x2) (hT : Tb w) :
  Calls Tryz.prog 3 #[.agg #[.slice A0_0 x0.f0.length c0_0,.slice A0_1 x0.f1.length c0_1,.slice A0_2 x0.f2.length c0_2],.int .i64 a1,.agg #[.slice A2_0 x2.f0.length c2_0]] w fun e w' => e = .returned (.bool true) ∧ Below w.heap.size w w' := by
 obtain ⟨k,h⟩ := P x0 a1 x2 k0 k1 k2
 refine (laws_FnExactFactText.calls k A0_0 c0_0 x0.f0 A0_1 c0_1 x0.f1 A0_2 c0_2 x0.f2 a1 A2_0 c2_0 x2.f0 true w hr0_0 hc0_0 hr0_1 hc0_1 hr0_2 hc0_2 hr2_0 hc2_0 hT h rfl).mono ?_
 rintro e w' ⟨rfl,hd⟩
 exact ⟨rfl,hd⟩
end Go.Proofs.YtamjmldfifofbaaGreatDoor.Pf

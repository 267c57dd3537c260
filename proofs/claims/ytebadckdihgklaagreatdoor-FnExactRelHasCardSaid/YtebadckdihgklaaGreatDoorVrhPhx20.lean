-- Cut by prune.py, a program of this session, out of the texts of this claim: Lean checks it.
import Derived.Test.YtebadckdihgklaaGreatDoorVrhPhx0
import Derived.Test.YtebadckdihgklaaGreatDoorVrhPhx10
import Derived.Test.YtebadckdihgklaaGreatDoorVrhPhx17
namespace Go.Proofs.YtebadckdihgklaaGreatDoor.Ph
open Go.RowKit Go.Proofs.YtebadckdihgklaaGreatDoorW.PrintWords Go.Proofs.YtebadckdihgklaaGreatDoorW.PrintLast Go.Proofs.YtebadckdihgklaaGreatDoorW.PrintMore
attribute [local go_sem] max2_int min2_int max_two min_two max_three min_three max_four min_four   -- for this text's walks alone
set_option linter.unusedVariables false
set_option linter.unusedSimpArgs false
def laws_FnExactRelHas.f (k : Nat) (a0_0 : Int) (l0_1 : List (S27)) (l1_0 : List ByteArray) : Option (Bool) := (laws_szRel.f k a0_0 l0_1 1048576).bind fun t361 => (if t361 < 0 then (some true) else ((laws_szTuple.f k l1_0 t361).bind fun t362 => (if t362 < 0 then (some true) else ((laws_toRel.f k a0_0 l0_1).bind fun bt363 => ((laws_toTuple.f k l1_0).bind fun t367 => ((spec_RelHas.f k bt363.1 bt363.2 t367).bind fun t370 => ((laws_toRel.f k a0_0 l0_1).bind fun bt371 => ((laws_toTuple.f k l1_0).bind fun t376 => ((impl_RelHas.f k bt371.1 bt371.2 t376).bind fun t380 => (if (t380 != t370) = true then (some false) else ((laws_toRel.f k a0_0 l0_1).bind fun bt381 => ((laws_eqRel.f k bt371.1 bt371.2 bt381.1 bt381.2).bind fun t385 => (if t385 = true then ((laws_toTuple.f k l1_0).bind fun t386 => ((laws_eqTuple.f k t376 t386).bind fun t389 => (if t389 = true then (some true) else (some false)))) else (some false))))))))))))))
set_option maxHeartbeats 8000000 in
set_option maxRecDepth 100000 in
theorem laws_FnExactRelHas.calls (k : Nat) (a0_0 : Int) (A0_1 : Option Addr) (c0_1 : Nat) (l0_1 : List (S27)) (A1_0 : Option Addr) (c1_0 : Nat) (l1_0 : List ByteArray) (r : Bool) (w : World) (hr0_1 : Kd.C k27 w A0_1 l0_1.length l0_1) (hc0_1 : l0_1.length ≤ c0_1) (hr1_0 : Kd.C Kd.string w A1_0 l1_0.length l1_0) (hc1_0 : l1_0.length ≤ c1_0) (hT : Tb w) (h : laws_FnExactRelHas.f k a0_0 l0_1 l1_0 = some r) (htrue_ : r = true) :
  Calls Tryz.prog 3 #[.agg #[.int .i64 a0_0,.slice A0_1 l0_1.length c0_1],.agg #[.slice A1_0 l1_0.length c1_0]] w fun e w' => e = .returned (.bool r) ∧ Below w.heap.size w w' := by
 have hu24 := Tryz.underlying24
 have hu27 := Tryz.underlying27
 have hu33 := Tryz.underlying33
 have hu35 := Tryz.underlying35
 have HT := y0.mk hT
 clear hT
 have HR0_1 := y0.mk hr0_1
 have HC0_1 := y0.mk hc0_1
 clear hr0_1 hc0_1
 have HR1_0 := y0.mk hr1_0
 have HC1_0 := y0.mk hc1_0
 clear hr1_0 hc1_0
 have HB := y0.mk (Below.refl w.heap.size w)
 have H : ((laws_szRel.f k a0_0 l0_1 1048576).bind fun t361 => (if t361 < 0 then (some true) else ((laws_szTuple.f k l1_0 t361).bind fun t362 => (if t362 < 0 then (some true) else ((laws_toRel.f k a0_0 l0_1).bind fun bt363 => ((laws_toTuple.f k l1_0).bind fun t367 => ((spec_RelHas.f k bt363.1 bt363.2 t367).bind fun t370 => ((laws_toRel.f k a0_0 l0_1).bind fun bt371 => ((laws_toTuple.f k l1_0).bind fun t376 => ((impl_RelHas.f k bt371.1 bt371.2 t376).bind fun t380 => (if (t380 != t370) = true then (some false) else ((laws_toRel.f k a0_0 l0_1).bind fun bt381 => ((laws_eqRel.f k bt371.1 bt371.2 bt381.1 bt381.2).bind fun t385 => (if t385 = true then ((laws_toTuple.f k l1_0).bind fun t386 => ((laws_eqTuple.f k t376 t386).bind fun t389 => (if t389 = true then (some true) else (some false)))) else (some false))))))))))))))) = some r := h
 clear h
 replace H := Option.bind_eq_some_iff.mp H
 obtain ⟨t361,A30,H⟩ := H
 replace H : (if t361 < 0 then (some true) else ((laws_szTuple.f k l1_0 t361).bind fun t362 => (if t362 < 0 then (some true) else ((laws_toRel.f k a0_0 l0_1).bind fun bt363 => ((laws_toTuple.f k l1_0).bind fun t367 => ((spec_RelHas.f k bt363.1 bt363.2 t367).bind fun t370 => ((laws_toRel.f k a0_0 l0_1).bind fun bt371 => ((laws_toTuple.f k l1_0).bind fun t376 => ((impl_RelHas.f k bt371.1 bt371.2 t376).bind fun t380 => (if (t380 != t370) = true then (some false) else ((laws_toRel.f k a0_0 l0_1).bind fun bt381 => ((laws_eqRel.f k bt371.1 bt371.2 bt381.1 bt381.2).bind fun t385 => (if t385 = true then ((laws_toTuple.f k l1_0).bind fun t386 => ((laws_eqTuple.f k t376 t386).bind fun t389 => (if t389 = true then (some true) else (some false)))) else (some false)))))))))))))) = some r := H
 have A3 := y0.mk A30
 clear A30
 by_cases c4 : t361 < 0
 ·as_aux_lemma =>
  rw [if_pos c4] at H
  have c4b0 : decide (t361 < 0) = true := decide_eq_true c4
  clear c4
  obtain rfl := Option.some.inj H
  go_enter Tryz.func3,Tryz.ntmps3
  go_wp2_with (first | ((with_reducible refine y18 (N := 2) rfl ?_); refine y14 ?hg (N := 2) ?hd (cs := #[.int .i64 a0_0,.slice A0_1 l0_1.length c0_1]) (t := 24) ?hr ?_; (case hd => rfl); (case hg => rfl); (case hr => first | (go_simp; done) | (go_simp; rfl)); intro gb359 hg w5 hbox hb; have n0_ := y0.mk (y7 (by repeat (first | (with_reducible first | exact HB.out | apply y3 | apply y23 | apply y4) | exact HB.out)) hb); have n1_ := y0.mk (hbox); have n2_ := y0.mk ((by rw [hg]; exact (y6 (by repeat (first | (with_reducible first | exact HB.out | apply y3 | apply y23 | apply y4) | exact HB.out))) : w.heap.size ≤ gb359)); have n3_ := y0.mk ((by rw [hg]; exact (y6 (by repeat (first | (with_reducible first | exact HB.out | apply y3 | apply y23 | apply y4) | exact HB.out))) : w.heap.size ≤ gb359)); clear HB; have HB := n0_; have BK359 := n1_; have GW359 := n2_; have GE359 := n3_; clear n0_ n1_ n2_ n3_; clear hb hbox hg) | ((with_reducible refine y18 (N := 3) rfl ?_); refine y14 ?hg (N := 3) ?hd (cs := #[.slice A1_0 l1_0.length c1_0]) (t := 27) ?hr ?_; (case hd => rfl); (case hg => rfl); (case hr => first | (go_simp; done) | (go_simp; rfl)); intro gb360 hg w6 hbox hb; have n0_ := y0.mk (y9 (g := gb359) (o := .cells #[.int .i64 a0_0,.slice A0_1 l0_1.length c0_1] 24 (0,0)) (by (with_reducible repeat (first | refine y12 ?_ _ | refine y11 ?_ | refine y8 ?_ _)); exact BK359.out) hb); have n1_ := y0.mk (y7 (by repeat (first | (with_reducible first | exact HB.out | apply y3 | apply y23 | apply y4 | refine y5 ?_ GE359.out) | exact HB.out)) hb); have n2_ := y0.mk (hbox); have n3_ := y0.mk ((by rw [hg]; exact (y6 (by repeat (first | (with_reducible first | exact HB.out | apply y3 | apply y23 | apply y4 | refine y5 ?_ GE359.out) | exact HB.out))) : w.heap.size ≤ gb360)); have n4_ := y0.mk ((by rw [hg]; exact (y6 (by repeat (first | (with_reducible first | exact HB.out | apply y3 | apply y23 | apply y4 | refine y5 ?_ GE359.out) | exact HB.out))) : w.heap.size ≤ gb360)); have n5_ := y0.mk ((by rw [hg]; exact Nat.ne_of_lt (blk_lt (g := gb359) (o := .cells #[.int .i64 a0_0,.slice A0_1 l0_1.length c0_1] 24 (0,0)) (by (with_reducible repeat (first | refine y12 ?_ _ | refine y11 ?_ | refine y8 ?_ _)); exact BK359.out)) : gb359 ≠ gb360)); have n6_ := y0.mk ((by rw [hg]; exact Nat.ne_of_gt (blk_lt (g := gb359) (o := .cells #[.int .i64 a0_0,.slice A0_1 l0_1.length c0_1] 24 (0,0)) (by (with_reducible repeat (first | refine y12 ?_ _ | refine y11 ?_ | refine y8 ?_ _)); exact BK359.out)) : gb360 ≠ gb359)); clear BK359; clear HB; have BK359 := n0_; have HB := n1_; have BK360 := n2_; have GW360 := n3_; have GE360 := n4_; have NB359_360 := n5_; have NB360_359 := n6_; clear n0_ n1_ n2_ n3_ n4_ n5_ n6_; clear hb hbox hg; have hnb7 := NB359_360.out; have hnc7 := NB360_359.out; have hcz8_0 : w6.cell? ⟨gb359,0,none⟩ = some (.int .i64 a0_0) := (y10 BK359.out 0).trans rfl; have hcz8_1 : w6.cell? ⟨gb359,1,none⟩ = some (.slice A0_1 l0_1.length c0_1) := (y10 BK359.out 1).trans rfl; have hfz8_0 := y13 BK359.out 0; have hfz8_1 := y13 BK359.out 1) | ((with_reducible refine y17 (f := 11) rfl ?_); refine y19 (some 12) rfl rfl Tryz.func11 (by kernel_rfl) rfl #[.agg #[.int .i64 a0_0,.slice A0_1 l0_1.length c0_1],.int .i64 1048576] rfl (by (try simp only [qM_,List.map_cons,List.map_nil]); first | done | rfl | (simp only [qD_,qT_]; rfl)) ?_; (with_reducible refine (laws_szRel.calls k a0_0 _ _ l0_1 1048576 t361 _ ?side1 ?side2 A3.out).mono ?_); (case side1 => repeat (first | exact (Kd.C_below HR0_1.out HB.out) | (with_reducible refine Kd.C_alloc ?_ _) | (with_reducible refine Kd.C_drewN ?_ _) | (with_reducible refine Kd.C_drew ?_))); (case side2 => exact HC0_1.out); rintro e w9 ⟨rfl,hb⟩; refine ⟨_,rfl, ?_⟩; have n0_ := y0.mk (y9 (g := gb359) (o := .cells #[.int .i64 a0_0,.slice A0_1 l0_1.length c0_1] 24 (0,0)) (by (with_reducible repeat (first | refine y12 ?_ _ | refine y11 ?_ | refine y8 ?_ _)); exact BK359.out) hb); have n1_ := y0.mk (y9 (g := gb360) (o := .cells #[.slice A1_0 l1_0.length c1_0] 27 (0,0)) (by (with_reducible repeat (first | refine y12 ?_ _ | refine y11 ?_ | refine y8 ?_ _)); exact BK360.out) hb); have n2_ := y0.mk (y7 (by repeat (first | (with_reducible first | exact HB.out | apply y3 | apply y23 | apply y4 | refine y5 ?_ GE359.out | refine y5 ?_ GE360.out) | exact HB.out)) hb); clear BK359; clear BK360; clear HB; have BK359 := n0_; have BK360 := n1_; have HB := n2_; clear n0_ n1_ n2_; (try clear hb); (try clear hb2); (try clear hk); (try clear hi)))
  go_ret
  exact ⟨by first | rfl | (simp [y15,y16] <;> rfl) | (simp [*,y15,y16] <;> rfl),by repeat (first | (with_reducible first | exact HB.out | apply y3 | apply y23 | apply y4 | refine y5 ?_ GE359.out | refine y5 ?_ GE360.out) | exact HB.out)⟩
 ·as_aux_lemma =>
  rw [if_neg c4] at H
  have c4b0 : decide (t361 < 0) = false := decide_eq_false c4
  clear c4
  replace H := Option.bind_eq_some_iff.mp H
  obtain ⟨t362,A100,H⟩ := H
  replace H : (if t362 < 0 then (some true) else ((laws_toRel.f k a0_0 l0_1).bind fun bt363 => ((laws_toTuple.f k l1_0).bind fun t367 => ((spec_RelHas.f k bt363.1 bt363.2 t367).bind fun t370 => ((laws_toRel.f k a0_0 l0_1).bind fun bt371 => ((laws_toTuple.f k l1_0).bind fun t376 => ((impl_RelHas.f k bt371.1 bt371.2 t376).bind fun t380 => (if (t380 != t370) = true then (some false) else ((laws_toRel.f k a0_0 l0_1).bind fun bt381 => ((laws_eqRel.f k bt371.1 bt371.2 bt381.1 bt381.2).bind fun t385 => (if t385 = true then ((laws_toTuple.f k l1_0).bind fun t386 => ((laws_eqTuple.f k t376 t386).bind fun t389 => (if t389 = true then (some true) else (some false)))) else (some false)))))))))))) = some r := H
  have A10 := y0.mk A100
  clear A100
  by_cases c11 : t362 < 0
  ·as_aux_lemma =>
   rw [if_pos c11] at H
   have c11b0 : decide (t362 < 0) = true := decide_eq_true c11
   clear c11
   obtain rfl := Option.some.inj H
   go_enter Tryz.func3,Tryz.ntmps3
   go_wp2_with (first | ((with_reducible refine y18 (N := 2) rfl ?_); refine y14 ?hg (N := 2) ?hd (cs := #[.int .i64 a0_0,.slice A0_1 l0_1.length c0_1]) (t := 24) ?hr ?_; (case hd => rfl); (case hg => rfl); (case hr => first | (go_simp; done) | (go_simp; rfl)); intro gb359 hg w12 hbox hb; have n0_ := y0.mk (y7 (by repeat (first | (with_reducible first | exact HB.out | apply y3 | apply y23 | apply y4) | exact HB.out)) hb); have n1_ := y0.mk (hbox); have n2_ := y0.mk ((by rw [hg]; exact (y6 (by repeat (first | (with_reducible first | exact HB.out | apply y3 | apply y23 | apply y4) | exact HB.out))) : w.heap.size ≤ gb359)); have n3_ := y0.mk ((by rw [hg]; exact (y6 (by repeat (first | (with_reducible first | exact HB.out | apply y3 | apply y23 | apply y4) | exact HB.out))) : w.heap.size ≤ gb359)); clear HB; have HB := n0_; have BK359 := n1_; have GW359 := n2_; have GE359 := n3_; clear n0_ n1_ n2_ n3_; clear hb hbox hg) | ((with_reducible refine y18 (N := 3) rfl ?_); refine y14 ?hg (N := 3) ?hd (cs := #[.slice A1_0 l1_0.length c1_0]) (t := 27) ?hr ?_; (case hd => rfl); (case hg => rfl); (case hr => first | (go_simp; done) | (go_simp; rfl)); intro gb360 hg w13 hbox hb; have n0_ := y0.mk (y9 (g := gb359) (o := .cells #[.int .i64 a0_0,.slice A0_1 l0_1.length c0_1] 24 (0,0)) (by (with_reducible repeat (first | refine y12 ?_ _ | refine y11 ?_ | refine y8 ?_ _)); exact BK359.out) hb); have n1_ := y0.mk (y7 (by repeat (first | (with_reducible first | exact HB.out | apply y3 | apply y23 | apply y4 | refine y5 ?_ GE359.out) | exact HB.out)) hb); have n2_ := y0.mk (hbox); have n3_ := y0.mk ((by rw [hg]; exact (y6 (by repeat (first | (with_reducible first | exact HB.out | apply y3 | apply y23 | apply y4 | refine y5 ?_ GE359.out) | exact HB.out))) : w.heap.size ≤ gb360)); have n4_ := y0.mk ((by rw [hg]; exact (y6 (by repeat (first | (with_reducible first | exact HB.out | apply y3 | apply y23 | apply y4 | refine y5 ?_ GE359.out) | exact HB.out))) : w.heap.size ≤ gb360)); have n5_ := y0.mk ((by rw [hg]; exact Nat.ne_of_lt (blk_lt (g := gb359) (o := .cells #[.int .i64 a0_0,.slice A0_1 l0_1.length c0_1] 24 (0,0)) (by (with_reducible repeat (first | refine y12 ?_ _ | refine y11 ?_ | refine y8 ?_ _)); exact BK359.out)) : gb359 ≠ gb360)); have n6_ := y0.mk ((by rw [hg]; exact Nat.ne_of_gt (blk_lt (g := gb359) (o := .cells #[.int .i64 a0_0,.slice A0_1 l0_1.length c0_1] 24 (0,0)) (by (with_reducible repeat (first | refine y12 ?_ _ | refine y11 ?_ | refine y8 ?_ _)); exact BK359.out)) : gb360 ≠ gb359)); clear BK359; clear HB; have BK359 := n0_; have HB := n1_; have BK360 := n2_; have GW360 := n3_; have GE360 := n4_; have NB359_360 := n5_; have NB360_359 := n6_; clear n0_ n1_ n2_ n3_ n4_ n5_ n6_; clear hb hbox hg; have hnb14 := NB359_360.out; have hnc14 := NB360_359.out; have hcz15_0 : w13.cell? ⟨gb359,0,none⟩ = some (.int .i64 a0_0) := (y10 BK359.out 0).trans rfl; have hcz15_1 : w13.cell? ⟨gb359,1,none⟩ = some (.slice A0_1 l0_1.length c0_1) := (y10 BK359.out 1).trans rfl; have hfz15_0 := y13 BK359.out 0; have hfz15_1 := y13 BK359.out 1) | ((with_reducible refine y17 (f := 11) rfl ?_); refine y19 (some 12) rfl rfl Tryz.func11 (by kernel_rfl) rfl #[.agg #[.int .i64 a0_0,.slice A0_1 l0_1.length c0_1],.int .i64 1048576] rfl (by (try simp only [qM_,List.map_cons,List.map_nil]); first | done | rfl | (simp only [qD_,qT_]; rfl)) ?_; (with_reducible refine (laws_szRel.calls k a0_0 _ _ l0_1 1048576 t361 _ ?side1 ?side2 A3.out).mono ?_); (case side1 => repeat (first | exact (Kd.C_below HR0_1.out HB.out) | (with_reducible refine Kd.C_alloc ?_ _) | (with_reducible refine Kd.C_drewN ?_ _) | (with_reducible refine Kd.C_drew ?_))); (case side2 => exact HC0_1.out); rintro e w16 ⟨rfl,hb⟩; refine ⟨_,rfl, ?_⟩; have n0_ := y0.mk (y9 (g := gb359) (o := .cells #[.int .i64 a0_0,.slice A0_1 l0_1.length c0_1] 24 (0,0)) (by (with_reducible repeat (first | refine y12 ?_ _ | refine y11 ?_ | refine y8 ?_ _)); exact BK359.out) hb); have n1_ := y0.mk (y9 (g := gb360) (o := .cells #[.slice A1_0 l1_0.length c1_0] 27 (0,0)) (by (with_reducible repeat (first | refine y12 ?_ _ | refine y11 ?_ | refine y8 ?_ _)); exact BK360.out) hb); have n2_ := y0.mk (y7 (by repeat (first | (with_reducible first | exact HB.out | apply y3 | apply y23 | apply y4 | refine y5 ?_ GE359.out | refine y5 ?_ GE360.out) | exact HB.out)) hb); clear BK359; clear BK360; clear HB; have BK359 := n0_; have BK360 := n1_; have HB := n2_; clear n0_ n1_ n2_; (try clear hb); (try clear hb2); (try clear hk); (try clear hi); have hcz17_0 : w16.cell? ⟨gb360,0,none⟩ = some (.slice A1_0 l1_0.length c1_0) := (y10 BK360.out 0).trans rfl; have hfz17_0 := y13 BK360.out 0) | ((with_reducible refine y17 (f := 12) rfl ?_); refine y19 (some 17) rfl rfl Tryz.func12 (by kernel_rfl) rfl #[.agg #[.slice A1_0 l1_0.length c1_0],.int .i64 t361] rfl (by (try simp only [qM_,List.map_cons,List.map_nil]); first | done | rfl | (simp only [qD_,qT_]; rfl)) ?_; (with_reducible refine (laws_szTuple.calls k _ _ l1_0 t361 t362 _ ?side1 ?side2 A10.out).mono ?_); (case side1 => repeat (first | exact (Kd.C_below HR1_0.out HB.out) | (with_reducible refine Kd.C_alloc ?_ _) | (with_reducible refine Kd.C_drewN ?_ _) | (with_reducible refine Kd.C_drew ?_))); (case side2 => exact HC1_0.out); rintro e w18 ⟨rfl,hb⟩; refine ⟨_,rfl, ?_⟩; have n0_ := y0.mk (y9 (g := gb359) (o := .cells #[.int .i64 a0_0,.slice A0_1 l0_1.length c0_1] 24 (0,0)) (by (with_reducible repeat (first | refine y12 ?_ _ | refine y11 ?_ | refine y8 ?_ _)); exact BK359.out) hb); have n1_ := y0.mk (y9 (g := gb360) (o := .cells #[.slice A1_0 l1_0.length c1_0] 27 (0,0)) (by (with_reducible repeat (first | refine y12 ?_ _ | refine y11 ?_ | refine y8 ?_ _)); exact BK360.out) hb); have n2_ := y0.mk (y7 (by repeat (first | (with_reducible first | exact HB.out | apply y3 | apply y23 | apply y4 | refine y5 ?_ GE359.out | refine y5 ?_ GE360.out) | exact HB.out)) hb); clear BK359; clear BK360; clear HB; have BK359 := n0_; have BK360 := n1_; have HB := n2_; clear n0_ n1_ n2_; (try clear hb); (try clear hb2); (try clear hk); (try clear hi)))
   go_ret
   exact ⟨by first | rfl | (simp [y15,y16] <;> rfl) | (simp [*,y15,y16] <;> rfl),by repeat (first | (with_reducible first | exact HB.out | apply y3 | apply y23 | apply y4 | refine y5 ?_ GE359.out | refine y5 ?_ GE360.out) | exact HB.out)⟩
  ·as_aux_lemma =>
   rw [if_neg c11] at H
   have c11b0 : decide (t362 < 0) = false := decide_eq_false c11
   clear c11
   replace H := Option.bind_eq_some_iff.mp H
   obtain ⟨⟨t363,t364⟩,A190,H⟩ := H
   replace H : ((laws_toTuple.f k l1_0).bind fun t367 => ((spec_RelHas.f k t363 t364 t367).bind fun t370 => ((laws_toRel.f k a0_0 l0_1).bind fun bt371 => ((laws_toTuple.f k l1_0).bind fun t376 => ((impl_RelHas.f k bt371.1 bt371.2 t376).bind fun t380 => (if (t380 != t370) = true then (some false) else ((laws_toRel.f k a0_0 l0_1).bind fun bt381 => ((laws_eqRel.f k bt371.1 bt371.2 bt381.1 bt381.2).bind fun t385 => (if t385 = true then ((laws_toTuple.f k l1_0).bind fun t386 => ((laws_eqTuple.f k t376 t386).bind fun t389 => (if t389 = true then (some true) else (some false)))) else (some false)))))))))) = some r := H
   have A19 := y0.mk A190
   clear A190
   replace H := Option.bind_eq_some_iff.mp H
   obtain ⟨t367,A200,H⟩ := H
   replace H : ((spec_RelHas.f k t363 t364 t367).bind fun t370 => ((laws_toRel.f k a0_0 l0_1).bind fun bt371 => ((laws_toTuple.f k l1_0).bind fun t376 => ((impl_RelHas.f k bt371.1 bt371.2 t376).bind fun t380 => (if (t380 != t370) = true then (some false) else ((laws_toRel.f k a0_0 l0_1).bind fun bt381 => ((laws_eqRel.f k bt371.1 bt371.2 bt381.1 bt381.2).bind fun t385 => (if t385 = true then ((laws_toTuple.f k l1_0).bind fun t386 => ((laws_eqTuple.f k t376 t386).bind fun t389 => (if t389 = true then (some true) else (some false)))) else (some false))))))))) = some r := H
   have A20 := y0.mk A200
   clear A200
   replace H := Option.bind_eq_some_iff.mp H
   obtain ⟨t370,A210,H⟩ := H
   replace H : ((laws_toRel.f k a0_0 l0_1).bind fun bt371 => ((laws_toTuple.f k l1_0).bind fun t376 => ((impl_RelHas.f k bt371.1 bt371.2 t376).bind fun t380 => (if (t380 != t370) = true then (some false) else ((laws_toRel.f k a0_0 l0_1).bind fun bt381 => ((laws_eqRel.f k bt371.1 bt371.2 bt381.1 bt381.2).bind fun t385 => (if t385 = true then ((laws_toTuple.f k l1_0).bind fun t386 => ((laws_eqTuple.f k t376 t386).bind fun t389 => (if t389 = true then (some true) else (some false)))) else (some false)))))))) = some r := H
   have A21 := y0.mk A210
   clear A210
   replace H := Option.bind_eq_some_iff.mp H
   obtain ⟨⟨t371,t372⟩,A220,H⟩ := H
   replace H : ((laws_toTuple.f k l1_0).bind fun t376 => ((impl_RelHas.f k t371 t372 t376).bind fun t380 => (if (t380 != t370) = true then (some false) else ((laws_toRel.f k a0_0 l0_1).bind fun bt381 => ((laws_eqRel.f k t371 t372 bt381.1 bt381.2).bind fun t385 => (if t385 = true then ((laws_toTuple.f k l1_0).bind fun t386 => ((laws_eqTuple.f k t376 t386).bind fun t389 => (if t389 = true then (some true) else (some false)))) else (some false))))))) = some r := H
   have A22 := y0.mk A220
   clear A220
   replace H := Option.bind_eq_some_iff.mp H
   obtain ⟨t376,A230,H⟩ := H
   replace H : ((impl_RelHas.f k t371 t372 t376).bind fun t380 => (if (t380 != t370) = true then (some false) else ((laws_toRel.f k a0_0 l0_1).bind fun bt381 => ((laws_eqRel.f k t371 t372 bt381.1 bt381.2).bind fun t385 => (if t385 = true then ((laws_toTuple.f k l1_0).bind fun t386 => ((laws_eqTuple.f k t376 t386).bind fun t389 => (if t389 = true then (some true) else (some false)))) else (some false)))))) = some r := H
   have A23 := y0.mk A230
   clear A230
   replace H := Option.bind_eq_some_iff.mp H
   obtain ⟨t380,A240,H⟩ := H
   replace H : (if (t380 != t370) = true then (some false) else ((laws_toRel.f k a0_0 l0_1).bind fun bt381 => ((laws_eqRel.f k t371 t372 bt381.1 bt381.2).bind fun t385 => (if t385 = true then ((laws_toTuple.f k l1_0).bind fun t386 => ((laws_eqTuple.f k t376 t386).bind fun t389 => (if t389 = true then (some true) else (some false)))) else (some false))))) = some r := H
   have A24 := y0.mk A240
   clear A240
   by_cases c25 : (t380 != t370) = true
   ·as_aux_lemma =>
    rw [if_pos c25] at H
    have c25b0 : (t380 != t370) = true := c25
    (try (have c25b1 : decide (t380 = t370) = false := by simpa using c25))
    (try (have c25b2 : (t380 == t370) = false := by simpa using c25))
    (try (have c25b3 : ¬ (t380 = t370) := by simpa using c25))
    clear c25
    exact absurd ((Option.some.inj H).trans htrue_) (by decide)
   ·as_aux_lemma =>
    rw [if_neg c25] at H
    have c25b0 : (t380 != t370) = false := by simpa using c25
    (try (have c25b1 : decide (t380 = t370) = true := by simpa using c25))
    (try (have c25b2 : (t380 == t370) = true := by simpa using c25))
    clear c25
    replace H := Option.bind_eq_some_iff.mp H
    obtain ⟨⟨t381,t382⟩,A560,H⟩ := H
    replace H : ((laws_eqRel.f k t371 t372 t381 t382).bind fun t385 => (if t385 = true then ((laws_toTuple.f k l1_0).bind fun t386 => ((laws_eqTuple.f k t376 t386).bind fun t389 => (if t389 = true then (some true) else (some false)))) else (some false))) = some r := H
    have A56 := y0.mk A560
    clear A560
    replace H := Option.bind_eq_some_iff.mp H
    obtain ⟨t385,A570,H⟩ := H
    replace H : (if t385 = true then ((laws_toTuple.f k l1_0).bind fun t386 => ((laws_eqTuple.f k t376 t386).bind fun t389 => (if t389 = true then (some true) else (some false)))) else (some false)) = some r := H
    have A57 := y0.mk A570
    clear A570
    by_cases c58 : t385 = true
    ·subst c58
     have H1 : ((laws_toTuple.f k l1_0).bind fun t386 => ((laws_eqTuple.f k t376 t386).bind fun t389 => (if t389 = true then (some true) else (some false)))) = some r := by rw [if_pos rfl] at H; exact H
     clear H
     have H := H1
     clear H1
     replace H := Option.bind_eq_some_iff.mp H
     obtain ⟨t386,A590,H⟩ := H
     replace H : ((laws_eqTuple.f k t376 t386).bind fun t389 => (if t389 = true then (some true) else (some false))) = some r := H
     have A59 := y0.mk A590
     clear A590
     replace H := Option.bind_eq_some_iff.mp H
     obtain ⟨t389,A600,H⟩ := H
     replace H : (if t389 = true then (some true) else (some false)) = some r := H
     have A60 := y0.mk A600
     clear A600
     by_cases c61 : t389 = true
     ·subst c61
      have H1 : (some true) = some r := by rw [if_pos rfl] at H; exact H
      clear H
      have H := H1
      clear H1
      obtain rfl := Option.some.inj H
      go_enter Tryz.func3,Tryz.ntmps3
      try go_wp2_with (first | ((with_reducible refine y18 (N := 2) rfl ?_); refine y14 ?hg (N := 2) ?hd (cs := #[.int .i64 a0_0,.slice A0_1 l0_1.length c0_1]) (t := 24) ?hr ?_; (case hd => rfl); (case hg => rfl); (case hr => first | (go_simp; done) | (go_simp; rfl)); intro gb359 hg w62 hbox hb; have n0_ := y0.mk (y7 (by repeat (first | (with_reducible first | exact HB.out | apply y3 | apply y23 | apply y4) | exact HB.out)) hb); have n1_ := y0.mk (hbox); have n2_ := y0.mk ((by rw [hg]; exact (y6 (by repeat (first | (with_reducible first | exact HB.out | apply y3 | apply y23 | apply y4) | exact HB.out))) : w.heap.size ≤ gb359)); have n3_ := y0.mk ((by rw [hg]; exact (y6 (by repeat (first | (with_reducible first | exact HB.out | apply y3 | apply y23 | apply y4) | exact HB.out))) : w.heap.size ≤ gb359)); clear HB; have HB := n0_; have BK359 := n1_; have GW359 := n2_; have GE359 := n3_; clear n0_ n1_ n2_ n3_; clear hb hbox hg) | ((with_reducible refine y18 (N := 3) rfl ?_); refine y14 ?hg (N := 3) ?hd (cs := #[.slice A1_0 l1_0.length c1_0]) (t := 27) ?hr ?_; (case hd => rfl); (case hg => rfl); (case hr => first | (go_simp; done) | (go_simp; rfl)); intro gb360 hg w63 hbox hb; have n0_ := y0.mk (y9 (g := gb359) (o := .cells #[.int .i64 a0_0,.slice A0_1 l0_1.length c0_1] 24 (0,0)) (by (with_reducible repeat (first | refine y12 ?_ _ | refine y11 ?_ | refine y8 ?_ _)); exact BK359.out) hb); have n1_ := y0.mk (y7 (by repeat (first | (with_reducible first | exact HB.out | apply y3 | apply y23 | apply y4 | refine y5 ?_ GE359.out) | exact HB.out)) hb); have n2_ := y0.mk (hbox); have n3_ := y0.mk ((by rw [hg]; exact (y6 (by repeat (first | (with_reducible first | exact HB.out | apply y3 | apply y23 | apply y4 | refine y5 ?_ GE359.out) | exact HB.out))) : w.heap.size ≤ gb360)); have n4_ := y0.mk ((by rw [hg]; exact (y6 (by repeat (first | (with_reducible first | exact HB.out | apply y3 | apply y23 | apply y4 | refine y5 ?_ GE359.out) | exact HB.out))) : w.heap.size ≤ gb360)); have n5_ := y0.mk ((by rw [hg]; exact Nat.ne_of_lt (blk_lt (g := gb359) (o := .cells #[.int .i64 a0_0,.slice A0_1 l0_1.length c0_1] 24 (0,0)) (by (with_reducible repeat (first | refine y12 ?_ _ | refine y11 ?_ | refine y8 ?_ _)); exact BK359.out)) : gb359 ≠ gb360)); have n6_ := y0.mk ((by rw [hg]; exact Nat.ne_of_gt (blk_lt (g := gb359) (o := .cells #[.int .i64 a0_0,.slice A0_1 l0_1.length c0_1] 24 (0,0)) (by (with_reducible repeat (first | refine y12 ?_ _ | refine y11 ?_ | refine y8 ?_ _)); exact BK359.out)) : gb360 ≠ gb359)); clear BK359; clear HB; have BK359 := n0_; have HB := n1_; have BK360 := n2_; have GW360 := n3_; have GE360 := n4_; have NB359_360 := n5_; have NB360_359 := n6_; clear n0_ n1_ n2_ n3_ n4_ n5_ n6_; clear hb hbox hg; have hnb64 := NB359_360.out; have hnc64 := NB360_359.out; have hcz65_0 : w63.cell? ⟨gb359,0,none⟩ = some (.int .i64 a0_0) := (y10 BK359.out 0).trans rfl; have hcz65_1 : w63.cell? ⟨gb359,1,none⟩ = some (.slice A0_1 l0_1.length c0_1) := (y10 BK359.out 1).trans rfl; have hfz65_0 := y13 BK359.out 0; have hfz65_1 := y13 BK359.out 1) | ((with_reducible refine y17 (f := 11) rfl ?_); refine y19 (some 12) rfl rfl Tryz.func11 (by kernel_rfl) rfl #[.agg #[.int .i64 a0_0,.slice A0_1 l0_1.length c0_1],.int .i64 1048576] rfl (by (try simp only [qM_,List.map_cons,List.map_nil]); first | done | rfl | (simp only [qD_,qT_]; rfl)) ?_; (with_reducible refine (laws_szRel.calls k a0_0 _ _ l0_1 1048576 t361 _ ?side1 ?side2 A3.out).mono ?_); (case side1 => repeat (first | exact (Kd.C_below HR0_1.out HB.out) | (with_reducible refine Kd.C_alloc ?_ _) | (with_reducible refine Kd.C_drewN ?_ _) | (with_reducible refine Kd.C_drew ?_))); (case side2 => exact HC0_1.out); rintro e w66 ⟨rfl,hb⟩; refine ⟨_,rfl, ?_⟩; have n0_ := y0.mk (y9 (g := gb359) (o := .cells #[.int .i64 a0_0,.slice A0_1 l0_1.length c0_1] 24 (0,0)) (by (with_reducible repeat (first | refine y12 ?_ _ | refine y11 ?_ | refine y8 ?_ _)); exact BK359.out) hb); have n1_ := y0.mk (y9 (g := gb360) (o := .cells #[.slice A1_0 l1_0.length c1_0] 27 (0,0)) (by (with_reducible repeat (first | refine y12 ?_ _ | refine y11 ?_ | refine y8 ?_ _)); exact BK360.out) hb); have n2_ := y0.mk (y7 (by repeat (first | (with_reducible first | exact HB.out | apply y3 | apply y23 | apply y4 | refine y5 ?_ GE359.out | refine y5 ?_ GE360.out) | exact HB.out)) hb); clear BK359; clear BK360; clear HB; have BK359 := n0_; have BK360 := n1_; have HB := n2_; clear n0_ n1_ n2_; (try clear hb); (try clear hb2); (try clear hk); (try clear hi); have hcz67_0 : w66.cell? ⟨gb360,0,none⟩ = some (.slice A1_0 l1_0.length c1_0) := (y10 BK360.out 0).trans rfl; have hfz67_0 := y13 BK360.out 0) | ((with_reducible refine y17 (f := 12) rfl ?_); refine y19 (some 17) rfl rfl Tryz.func12 (by kernel_rfl) rfl #[.agg #[.slice A1_0 l1_0.length c1_0],.int .i64 t361] rfl (by (try simp only [qM_,List.map_cons,List.map_nil]); first | done | rfl | (simp only [qD_,qT_]; rfl)) ?_; (with_reducible refine (laws_szTuple.calls k _ _ l1_0 t361 t362 _ ?side1 ?side2 A10.out).mono ?_); (case side1 => repeat (first | exact (Kd.C_below HR1_0.out HB.out) | (with_reducible refine Kd.C_alloc ?_ _) | (with_reducible refine Kd.C_drewN ?_ _) | (with_reducible refine Kd.C_drew ?_))); (case side2 => exact HC1_0.out); rintro e w68 ⟨rfl,hb⟩; refine ⟨_,rfl, ?_⟩; have n0_ := y0.mk (y9 (g := gb359) (o := .cells #[.int .i64 a0_0,.slice A0_1 l0_1.length c0_1] 24 (0,0)) (by (with_reducible repeat (first | refine y12 ?_ _ | refine y11 ?_ | refine y8 ?_ _)); exact BK359.out) hb); have n1_ := y0.mk (y9 (g := gb360) (o := .cells #[.slice A1_0 l1_0.length c1_0] 27 (0,0)) (by (with_reducible repeat (first | refine y12 ?_ _ | refine y11 ?_ | refine y8 ?_ _)); exact BK360.out) hb); have n2_ := y0.mk (y7 (by repeat (first | (with_reducible first | exact HB.out | apply y3 | apply y23 | apply y4 | refine y5 ?_ GE359.out | refine y5 ?_ GE360.out) | exact HB.out)) hb); clear BK359; clear BK360; clear HB; have BK359 := n0_; have BK360 := n1_; have HB := n2_; clear n0_ n1_ n2_; (try clear hb); (try clear hb2); (try clear hk); (try clear hi)))
      have n0_ := y0.mk (y11 BK359.out)
      have n1_ := y0.mk (y11 BK360.out)
      have n2_ := y0.mk (y4 HB.out)
      clear BK359
      clear BK360
      clear HB
      have BK359 := n0_
      have BK360 := n1_
      have HB := n2_
      clear n0_ n1_ n2_
      refine start_ (n := 6) (S := fun w' => w'.cell? ⟨gb359,0,none⟩ = some (.int .i64 a0_0) ∧ w'.cell? ⟨gb359,1,none⟩ = some (.slice A0_1 l0_1.length c0_1) ∧ w'.cell? ⟨gb360,0,none⟩ = some (.slice A1_0 l1_0.length c1_0)) (ds := []) #[false,false,false,false,false,false] (by kernel_rfl) rfl rfl ⟨(y10 BK359.out 0).trans rfl,(y10 BK359.out 1).trans rfl,(y10 BK360.out 0).trans rfl⟩ (fun hHeld => ?_)
      generalize w68.drew = w69 at BK359 BK360 HB hHeld ⊢
      refine take_ (i := 0) (N := some 20) (v := ?_) (a' := ?_) #[true,false,false,false,false,false] rfl rfl (by kernel_rfl) (fun _ _ _ h => h) (Or.inl ⟨by rfl, ?_⟩) hHeld ?_ ?_
      rotate_left
      ·rintro w' ⟨s0,s1,s2⟩
       go_simp
       with_reducible rfl
      rotate_left
      ·simp only [Act.put,qS_,qZ_,qC_,y21,y20]
       rfl
      refine take_ (i := 2) (N := some 22) (v := ?_) (a' := ?_) #[true,false,true,false,false,false] rfl rfl (by kernel_rfl) (fun _ _ _ h => h) (Or.inl ⟨by rfl, ?_⟩) hHeld ?_ ?_
      rotate_left
      ·rintro w' ⟨s0,s1,s2⟩
       go_simp
       with_reducible rfl
      rotate_left
      ·simp only [Act.put,qS_,qZ_,qC_,y21,y20]
       rfl
      refine one_ (i := 1) (N := some 21) #[true,true,true,false,false,false] rfl rfl (by kernel_rfl) (by decide) (fun K hK => ?_)
      refine goes_ Tryz.func14 (by kernel_rfl) rfl #[.agg #[.int .i64 a0_0,.slice A0_1 l0_1.length c0_1]] (by rfl) rfl rfl (by (try simp only [qM_,List.map_cons,List.map_nil]); first | done | rfl | (simp only [qD_,qT_]; rfl)) ?_
      with_reducible refine (laws_toRel.calls k a0_0 _ _ l0_1 t363 t364 _ ?side1 ?side2 A19.out).mono ?_
      (case side1 => repeat (first | exact (Kd.C_below HR0_1.out HB.out) | (with_reducible refine Kd.C_alloc ?_ _) | (with_reducible refine Kd.C_drewN ?_ _) | (with_reducible refine Kd.C_drew ?_)))
      (case side2 => exact HC0_1.out)
      rintro e w70 ⟨v365,rfl,ho0,hb⟩
      refine ⟨_,rfl, ?_⟩
      have n0_ := y0.mk (Kd.S_lower ho0 (y6 (by repeat (first | (with_reducible first | exact HB.out | apply y3 | apply y23 | apply y4 | refine y5 ?_ GE359.out | refine y5 ?_ GE360.out) | exact HB.out))))
      have n1_ := y0.mk (y9 (g := gb359) (o := .cells #[.int .i64 a0_0,.slice A0_1 l0_1.length c0_1] 24 (0,0)) (by (with_reducible repeat (first | refine y12 ?_ _ | refine y11 ?_ | refine y8 ?_ _)); exact BK359.out) hb)
      have n2_ := y0.mk (y9 (g := gb360) (o := .cells #[.slice A1_0 l1_0.length c1_0] 27 (0,0)) (by (with_reducible repeat (first | refine y12 ?_ _ | refine y11 ?_ | refine y8 ?_ _)); exact BK360.out) hb)
      have n3_ := y0.mk (y7 (by repeat (first | (with_reducible first | exact HB.out | apply y3 | apply y23 | apply y4 | refine y5 ?_ GE359.out | refine y5 ?_ GE360.out) | exact HB.out)) hb)
      clear BK359
      clear BK360
      clear HB
      have HO366 := n0_
      have BK359 := n1_
      have BK360 := n2_
      have HB := n3_
      clear n0_ n1_ n2_ n3_
      (try clear hb)
      (try clear hb2)
      (try clear hk)
      (try clear hi)
      (try clear ho0)
      refine hK.out _ _ ⟨(y10 BK359.out 0).trans rfl,(y10 BK359.out 1).trans rfl,(y10 BK360.out 0).trans rfl⟩ (fun hHeld => ?_)
      clear hK K
      refine norm_ (a' := ?_) ?_ ?_
      rotate_left
      ·show Act.put _ (some 21) _ = _
       simp only [Act.put,qS_,qZ_,qC_,y21,y20]
       rfl
      refine one_ (i := 3) (N := some 23) #[true,true,true,true,false,false] rfl rfl (by kernel_rfl) (by decide) (fun K hK => ?_)
      refine goes_ Tryz.func15 (by kernel_rfl) rfl #[.agg #[.slice A1_0 l1_0.length c1_0]] (by rfl) rfl rfl (by (try simp only [qM_,List.map_cons,List.map_nil]); first | done | rfl | (simp only [qD_,qT_]; rfl)) ?_
      with_reducible refine (laws_toTuple.calls k _ _ l1_0 t367 _ ?side1 ?side2 A20.out).mono ?_
      (case side1 => repeat (first | exact (Kd.C_below HR1_0.out HB.out) | (with_reducible refine Kd.C_alloc ?_ _) | (with_reducible refine Kd.C_drewN ?_ _) | (with_reducible refine Kd.C_drew ?_)))
      (case side2 => exact HC1_0.out)
      rintro e w71 ⟨v368,rfl,ho0,hb⟩
      refine ⟨_,rfl, ?_⟩
      have n0_ := y0.mk (Kd.S_elder' (by (with_reducible repeat (first | apply Kd.S_alloc | apply Kd.S_drewN | apply Kd.S_drew)); exact HO366.out) (Kd.R_base ho0) hb)
      have n1_ := y0.mk (Kd.R_lower ho0 (y6 (by repeat (first | (with_reducible first | exact HB.out | apply y3 | apply y23 | apply y4 | refine y5 ?_ GE359.out | refine y5 ?_ GE360.out) | exact HB.out))))
      have n2_ := y0.mk (y9 (g := gb359) (o := .cells #[.int .i64 a0_0,.slice A0_1 l0_1.length c0_1] 24 (0,0)) (by (with_reducible repeat (first | refine y12 ?_ _ | refine y11 ?_ | refine y8 ?_ _)); exact BK359.out) hb)
      have n3_ := y0.mk (y9 (g := gb360) (o := .cells #[.slice A1_0 l1_0.length c1_0] 27 (0,0)) (by (with_reducible repeat (first | refine y12 ?_ _ | refine y11 ?_ | refine y8 ?_ _)); exact BK360.out) hb)
      have n4_ := y0.mk (y7 (by repeat (first | (with_reducible first | exact HB.out | apply y3 | apply y23 | apply y4 | refine y5 ?_ GE359.out | refine y5 ?_ GE360.out) | exact HB.out)) hb)
      clear HO366
      clear BK359
      clear BK360
      clear HB
      have HO366 := n0_
      have HO369 := n1_
      have BK359 := n2_
      have BK360 := n3_
      have HB := n4_
      clear n0_ n1_ n2_ n3_ n4_
      (try clear hb)
      (try clear hb2)
      (try clear hk)
      (try clear hi)
      (try clear ho0)
      obtain ⟨Ao72,co72,eo72⟩ := Kd.S_slice HO366.out
      (first | subst eo72 | (injection eo72 with f1_ f2_ f3_; have f4_ := f1_.symm; have f5_ := f3_.symm; clear f1_ f2_ f3_; subst f4_; subst f5_))
      obtain ⟨Ao73,co73,eo73⟩ := Kd.R_slice HO369.out
      (first | subst eo73 | (injection eo73 with f1_ f2_ f3_; have f4_ := f1_.symm; have f5_ := f3_.symm; clear f1_ f2_ f3_; subst f4_; subst f5_))
      refine hK.out _ _ ⟨(y10 BK359.out 0).trans rfl,(y10 BK359.out 1).trans rfl,(y10 BK360.out 0).trans rfl⟩ (fun hHeld => ?_)
      clear hK K
      refine norm_ (a' := ?_) ?_ ?_
      rotate_left
      ·show Act.put _ (some 23) _ = _
       simp only [Act.put,qS_,qZ_,qC_,y21,y20]
       rfl
      refine one_ (i := 4) (N := some 24) #[true,true,true,true,true,false] rfl rfl (by kernel_rfl) (by decide) (fun K hK => ?_)
      refine goes_ Tryz.func13 (by kernel_rfl) rfl #[.agg #[.int .i64 t363,.slice Ao72 t364.length co72],.agg #[.slice Ao73 t367.length co73]] (by rfl) rfl rfl (by (try simp only [qM_,List.map_cons,List.map_nil]); first | done | rfl | (simp only [qD_,qT_]; rfl)) ?_
      with_reducible refine (spec_RelHas.calls k t363 _ _ t364 _ _ t367 t370 _ ?side1 ?side2 ?side3 ?side4 A21.out).mono ?_
      (case side1 => repeat (first | exact (Kd.S_reads' HO366.out).2.2 | (with_reducible refine Kd.C_alloc ?_ _) | (with_reducible refine Kd.C_drewN ?_ _) | (with_reducible refine Kd.C_drew ?_)))
      (case side2 => exact (Kd.S_reads' HO366.out).2.1)
      (case side3 => repeat (first | exact (Kd.R_reads' HO369.out).2.2 | (with_reducible refine Kd.C_alloc ?_ _) | (with_reducible refine Kd.C_drewN ?_ _) | (with_reducible refine Kd.C_drew ?_)))
      (case side4 => exact (Kd.R_reads' HO369.out).2.1)
      rintro e w74 ⟨rfl,hb⟩
      refine ⟨_,rfl, ?_⟩
      have n0_ := y0.mk (Kd.S_below (by (with_reducible repeat (first | apply Kd.S_alloc | apply Kd.S_drewN | apply Kd.S_drew)); exact HO366.out) hb)
      have n1_ := y0.mk (Kd.R_below (by (with_reducible repeat (first | apply Kd.R_alloc | apply Kd.R_drewN | apply Kd.R_drew)); exact HO369.out) hb)
      have n2_ := y0.mk (y9 (g := gb359) (o := .cells #[.int .i64 a0_0,.slice A0_1 l0_1.length c0_1] 24 (0,0)) (by (with_reducible repeat (first | refine y12 ?_ _ | refine y11 ?_ | refine y8 ?_ _)); exact BK359.out) hb)
      have n3_ := y0.mk (y9 (g := gb360) (o := .cells #[.slice A1_0 l1_0.length c1_0] 27 (0,0)) (by (with_reducible repeat (first | refine y12 ?_ _ | refine y11 ?_ | refine y8 ?_ _)); exact BK360.out) hb)
      have n4_ := y0.mk (y7 (by repeat (first | (with_reducible first | exact HB.out | apply y3 | apply y23 | apply y4 | refine y5 ?_ GE359.out | refine y5 ?_ GE360.out) | exact HB.out)) hb)
      clear HO366
      clear HO369
      clear BK359
      clear BK360
      clear HB
      have HO366 := n0_
      have HO369 := n1_
      have BK359 := n2_
      have BK360 := n3_
      have HB := n4_
      clear n0_ n1_ n2_ n3_ n4_
      (try clear hb)
      (try clear hb2)
      (try clear hk)
      (try clear hi)
      refine hK.out _ _ ⟨(y10 BK359.out 0).trans rfl,(y10 BK359.out 1).trans rfl,(y10 BK360.out 0).trans rfl⟩ (fun hHeld => ?_)
      clear hK K
      refine norm_ (a' := ?_) ?_ ?_
      rotate_left
      ·show Act.put _ (some 24) _ = _
       simp only [Act.put,qS_,qZ_,qC_,y21,y20]
       rfl
      refine y22 (i := 5) (N := some 6) (v := ?_) (a' := ?_) #[true,true,true,true,true,true] rfl rfl (by kernel_rfl) (fun _ _ _ h => h) (Or.inl ⟨by rfl, ?_⟩) ?_ ?_
      rotate_left
      ·intro w'
       go_simp
       with_reducible rfl
      rotate_left
      ·simp only [Act.put,qS_,qZ_,qC_,y21,y20]
       rfl
      refine done_ (by kernel_rfl) ?_
      have hcz75_0 : w74.cell? ⟨gb359,0,none⟩ = some (.int .i64 a0_0) := (y10 BK359.out 0).trans rfl
      have hcz75_1 : w74.cell? ⟨gb359,1,none⟩ = some (.slice A0_1 l0_1.length c0_1) := (y10 BK359.out 1).trans rfl
      have hfz75_0 := y13 BK359.out 0
      have hfz75_1 := y13 BK359.out 1
      try go_wp2_with (first | ((with_reducible refine y17 (f := 14) rfl ?_); refine y19 (some 26) rfl rfl Tryz.func14 (by kernel_rfl) rfl #[.agg #[.int .i64 a0_0,.slice A0_1 l0_1.length c0_1]] rfl (by (try simp only [qM_,List.map_cons,List.map_nil]); first | done | rfl | (simp only [qD_,qT_]; rfl)) ?_; (with_reducible refine (laws_toRel.calls k a0_0 _ _ l0_1 t371 t372 _ ?side1 ?side2 A22.out).mono ?_); (case side1 => repeat (first | exact (Kd.C_below HR0_1.out HB.out) | (with_reducible refine Kd.C_alloc ?_ _) | (with_reducible refine Kd.C_drewN ?_ _) | (with_reducible refine Kd.C_drew ?_))); (case side2 => exact HC0_1.out); rintro e w76 ⟨v373,rfl,ho0,hb⟩; refine ⟨_,rfl, ?_⟩; have n0_ := y0.mk (Kd.S_elder' (by (with_reducible repeat (first | apply Kd.S_alloc | apply Kd.S_drewN | apply Kd.S_drew)); exact HO366.out) (Kd.S_base ho0) hb); have n1_ := y0.mk (Kd.R_below (by (with_reducible repeat (first | apply Kd.R_alloc | apply Kd.R_drewN | apply Kd.R_drew)); exact HO369.out) hb); have n2_ := y0.mk (Kd.S_lower (Kd.S_new' (Kd.S_new' ho0 (Kd.S_lt (by (with_reducible repeat (first | apply Kd.S_alloc | apply Kd.S_drewN | apply Kd.S_drew)); exact HO366.out))) (Kd.R_lt (by (with_reducible repeat (first | apply Kd.R_alloc | apply Kd.R_drewN | apply Kd.R_drew)); exact HO369.out))) (y6 (by repeat (first | (with_reducible first | exact HB.out | apply y3 | apply y23 | apply y4 | refine y5 ?_ GE359.out | refine y5 ?_ GE360.out) | exact HB.out)))); have n3_ := y0.mk (y9 (g := gb359) (o := .cells #[.int .i64 a0_0,.slice A0_1 l0_1.length c0_1] 24 (0,0)) (by (with_reducible repeat (first | refine y12 ?_ _ | refine y11 ?_ | refine y8 ?_ _)); exact BK359.out) hb); have n4_ := y0.mk (y9 (g := gb360) (o := .cells #[.slice A1_0 l1_0.length c1_0] 27 (0,0)) (by (with_reducible repeat (first | refine y12 ?_ _ | refine y11 ?_ | refine y8 ?_ _)); exact BK360.out) hb); have n5_ := y0.mk (y7 (by repeat (first | (with_reducible first | exact HB.out | apply y3 | apply y23 | apply y4 | refine y5 ?_ GE359.out | refine y5 ?_ GE360.out) | exact HB.out)) hb); clear HO366; clear HO369; clear BK359; clear BK360; clear HB; have HO366 := n0_; have HO369 := n1_; have HO374 := n2_; have BK359 := n3_; have BK360 := n4_; have HB := n5_; clear n0_ n1_ n2_ n3_ n4_ n5_; (try clear hb); (try clear hb2); (try clear hk); (try clear hi); (try clear ho0)) | ((with_reducible refine y18 (N := 7) rfl ?_); refine y14 ?hg (N := 7) ?hd (cs := #[.int .i64 0,.slice none 0 0]) (t := 33) ?hr ?_; (case hd => rfl); (case hg => rfl); (case hr => first | (go_simp; done) | (go_simp; rfl)); intro gb375 hg w77 hbox hb; have n0_ := y0.mk (Kd.S_below (by (with_reducible repeat (first | apply Kd.S_alloc | apply Kd.S_drewN | apply Kd.S_drew)); exact HO366.out) hb); have n1_ := y0.mk (Kd.R_below (by (with_reducible repeat (first | apply Kd.R_alloc | apply Kd.R_drewN | apply Kd.R_drew)); exact HO369.out) hb); have n2_ := y0.mk (Kd.S_below (by (with_reducible repeat (first | apply Kd.S_alloc | apply Kd.S_drewN | apply Kd.S_drew)); exact HO374.out) hb); have n3_ := y0.mk (y9 (g := gb359) (o := .cells #[.int .i64 a0_0,.slice A0_1 l0_1.length c0_1] 24 (0,0)) (by (with_reducible repeat (first | refine y12 ?_ _ | refine y11 ?_ | refine y8 ?_ _)); exact BK359.out) hb); have n4_ := y0.mk (y9 (g := gb360) (o := .cells #[.slice A1_0 l1_0.length c1_0] 27 (0,0)) (by (with_reducible repeat (first | refine y12 ?_ _ | refine y11 ?_ | refine y8 ?_ _)); exact BK360.out) hb); have n5_ := y0.mk (y7 (by repeat (first | (with_reducible first | exact HB.out | apply y3 | apply y23 | apply y4 | refine y5 ?_ GE359.out | refine y5 ?_ GE360.out) | exact HB.out)) hb); have n6_ := y0.mk (hbox); have n7_ := y0.mk ((by rw [hg]; exact (y6 (by repeat (first | (with_reducible first | exact HB.out | apply y3 | apply y23 | apply y4 | refine y5 ?_ GE359.out | refine y5 ?_ GE360.out) | exact HB.out))) : w.heap.size ≤ gb375)); have n8_ := y0.mk ((by rw [hg]; exact (y6 (by repeat (first | (with_reducible first | exact HB.out | apply y3 | apply y23 | apply y4 | refine y5 ?_ GE359.out | refine y5 ?_ GE360.out) | exact HB.out))) : w.heap.size ≤ gb375)); have n9_ := y0.mk ((by rw [hg]; exact Nat.ne_of_lt (blk_lt (g := gb359) (o := .cells #[.int .i64 a0_0,.slice A0_1 l0_1.length c0_1] 24 (0,0)) (by (with_reducible repeat (first | refine y12 ?_ _ | refine y11 ?_ | refine y8 ?_ _)); exact BK359.out)) : gb359 ≠ gb375)); have n10_ := y0.mk ((by rw [hg]; exact Nat.ne_of_gt (blk_lt (g := gb359) (o := .cells #[.int .i64 a0_0,.slice A0_1 l0_1.length c0_1] 24 (0,0)) (by (with_reducible repeat (first | refine y12 ?_ _ | refine y11 ?_ | refine y8 ?_ _)); exact BK359.out)) : gb375 ≠ gb359)); have n11_ := y0.mk ((by rw [hg]; exact Nat.ne_of_lt (blk_lt (g := gb360) (o := .cells #[.slice A1_0 l1_0.length c1_0] 27 (0,0)) (by (with_reducible repeat (first | refine y12 ?_ _ | refine y11 ?_ | refine y8 ?_ _)); exact BK360.out)) : gb360 ≠ gb375)); have n12_ := y0.mk ((by rw [hg]; exact Nat.ne_of_gt (blk_lt (g := gb360) (o := .cells #[.slice A1_0 l1_0.length c1_0] 27 (0,0)) (by (with_reducible repeat (first | refine y12 ?_ _ | refine y11 ?_ | refine y8 ?_ _)); exact BK360.out)) : gb375 ≠ gb360)); clear HO366; clear HO369; clear HO374; clear BK359; clear BK360; clear HB; have HO366 := n0_; have HO369 := n1_; have HO374 := n2_; have BK359 := n3_; have BK360 := n4_; have HB := n5_; have BK375 := n6_; have GW375 := n7_; have GE375 := n8_; have NB359_375 := n9_; have NB375_359 := n10_; have NB360_375 := n11_; have NB375_360 := n12_; clear n0_ n1_ n2_ n3_ n4_ n5_ n6_ n7_ n8_ n9_ n10_ n11_ n12_; clear hb hbox hg; have hnb78 := NB375_359.out; have hnc78 := NB359_375.out; have hnb79 := NB375_360.out; have hnc79 := NB360_375.out; have hcz80_0 : w77.cell? ⟨gb375,0,none⟩ = some (.int .i64 0) := (y10 BK375.out 0).trans rfl; have hcz80_1 : w77.cell? ⟨gb375,1,none⟩ = some (.slice none 0 0) := (y10 BK375.out 1).trans rfl; have hfz80_0 := y13 BK375.out 0; have hfz80_1 := y13 BK375.out 1; obtain ⟨Ao81,co81,eo81⟩ := Kd.S_slice HO374.out; subst eo81; have hcz82_0 : w77.cell? ⟨gb360,0,none⟩ = some (.slice A1_0 l1_0.length c1_0) := (y10 BK360.out 0).trans rfl; have hfz82_0 := y13 BK360.out 0) | ((with_reducible refine y17 (f := 15) rfl ?_); refine y19 (some 28) rfl rfl Tryz.func15 (by kernel_rfl) rfl #[.agg #[.slice A1_0 l1_0.length c1_0]] rfl (by (try simp only [qM_,List.map_cons,List.map_nil]); first | done | rfl | (simp only [qD_,qT_]; rfl)) ?_; (with_reducible refine (laws_toTuple.calls k _ _ l1_0 t376 _ ?side1 ?side2 A23.out).mono ?_); (case side1 => exact Kd.C_below HR1_0.out (by repeat (first | (with_reducible first | exact HB.out | apply y3 | apply y23 | apply y4 | refine y5 ?_ GE359.out | refine y5 ?_ GE360.out | refine y5 ?_ GE375.out) | exact HB.out))); (case side2 => exact HC1_0.out); rintro e w83 ⟨v377,rfl,ho0,hb⟩; refine ⟨_,rfl, ?_⟩; have n0_ := y0.mk (Kd.S_elder' (by (with_reducible repeat (first | apply Kd.S_alloc | apply Kd.S_drewN | apply Kd.S_drew)); exact (Kd.S_mono (Kd.S_far (p := ⟨gb375,1,none⟩) (Kd.S_far (p := ⟨gb375,0,none⟩) (Kd.S_types HO366.out BK375.out (by decide)) (fun _ hk => hk.2) (.int .i64 t371)) (fun _ hk => hk.2) (.slice Ao81 t372.length co81)) (fun _ h_ => h_.1))) (Kd.R_base ho0) hb); have n1_ := y0.mk (Kd.R_elder' (by (with_reducible repeat (first | apply Kd.R_alloc | apply Kd.R_drewN | apply Kd.R_drew)); exact (Kd.R_mono (Kd.R_far (p := ⟨gb375,1,none⟩) (Kd.R_far (p := ⟨gb375,0,none⟩) (Kd.R_types HO369.out BK375.out (by decide)) (fun _ hk => hk.2) (.int .i64 t371)) (fun _ hk => hk.2) (.slice Ao81 t372.length co81)) (fun _ h_ => h_.1))) (Kd.R_base ho0) hb); have n2_ := y0.mk (Kd.S_elder' (by (with_reducible repeat (first | apply Kd.S_alloc | apply Kd.S_drewN | apply Kd.S_drew)); exact (Kd.S_mono (Kd.S_far (p := ⟨gb375,1,none⟩) (Kd.S_far (p := ⟨gb375,0,none⟩) (Kd.S_types HO374.out BK375.out (by decide)) (fun _ hk => hk.2) (.int .i64 t371)) (fun _ hk => hk.2) (.slice Ao81 t372.length co81)) (fun _ h_ => h_.1))) (Kd.R_base ho0) hb); have n3_ := y0.mk (Kd.R_lower (Kd.R_new' ho0 (Kd.R_lt (by (with_reducible repeat (first | apply Kd.R_alloc | apply Kd.R_drewN | apply Kd.R_drew)); exact (Kd.R_mono (Kd.R_far (p := ⟨gb375,1,none⟩) (Kd.R_far (p := ⟨gb375,0,none⟩) (Kd.R_types HO369.out BK375.out (by decide)) (fun _ hk => hk.2) (.int .i64 t371)) (fun _ hk => hk.2) (.slice Ao81 t372.length co81)) (fun _ h_ => h_.1))))) (y6 (by repeat (first | (with_reducible first | exact HB.out | apply y3 | apply y23 | apply y4 | refine y5 ?_ GE359.out | refine y5 ?_ GE360.out | refine y5 ?_ GE375.out) | exact HB.out)))); have n4_ := y0.mk (y9 (g := gb359) (o := .cells #[.int .i64 a0_0,.slice A0_1 l0_1.length c0_1] 24 (0,0)) (by (with_reducible repeat (first | refine y12 ?_ _ | refine y11 ?_ | refine y8 ?_ _)); refine blk_far ?_ NB359_375.out _; (with_reducible repeat (first | refine y12 ?_ _ | refine y11 ?_ | refine y8 ?_ _)); refine blk_far ?_ NB359_375.out _; (with_reducible repeat (first | refine y12 ?_ _ | refine y11 ?_ | refine y8 ?_ _)); exact BK359.out) hb); have n5_ := y0.mk (y9 (g := gb360) (o := .cells #[.slice A1_0 l1_0.length c1_0] 27 (0,0)) (by (with_reducible repeat (first | refine y12 ?_ _ | refine y11 ?_ | refine y8 ?_ _)); refine blk_far ?_ NB360_375.out _; (with_reducible repeat (first | refine y12 ?_ _ | refine y11 ?_ | refine y8 ?_ _)); refine blk_far ?_ NB360_375.out _; (with_reducible repeat (first | refine y12 ?_ _ | refine y11 ?_ | refine y8 ?_ _)); exact BK360.out) hb); have n6_ := y0.mk (y9 (g := gb375) (o := .cells #[.int .i64 t371,.slice Ao81 t372.length co81] 33 (0,0)) (by (with_reducible repeat (first | refine y12 ?_ _ | refine y11 ?_ | refine y8 ?_ _)); refine blk_put (cs := #[.int .i64 t371,.slice none 0 0]) ?_ 1 _ rfl; (with_reducible repeat (first | refine y12 ?_ _ | refine y11 ?_ | refine y8 ?_ _)); refine blk_put (cs := #[.int .i64 0,.slice none 0 0]) ?_ 0 _ rfl; (with_reducible repeat (first | refine y12 ?_ _ | refine y11 ?_ | refine y8 ?_ _)); exact BK375.out) hb); have n7_ := y0.mk (y7 (by repeat (first | (with_reducible first | exact HB.out | apply y3 | apply y23 | apply y4 | refine y5 ?_ GE359.out | refine y5 ?_ GE360.out | refine y5 ?_ GE375.out) | exact HB.out)) hb); clear HO366; clear HO369; clear HO374; clear BK359; clear BK360; clear BK375; clear HB; have HO366 := n0_; have HO369 := n1_; have HO374 := n2_; have HO378 := n3_; have BK359 := n4_; have BK360 := n5_; have BK375 := n6_; have HB := n7_; clear n0_ n1_ n2_ n3_ n4_ n5_ n6_ n7_; (try clear hb); (try clear hb2); (try clear hk); (try clear hi); (try clear ho0)) | ((with_reducible refine y18 (N := 8) rfl ?_); refine y14 ?hg (N := 8) ?hd (cs := #[.slice none 0 0]) (t := 35) ?hr ?_; (case hd => rfl); (case hg => rfl); (case hr => first | (go_simp; done) | (go_simp; rfl)); intro gb379 hg w84 hbox hb; have n0_ := y0.mk (Kd.S_below (Kd.S_elderB (by (with_reducible repeat (first | apply Kd.S_alloc | apply Kd.S_drewN | apply Kd.S_drew)); exact HO366.out) gb379 (Nat.le_of_eq hg.symm)) hb); have n1_ := y0.mk (Kd.R_below (by (with_reducible repeat (first | apply Kd.R_alloc | apply Kd.R_drewN | apply Kd.R_drew)); exact HO369.out) hb); have n2_ := y0.mk (Kd.S_below (Kd.S_elderB (by (with_reducible repeat (first | apply Kd.S_alloc | apply Kd.S_drewN | apply Kd.S_drew)); exact HO374.out) gb379 (Nat.le_of_eq hg.symm)) hb); have n3_ := y0.mk (Kd.R_below (by (with_reducible repeat (first | apply Kd.R_alloc | apply Kd.R_drewN | apply Kd.R_drew)); exact HO378.out) hb); have n4_ := y0.mk (y9 (g := gb359) (o := .cells #[.int .i64 a0_0,.slice A0_1 l0_1.length c0_1] 24 (0,0)) (by (with_reducible repeat (first | refine y12 ?_ _ | refine y11 ?_ | refine y8 ?_ _)); exact BK359.out) hb); have n5_ := y0.mk (y9 (g := gb360) (o := .cells #[.slice A1_0 l1_0.length c1_0] 27 (0,0)) (by (with_reducible repeat (first | refine y12 ?_ _ | refine y11 ?_ | refine y8 ?_ _)); exact BK360.out) hb); have n6_ := y0.mk (y9 (g := gb375) (o := .cells #[.int .i64 t371,.slice Ao81 t372.length co81] 33 (0,0)) (by (with_reducible repeat (first | refine y12 ?_ _ | refine y11 ?_ | refine y8 ?_ _)); exact BK375.out) hb); have n7_ := y0.mk (y7 (by repeat (first | (with_reducible first | exact HB.out | apply y3 | apply y23 | apply y4 | refine y5 ?_ GE359.out | refine y5 ?_ GE360.out | refine y5 ?_ GE375.out) | exact HB.out)) hb); have n8_ := y0.mk (hbox); have n9_ := y0.mk ((by rw [hg]; exact (y6 (by repeat (first | (with_reducible first | exact HB.out | apply y3 | apply y23 | apply y4 | refine y5 ?_ GE359.out | refine y5 ?_ GE360.out | refine y5 ?_ GE375.out) | exact HB.out))) : w.heap.size ≤ gb379)); have n10_ := y0.mk ((by rw [hg]; exact (y6 (by repeat (first | (with_reducible first | exact HB.out | apply y3 | apply y23 | apply y4 | refine y5 ?_ GE359.out | refine y5 ?_ GE360.out | refine y5 ?_ GE375.out) | exact HB.out))) : w.heap.size ≤ gb379)); have n11_ := y0.mk ((by rw [hg]; exact Nat.ne_of_lt (blk_lt (g := gb359) (o := .cells #[.int .i64 a0_0,.slice A0_1 l0_1.length c0_1] 24 (0,0)) (by (with_reducible repeat (first | refine y12 ?_ _ | refine y11 ?_ | refine y8 ?_ _)); exact BK359.out)) : gb359 ≠ gb379)); have n12_ := y0.mk ((by rw [hg]; exact Nat.ne_of_gt (blk_lt (g := gb359) (o := .cells #[.int .i64 a0_0,.slice A0_1 l0_1.length c0_1] 24 (0,0)) (by (with_reducible repeat (first | refine y12 ?_ _ | refine y11 ?_ | refine y8 ?_ _)); exact BK359.out)) : gb379 ≠ gb359)); have n13_ := y0.mk ((by rw [hg]; exact Nat.ne_of_lt (blk_lt (g := gb360) (o := .cells #[.slice A1_0 l1_0.length c1_0] 27 (0,0)) (by (with_reducible repeat (first | refine y12 ?_ _ | refine y11 ?_ | refine y8 ?_ _)); exact BK360.out)) : gb360 ≠ gb379)); have n14_ := y0.mk ((by rw [hg]; exact Nat.ne_of_gt (blk_lt (g := gb360) (o := .cells #[.slice A1_0 l1_0.length c1_0] 27 (0,0)) (by (with_reducible repeat (first | refine y12 ?_ _ | refine y11 ?_ | refine y8 ?_ _)); exact BK360.out)) : gb379 ≠ gb360)); have n15_ := y0.mk ((by rw [hg]; exact Nat.ne_of_lt (blk_lt (g := gb375) (o := .cells #[.int .i64 t371,.slice Ao81 t372.length co81] 33 (0,0)) (by (with_reducible repeat (first | refine y12 ?_ _ | refine y11 ?_ | refine y8 ?_ _)); exact BK375.out)) : gb375 ≠ gb379)); have n16_ := y0.mk ((by rw [hg]; exact Nat.ne_of_gt (blk_lt (g := gb375) (o := .cells #[.int .i64 t371,.slice Ao81 t372.length co81] 33 (0,0)) (by (with_reducible repeat (first | refine y12 ?_ _ | refine y11 ?_ | refine y8 ?_ _)); exact BK375.out)) : gb379 ≠ gb375)); clear HO366; clear HO369; clear HO374; clear HO378; clear BK359; clear BK360; clear BK375; clear HB; have HO366 := n0_; have HO369 := n1_; have HO374 := n2_; have HO378 := n3_; have BK359 := n4_; have BK360 := n5_; have BK375 := n6_; have HB := n7_; have BK379 := n8_; have GW379 := n9_; have GE379 := n10_; have NB359_379 := n11_; have NB379_359 := n12_; have NB360_379 := n13_; have NB379_360 := n14_; have NB375_379 := n15_; have NB379_375 := n16_; clear n0_ n1_ n2_ n3_ n4_ n5_ n6_ n7_ n8_ n9_ n10_ n11_ n12_ n13_ n14_ n15_ n16_; clear hb hbox hg; obtain ⟨Ao85,co85,eo85⟩ := Kd.R_slice HO378.out; subst eo85; have hnb86 := NB379_359.out; have hnc86 := NB359_379.out; have hnb87 := NB379_360.out; have hnc87 := NB360_379.out; have hnb88 := NB379_375.out; have hnc88 := NB375_379.out; have hcz89_0 : w84.cell? ⟨gb379,0,none⟩ = some (.slice none 0 0) := (y10 BK379.out 0).trans rfl; have hfz89_0 := y13 BK379.out 0; have hcz90_0 : w84.cell? ⟨gb375,0,none⟩ = some (.int .i64 t371) := (y10 BK375.out 0).trans rfl; have hcz90_1 : w84.cell? ⟨gb375,1,none⟩ = some (.slice Ao81 t372.length co81) := (y10 BK375.out 1).trans rfl; have hfz90_0 := y13 BK375.out 0; have hfz90_1 := y13 BK375.out 1) | ((with_reducible refine y17 (f := 16) rfl ?_); refine y19 (some 31) rfl rfl Tryz.func16 (by kernel_rfl) rfl #[.agg #[.int .i64 t371,.slice Ao81 t372.length co81],.agg #[.slice Ao85 t376.length co85]] rfl (by (try simp only [qM_,List.map_cons,List.map_nil]); first | done | rfl | (simp only [qD_,qT_]; rfl)) ?_; (with_reducible refine (impl_RelHas.calls k t371 _ _ t372 _ _ t376 t380 _ ?side1 ?side2 ?side3 ?side4 ?side5 A24.out).mono ?_); (case side1 => refine (Kd.S_reads' (e := 35) (base := w.heap.size) (ok := fun k_ => ((((True ∧ some k_ ≠ (.slice Ao72 t364.length co72 : Value).ownBlock) ∧ some k_ ≠ (.slice Ao73 t367.length co73 : Value).ownBlock) ∧ some k_ ≠ (.slice Ao85 t376.length co85 : Value).ownBlock) ∧ k_ ≠ gb379)) (n := t372.length) (c := co81) ?_).2.2; exact (by (with_reducible repeat (first | apply Kd.S_alloc | apply Kd.S_drewN | apply Kd.S_drew)); exact (Kd.S_mono (Kd.S_far (p := ⟨gb379,0,none⟩) (Kd.S_mono HO374.out (fun k_ hk => (⟨hk,hk.2⟩ : _ ∧ k_ ≠ gb379))) (fun _ hk => hk.2) (.slice Ao85 t376.length co85)) (fun _ h_ => h_.1)))); (case side2 => exact (Kd.S_reads' HO374.out).2.1); (case side3 => refine (Kd.R_reads' (e := 9) (base := w.heap.size) (ok := fun k_ => (True ∧ some k_ ≠ (.slice Ao73 t367.length co73 : Value).ownBlock)) (n := t376.length) (c := co85) ?_).2.2; exact (by (with_reducible repeat (first | apply Kd.R_alloc | apply Kd.R_drewN | apply Kd.R_drew)); exact (Kd.R_mono (Kd.R_far (p := ⟨gb379,0,none⟩) (Kd.R_types HO378.out BK379.out (by decide)) (fun _ hk => hk.2) (.slice Ao85 t376.length co85)) (fun _ h_ => h_.1)))); (case side4 => exact (Kd.R_reads' HO378.out).2.1); (case side5 => exact Tb.below HT.out (by repeat (first | (with_reducible first | exact HB.out | apply y3 | apply y23 | apply y4 | refine y5 ?_ GE359.out | refine y5 ?_ GE360.out | refine y5 ?_ GE375.out | refine y5 ?_ GE379.out) | exact HB.out))); rintro e w91 ⟨rfl,hb⟩; refine ⟨_,rfl, ?_⟩; have n0_ := y0.mk (Kd.S_below (by (with_reducible repeat (first | apply Kd.S_alloc | apply Kd.S_drewN | apply Kd.S_drew)); exact (Kd.S_mono (Kd.S_far (p := ⟨gb379,0,none⟩) (Kd.S_mono HO366.out (fun k_ hk => (⟨hk,hk.2⟩ : _ ∧ k_ ≠ gb379))) (fun _ hk => hk.2) (.slice Ao85 t376.length co85)) (fun _ h_ => h_.1))) hb); have n1_ := y0.mk (Kd.R_below (by (with_reducible repeat (first | apply Kd.R_alloc | apply Kd.R_drewN | apply Kd.R_drew)); exact (Kd.R_mono (Kd.R_far (p := ⟨gb379,0,none⟩) (Kd.R_types HO369.out BK379.out (by decide)) (fun _ hk => hk.2) (.slice Ao85 t376.length co85)) (fun _ h_ => h_.1))) hb); have n2_ := y0.mk (Kd.S_below (by (with_reducible repeat (first | apply Kd.S_alloc | apply Kd.S_drewN | apply Kd.S_drew)); exact (Kd.S_mono (Kd.S_far (p := ⟨gb379,0,none⟩) (Kd.S_mono HO374.out (fun k_ hk => (⟨hk,hk.2⟩ : _ ∧ k_ ≠ gb379))) (fun _ hk => hk.2) (.slice Ao85 t376.length co85)) (fun _ h_ => h_.1))) hb); have n3_ := y0.mk (Kd.R_below (by (with_reducible repeat (first | apply Kd.R_alloc | apply Kd.R_drewN | apply Kd.R_drew)); exact (Kd.R_mono (Kd.R_far (p := ⟨gb379,0,none⟩) (Kd.R_types HO378.out BK379.out (by decide)) (fun _ hk => hk.2) (.slice Ao85 t376.length co85)) (fun _ h_ => h_.1))) hb); have n4_ := y0.mk (y9 (g := gb359) (o := .cells #[.int .i64 a0_0,.slice A0_1 l0_1.length c0_1] 24 (0,0)) (by (with_reducible repeat (first | refine y12 ?_ _ | refine y11 ?_ | refine y8 ?_ _)); refine blk_far ?_ NB359_379.out _; (with_reducible repeat (first | refine y12 ?_ _ | refine y11 ?_ | refine y8 ?_ _)); exact BK359.out) hb); have n5_ := y0.mk (y9 (g := gb360) (o := .cells #[.slice A1_0 l1_0.length c1_0] 27 (0,0)) (by (with_reducible repeat (first | refine y12 ?_ _ | refine y11 ?_ | refine y8 ?_ _)); refine blk_far ?_ NB360_379.out _; (with_reducible repeat (first | refine y12 ?_ _ | refine y11 ?_ | refine y8 ?_ _)); exact BK360.out) hb); have n6_ := y0.mk (y9 (g := gb375) (o := .cells #[.int .i64 t371,.slice Ao81 t372.length co81] 33 (0,0)) (by (with_reducible repeat (first | refine y12 ?_ _ | refine y11 ?_ | refine y8 ?_ _)); refine blk_far ?_ NB375_379.out _; (with_reducible repeat (first | refine y12 ?_ _ | refine y11 ?_ | refine y8 ?_ _)); exact BK375.out) hb); have n7_ := y0.mk (y9 (g := gb379) (o := .cells #[.slice Ao85 t376.length co85] 35 (0,0)) (by (with_reducible repeat (first | refine y12 ?_ _ | refine y11 ?_ | refine y8 ?_ _)); refine blk_put (cs := #[.slice none 0 0]) ?_ 0 _ rfl; (with_reducible repeat (first | refine y12 ?_ _ | refine y11 ?_ | refine y8 ?_ _)); exact BK379.out) hb); have n8_ := y0.mk (y7 (by repeat (first | (with_reducible first | exact HB.out | apply y3 | apply y23 | apply y4 | refine y5 ?_ GE359.out | refine y5 ?_ GE360.out | refine y5 ?_ GE375.out | refine y5 ?_ GE379.out) | exact HB.out)) hb); clear HO366; clear HO369; clear HO374; clear HO378; clear BK359; clear BK360; clear BK375; clear BK379; clear HB; have HO366 := n0_; have HO369 := n1_; have HO374 := n2_; have HO378 := n3_; have BK359 := n4_; have BK360 := n5_; have BK375 := n6_; have BK379 := n7_; have HB := n8_; clear n0_ n1_ n2_ n3_ n4_ n5_ n6_ n7_ n8_; (try clear hb); (try clear hb2); (try clear hk); (try clear hi)))
      have n0_ := y0.mk (Kd.S_drew HO366.out)
      have n1_ := y0.mk (Kd.R_drew HO369.out)
      have n2_ := y0.mk (Kd.S_drew HO374.out)
      have n3_ := y0.mk (Kd.R_drew HO378.out)
      have n4_ := y0.mk (y11 BK359.out)
      have n5_ := y0.mk (y11 BK360.out)
      have n6_ := y0.mk (y11 BK375.out)
      have n7_ := y0.mk (y11 BK379.out)
      have n8_ := y0.mk (y4 HB.out)
      clear HO366
      clear HO369
      clear HO374
      clear HO378
      clear BK359
      clear BK360
      clear BK375
      clear BK379
      clear HB
      have HO366 := n0_
      have HO369 := n1_
      have HO374 := n2_
      have HO378 := n3_
      have BK359 := n4_
      have BK360 := n5_
      have BK375 := n6_
      have BK379 := n7_
      have HB := n8_
      clear n0_ n1_ n2_ n3_ n4_ n5_ n6_ n7_ n8_
      refine start_ (n := 5) (S := fun w' => w'.cell? ⟨gb375,0,none⟩ = some (.int .i64 t371) ∧ w'.cell? ⟨gb375,1,none⟩ = some (.slice Ao81 t372.length co81) ∧ w'.cell? ⟨gb359,0,none⟩ = some (.int .i64 a0_0) ∧ w'.cell? ⟨gb359,1,none⟩ = some (.slice A0_1 l0_1.length c0_1)) (ds := []) #[false,false,false,false,false] (by kernel_rfl) rfl rfl ⟨(y10 BK375.out 0).trans rfl,(y10 BK375.out 1).trans rfl,(y10 BK359.out 0).trans rfl,(y10 BK359.out 1).trans rfl⟩ (fun hHeld => ?_)
      generalize w91.drew = w92 at HO366 HO369 HO374 HO378 BK359 BK360 BK375 BK379 HB hHeld ⊢
      refine take_ (i := 0) (N := some 35) (v := ?_) (a' := ?_) #[true,false,false,false,false] rfl rfl (by kernel_rfl) (fun _ _ _ h => h) (Or.inl ⟨by rfl, ?_⟩) hHeld ?_ ?_
      rotate_left
      ·rintro w' ⟨s0,s1,s2,s3⟩
       go_simp
       with_reducible rfl
      rotate_left
      ·simp only [Act.put,qS_,qZ_,qC_,y21,y20]
       rfl
      refine take_ (i := 1) (N := some 36) (v := ?_) (a' := ?_) #[true,true,false,false,false] rfl rfl (by kernel_rfl) (fun _ _ _ h => h) (Or.inl ⟨by rfl, ?_⟩) hHeld ?_ ?_
      rotate_left
      ·rintro w' ⟨s0,s1,s2,s3⟩
       go_simp
       with_reducible rfl
      rotate_left
      ·simp only [Act.put,qS_,qZ_,qC_,y21,y20]
       rfl
      refine one_ (i := 2) (N := some 37) #[true,true,true,false,false] rfl rfl (by kernel_rfl) (by decide) (fun K hK => ?_)
      refine goes_ Tryz.func14 (by kernel_rfl) rfl #[.agg #[.int .i64 a0_0,.slice A0_1 l0_1.length c0_1]] (by rfl) rfl rfl (by (try simp only [qM_,List.map_cons,List.map_nil]); first | done | rfl | (simp only [qD_,qT_]; rfl)) ?_
      with_reducible refine (laws_toRel.calls k a0_0 _ _ l0_1 t381 t382 _ ?side1 ?side2 A56.out).mono ?_
      (case side1 => repeat (first | exact (Kd.C_below HR0_1.out HB.out) | (with_reducible refine Kd.C_alloc ?_ _) | (with_reducible refine Kd.C_drewN ?_ _) | (with_reducible refine Kd.C_drew ?_)))
      (case side2 => exact HC0_1.out)
      rintro e w93 ⟨v383,rfl,ho0,hb⟩
      refine ⟨_,rfl, ?_⟩
      have n0_ := y0.mk (Kd.S_elder' (by (with_reducible repeat (first | apply Kd.S_alloc | apply Kd.S_drewN | apply Kd.S_drew)); exact HO366.out) (Kd.S_base ho0) hb)
      have n1_ := y0.mk (Kd.R_below (by (with_reducible repeat (first | apply Kd.R_alloc | apply Kd.R_drewN | apply Kd.R_drew)); exact HO369.out) hb)
      have n2_ := y0.mk (Kd.S_elder' (by (with_reducible repeat (first | apply Kd.S_alloc | apply Kd.S_drewN | apply Kd.S_drew)); exact HO374.out) (Kd.S_base ho0) hb)
      have n3_ := y0.mk (Kd.R_below (by (with_reducible repeat (first | apply Kd.R_alloc | apply Kd.R_drewN | apply Kd.R_drew)); exact HO378.out) hb)
      have n4_ := y0.mk (Kd.S_lower (Kd.S_newB (Kd.S_new' (Kd.S_new' (Kd.S_new' (Kd.S_new' ho0 (Kd.S_lt (by (with_reducible repeat (first | apply Kd.S_alloc | apply Kd.S_drewN | apply Kd.S_drew)); exact HO366.out))) (Kd.R_lt (by (with_reducible repeat (first | apply Kd.R_alloc | apply Kd.R_drewN | apply Kd.R_drew)); exact HO369.out))) (Kd.S_lt (by (with_reducible repeat (first | apply Kd.S_alloc | apply Kd.S_drewN | apply Kd.S_drew)); exact HO374.out))) (Kd.R_lt (by (with_reducible repeat (first | apply Kd.R_alloc | apply Kd.R_drewN | apply Kd.R_drew)); exact HO378.out))) (g := gb379) (o := .cells #[.slice Ao85 t376.length co85] 35 (0,0)) (by (with_reducible repeat (first | refine y12 ?_ _ | refine y11 ?_ | refine y8 ?_ _)); exact BK379.out)) (y6 (by repeat (first | (with_reducible first | exact HB.out | apply y3 | apply y23 | apply y4 | refine y5 ?_ GE359.out | refine y5 ?_ GE360.out | refine y5 ?_ GE375.out | refine y5 ?_ GE379.out) | exact HB.out))))
      have n5_ := y0.mk (y9 (g := gb359) (o := .cells #[.int .i64 a0_0,.slice A0_1 l0_1.length c0_1] 24 (0,0)) (by (with_reducible repeat (first | refine y12 ?_ _ | refine y11 ?_ | refine y8 ?_ _)); exact BK359.out) hb)
      have n6_ := y0.mk (y9 (g := gb360) (o := .cells #[.slice A1_0 l1_0.length c1_0] 27 (0,0)) (by (with_reducible repeat (first | refine y12 ?_ _ | refine y11 ?_ | refine y8 ?_ _)); exact BK360.out) hb)
      have n7_ := y0.mk (y9 (g := gb375) (o := .cells #[.int .i64 t371,.slice Ao81 t372.length co81] 33 (0,0)) (by (with_reducible repeat (first | refine y12 ?_ _ | refine y11 ?_ | refine y8 ?_ _)); exact BK375.out) hb)
      have n8_ := y0.mk (y9 (g := gb379) (o := .cells #[.slice Ao85 t376.length co85] 35 (0,0)) (by (with_reducible repeat (first | refine y12 ?_ _ | refine y11 ?_ | refine y8 ?_ _)); exact BK379.out) hb)
      have n9_ := y0.mk (y7 (by repeat (first | (with_reducible first | exact HB.out | apply y3 | apply y23 | apply y4 | refine y5 ?_ GE359.out | refine y5 ?_ GE360.out | refine y5 ?_ GE375.out | refine y5 ?_ GE379.out) | exact HB.out)) hb)
      clear HO366
      clear HO369
      clear HO374
      clear HO378
      clear BK359
      clear BK360
      clear BK375
      clear BK379
      clear HB
      have HO366 := n0_
      have HO369 := n1_
      have HO374 := n2_
      have HO378 := n3_
      have HO384 := n4_
      have BK359 := n5_
      have BK360 := n6_
      have BK375 := n7_
      have BK379 := n8_
      have HB := n9_
      clear n0_ n1_ n2_ n3_ n4_ n5_ n6_ n7_ n8_ n9_
      (try clear hb)
      (try clear hb2)
      (try clear hk)
      (try clear hi)
      (try clear ho0)
      obtain ⟨Ao94,co94,eo94⟩ := Kd.S_slice HO384.out
      (first | subst eo94 | (injection eo94 with f1_ f2_ f3_; have f4_ := f1_.symm; have f5_ := f3_.symm; clear f1_ f2_ f3_; subst f4_; subst f5_))
      refine hK.out _ _ ⟨(y10 BK375.out 0).trans rfl,(y10 BK375.out 1).trans rfl,(y10 BK359.out 0).trans rfl,(y10 BK359.out 1).trans rfl⟩ (fun hHeld => ?_)
      clear hK K
      refine norm_ (a' := ?_) ?_ ?_
      rotate_left
      ·show Act.put _ (some 37) _ = _
       simp only [Act.put,qS_,qZ_,qC_,y21,y20]
       rfl
      refine one_ (i := 3) (N := some 38) #[true,true,true,true,false] rfl rfl (by kernel_rfl) (by decide) (fun K hK => ?_)
      refine goes_ Tryz.func17 (by kernel_rfl) rfl #[.agg #[.int .i64 t371,.slice Ao81 t372.length co81],.agg #[.int .i64 t381,.slice Ao94 t382.length co94]] (by rfl) rfl rfl (by (try simp only [qM_,List.map_cons,List.map_nil]); first | done | rfl | (simp only [qD_,qT_]; rfl)) ?_
      with_reducible refine (laws_eqRel.calls k t371 _ _ t372 t381 _ _ t382 true _ ?side1 ?side2 ?side3 ?side4 A57.out rfl).mono ?_
      (case side1 => repeat (first | exact (Kd.S_reads' HO374.out).2.2 | (with_reducible refine Kd.C_alloc ?_ _) | (with_reducible refine Kd.C_drewN ?_ _) | (with_reducible refine Kd.C_drew ?_)))
      (case side2 => exact (Kd.S_reads' HO374.out).2.1)
      (case side3 => repeat (first | exact (Kd.S_reads' HO384.out).2.2 | (with_reducible refine Kd.C_alloc ?_ _) | (with_reducible refine Kd.C_drewN ?_ _) | (with_reducible refine Kd.C_drew ?_)))
      (case side4 => exact (Kd.S_reads' HO384.out).2.1)
      rintro e w95 ⟨rfl,hb⟩
      refine ⟨_,rfl, ?_⟩
      have n0_ := y0.mk (Kd.S_below (by (with_reducible repeat (first | apply Kd.S_alloc | apply Kd.S_drewN | apply Kd.S_drew)); exact HO366.out) hb)
      have n1_ := y0.mk (Kd.R_below (by (with_reducible repeat (first | apply Kd.R_alloc | apply Kd.R_drewN | apply Kd.R_drew)); exact HO369.out) hb)
      have n2_ := y0.mk (Kd.S_below (by (with_reducible repeat (first | apply Kd.S_alloc | apply Kd.S_drewN | apply Kd.S_drew)); exact HO374.out) hb)
      have n3_ := y0.mk (Kd.R_below (by (with_reducible repeat (first | apply Kd.R_alloc | apply Kd.R_drewN | apply Kd.R_drew)); exact HO378.out) hb)
      have n4_ := y0.mk (Kd.S_below (by (with_reducible repeat (first | apply Kd.S_alloc | apply Kd.S_drewN | apply Kd.S_drew)); exact HO384.out) hb)
      have n5_ := y0.mk (y9 (g := gb359) (o := .cells #[.int .i64 a0_0,.slice A0_1 l0_1.length c0_1] 24 (0,0)) (by (with_reducible repeat (first | refine y12 ?_ _ | refine y11 ?_ | refine y8 ?_ _)); exact BK359.out) hb)
      have n6_ := y0.mk (y9 (g := gb360) (o := .cells #[.slice A1_0 l1_0.length c1_0] 27 (0,0)) (by (with_reducible repeat (first | refine y12 ?_ _ | refine y11 ?_ | refine y8 ?_ _)); exact BK360.out) hb)
      have n7_ := y0.mk (y9 (g := gb375) (o := .cells #[.int .i64 t371,.slice Ao81 t372.length co81] 33 (0,0)) (by (with_reducible repeat (first | refine y12 ?_ _ | refine y11 ?_ | refine y8 ?_ _)); exact BK375.out) hb)
      have n8_ := y0.mk (y9 (g := gb379) (o := .cells #[.slice Ao85 t376.length co85] 35 (0,0)) (by (with_reducible repeat (first | refine y12 ?_ _ | refine y11 ?_ | refine y8 ?_ _)); exact BK379.out) hb)
      have n9_ := y0.mk (y7 (by repeat (first | (with_reducible first | exact HB.out | apply y3 | apply y23 | apply y4 | refine y5 ?_ GE359.out | refine y5 ?_ GE360.out | refine y5 ?_ GE375.out | refine y5 ?_ GE379.out) | exact HB.out)) hb)
      clear HO366
      clear HO369
      clear HO374
      clear HO378
      clear HO384
      clear BK359
      clear BK360
      clear BK375
      clear BK379
      clear HB
      have HO366 := n0_
      have HO369 := n1_
      have HO374 := n2_
      have HO378 := n3_
      have HO384 := n4_
      have BK359 := n5_
      have BK360 := n6_
      have BK375 := n7_
      have BK379 := n8_
      have HB := n9_
      clear n0_ n1_ n2_ n3_ n4_ n5_ n6_ n7_ n8_ n9_
      (try clear hb)
      (try clear hb2)
      (try clear hk)
      (try clear hi)
      refine hK.out _ _ ⟨(y10 BK375.out 0).trans rfl,(y10 BK375.out 1).trans rfl,(y10 BK359.out 0).trans rfl,(y10 BK359.out 1).trans rfl⟩ (fun hHeld => ?_)
      clear hK K
      refine norm_ (a' := ?_) ?_ ?_
      rotate_left
      ·show Act.put _ (some 38) _ = _
       simp only [Act.put,qS_,qZ_,qC_,y21,y20]
       rfl
      refine y22 (i := 4) (N := some 39) (v := ?_) (a' := ?_) #[true,true,true,true,true] rfl rfl (by kernel_rfl) (fun _ _ _ h => h) (Or.inl ⟨by rfl, ?_⟩) ?_ ?_
      rotate_left
      ·intro w'
       go_simp
       with_reducible rfl
      rotate_left
      ·simp only [Act.put,qS_,qZ_,qC_,y21,y20]
       rfl
      refine done_ (by kernel_rfl) ?_
      try go_wp2
      have n0_ := y0.mk (Kd.S_drew HO366.out)
      have n1_ := y0.mk (Kd.R_drew HO369.out)
      have n2_ := y0.mk (Kd.S_drew HO374.out)
      have n3_ := y0.mk (Kd.R_drew HO378.out)
      have n4_ := y0.mk (Kd.S_drew HO384.out)
      have n5_ := y0.mk (y11 BK359.out)
      have n6_ := y0.mk (y11 BK360.out)
      have n7_ := y0.mk (y11 BK375.out)
      have n8_ := y0.mk (y11 BK379.out)
      have n9_ := y0.mk (y4 HB.out)
      clear HO366
      clear HO369
      clear HO374
      clear HO378
      clear HO384
      clear BK359
      clear BK360
      clear BK375
      clear BK379
      clear HB
      have HO366 := n0_
      have HO369 := n1_
      have HO374 := n2_
      have HO378 := n3_
      have HO384 := n4_
      have BK359 := n5_
      have BK360 := n6_
      have BK375 := n7_
      have BK379 := n8_
      have HB := n9_
      clear n0_ n1_ n2_ n3_ n4_ n5_ n6_ n7_ n8_ n9_
      refine start_ (n := 5) (S := fun w' => w'.cell? ⟨gb379,0,none⟩ = some (.slice Ao85 t376.length co85) ∧ w'.cell? ⟨gb360,0,none⟩ = some (.slice A1_0 l1_0.length c1_0)) (ds := []) #[false,false,false,false,false] (by kernel_rfl) rfl rfl ⟨(y10 BK379.out 0).trans rfl,(y10 BK360.out 0).trans rfl⟩ (fun hHeld => ?_)
      generalize w95.drew = w96 at HO366 HO369 HO374 HO378 HO384 BK359 BK360 BK375 BK379 HB hHeld ⊢
      refine take_ (i := 0) (N := some 40) (v := ?_) (a' := ?_) #[true,false,false,false,false] rfl rfl (by kernel_rfl) (fun _ _ _ h => h) (Or.inl ⟨by rfl, ?_⟩) hHeld ?_ ?_
      rotate_left
      ·rintro w' ⟨s0,s1⟩
       go_simp
       with_reducible rfl
      rotate_left
      ·simp only [Act.put,qS_,qZ_,qC_,y21,y20]
       rfl
      refine take_ (i := 1) (N := some 41) (v := ?_) (a' := ?_) #[true,true,false,false,false] rfl rfl (by kernel_rfl) (fun _ _ _ h => h) (Or.inl ⟨by rfl, ?_⟩) hHeld ?_ ?_
      rotate_left
      ·rintro w' ⟨s0,s1⟩
       go_simp
       with_reducible rfl
      rotate_left
      ·simp only [Act.put,qS_,qZ_,qC_,y21,y20]
       rfl
      refine one_ (i := 2) (N := some 42) #[true,true,true,false,false] rfl rfl (by kernel_rfl) (by decide) (fun K hK => ?_)
      refine goes_ Tryz.func15 (by kernel_rfl) rfl #[.agg #[.slice A1_0 l1_0.length c1_0]] (by rfl) rfl rfl (by (try simp only [qM_,List.map_cons,List.map_nil]); first | done | rfl | (simp only [qD_,qT_]; rfl)) ?_
      with_reducible refine (laws_toTuple.calls k _ _ l1_0 t386 _ ?side1 ?side2 A59.out).mono ?_
      (case side1 => repeat (first | exact (Kd.C_below HR1_0.out HB.out) | (with_reducible refine Kd.C_alloc ?_ _) | (with_reducible refine Kd.C_drewN ?_ _) | (with_reducible refine Kd.C_drew ?_)))
      (case side2 => exact HC1_0.out)
      rintro e w97 ⟨v387,rfl,ho0,hb⟩
      refine ⟨_,rfl, ?_⟩
      have n0_ := y0.mk (Kd.S_elder' (by (with_reducible repeat (first | apply Kd.S_alloc | apply Kd.S_drewN | apply Kd.S_drew)); exact HO366.out) (Kd.R_base ho0) hb)
      have n1_ := y0.mk (Kd.R_elder' (by (with_reducible repeat (first | apply Kd.R_alloc | apply Kd.R_drewN | apply Kd.R_drew)); exact HO369.out) (Kd.R_base ho0) hb)
      have n2_ := y0.mk (Kd.S_elder' (by (with_reducible repeat (first | apply Kd.S_alloc | apply Kd.S_drewN | apply Kd.S_drew)); exact HO374.out) (Kd.R_base ho0) hb)
      have n3_ := y0.mk (Kd.R_elder' (by (with_reducible repeat (first | apply Kd.R_alloc | apply Kd.R_drewN | apply Kd.R_drew)); exact HO378.out) (Kd.R_base ho0) hb)
      have n4_ := y0.mk (Kd.S_elder' (by (with_reducible repeat (first | apply Kd.S_alloc | apply Kd.S_drewN | apply Kd.S_drew)); exact HO384.out) (Kd.R_base ho0) hb)
      have n5_ := y0.mk (Kd.R_lower (Kd.R_new' (Kd.R_new' ho0 (Kd.R_lt (by (with_reducible repeat (first | apply Kd.R_alloc | apply Kd.R_drewN | apply Kd.R_drew)); exact HO369.out))) (Kd.R_lt (by (with_reducible repeat (first | apply Kd.R_alloc | apply Kd.R_drewN | apply Kd.R_drew)); exact HO378.out))) (y6 (by repeat (first | (with_reducible first | exact HB.out | apply y3 | apply y23 | apply y4 | refine y5 ?_ GE359.out | refine y5 ?_ GE360.out | refine y5 ?_ GE375.out | refine y5 ?_ GE379.out) | exact HB.out))))
      have n6_ := y0.mk (y9 (g := gb359) (o := .cells #[.int .i64 a0_0,.slice A0_1 l0_1.length c0_1] 24 (0,0)) (by (with_reducible repeat (first | refine y12 ?_ _ | refine y11 ?_ | refine y8 ?_ _)); exact BK359.out) hb)
      have n7_ := y0.mk (y9 (g := gb360) (o := .cells #[.slice A1_0 l1_0.length c1_0] 27 (0,0)) (by (with_reducible repeat (first | refine y12 ?_ _ | refine y11 ?_ | refine y8 ?_ _)); exact BK360.out) hb)
      have n8_ := y0.mk (y9 (g := gb375) (o := .cells #[.int .i64 t371,.slice Ao81 t372.length co81] 33 (0,0)) (by (with_reducible repeat (first | refine y12 ?_ _ | refine y11 ?_ | refine y8 ?_ _)); exact BK375.out) hb)
      have n9_ := y0.mk (y9 (g := gb379) (o := .cells #[.slice Ao85 t376.length co85] 35 (0,0)) (by (with_reducible repeat (first | refine y12 ?_ _ | refine y11 ?_ | refine y8 ?_ _)); exact BK379.out) hb)
      have n10_ := y0.mk (y7 (by repeat (first | (with_reducible first | exact HB.out | apply y3 | apply y23 | apply y4 | refine y5 ?_ GE359.out | refine y5 ?_ GE360.out | refine y5 ?_ GE375.out | refine y5 ?_ GE379.out) | exact HB.out)) hb)
      clear HO366
      clear HO369
      clear HO374
      clear HO378
      clear HO384
      clear BK359
      clear BK360
      clear BK375
      clear BK379
      clear HB
      have HO366 := n0_
      have HO369 := n1_
      have HO374 := n2_
      have HO378 := n3_
      have HO384 := n4_
      have HO388 := n5_
      have BK359 := n6_
      have BK360 := n7_
      have BK375 := n8_
      have BK379 := n9_
      have HB := n10_
      clear n0_ n1_ n2_ n3_ n4_ n5_ n6_ n7_ n8_ n9_ n10_
      (try clear hb)
      (try clear hb2)
      (try clear hk)
      (try clear hi)
      (try clear ho0)
      obtain ⟨Ao98,co98,eo98⟩ := Kd.R_slice HO388.out
      (first | subst eo98 | (injection eo98 with f1_ f2_ f3_; have f4_ := f1_.symm; have f5_ := f3_.symm; clear f1_ f2_ f3_; subst f4_; subst f5_))
      refine hK.out _ _ ⟨(y10 BK379.out 0).trans rfl,(y10 BK360.out 0).trans rfl⟩ (fun hHeld => ?_)
      clear hK K
      refine norm_ (a' := ?_) ?_ ?_
      rotate_left
      ·show Act.put _ (some 42) _ = _
       simp only [Act.put,qS_,qZ_,qC_,y21,y20]
       rfl
      refine one_ (i := 3) (N := some 43) #[true,true,true,true,false] rfl rfl (by kernel_rfl) (by decide) (fun K hK => ?_)
      refine goes_ Tryz.func18 (by kernel_rfl) rfl #[.agg #[.slice Ao85 t376.length co85],.agg #[.slice Ao98 t386.length co98]] (by rfl) rfl rfl (by (try simp only [qM_,List.map_cons,List.map_nil]); first | done | rfl | (simp only [qD_,qT_]; rfl)) ?_
      with_reducible refine (laws_eqTuple.calls k _ _ t376 _ _ t386 true _ ?side1 ?side2 ?side3 ?side4 A60.out rfl).mono ?_
      (case side1 => repeat (first | exact (Kd.R_reads' HO378.out).2.2 | (with_reducible refine Kd.C_alloc ?_ _) | (with_reducible refine Kd.C_drewN ?_ _) | (with_reducible refine Kd.C_drew ?_)))
      (case side2 => exact (Kd.R_reads' HO378.out).2.1)
      (case side3 => repeat (first | exact (Kd.R_reads' HO388.out).2.2 | (with_reducible refine Kd.C_alloc ?_ _) | (with_reducible refine Kd.C_drewN ?_ _) | (with_reducible refine Kd.C_drew ?_)))
      (case side4 => exact (Kd.R_reads' HO388.out).2.1)
      rintro e w99 ⟨rfl,hb⟩
      refine ⟨_,rfl, ?_⟩
      have n0_ := y0.mk (Kd.S_below (by (with_reducible repeat (first | apply Kd.S_alloc | apply Kd.S_drewN | apply Kd.S_drew)); exact HO366.out) hb)
      have n1_ := y0.mk (Kd.R_below (by (with_reducible repeat (first | apply Kd.R_alloc | apply Kd.R_drewN | apply Kd.R_drew)); exact HO369.out) hb)
      have n2_ := y0.mk (Kd.S_below (by (with_reducible repeat (first | apply Kd.S_alloc | apply Kd.S_drewN | apply Kd.S_drew)); exact HO374.out) hb)
      have n3_ := y0.mk (Kd.R_below (by (with_reducible repeat (first | apply Kd.R_alloc | apply Kd.R_drewN | apply Kd.R_drew)); exact HO378.out) hb)
      have n4_ := y0.mk (Kd.S_below (by (with_reducible repeat (first | apply Kd.S_alloc | apply Kd.S_drewN | apply Kd.S_drew)); exact HO384.out) hb)
      have n5_ := y0.mk (Kd.R_below (by (with_reducible repeat (first | apply Kd.R_alloc | apply Kd.R_drewN | apply Kd.R_drew)); exact HO388.out) hb)
      have n6_ := y0.mk (y9 (g := gb359) (o := .cells #[.int .i64 a0_0,.slice A0_1 l0_1.length c0_1] 24 (0,0)) (by (with_reducible repeat (first | refine y12 ?_ _ | refine y11 ?_ | refine y8 ?_ _)); exact BK359.out) hb)
      have n7_ := y0.mk (y9 (g := gb360) (o := .cells #[.slice A1_0 l1_0.length c1_0] 27 (0,0)) (by (with_reducible repeat (first | refine y12 ?_ _ | refine y11 ?_ | refine y8 ?_ _)); exact BK360.out) hb)
      have n8_ := y0.mk (y9 (g := gb375) (o := .cells #[.int .i64 t371,.slice Ao81 t372.length co81] 33 (0,0)) (by (with_reducible repeat (first | refine y12 ?_ _ | refine y11 ?_ | refine y8 ?_ _)); exact BK375.out) hb)
      have n9_ := y0.mk (y9 (g := gb379) (o := .cells #[.slice Ao85 t376.length co85] 35 (0,0)) (by (with_reducible repeat (first | refine y12 ?_ _ | refine y11 ?_ | refine y8 ?_ _)); exact BK379.out) hb)
      have n10_ := y0.mk (y7 (by repeat (first | (with_reducible first | exact HB.out | apply y3 | apply y23 | apply y4 | refine y5 ?_ GE359.out | refine y5 ?_ GE360.out | refine y5 ?_ GE375.out | refine y5 ?_ GE379.out) | exact HB.out)) hb)
      clear HO366
      clear HO369
      clear HO374
      clear HO378
      clear HO384
      clear HO388
      clear BK359
      clear BK360
      clear BK375
      clear BK379
      clear HB
      have HO366 := n0_
      have HO369 := n1_
      have HO374 := n2_
      have HO378 := n3_
      have HO384 := n4_
      have HO388 := n5_
      have BK359 := n6_
      have BK360 := n7_
      have BK375 := n8_
      have BK379 := n9_
      have HB := n10_
      clear n0_ n1_ n2_ n3_ n4_ n5_ n6_ n7_ n8_ n9_ n10_
      (try clear hb)
      (try clear hb2)
      (try clear hk)
      (try clear hi)
      refine hK.out _ _ ⟨(y10 BK379.out 0).trans rfl,(y10 BK360.out 0).trans rfl⟩ (fun hHeld => ?_)
      clear hK K
      refine norm_ (a' := ?_) ?_ ?_
      rotate_left
      ·show Act.put _ (some 43) _ = _
       simp only [Act.put,qS_,qZ_,qC_,y21,y20]
       rfl
      refine y22 (i := 4) (N := some 44) (v := ?_) (a' := ?_) #[true,true,true,true,true] rfl rfl (by kernel_rfl) (fun _ _ _ h => h) (Or.inl ⟨by rfl, ?_⟩) ?_ ?_
      rotate_left
      ·intro w'
       go_simp
       with_reducible rfl
      rotate_left
      ·simp only [Act.put,qS_,qZ_,qC_,y21,y20]
       rfl
      refine done_ (by kernel_rfl) ?_
      try go_wp2
      go_ret
      exact ⟨by first | rfl | (simp [y15,y16] <;> rfl) | (simp [*,y15,y16] <;> rfl),by repeat (first | (with_reducible first | exact HB.out | apply y3 | apply y23 | apply y4 | refine y5 ?_ GE359.out | refine y5 ?_ GE360.out | refine y5 ?_ GE375.out | refine y5 ?_ GE379.out) | exact HB.out)⟩
     ·replace c61 := Bool.eq_false_iff.mpr c61
      subst c61
      have H1 : (some false) = some r := by rw [if_neg (show ¬ (false = true) by decide)] at H; exact H
      clear H
      have H := H1
      clear H1
      exact absurd ((Option.some.inj H).trans htrue_) (by decide)
    ·replace c58 := Bool.eq_false_iff.mpr c58
     subst c58
     have H1 : (some false) = some r := by rw [if_neg (show ¬ (false = true) by decide)] at H; exact H
     clear H
     have H := H1
     clear H1
     exact absurd ((Option.some.inj H).trans htrue_) (by decide)
/-- THE ONE PURE STATEMENT of laws_FnExactRelHas. -/
def laws_FnExactRelHas.Pure : Prop := ∀ (x0 : S24) (x1 : S27),okT24 x0 → okT27 x1 → ∃ k,laws_FnExactRelHas.f k x0.f0 x0.f1 x1.f0 = some true
theorem laws_FnExactRelHas.walk (P : laws_FnExactRelHas.Pure) (x0 : S24) (x1 : S27) (A0_1 : Option Addr) (c0_1 : Nat) (A1_0 : Option Addr) (c1_0 : Nat) (w : World) (hr0_1 : Kd.C k27 w A0_1 x0.f1.length x0.f1) (hc0_1 : x0.f1.length ≤ c0_1) (hr1_0 : Kd.C Kd.string w A1_0 x1.f0.length x1.f0) (hc1_0 : x1.f0.length ≤ c1_0) (k0 : okT24 x0) (k1 : okT27 x1) (hT : Tb w) :
  Calls Tryz.prog 3 #[.agg #[.int .i64 x0.f0,.slice A0_1 x0.f1.length c0_1],.agg #[.slice A1_0 x1.f0.length c1_0]] w fun e w' => e = .returned (.bool true) ∧ Below w.heap.size w w' := by
 obtain ⟨k,h⟩ := P x0 x1 k0 k1
 refine (laws_FnExactRelHas.calls k x0.f0 A0_1 c0_1 x0.f1 A1_0 c1_0 x1.f0 true w hr0_1 hc0_1 hr1_0 hc1_0 hT h rfl).mono ?_
 rintro e w' ⟨rfl,hd⟩
 exact ⟨rfl,hd⟩
end Go.Proofs.YtebadckdihgklaaGreatDoor.Ph

-- Cut by prune.py, a program of this session, out of the texts of this claim: Lean checks it.
import Derived.Test.YtamjmldfifofbaaVrsPpx0
import Derived.Test.YtamjmldfifofbaaVrsPpx3
import Derived.Test.YtamjmldfifofbaaVrsPpx9
namespace Go.Proofs.Ytamjmldfifofbaa.Pp
open Go.RowKit Go.Proofs.YtamjmldfifofbaaW.PrintWords Go.Proofs.YtamjmldfifofbaaW.PrintLast Go.Proofs.YtamjmldfifofbaaW.PrintMore
attribute [local go_sem] max2_int min2_int max_two min_two max_three min_three max_four min_four   -- for this text's walks alone
set_option linter.unusedVariables false
set_option linter.unusedSimpArgs false
def laws_FnExactRuleText.f (k : Nat) (l0_0 : List (S99)) (a0_1 : Int) (a0_2 : ByteArray) (l0_3 : List Int) (l0_4 : List (S25)) : Option (Bool) := (laws_szRule.f k l0_0 a0_1 a0_2 l0_3 l0_4 1048576).bind fun t342 => (if t342 < 0 then (some true) else ((laws_toRule.f k l0_0 a0_1 a0_2 l0_3 l0_4).bind fun bt343 => ((z5_.f k bt343.1 bt343.2.1 bt343.2.2.1 bt343.2.2.2.1 bt343.2.2.2.2).bind fun t354 => ((laws_toRule.f k l0_0 a0_1 a0_2 l0_3 l0_4).bind fun bt355 => ((impl_RuleText.f k bt355.1 bt355.2.1 bt355.2.2.1 bt355.2.2.2.1 bt355.2.2.2.2).bind fun t367 => (if t367.toList = t354.toList then ((laws_toRule.f k l0_0 a0_1 a0_2 l0_3 l0_4).bind fun bt368 => ((laws_eqRule.f k bt355.1 bt355.2.1 bt355.2.2.1 bt355.2.2.2.1 bt355.2.2.2.2 bt368.1 bt368.2.1 bt368.2.2.1 bt368.2.2.2.1 bt368.2.2.2.2).bind fun t379 => (if t379 = true then (some true) else (some false)))) else (some false)))))))
set_option maxHeartbeats 8000000 in
set_option maxRecDepth 100000 in
theorem laws_FnExactRuleText.calls (k : Nat) (A0_0 : Option Addr) (c0_0 : Nat) (l0_0 : List (S99)) (a0_1 : Int) (a0_2 : ByteArray) (A0_3 : Option Addr) (c0_3 : Nat) (l0_3 : List Int) (A0_4 : Option Addr) (c0_4 : Nat) (l0_4 : List (S25)) (r : Bool) (w : World) (hr0_0 : Kd.C k99 w A0_0 l0_0.length l0_0) (hc0_0 : l0_0.length ≤ c0_0) (hr0_3 : Kd.C (Kd.int .i64) w A0_3 l0_3.length l0_3) (hc0_3 : l0_3.length ≤ c0_3) (hr0_4 : Kd.C k25 w A0_4 l0_4.length l0_4) (hc0_4 : l0_4.length ≤ c0_4) (h : laws_FnExactRuleText.f k l0_0 a0_1 a0_2 l0_3 l0_4 = some r) (htrue_ : r = true) :
  Calls Try.prog 3 #[.agg #[.slice A0_0 l0_0.length c0_0,.int .i64 a0_1,.string a0_2,.slice A0_3 l0_3.length c0_3,.slice A0_4 l0_4.length c0_4]] w fun e w' => e = .returned (.bool r) ∧ Below w.heap.size w w' := by
 have hu28 := Try.underlying28
 have hu35 := Try.underlying35
 have HR0_0 := y0.mk hr0_0
 have HC0_0 := y0.mk hc0_0
 clear hr0_0 hc0_0
 have HR0_3 := y0.mk hr0_3
 have HC0_3 := y0.mk hc0_3
 clear hr0_3 hc0_3
 have HR0_4 := y0.mk hr0_4
 have HC0_4 := y0.mk hc0_4
 clear hr0_4 hc0_4
 have HB := y0.mk (Below.refl w.heap.size w)
 have H : ((laws_szRule.f k l0_0 a0_1 a0_2 l0_3 l0_4 1048576).bind fun t342 => (if t342 < 0 then (some true) else ((laws_toRule.f k l0_0 a0_1 a0_2 l0_3 l0_4).bind fun bt343 => ((z5_.f k bt343.1 bt343.2.1 bt343.2.2.1 bt343.2.2.2.1 bt343.2.2.2.2).bind fun t354 => ((laws_toRule.f k l0_0 a0_1 a0_2 l0_3 l0_4).bind fun bt355 => ((impl_RuleText.f k bt355.1 bt355.2.1 bt355.2.2.1 bt355.2.2.2.1 bt355.2.2.2.2).bind fun t367 => (if t367.toList = t354.toList then ((laws_toRule.f k l0_0 a0_1 a0_2 l0_3 l0_4).bind fun bt368 => ((laws_eqRule.f k bt355.1 bt355.2.1 bt355.2.2.1 bt355.2.2.2.1 bt355.2.2.2.2 bt368.1 bt368.2.1 bt368.2.2.1 bt368.2.2.2.1 bt368.2.2.2.2).bind fun t379 => (if t379 = true then (some true) else (some false)))) else (some false)))))))) = some r := h
 clear h
 replace H := Option.bind_eq_some_iff.mp H
 obtain ⟨t342,A20,H⟩ := H
 replace H : (if t342 < 0 then (some true) else ((laws_toRule.f k l0_0 a0_1 a0_2 l0_3 l0_4).bind fun bt343 => ((z5_.f k bt343.1 bt343.2.1 bt343.2.2.1 bt343.2.2.2.1 bt343.2.2.2.2).bind fun t354 => ((laws_toRule.f k l0_0 a0_1 a0_2 l0_3 l0_4).bind fun bt355 => ((impl_RuleText.f k bt355.1 bt355.2.1 bt355.2.2.1 bt355.2.2.2.1 bt355.2.2.2.2).bind fun t367 => (if t367.toList = t354.toList then ((laws_toRule.f k l0_0 a0_1 a0_2 l0_3 l0_4).bind fun bt368 => ((laws_eqRule.f k bt355.1 bt355.2.1 bt355.2.2.1 bt355.2.2.2.1 bt355.2.2.2.2 bt368.1 bt368.2.1 bt368.2.2.1 bt368.2.2.2.1 bt368.2.2.2.2).bind fun t379 => (if t379 = true then (some true) else (some false)))) else (some false))))))) = some r := H
 have A2 := y0.mk A20
 clear A20
 by_cases c3 : t342 < 0
 ·rw [if_pos c3] at H
  have c3b0 : decide (t342 < 0) = true := decide_eq_true c3
  clear c3
  obtain rfl := Option.some.inj H
  go_enter Try.func3,Try.ntmps3
  go_wp2_with (first | ((with_reducible refine y13 (N := 1) rfl ?_); refine qe 1 #[.slice A0_0 l0_0.length c0_0,.int .i64 a0_1,.string a0_2,.slice A0_3 l0_3.length c0_3,.slice A0_4 l0_4.length c0_4] 28 ?_; intro gb341 hg w4 hbox hb; have n0_ := y0.mk (y3 qb hb); have n1_ := y0.mk (hbox); have n2_ := y0.mk (qg (w := w) hg); have n3_ := y0.mk (qg (w := w) hg); clear HB; have HB := n0_; have BK341 := n1_; have GW341 := n2_; have GE341 := n3_; clear n0_ n1_ n2_ n3_; clear hb hbox hg; obtain ⟨hcz5_0,hcz5_1,hcz5_2,hcz5_3,hcz5_4,hfz5_0,hfz5_1,hfz5_2,hfz5_3,hfz5_4⟩ := qz5 BK341.out) | ((with_reducible refine y12 (f := 6) rfl ?_); refine goesL_ (some 9) rfl rfl Try.func6 (by kernel_rfl) rfl #[.agg #[.slice A0_0 l0_0.length c0_0,.int .i64 a0_1,.string a0_2,.slice A0_3 l0_3.length c0_3,.slice A0_4 l0_4.length c0_4],.int .i64 1048576] rfl qy0 ?_; (with_reducible refine (laws_szRule.calls k _ _ l0_0 a0_1 a0_2 _ _ l0_3 _ _ l0_4 1048576 t342 _ (qc (Kd.C_below HR0_0.out HB.out)) HC0_0.out (qc (Kd.C_below HR0_3.out HB.out)) HC0_3.out (qc (Kd.C_below HR0_4.out HB.out)) HC0_4.out A2.out).mono ?_); rintro e w6 ⟨rfl,hb⟩; refine ⟨_,rfl, ?_⟩; have n0_ := y0.mk (qK BK341.out hb); have n1_ := y0.mk (y3 qb hb); clear BK341; clear HB; have BK341 := n0_; have HB := n1_; clear n0_ n1_; (try clear hb); (try clear hb2); (try clear hk); (try clear hi)))
  go_ret
  exact ⟨by first | rfl | (simp [y10,y11] <;> rfl) | (simp [*,y10,y11] <;> rfl),qb⟩
 ·rw [if_neg c3] at H
  have c3b0 : decide (t342 < 0) = false := decide_eq_false c3
  clear c3
  replace H := Option.bind_eq_some_iff.mp H
  obtain ⟨⟨t343,t346,t347,t348,t351⟩,A70,H⟩ := H
  replace H : ((z5_.f k t343 t346 t347 t348 t351).bind fun t354 => ((laws_toRule.f k l0_0 a0_1 a0_2 l0_3 l0_4).bind fun bt355 => ((impl_RuleText.f k bt355.1 bt355.2.1 bt355.2.2.1 bt355.2.2.2.1 bt355.2.2.2.2).bind fun t367 => (if t367.toList = t354.toList then ((laws_toRule.f k l0_0 a0_1 a0_2 l0_3 l0_4).bind fun bt368 => ((laws_eqRule.f k bt355.1 bt355.2.1 bt355.2.2.1 bt355.2.2.2.1 bt355.2.2.2.2 bt368.1 bt368.2.1 bt368.2.2.1 bt368.2.2.2.1 bt368.2.2.2.2).bind fun t379 => (if t379 = true then (some true) else (some false)))) else (some false))))) = some r := H
  have A7 := y0.mk A70
  clear A70
  replace H := Option.bind_eq_some_iff.mp H
  obtain ⟨t354,A80,H⟩ := H
  replace H : ((laws_toRule.f k l0_0 a0_1 a0_2 l0_3 l0_4).bind fun bt355 => ((impl_RuleText.f k bt355.1 bt355.2.1 bt355.2.2.1 bt355.2.2.2.1 bt355.2.2.2.2).bind fun t367 => (if t367.toList = t354.toList then ((laws_toRule.f k l0_0 a0_1 a0_2 l0_3 l0_4).bind fun bt368 => ((laws_eqRule.f k bt355.1 bt355.2.1 bt355.2.2.1 bt355.2.2.2.1 bt355.2.2.2.2 bt368.1 bt368.2.1 bt368.2.2.1 bt368.2.2.2.1 bt368.2.2.2.2).bind fun t379 => (if t379 = true then (some true) else (some false)))) else (some false)))) = some r := H
  have A8 := y0.mk A80
  clear A80
  replace H := Option.bind_eq_some_iff.mp H
  obtain ⟨⟨t355,t358,t359,t360,t363⟩,A90,H⟩ := H
  replace H : ((impl_RuleText.f k t355 t358 t359 t360 t363).bind fun t367 => (if t367.toList = t354.toList then ((laws_toRule.f k l0_0 a0_1 a0_2 l0_3 l0_4).bind fun bt368 => ((laws_eqRule.f k t355 t358 t359 t360 t363 bt368.1 bt368.2.1 bt368.2.2.1 bt368.2.2.2.1 bt368.2.2.2.2).bind fun t379 => (if t379 = true then (some true) else (some false)))) else (some false))) = some r := H
  have A9 := y0.mk A90
  clear A90
  replace H := Option.bind_eq_some_iff.mp H
  obtain ⟨t367,A100,H⟩ := H
  replace H : (if t367.toList = t354.toList then ((laws_toRule.f k l0_0 a0_1 a0_2 l0_3 l0_4).bind fun bt368 => ((laws_eqRule.f k t355 t358 t359 t360 t363 bt368.1 bt368.2.1 bt368.2.2.1 bt368.2.2.2.1 bt368.2.2.2.2).bind fun t379 => (if t379 = true then (some true) else (some false)))) else (some false)) = some r := H
  have A10 := y0.mk A100
  clear A100
  by_cases c11 : t367.toList = t354.toList
  ·rw [if_pos c11] at H
   have c11b0 : (t367.toList == t354.toList) = true := beq_iff_eq.mpr c11
   have c11b1 : (t367.toList != t354.toList) = false := bne_eq_false_iff_eq.mpr c11
   clear c11
   replace H := Option.bind_eq_some_iff.mp H
   obtain ⟨⟨t368,t371,t372,t373,t376⟩,A120,H⟩ := H
   replace H : ((laws_eqRule.f k t355 t358 t359 t360 t363 t368 t371 t372 t373 t376).bind fun t379 => (if t379 = true then (some true) else (some false))) = some r := H
   have A12 := y0.mk A120
   clear A120
   replace H := Option.bind_eq_some_iff.mp H
   obtain ⟨t379,A130,H⟩ := H
   replace H : (if t379 = true then (some true) else (some false)) = some r := H
   have A13 := y0.mk A130
   clear A130
   by_cases c14 : t379 = true
   ·subst c14
    have H1 : (some true) = some r := by rw [if_pos rfl] at H; exact H
    clear H
    have H := H1
    clear H1
    obtain rfl := Option.some.inj H
    go_enter Try.func3,Try.ntmps3
    try go_wp2_with (first | ((with_reducible refine y13 (N := 1) rfl ?_); refine qe 1 #[.slice A0_0 l0_0.length c0_0,.int .i64 a0_1,.string a0_2,.slice A0_3 l0_3.length c0_3,.slice A0_4 l0_4.length c0_4] 28 ?_; intro gb341 hg w15 hbox hb; have n0_ := y0.mk (y3 qb hb); have n1_ := y0.mk (hbox); have n2_ := y0.mk (qg (w := w) hg); have n3_ := y0.mk (qg (w := w) hg); clear HB; have HB := n0_; have BK341 := n1_; have GW341 := n2_; have GE341 := n3_; clear n0_ n1_ n2_ n3_; clear hb hbox hg; obtain ⟨hcz16_0,hcz16_1,hcz16_2,hcz16_3,hcz16_4,hfz16_0,hfz16_1,hfz16_2,hfz16_3,hfz16_4⟩ := qz5 BK341.out) | ((with_reducible refine y12 (f := 6) rfl ?_); refine goesL_ (some 9) rfl rfl Try.func6 (by kernel_rfl) rfl #[.agg #[.slice A0_0 l0_0.length c0_0,.int .i64 a0_1,.string a0_2,.slice A0_3 l0_3.length c0_3,.slice A0_4 l0_4.length c0_4],.int .i64 1048576] rfl qy0 ?_; (with_reducible refine (laws_szRule.calls k _ _ l0_0 a0_1 a0_2 _ _ l0_3 _ _ l0_4 1048576 t342 _ (qc (Kd.C_below HR0_0.out HB.out)) HC0_0.out (qc (Kd.C_below HR0_3.out HB.out)) HC0_3.out (qc (Kd.C_below HR0_4.out HB.out)) HC0_4.out A2.out).mono ?_); rintro e w17 ⟨rfl,hb⟩; refine ⟨_,rfl, ?_⟩; have n0_ := y0.mk (qK BK341.out hb); have n1_ := y0.mk (y3 qb hb); clear BK341; clear HB; have BK341 := n0_; have HB := n1_; clear n0_ n1_; (try clear hb); (try clear hb2); (try clear hk); (try clear hi); obtain ⟨hcz18_0,hcz18_1,hcz18_2,hcz18_3,hcz18_4,hfz18_0,hfz18_1,hfz18_2,hfz18_3,hfz18_4⟩ := qz5 BK341.out) | ((with_reducible refine y12 (f := 8) rfl ?_); refine goesL_ (some 13) rfl rfl Try.func8 (by kernel_rfl) rfl #[.agg #[.slice A0_0 l0_0.length c0_0,.int .i64 a0_1,.string a0_2,.slice A0_3 l0_3.length c0_3,.slice A0_4 l0_4.length c0_4]] rfl qy0 ?_; (with_reducible refine (laws_toRule.calls k _ _ l0_0 a0_1 a0_2 _ _ l0_3 _ _ l0_4 t343 t346 t347 t348 t351 _ (qc (Kd.C_below HR0_0.out HB.out)) HC0_0.out (qc (Kd.C_below HR0_3.out HB.out)) HC0_3.out (qc (Kd.C_below HR0_4.out HB.out)) HC0_4.out A7.out).mono ?_); rintro e w19 ⟨v344,v349,v352,rfl,ho0,ho1,ho2,hb⟩; refine ⟨_,rfl, ?_⟩; have n0_ := y0.mk (Kd.S_lower ho0 (y2 qb)); have n1_ := y0.mk (Kd.R_lower ho1 (y2 qb)); have n2_ := y0.mk (Kd.S_lower ho2 (y2 qb)); have n3_ := y0.mk (qK BK341.out hb); have n4_ := y0.mk (y3 qb hb); clear BK341; clear HB; have HO345 := n0_; have HO350 := n1_; have HO353 := n2_; have BK341 := n3_; have HB := n4_; clear n0_ n1_ n2_ n3_ n4_; (try clear hb); (try clear hb2); (try clear hk); (try clear hi); (try clear ho0); (try clear ho1); (try clear ho2); obtain ⟨Ao20,co20,eo20⟩ := Kd.S_slice HO345.out; subst eo20; obtain ⟨Ao21,co21,eo21⟩ := Kd.R_slice HO350.out; subst eo21; obtain ⟨Ao22,co22,eo22⟩ := Kd.S_slice HO353.out; subst eo22) | ((with_reducible refine y12 (f := 7) rfl ?_); refine goesL_ (some 14) rfl rfl Try.func7 (by kernel_rfl) rfl #[.agg #[.slice Ao20 t343.length co20,.int .i64 t346,.string t347,.slice Ao21 t348.length co21,.slice Ao22 t351.length co22]] rfl qy0 ?_; (with_reducible refine (z5_.calls k _ _ t343 t346 t347 _ _ t348 _ _ t351 t354 _ (qc ((Kd.S_reads' HO345.out).2.2)) (by exact (Kd.S_reads' HO345.out).2.1) (qc ((Kd.R_reads' HO350.out).2.2)) (by exact (Kd.R_reads' HO350.out).2.1) (qc ((Kd.S_reads' HO353.out).2.2)) (by exact (Kd.S_reads' HO353.out).2.1) A8.out).mono ?_); rintro e w23 ⟨rfl,hb⟩; refine ⟨_,rfl, ?_⟩; have n0_ := y0.mk (Kd.S_below (qS HO345.out) hb); have n1_ := y0.mk (Kd.R_below (qR HO350.out) hb); have n2_ := y0.mk (Kd.S_below (qS HO353.out) hb); have n3_ := y0.mk (qK BK341.out hb); have n4_ := y0.mk (y3 qb hb); clear HO345; clear HO350; clear HO353; clear BK341; clear HB; have HO345 := n0_; have HO350 := n1_; have HO353 := n2_; have BK341 := n3_; have HB := n4_; clear n0_ n1_ n2_ n3_ n4_; (try clear hb); (try clear hb2); (try clear hk); (try clear hi); obtain ⟨hcz24_0,hcz24_1,hcz24_2,hcz24_3,hcz24_4,hfz24_0,hfz24_1,hfz24_2,hfz24_3,hfz24_4⟩ := qz5 BK341.out) | ((with_reducible refine y12 (f := 8) rfl ?_); refine goesL_ (some 16) rfl rfl Try.func8 (by kernel_rfl) rfl #[.agg #[.slice A0_0 l0_0.length c0_0,.int .i64 a0_1,.string a0_2,.slice A0_3 l0_3.length c0_3,.slice A0_4 l0_4.length c0_4]] rfl qy0 ?_; (with_reducible refine (laws_toRule.calls k _ _ l0_0 a0_1 a0_2 _ _ l0_3 _ _ l0_4 t355 t358 t359 t360 t363 _ (qc (Kd.C_below HR0_0.out HB.out)) HC0_0.out (qc (Kd.C_below HR0_3.out HB.out)) HC0_3.out (qc (Kd.C_below HR0_4.out HB.out)) HC0_4.out A9.out).mono ?_); rintro e w25 ⟨v356,v361,v364,rfl,ho0,ho1,ho2,hb⟩; refine ⟨_,rfl, ?_⟩; have n0_ := y0.mk (Kd.S_mono (Kd.S_told (Kd.S_told (Kd.S_old (qS HO345.out) hb) (Kd.S_base ho0)) (Kd.R_base ho1)) (fun _ h_ => h_.1)); have n1_ := y0.mk (Kd.R_elder' (qR HO350.out) (Kd.R_base ho1) hb); have n2_ := y0.mk (Kd.S_mono (Kd.S_told (Kd.S_told (Kd.S_old (qS HO353.out) hb) (Kd.R_base ho1)) (Kd.S_base ho2)) (fun _ h_ => h_.1)); have n3_ := y0.mk (Kd.S_lower (Kd.S_new' (Kd.S_new' ho0 (Kd.S_lt (qS HO345.out))) (Kd.R_lt (qR HO350.out))) (y2 qb)); have n4_ := y0.mk (Kd.R_lower (Kd.R_new' ho1 (Kd.R_lt (qR HO350.out))) (y2 qb)); have n5_ := y0.mk (Kd.S_lower (Kd.S_new' (Kd.S_new' ho2 (Kd.R_lt (qR HO350.out))) (Kd.S_lt (qS HO353.out))) (y2 qb)); have n6_ := y0.mk (qK BK341.out hb); have n7_ := y0.mk (y3 qb hb); clear HO345; clear HO350; clear HO353; clear BK341; clear HB; have HO345 := n0_; have HO350 := n1_; have HO353 := n2_; have HO357 := n3_; have HO362 := n4_; have HO365 := n5_; have BK341 := n6_; have HB := n7_; clear n0_ n1_ n2_ n3_ n4_ n5_ n6_ n7_; (try clear hb); (try clear hb2); (try clear hk); (try clear hi); (try clear ho0); (try clear ho1); (try clear ho2)) | ((with_reducible refine y13 (N := 5) rfl ?_); refine qe 5 #[.slice none 0 0,.int .i64 0,.string (⟨#[]⟩ : ByteArray),.slice none 0 0,.slice none 0 0] 35 ?_; intro gb366 hg w26 hbox hb; have n0_ := y0.mk (Kd.S_below (qS HO345.out) hb); have n1_ := y0.mk (Kd.R_below (qR HO350.out) hb); have n2_ := y0.mk (Kd.S_below (qS HO353.out) hb); have n3_ := y0.mk (Kd.S_below (qS HO357.out) hb); have n4_ := y0.mk (Kd.R_below (qR HO362.out) hb); have n5_ := y0.mk (Kd.S_below (qS HO365.out) hb); have n6_ := y0.mk (qK BK341.out hb); have n7_ := y0.mk (y3 qb hb); have n8_ := y0.mk (hbox); have n9_ := y0.mk (qg (w := w) hg); have n10_ := y0.mk (qg (w := w) hg); have n11_ := y0.mk (qn BK341.out hg); have n12_ := y0.mk (qm BK341.out hg); clear HO345; clear HO350; clear HO353; clear HO357; clear HO362; clear HO365; clear BK341; clear HB; have HO345 := n0_; have HO350 := n1_; have HO353 := n2_; have HO357 := n3_; have HO362 := n4_; have HO365 := n5_; have BK341 := n6_; have HB := n7_; have BK366 := n8_; have GW366 := n9_; have GE366 := n10_; have NB341_366 := n11_; have NB366_341 := n12_; clear n0_ n1_ n2_ n3_ n4_ n5_ n6_ n7_ n8_ n9_ n10_ n11_ n12_; clear hb hbox hg; obtain ⟨Ao27,co27,eo27⟩ := Kd.S_slice HO357.out; subst eo27; have hnb28 := NB366_341.out; have hnc28 := NB341_366.out; obtain ⟨hcz29_0,hcz29_1,hcz29_2,hcz29_3,hcz29_4,hfz29_0,hfz29_1,hfz29_2,hfz29_3,hfz29_4⟩ := qz5 BK366.out; obtain ⟨Ao30,co30,eo30⟩ := Kd.R_slice HO362.out; subst eo30; obtain ⟨Ao31,co31,eo31⟩ := Kd.S_slice HO365.out; subst eo31) | ((with_reducible refine y12 (f := 9) rfl ?_); refine goesL_ (some 18) rfl rfl Try.func9 (by kernel_rfl) rfl #[.agg #[.slice Ao27 t355.length co27,.int .i64 t358,.string t359,.slice Ao30 t360.length co30,.slice Ao31 t363.length co31]] rfl qy0 ?_; (with_reducible refine (impl_RuleText.calls k _ _ t355 t358 t359 _ _ t360 _ _ t363 t367 _ (by refine (Kd.S_reads' (e := 101) (base := w.heap.size) (ok := fun k_ => ((some k_ ≠ (.slice Ao30 t360.length co30 : Value).ownBlock ∧ some k_ ≠ (.slice Ao20 t343.length co20 : Value).ownBlock) ∧ some k_ ≠ (.slice Ao21 t348.length co21 : Value).ownBlock)) (n := t355.length) (c := co27) ?_).2.2; exact (qS ((Kd.S_mono (Kd.S_far (p := ⟨gb366,4,none⟩) (Kd.S_far (p := ⟨gb366,3,none⟩) (Kd.S_far (p := ⟨gb366,2,none⟩) (Kd.S_far (p := ⟨gb366,1,none⟩) (Kd.S_far (p := ⟨gb366,0,none⟩) (Kd.S_types HO357.out BK366.out (by decide)) (fun _ hk => hk.2) (.slice Ao27 t355.length co27)) (fun _ hk => hk.2) (.int .i64 t358)) (fun _ hk => hk.2) (.string t359)) (fun _ hk => hk.2) (.slice Ao30 t360.length co30)) (fun _ hk => hk.2) (.slice Ao31 t363.length co31)) (fun _ h_ => h_.1))))) (by exact (Kd.S_reads' HO357.out).2.1) (by refine (Kd.R_reads' (e := 3) (base := w.heap.size) (ok := fun k_ => (True ∧ some k_ ≠ (.slice Ao21 t348.length co21 : Value).ownBlock)) (n := t360.length) (c := co30) ?_).2.2; exact (qR ((Kd.R_mono (Kd.R_far (p := ⟨gb366,4,none⟩) (Kd.R_far (p := ⟨gb366,3,none⟩) (Kd.R_far (p := ⟨gb366,2,none⟩) (Kd.R_far (p := ⟨gb366,1,none⟩) (Kd.R_far (p := ⟨gb366,0,none⟩) (Kd.R_types HO362.out BK366.out (by decide)) (fun _ hk => hk.2) (.slice Ao27 t355.length co27)) (fun _ hk => hk.2) (.int .i64 t358)) (fun _ hk => hk.2) (.string t359)) (fun _ hk => hk.2) (.slice Ao30 t360.length co30)) (fun _ hk => hk.2) (.slice Ao31 t363.length co31)) (fun _ h_ => h_.1))))) (by exact (Kd.R_reads' HO362.out).2.1) (by refine (Kd.S_reads' (e := 32) (base := w.heap.size) (ok := fun k_ => ((some k_ ≠ (.slice Ao30 t360.length co30 : Value).ownBlock ∧ some k_ ≠ (.slice Ao21 t348.length co21 : Value).ownBlock) ∧ some k_ ≠ (.slice Ao22 t351.length co22 : Value).ownBlock)) (n := t363.length) (c := co31) ?_).2.2; exact (qS ((Kd.S_mono (Kd.S_far (p := ⟨gb366,4,none⟩) (Kd.S_far (p := ⟨gb366,3,none⟩) (Kd.S_far (p := ⟨gb366,2,none⟩) (Kd.S_far (p := ⟨gb366,1,none⟩) (Kd.S_far (p := ⟨gb366,0,none⟩) (Kd.S_types HO365.out BK366.out (by decide)) (fun _ hk => hk.2) (.slice Ao27 t355.length co27)) (fun _ hk => hk.2) (.int .i64 t358)) (fun _ hk => hk.2) (.string t359)) (fun _ hk => hk.2) (.slice Ao30 t360.length co30)) (fun _ hk => hk.2) (.slice Ao31 t363.length co31)) (fun _ h_ => h_.1))))) (by exact (Kd.S_reads' HO365.out).2.1) A10.out).mono ?_); rintro e w32 ⟨rfl,hb⟩; refine ⟨_,rfl, ?_⟩; have n0_ := y0.mk (Kd.S_below (qS ((Kd.S_mono (Kd.S_far (p := ⟨gb366,4,none⟩) (Kd.S_far (p := ⟨gb366,3,none⟩) (Kd.S_far (p := ⟨gb366,2,none⟩) (Kd.S_far (p := ⟨gb366,1,none⟩) (Kd.S_far (p := ⟨gb366,0,none⟩) (Kd.S_types HO345.out BK366.out (by decide)) (fun _ hk => hk.2) (.slice Ao27 t355.length co27)) (fun _ hk => hk.2) (.int .i64 t358)) (fun _ hk => hk.2) (.string t359)) (fun _ hk => hk.2) (.slice Ao30 t360.length co30)) (fun _ hk => hk.2) (.slice Ao31 t363.length co31)) (fun _ h_ => h_.1)))) hb); have n1_ := y0.mk (Kd.R_below (qR ((Kd.R_mono (Kd.R_far (p := ⟨gb366,4,none⟩) (Kd.R_far (p := ⟨gb366,3,none⟩) (Kd.R_far (p := ⟨gb366,2,none⟩) (Kd.R_far (p := ⟨gb366,1,none⟩) (Kd.R_far (p := ⟨gb366,0,none⟩) (Kd.R_types HO350.out BK366.out (by decide)) (fun _ hk => hk.2) (.slice Ao27 t355.length co27)) (fun _ hk => hk.2) (.int .i64 t358)) (fun _ hk => hk.2) (.string t359)) (fun _ hk => hk.2) (.slice Ao30 t360.length co30)) (fun _ hk => hk.2) (.slice Ao31 t363.length co31)) (fun _ h_ => h_.1)))) hb); have n2_ := y0.mk (Kd.S_below (qS ((Kd.S_mono (Kd.S_far (p := ⟨gb366,4,none⟩) (Kd.S_far (p := ⟨gb366,3,none⟩) (Kd.S_far (p := ⟨gb366,2,none⟩) (Kd.S_far (p := ⟨gb366,1,none⟩) (Kd.S_far (p := ⟨gb366,0,none⟩) (Kd.S_types HO353.out BK366.out (by decide)) (fun _ hk => hk.2) (.slice Ao27 t355.length co27)) (fun _ hk => hk.2) (.int .i64 t358)) (fun _ hk => hk.2) (.string t359)) (fun _ hk => hk.2) (.slice Ao30 t360.length co30)) (fun _ hk => hk.2) (.slice Ao31 t363.length co31)) (fun _ h_ => h_.1)))) hb); have n3_ := y0.mk (Kd.S_below (qS ((Kd.S_mono (Kd.S_far (p := ⟨gb366,4,none⟩) (Kd.S_far (p := ⟨gb366,3,none⟩) (Kd.S_far (p := ⟨gb366,2,none⟩) (Kd.S_far (p := ⟨gb366,1,none⟩) (Kd.S_far (p := ⟨gb366,0,none⟩) (Kd.S_types HO357.out BK366.out (by decide)) (fun _ hk => hk.2) (.slice Ao27 t355.length co27)) (fun _ hk => hk.2) (.int .i64 t358)) (fun _ hk => hk.2) (.string t359)) (fun _ hk => hk.2) (.slice Ao30 t360.length co30)) (fun _ hk => hk.2) (.slice Ao31 t363.length co31)) (fun _ h_ => h_.1)))) hb); have n4_ := y0.mk (Kd.R_below (qR ((Kd.R_mono (Kd.R_far (p := ⟨gb366,4,none⟩) (Kd.R_far (p := ⟨gb366,3,none⟩) (Kd.R_far (p := ⟨gb366,2,none⟩) (Kd.R_far (p := ⟨gb366,1,none⟩) (Kd.R_far (p := ⟨gb366,0,none⟩) (Kd.R_types HO362.out BK366.out (by decide)) (fun _ hk => hk.2) (.slice Ao27 t355.length co27)) (fun _ hk => hk.2) (.int .i64 t358)) (fun _ hk => hk.2) (.string t359)) (fun _ hk => hk.2) (.slice Ao30 t360.length co30)) (fun _ hk => hk.2) (.slice Ao31 t363.length co31)) (fun _ h_ => h_.1)))) hb); have n5_ := y0.mk (Kd.S_below (qS ((Kd.S_mono (Kd.S_far (p := ⟨gb366,4,none⟩) (Kd.S_far (p := ⟨gb366,3,none⟩) (Kd.S_far (p := ⟨gb366,2,none⟩) (Kd.S_far (p := ⟨gb366,1,none⟩) (Kd.S_far (p := ⟨gb366,0,none⟩) (Kd.S_types HO365.out BK366.out (by decide)) (fun _ hk => hk.2) (.slice Ao27 t355.length co27)) (fun _ hk => hk.2) (.int .i64 t358)) (fun _ hk => hk.2) (.string t359)) (fun _ hk => hk.2) (.slice Ao30 t360.length co30)) (fun _ hk => hk.2) (.slice Ao31 t363.length co31)) (fun _ h_ => h_.1)))) hb); have n6_ := y0.mk (blk_below (g := gb341) (o := .cells #[.slice A0_0 l0_0.length c0_0,.int .i64 a0_1,.string a0_2,.slice A0_3 l0_3.length c0_3,.slice A0_4 l0_4.length c0_4] 28 (0,0)) (by (with_reducible repeat (first | refine y7 ?_ _ | refine y6 ?_ | refine y4 ?_ _)); refine y8 ?_ NB341_366.out _; (with_reducible repeat (first | refine y7 ?_ _ | refine y6 ?_ | refine y4 ?_ _)); refine y8 ?_ NB341_366.out _; (with_reducible repeat (first | refine y7 ?_ _ | refine y6 ?_ | refine y4 ?_ _)); refine y8 ?_ NB341_366.out _; (with_reducible repeat (first | refine y7 ?_ _ | refine y6 ?_ | refine y4 ?_ _)); refine y8 ?_ NB341_366.out _; (with_reducible repeat (first | refine y7 ?_ _ | refine y6 ?_ | refine y4 ?_ _)); refine y8 ?_ NB341_366.out _; (with_reducible repeat (first | refine y7 ?_ _ | refine y6 ?_ | refine y4 ?_ _)); exact BK341.out) hb); have n7_ := y0.mk (blk_below (g := gb366) (o := .cells #[.slice Ao27 t355.length co27,.int .i64 t358,.string t359,.slice Ao30 t360.length co30,.slice Ao31 t363.length co31] 35 (0,0)) (by (with_reducible repeat (first | refine y7 ?_ _ | refine y6 ?_ | refine y4 ?_ _)); refine y9 (cs := #[.slice Ao27 t355.length co27,.int .i64 t358,.string t359,.slice Ao30 t360.length co30,.slice none 0 0]) ?_ 4 _ rfl; (with_reducible repeat (first | refine y7 ?_ _ | refine y6 ?_ | refine y4 ?_ _)); refine y9 (cs := #[.slice Ao27 t355.length co27,.int .i64 t358,.string t359,.slice none 0 0,.slice none 0 0]) ?_ 3 _ rfl; (with_reducible repeat (first | refine y7 ?_ _ | refine y6 ?_ | refine y4 ?_ _)); refine y9 (cs := #[.slice Ao27 t355.length co27,.int .i64 t358,.string (⟨#[]⟩ : ByteArray),.slice none 0 0,.slice none 0 0]) ?_ 2 _ rfl; (with_reducible repeat (first | refine y7 ?_ _ | refine y6 ?_ | refine y4 ?_ _)); refine y9 (cs := #[.slice Ao27 t355.length co27,.int .i64 0,.string (⟨#[]⟩ : ByteArray),.slice none 0 0,.slice none 0 0]) ?_ 1 _ rfl; (with_reducible repeat (first | refine y7 ?_ _ | refine y6 ?_ | refine y4 ?_ _)); refine y9 (cs := #[.slice none 0 0,.int .i64 0,.string (⟨#[]⟩ : ByteArray),.slice none 0 0,.slice none 0 0]) ?_ 0 _ rfl; (with_reducible repeat (first | refine y7 ?_ _ | refine y6 ?_ | refine y4 ?_ _)); exact BK366.out) hb); have n8_ := y0.mk (y3 qb hb); clear HO345; clear HO350; clear HO353; clear HO357; clear HO362; clear HO365; clear BK341; clear BK366; clear HB; have HO345 := n0_; have HO350 := n1_; have HO353 := n2_; have HO357 := n3_; have HO362 := n4_; have HO365 := n5_; have BK341 := n6_; have BK366 := n7_; have HB := n8_; clear n0_ n1_ n2_ n3_ n4_ n5_ n6_ n7_ n8_; (try clear hb); (try clear hb2); (try clear hk); (try clear hi)))
    have n0_ := y0.mk (Kd.S_drew HO345.out)
    have n1_ := y0.mk (Kd.R_drew HO350.out)
    have n2_ := y0.mk (Kd.S_drew HO353.out)
    have n3_ := y0.mk (Kd.S_drew HO357.out)
    have n4_ := y0.mk (Kd.R_drew HO362.out)
    have n5_ := y0.mk (Kd.S_drew HO365.out)
    have n6_ := y0.mk (y6 BK341.out)
    have n7_ := y0.mk (y6 BK366.out)
    have n8_ := y0.mk (below_drew1 HB.out)
    clear HO345
    clear HO350
    clear HO353
    clear HO357
    clear HO362
    clear HO365
    clear BK341
    clear BK366
    clear HB
    have HO345 := n0_
    have HO350 := n1_
    have HO353 := n2_
    have HO357 := n3_
    have HO362 := n4_
    have HO365 := n5_
    have BK341 := n6_
    have BK366 := n7_
    have HB := n8_
    clear n0_ n1_ n2_ n3_ n4_ n5_ n6_ n7_ n8_
    refine start_ (n := 5) (S := fun w' => w'.cell? ⟨gb366,0,none⟩ = some (.slice Ao27 t355.length co27) ∧ w'.cell? ⟨gb366,1,none⟩ = some (.int .i64 t358) ∧ w'.cell? ⟨gb366,2,none⟩ = some (.string t359) ∧ w'.cell? ⟨gb366,3,none⟩ = some (.slice Ao30 t360.length co30) ∧ w'.cell? ⟨gb366,4,none⟩ = some (.slice Ao31 t363.length co31) ∧ w'.cell? ⟨gb341,0,none⟩ = some (.slice A0_0 l0_0.length c0_0) ∧ w'.cell? ⟨gb341,1,none⟩ = some (.int .i64 a0_1) ∧ w'.cell? ⟨gb341,2,none⟩ = some (.string a0_2) ∧ w'.cell? ⟨gb341,3,none⟩ = some (.slice A0_3 l0_3.length c0_3) ∧ w'.cell? ⟨gb341,4,none⟩ = some (.slice A0_4 l0_4.length c0_4)) (ds := []) #[false,false,false,false,false] (by kernel_rfl) rfl rfl ⟨(y5 BK366.out 0).trans rfl,(y5 BK366.out 1).trans rfl,(y5 BK366.out 2).trans rfl,(y5 BK366.out 3).trans rfl,(y5 BK366.out 4).trans rfl,(y5 BK341.out 0).trans rfl,(y5 BK341.out 1).trans rfl,(y5 BK341.out 2).trans rfl,(y5 BK341.out 3).trans rfl,(y5 BK341.out 4).trans rfl⟩ (fun hHeld => ?_)
    generalize w32.drew = w33 at HO345 HO350 HO353 HO357 HO362 HO365 BK341 BK366 HB hHeld ⊢
    refine take_ (i := 0) (N := some 22) (v := ?_) (a' := ?_) #[true,false,false,false,false] rfl rfl (by kernel_rfl) (fun _ _ _ h => h) (Or.inl ⟨by rfl, ?_⟩) hHeld ?_ ?_
    rotate_left
    ·rintro w' ⟨s0,s1,s2,s3,s4,s5,s6,s7,s8,s9⟩
     go_simp
     with_reducible rfl
    rotate_left
    ·simp only [Act.put,qS_,qZ_,qC_,y14,i32_w]
     rfl
    refine take_ (i := 1) (N := some 23) (v := ?_) (a' := ?_) #[true,true,false,false,false] rfl rfl (by kernel_rfl) (fun _ _ _ h => h) (Or.inl ⟨by rfl, ?_⟩) hHeld ?_ ?_
    rotate_left
    ·rintro w' ⟨s0,s1,s2,s3,s4,s5,s6,s7,s8,s9⟩
     go_simp
     with_reducible rfl
    rotate_left
    ·simp only [Act.put,qS_,qZ_,qC_,y14,i32_w]
     rfl
    refine one_ (i := 2) (N := some 24) #[true,true,true,false,false] rfl rfl (by kernel_rfl) (by decide) (fun K hK => ?_)
    refine goes_ Try.func8 (by kernel_rfl) rfl #[.agg #[.slice A0_0 l0_0.length c0_0,.int .i64 a0_1,.string a0_2,.slice A0_3 l0_3.length c0_3,.slice A0_4 l0_4.length c0_4]] (by rfl) rfl rfl qy0 ?_
    with_reducible refine (laws_toRule.calls k _ _ l0_0 a0_1 a0_2 _ _ l0_3 _ _ l0_4 t368 t371 t372 t373 t376 _ (qc (Kd.C_below HR0_0.out HB.out)) HC0_0.out (qc (Kd.C_below HR0_3.out HB.out)) HC0_3.out (qc (Kd.C_below HR0_4.out HB.out)) HC0_4.out A12.out).mono ?_
    rintro e w34 ⟨v369,v374,v377,rfl,ho0,ho1,ho2,hb⟩
    refine ⟨_,rfl, ?_⟩
    have n0_ := y0.mk (Kd.S_mono (Kd.S_told (Kd.S_told (Kd.S_old (qS HO345.out) hb) (Kd.S_base ho0)) (Kd.R_base ho1)) (fun _ h_ => h_.1))
    have n1_ := y0.mk (Kd.R_elder' (qR HO350.out) (Kd.R_base ho1) hb)
    have n2_ := y0.mk (Kd.S_mono (Kd.S_told (Kd.S_told (Kd.S_old (qS HO353.out) hb) (Kd.R_base ho1)) (Kd.S_base ho2)) (fun _ h_ => h_.1))
    have n3_ := y0.mk (Kd.S_mono (Kd.S_told (Kd.S_told (Kd.S_old (qS HO357.out) hb) (Kd.S_base ho0)) (Kd.R_base ho1)) (fun _ h_ => h_.1))
    have n4_ := y0.mk (Kd.R_elder' (qR HO362.out) (Kd.R_base ho1) hb)
    have n5_ := y0.mk (Kd.S_mono (Kd.S_told (Kd.S_told (Kd.S_old (qS HO365.out) hb) (Kd.R_base ho1)) (Kd.S_base ho2)) (fun _ h_ => h_.1))
    have n6_ := y0.mk (Kd.S_lower (Kd.S_new' (Kd.S_new' (Kd.S_new' (Kd.S_new' ho0 (Kd.S_lt (qS HO345.out))) (Kd.R_lt (qR HO350.out))) (Kd.S_lt (qS HO357.out))) (Kd.R_lt (qR HO362.out))) (y2 qb))
    have n7_ := y0.mk (Kd.R_lower (Kd.R_new' (Kd.R_new' ho1 (Kd.R_lt (qR HO350.out))) (Kd.R_lt (qR HO362.out))) (y2 qb))
    have n8_ := y0.mk (Kd.S_lower (Kd.S_new' (Kd.S_new' (Kd.S_new' (Kd.S_new' ho2 (Kd.R_lt (qR HO350.out))) (Kd.S_lt (qS HO353.out))) (Kd.R_lt (qR HO362.out))) (Kd.S_lt (qS HO365.out))) (y2 qb))
    have n9_ := y0.mk (qK BK341.out hb)
    have n10_ := y0.mk (qK BK366.out hb)
    have n11_ := y0.mk (y3 qb hb)
    clear HO345
    clear HO350
    clear HO353
    clear HO357
    clear HO362
    clear HO365
    clear BK341
    clear BK366
    clear HB
    have HO345 := n0_
    have HO350 := n1_
    have HO353 := n2_
    have HO357 := n3_
    have HO362 := n4_
    have HO365 := n5_
    have HO370 := n6_
    have HO375 := n7_
    have HO378 := n8_
    have BK341 := n9_
    have BK366 := n10_
    have HB := n11_
    clear n0_ n1_ n2_ n3_ n4_ n5_ n6_ n7_ n8_ n9_ n10_ n11_
    (try clear hb)
    (try clear hb2)
    (try clear hk)
    (try clear hi)
    (try clear ho0)
    (try clear ho1)
    (try clear ho2)
    obtain ⟨Ao35,co35,eo35⟩ := Kd.S_slice HO370.out
    (first | subst eo35 | (injection eo35 with f1_ f2_ f3_; have f4_ := f1_.symm; have f5_ := f3_.symm; clear f1_ f2_ f3_; subst f4_; subst f5_))
    obtain ⟨Ao36,co36,eo36⟩ := Kd.R_slice HO375.out
    (first | subst eo36 | (injection eo36 with f1_ f2_ f3_; have f4_ := f1_.symm; have f5_ := f3_.symm; clear f1_ f2_ f3_; subst f4_; subst f5_))
    obtain ⟨Ao37,co37,eo37⟩ := Kd.S_slice HO378.out
    (first | subst eo37 | (injection eo37 with f1_ f2_ f3_; have f4_ := f1_.symm; have f5_ := f3_.symm; clear f1_ f2_ f3_; subst f4_; subst f5_))
    refine hK.out _ _ ⟨(y5 BK366.out 0).trans rfl,(y5 BK366.out 1).trans rfl,(y5 BK366.out 2).trans rfl,(y5 BK366.out 3).trans rfl,(y5 BK366.out 4).trans rfl,(y5 BK341.out 0).trans rfl,(y5 BK341.out 1).trans rfl,(y5 BK341.out 2).trans rfl,(y5 BK341.out 3).trans rfl,(y5 BK341.out 4).trans rfl⟩ (fun hHeld => ?_)
    clear hK K
    refine norm_ (a' := ?_) ?_ ?_
    rotate_left
    ·show Act.put _ (some 24) _ = _
     simp only [Act.put,qS_,qZ_,qC_,y14,i32_w]
     rfl
    refine one_ (i := 3) (N := some 25) #[true,true,true,true,false] rfl rfl (by kernel_rfl) (by decide) (fun K hK => ?_)
    refine goes_ Try.func10 (by kernel_rfl) rfl #[.agg #[.slice Ao27 t355.length co27,.int .i64 t358,.string t359,.slice Ao30 t360.length co30,.slice Ao31 t363.length co31],.agg #[.slice Ao35 t368.length co35,.int .i64 t371,.string t372,.slice Ao36 t373.length co36,.slice Ao37 t376.length co37]] (by rfl) rfl rfl qy0 ?_
    with_reducible refine (laws_eqRule.calls k _ _ t355 t358 t359 _ _ t360 _ _ t363 _ _ t368 t371 t372 _ _ t373 _ _ t376 true _ ?side1 ?side2 ?side3 ?side4 ?side5 ?side6 ?side7 ?side8 ?side9 ?side10 ?side11 ?side12 A13.out rfl).mono ?_
    (case side1 => repeat (first | exact (Kd.S_reads' HO357.out).2.2 | (with_reducible refine Kd.C_alloc ?_ _) | (with_reducible refine Kd.C_drewN ?_ _) | (with_reducible refine Kd.C_drew ?_)))
    (case side2 => exact (Kd.S_reads' HO357.out).2.1)
    (case side3 => repeat (first | exact (Kd.R_reads' HO362.out).2.2 | (with_reducible refine Kd.C_alloc ?_ _) | (with_reducible refine Kd.C_drewN ?_ _) | (with_reducible refine Kd.C_drew ?_)))
    (case side4 => exact (Kd.R_reads' HO362.out).2.1)
    (case side5 => repeat (first | exact (Kd.S_reads' HO365.out).2.2 | (with_reducible refine Kd.C_alloc ?_ _) | (with_reducible refine Kd.C_drewN ?_ _) | (with_reducible refine Kd.C_drew ?_)))
    (case side6 => exact (Kd.S_reads' HO365.out).2.1)
    (case side7 => repeat (first | exact (Kd.S_reads' HO370.out).2.2 | (with_reducible refine Kd.C_alloc ?_ _) | (with_reducible refine Kd.C_drewN ?_ _) | (with_reducible refine Kd.C_drew ?_)))
    (case side8 => exact (Kd.S_reads' HO370.out).2.1)
    (case side9 => repeat (first | exact (Kd.R_reads' HO375.out).2.2 | (with_reducible refine Kd.C_alloc ?_ _) | (with_reducible refine Kd.C_drewN ?_ _) | (with_reducible refine Kd.C_drew ?_)))
    (case side10 => exact (Kd.R_reads' HO375.out).2.1)
    (case side11 => repeat (first | exact (Kd.S_reads' HO378.out).2.2 | (with_reducible refine Kd.C_alloc ?_ _) | (with_reducible refine Kd.C_drewN ?_ _) | (with_reducible refine Kd.C_drew ?_)))
    (case side12 => exact (Kd.S_reads' HO378.out).2.1)
    rintro e w38 ⟨rfl,hb⟩
    refine ⟨_,rfl, ?_⟩
    have n0_ := y0.mk (Kd.S_below (qS HO345.out) hb)
    have n1_ := y0.mk (Kd.R_below (qR HO350.out) hb)
    have n2_ := y0.mk (Kd.S_below (qS HO353.out) hb)
    have n3_ := y0.mk (Kd.S_below (qS HO357.out) hb)
    have n4_ := y0.mk (Kd.R_below (qR HO362.out) hb)
    have n5_ := y0.mk (Kd.S_below (qS HO365.out) hb)
    have n6_ := y0.mk (Kd.S_below (qS HO370.out) hb)
    have n7_ := y0.mk (Kd.R_below (qR HO375.out) hb)
    have n8_ := y0.mk (Kd.S_below (qS HO378.out) hb)
    have n9_ := y0.mk (qK BK341.out hb)
    have n10_ := y0.mk (qK BK366.out hb)
    have n11_ := y0.mk (y3 qb hb)
    clear HO345
    clear HO350
    clear HO353
    clear HO357
    clear HO362
    clear HO365
    clear HO370
    clear HO375
    clear HO378
    clear BK341
    clear BK366
    clear HB
    have HO345 := n0_
    have HO350 := n1_
    have HO353 := n2_
    have HO357 := n3_
    have HO362 := n4_
    have HO365 := n5_
    have HO370 := n6_
    have HO375 := n7_
    have HO378 := n8_
    have BK341 := n9_
    have BK366 := n10_
    have HB := n11_
    clear n0_ n1_ n2_ n3_ n4_ n5_ n6_ n7_ n8_ n9_ n10_ n11_
    (try clear hb)
    (try clear hb2)
    (try clear hk)
    (try clear hi)
    refine hK.out _ _ ⟨(y5 BK366.out 0).trans rfl,(y5 BK366.out 1).trans rfl,(y5 BK366.out 2).trans rfl,(y5 BK366.out 3).trans rfl,(y5 BK366.out 4).trans rfl,(y5 BK341.out 0).trans rfl,(y5 BK341.out 1).trans rfl,(y5 BK341.out 2).trans rfl,(y5 BK341.out 3).trans rfl,(y5 BK341.out 4).trans rfl⟩ (fun hHeld => ?_)
    clear hK K
    refine norm_ (a' := ?_) ?_ ?_
    rotate_left
    ·show Act.put _ (some 25) _ = _
     simp only [Act.put,qS_,qZ_,qC_,y14,i32_w]
     rfl
    refine pure_ (i := 4) (N := some 26) (v := ?_) (a' := ?_) #[true,true,true,true,true] rfl rfl (by kernel_rfl) (fun _ _ _ h => h) (Or.inl ⟨by rfl, ?_⟩) ?_ ?_
    rotate_left
    ·intro w'
     go_simp
     with_reducible rfl
    rotate_left
    ·simp only [Act.put,qS_,qZ_,qC_,y14,i32_w]
     rfl
    refine done_ (by kernel_rfl) ?_
    try go_wp2
    go_ret
    exact ⟨by first | rfl | (simp [y10,y11] <;> rfl) | (simp [*,y10,y11] <;> rfl),qb⟩
   ·replace c14 := Bool.eq_false_iff.mpr c14
    subst c14
    have H1 : (some false) = some r := by rw [if_neg (show ¬ (false = true) by decide)] at H; exact H
    clear H
    have H := H1
    clear H1
    exact absurd ((Option.some.inj H).trans htrue_) (by decide)
  ·rw [if_neg c11] at H
   have c11b0 : (t367.toList == t354.toList) = false := beq_eq_false_iff_ne.mpr c11
   have c11b1 : (t367.toList != t354.toList) = true := bne_iff_ne.mpr c11
   exact absurd ((Option.some.inj H).trans htrue_) (by decide)
/-- THE ONE PURE STATEMENT of laws_FnExactRuleText. -/
def laws_FnExactRuleText.Pure : Prop := ∀ (x0 : S28),okT28 x0 → ∃ k,laws_FnExactRuleText.f k x0.f0 x0.f1.f0 x0.f1.f1 x0.f1.f2 x0.f2 = some true
theorem laws_FnExactRuleText.walk (P : laws_FnExactRuleText.Pure) (x0 : S28) (A0_0 : Option Addr) (c0_0 : Nat) (A0_3 : Option Addr) (c0_3 : Nat) (A0_4 : Option Addr) (c0_4 : Nat) (w : World) (hr0_0 : Kd.C k99 w A0_0 x0.f0.length x0.f0) (hc0_0 : x0.f0.length ≤ c0_0) (hr0_3 : Kd.C (Kd.int .i64) w A0_3 x0.f1.f2.length x0.f1.f2) (hc0_3 : x0.f1.f2.length ≤ c0_3) (hr0_4 : Kd.C k25 w A0_4 x0.f2.length x0.f2) (hc0_4 : x0.f2.length ≤ c0_4) (k0 : okT28 x0) :
  Calls Try.prog 3 #[.agg #[.slice A0_0 x0.f0.length c0_0,.int .i64 x0.f1.f0,.string x0.f1.f1,.slice A0_3 x0.f1.f2.length c0_3,.slice A0_4 x0.f2.length c0_4]] w fun e w' => e = .returned (.bool true) ∧ Below w.heap.size w w' := by
 obtain ⟨k,h⟩ := P x0 k0
 refine (laws_FnExactRuleText.calls k A0_0 c0_0 x0.f0 x0.f1.f0 x0.f1.f1 A0_3 c0_3 x0.f1.f2 A0_4 c0_4 x0.f2 true w hr0_0 hc0_0 hr0_3 hc0_3 hr0_4 hc0_4 h rfl).mono ?_
 rintro e w' ⟨rfl,hd⟩
 exact ⟨rfl,hd⟩
end Go.Proofs.Ytamjmldfifofbaa.Pp

-- Cut by prune.py, a program of this session, out of the texts of this claim: Lean checks it.
import Derived.Test.YtcckpjflbfofjaaVcdPdx0
section
namespace Go.Proofs.Ytcckpjflbfofjaa.Pd
open Go.RowKit Go.Proofs.YtcckpjflbfofjaaW.PrintWords Go.Proofs.YtcckpjflbfofjaaW.PrintLast Go.Proofs.YtcckpjflbfofjaaW.PrintMore
attribute [local go_sem] max2_int min2_int max_two min_two max_three min_three max_four min_four   -- for this text's walks alone
set_option linter.unusedVariables false
set_option linter.unusedSimpArgs false
def impl_compareArcs.f (k : Nat) (a0_0 : Int) (a0_1 : Int) (a0_2 : Bool) (a1_0 : Int) (a1_1 : Int) (a1_2 : Bool) : Option (Int) := (cmp_Compare_int.f a0_0 a1_0).bind fun t172 => ((cmp_Compare_int.f a0_1 a1_1).bind fun t173 => ((cmp_Or_int.f k (([t172,t173] : List Int))).bind fun t177 => (some t177)))
def impl_compareArcs.T1 : Bool × List (List Nat × List Nat) := (true,[([],[]),([0],[0]),([],[]),([2],[2]),([1,3],[1,3]),([],[]),([5],[5]),([],[]),([7],[7]),([6,8,4],[6,8]),([4,9],[4,9]),([10,9],[10]),([11,11,0,1,2,3,4,5,6,7,8,9,10,11],[11])])
def impl_compareArcs.B1 : List Nat := [0,1,0,4,15,0,32,0,128,511,1023,2047,4095]
theorem impl_compareArcs.tab1 : rtab .any (opsOf Try.f43 1) = impl_compareArcs.T1 := by kernel_rfl
theorem impl_compareArcs.bits1 : waitsOk impl_compareArcs.T1.2 impl_compareArcs.B1 = true := by kernel_rfl
set_option maxHeartbeats 8000000 in
set_option maxRecDepth 100000 in
theorem impl_compareArcs.calls (k : Nat) (a0_0 : Int) (a0_1 : Int) (a0_2 : Bool) (a1_0 : Int) (a1_1 : Int) (a1_2 : Bool) (r : Int) (w : World) (h : impl_compareArcs.f k a0_0 a0_1 a0_2 a1_0 a1_1 a1_2 = some r) :
  Calls Try.prog 43 #[.agg #[.int .i64 a0_0,.int .i64 a0_1,.bool a0_2],.agg #[.int .i64 a1_0,.int .i64 a1_1,.bool a1_2]] w fun e w' => e = .returned (.int .i64 r) ∧ Below w.heap.size w w' := by
 have hu53 := Try.underlying53
 have HB := y0.mk (Below.refl w.heap.size w)
 have H : ((cmp_Compare_int.f a0_0 a1_0).bind fun t172 => ((cmp_Compare_int.f a0_1 a1_1).bind fun t173 => ((cmp_Or_int.f k (([t172,t173] : List Int))).bind fun t177 => (some t177)))) = some r := h
 clear h
 obtain ⟨t172,A3,H⟩ := qB H
 obtain ⟨t173,A4,H⟩ := qB H
 obtain ⟨y174,hy174⟩ : ∃ y_ : List Int,y_ = (([t172,t173] : List Int)) := ⟨_,rfl⟩
 replace H : ((cmp_Or_int.f k y174).bind fun t177 => (some t177)) = some r := by first | (rw [hy174]; with_reducible exact H) | (have H2_ := (Option.bind_some _ _).symm.trans H; rw [hy174]; with_reducible exact H2_) | (have H2_ := (Option.bind_some _ _).symm.trans H; with_reducible exact H2_) | with_reducible exact H | (rw [hy174]; exact H) | exact H
 have Ny174 := y0.mk hy174
 clear hy174
 obtain ⟨t177,A5,H⟩ := qB H
 obtain rfl := Option.some.inj H
 go_enter Try.func43,Try.ntmps43
 try go_wp2_with (first | ((with_reducible refine y20 (N := 2) rfl ?_); refine qe 2 #[.int .i64 a0_0,.int .i64 a0_1,.bool a0_2] 53 ?_; intro gb170 hg w6 hbox hb; have BK170 := y0.mk (hbox); have GW170 := y0.mk (qg (w := w) hg); have GE170 := y0.mk (qg (w := w) hg); replace HB := y0.mk (y7 qb hb); clear hb hbox hg) | ((with_reducible refine y20 (N := 3) rfl ?_); refine qe 3 #[.int .i64 a1_0,.int .i64 a1_1,.bool a1_2] 53 ?_; intro gb171 hg w7 hbox hb; have BK171 := y0.mk (hbox); have GW171 := y0.mk (qg (w := w) hg); have GE171 := y0.mk (qg (w := w) hg); replace HB := y0.mk (y7 qb hb); have NB170_171 := y0.mk (qn BK170.out hg); have NB171_170 := y0.mk (qm BK170.out hg); replace BK170 := y0.mk (qK BK170.out hb); clear hb hbox hg))
 replace BK170 := y0.mk (y11 BK170.out)
 replace BK171 := y0.mk (y11 BK171.out)
 replace HB := y0.mk (y4 HB.out)
 refine start_ (n := 13) (S := fun w' => w'.cell? ⟨gb170,0,none⟩ = some (.int .i64 a0_0) ∧ w'.cell? ⟨gb170,1,none⟩ = some (.int .i64 a0_1) ∧ w'.cell? ⟨gb170,2,none⟩ = some (.bool a0_2) ∧ w'.cell? ⟨gb171,0,none⟩ = some (.int .i64 a1_0) ∧ w'.cell? ⟨gb171,1,none⟩ = some (.int .i64 a1_1) ∧ w'.cell? ⟨gb171,2,none⟩ = some (.bool a1_2)) (ds := []) (fl_ 13 0) (by kernel_rfl) rfl rfl ⟨(y10 BK170.out 0).trans rfl,(y10 BK170.out 1).trans rfl,(y10 BK170.out 2).trans rfl,(y10 BK171.out 0).trans rfl,(y10 BK171.out 1).trans rfl,(y10 BK171.out 2).trans rfl⟩ (fun hHeld => ?_); refine with_tabW impl_compareArcs.tab1 impl_compareArcs.bits1 (fun HT_ HW_ => ?_)
 generalize w7.drew = w8 at BK170 BK171 HB hHeld ⊢
 refine qp 0 5 (fl_ 13 1) ?_
 refine qp 2 7 (fl_ 13 5) ?_
 refine qp 5 10 (fl_ 13 37) ?_
 refine qp 7 12 (fl_ 13 165) ?_
 refine qt 1 6 (fl_ 13 167) hHeld ?_
 refine qt 3 8 (fl_ 13 175) hHeld ?_
 refine qt 6 11 (fl_ 13 239) hHeld ?_
 refine qt 8 13 (fl_ 13 495) hHeld ?_
 refine one_ (i := 4) (N := some 9) (fl_ 13 511) rfl rfl (one_of HT_.out (by kernel_rfl)) (by decide) (fun K hK => ?_)
 refine goes_ Try.func56 (by kernel_rfl) rfl #[.int .i64 a0_0,.int .i64 a1_0] (by rfl) rfl rfl qy0 ?_
 with_reducible refine (cmp_Compare_int.calls a0_0 a1_0 t172 _ A3.out).mono ?_
 rintro e w' ⟨rfl,⟨nd,rfl⟩⟩
 refine ⟨_,rfl, ?_⟩
 refine hK.out _ _ ⟨(y10 BK170.out 0).trans rfl,(y10 BK170.out 1).trans rfl,(y10 BK170.out 2).trans rfl,(y10 BK171.out 0).trans rfl,(y10 BK171.out 1).trans rfl,(y10 BK171.out 2).trans rfl⟩ (fun hHeld => ?_)
 clear hK K
 refine norm_ (a' := ?_) ?_ ?_
 rotate_left
 ·show Act.put _ (some 9) _ = _
  simp only [Act.put,qS_,qZ_,qC_,i64_w,i32_w]
  rfl
 refine one_ (i := 9) (N := some 14) (fl_ 13 1023) rfl rfl (one_of HT_.out (by kernel_rfl)) (by decide) (fun K hK => ?_)
 refine goes_ Try.func56 (by kernel_rfl) rfl #[.int .i64 a0_1,.int .i64 a1_1] (by rfl) rfl rfl qy0 ?_
 with_reducible refine (cmp_Compare_int.calls a0_1 a1_1 t173 _ A4.out).mono ?_
 rintro e w' ⟨rfl,⟨nd,rfl⟩⟩
 refine ⟨_,rfl, ?_⟩
 refine hK.out _ _ ⟨(y10 BK170.out 0).trans rfl,(y10 BK170.out 1).trans rfl,(y10 BK170.out 2).trans rfl,(y10 BK171.out 0).trans rfl,(y10 BK171.out 1).trans rfl,(y10 BK171.out 2).trans rfl⟩ (fun hHeld => ?_)
 clear hK K
 refine norm_ (a' := ?_) ?_ ?_
 rotate_left
 ·show Act.put _ (some 14) _ = _
  simp only [Act.put,qS_,qZ_,qC_,i64_w,i32_w]
  rfl
 refine one_ (i := 10) (N := some 15) (fl_ 13 2047) rfl rfl (one_of HT_.out (by kernel_rfl)) (by decide) (fun K hK => ?_)
 refine Kd.R_lit_step (Kd.int .i64) _ 3 ?hg (N := 15) ?hd (xs := ([t172,t173] : List Int)) (inner := [.int .i64 t172,.int .i64 t173]) (ok := fun _ => True) (okp := fun _ => True) ?hr ?hp (fun _ hk => hk) trivial (Below.refl _ _) (Nat.le_refl _) (by simp) ?_; (case hd => rfl); (case hg => rfl); (case hr => first | (go_simp; done) | (go_simp; rfl)); (case hp => exact (Reps.one (show Kd.M (Kd.int .i64) _ _ _ t172 [.int .i64 t172] from rfl) (Reps.one (show Kd.M (Kd.int .i64) _ _ _ t173 [.int .i64 t173] from rfl) (Reps.none _ _))))
 intro v175 w9 ho10 hb hg_ hnew_
 clear hg_ hnew_
 (first | rw [← Ny174.out] at ho10 | (simp only [Int.reduceToNat] at ho10; rw [← Ny174.out] at ho10))
 have HO176 := y0.mk (Kd.R_lower ho10 (y6 qb))
 replace BK170 := y0.mk (qK BK170.out hb)
 replace BK171 := y0.mk (qK BK171.out hb)
 replace HB := y0.mk (y7 qb hb)
 clear hb ho10
 obtain ⟨Ao11,co11,eo11⟩ := Kd.R_slice HO176.out
 (first | subst eo11 | (injection eo11 with f1_ f2_ f3_; have f4_ := f1_.symm; have f5_ := f3_.symm; clear f1_ f2_ f3_; subst f4_; subst f5_))
 refine hK.out _ _ ⟨(y10 BK170.out 0).trans rfl,(y10 BK170.out 1).trans rfl,(y10 BK170.out 2).trans rfl,(y10 BK171.out 0).trans rfl,(y10 BK171.out 1).trans rfl,(y10 BK171.out 2).trans rfl⟩ (fun hHeld => ?_)
 clear hK K
 refine norm_ (a' := ?_) ?_ ?_
 rotate_left
 ·show Act.put _ (some 15) _ = _
  simp only [Act.put,qS_,qZ_,qC_,i64_w,i32_w]
  rfl
 refine one_ (i := 11) (N := some 16) (fl_ 13 4095) rfl rfl (one_of HT_.out (by kernel_rfl)) (by decide) (fun K hK => ?_)
 refine goes_ Try.func55 (by kernel_rfl) rfl #[.slice Ao11 y174.length co11] (by rfl) rfl rfl qy0 ?_
 with_reducible refine (cmp_Or_int.calls k _ _ y174 t177 _ (qc ((Kd.R_reads' HO176.out).2.2)) (by exact (Kd.R_reads' HO176.out).2.1) A5.out).mono ?_
 rintro e w' ⟨rfl,⟨nd,rfl⟩⟩
 refine ⟨_,rfl, ?_⟩
 refine hK.out _ _ ⟨(y10 BK170.out 0).trans rfl,(y10 BK170.out 1).trans rfl,(y10 BK170.out 2).trans rfl,(y10 BK171.out 0).trans rfl,(y10 BK171.out 1).trans rfl,(y10 BK171.out 2).trans rfl⟩ (fun hHeld => ?_)
 clear hK K
 refine norm_ (a' := ?_) ?_ ?_
 rotate_left
 ·show Act.put _ (some 16) _ = _
  simp only [Act.put,qS_,qZ_,qC_,i64_w,i32_w]
  rfl
 refine qp 12 4 (fl_ 13 8191) ?_
 refine done_ (done_of HT_.out (by kernel_rfl)) ?_
 try go_wp2
 go_ret
 exact ⟨by first | rfl | (simp [y17,y18] <;> rfl) | (simp [*,y17,y18] <;> rfl),qb⟩
end Go.Proofs.Ytcckpjflbfofjaa.Pd
end
section
namespace Go.Proofs.Ytcckpjflbfofjaa.Pd
open Go.RowKit Go.Proofs.YtcckpjflbfofjaaW.PrintWords Go.Proofs.YtcckpjflbfofjaaW.PrintLast Go.Proofs.YtcckpjflbfofjaaW.PrintMore
attribute [local go_sem] max2_int min2_int max_two min_two max_three min_three max_four min_four   -- for this text's walks alone
set_option linter.unusedVariables false
set_option linter.unusedSimpArgs false
def impl_isGraph.l0 : Nat → List (S53) → Int → Int → Int → Int → List (S53) → Option (Bool)
 | 0,_,_,_,_,_,_ => none
 | k + 1,x6,x7,x8,x179000,x179001,x179002 => if x8 < x7 then (if 0 ≤ x8 then (if x8 < (x6.length : Int) then ((impl_in.f ((y25 x6 x8).f0) 0 5).bind fun t181 => (if t181 = true then ((impl_in.f ((y25 x6 x8).f1) 0 5).bind fun t182 => (if t182 = true then (if x8 > 0 then (if 0 ≤ (wrap64 (x8 - 1)) then (if (wrap64 (x8 - 1)) < (x179002.length : Int) then ((impl_compareArcs.f k ((y25 x179002 (wrap64 (x8 - 1))).f0) ((y25 x179002 (wrap64 (x8 - 1))).f1) ((y25 x179002 (wrap64 (x8 - 1))).f2) ((y25 x6 x8).f0) ((y25 x6 x8).f1) ((y25 x6 x8).f2)).bind fun t184 => (if t184 ≥ 0 then (some false) else (impl_isGraph.l0 k x6 x7 (wrap64 (x8 + 1)) x179000 x179001 x179002))) else (none)) else (none)) else (impl_isGraph.l0 k x6 x7 (wrap64 (x8 + 1)) x179000 x179001 x179002)) else (some false))) else (some false))) else (none)) else (none)) else (some true)
def impl_isGraph.f (k : Nat) (a0_0 : Int) (a0_1 : Int) (l0_2 : List (S53)) : Option (Bool) := impl_isGraph.l0 k l0_2 (l0_2.length : Int) 0 a0_0 a0_1 l0_2
def impl_isGraph.T4 : Bool × List (List Nat × List Nat) := (true,[([],[]),([0],[0]),([1],[1]),([2],[2]),([3,2],[3]),([4],[4]),([5,4],[4,5]),([6,4,4],[4,6]),([7,4],[4,7]),([4,8],[4,8]),([9,7],[9]),([10],[10]),([11,10],[10,11]),([12,10,10],[10,12]),([13],[13]),([14,13],[13,14]),([13],[13]),([16,13],[13,16]),([15,17,13],[13,15,17]),([18,13],[13,18]),([13],[13]),([19,20,13,13],[13,19,20]),([21,13],[13,21]),([13,22,10],[10,13,22]),([10,23],[10,23])])
def impl_isGraph.B4 : List Nat := [0,1,3,7,15,31,63,127,255,511,1023,2047,4095,8191,16383,32767,16383,81919,262143,524287,16383,2097151,4194303,8388607,16777215]
theorem impl_isGraph.tab4 : rtab .any (opsOf Try.f29 4) = impl_isGraph.T4 := by kernel_rfl
theorem impl_isGraph.bits4 : waitsOk impl_isGraph.T4.2 impl_isGraph.B4 = true := by kernel_rfl
set_option maxHeartbeats 8000000 in
set_option maxRecDepth 100000 in
theorem impl_isGraph.calls (k : Nat) (a0_0 : Int) (a0_1 : Int) (A0_2 : Option Addr) (c0_2 : Nat) (l0_2 : List (S53)) (r : Bool) (w : World) (hr0_2 : Kd.C k53 w A0_2 l0_2.length l0_2) (hc0_2 : l0_2.length ≤ c0_2) (h : impl_isGraph.f k a0_0 a0_1 l0_2 = some r) :
  Calls Try.prog 29 #[.agg #[.int .i64 a0_0,.int .i64 a0_1,.slice A0_2 l0_2.length c0_2]] w fun e w' => e = .returned (.bool r) ∧ Below w.heap.size w w' := by
 have hu28 := Try.underlying28
 have hu53 := Try.underlying53
 have HR0_2 := y0.mk hr0_2
 have HC0_2 := y0.mk hc0_2
 clear hr0_2 hc0_2
 have HB := y0.mk (Below.refl w.heap.size w)
 have H : (impl_isGraph.l0 k l0_2 (l0_2.length : Int) 0 a0_0 a0_1 l0_2) = some r := h
 clear h
 have H' := y0.mk H
 clear H
 go_enter Try.func29,Try.ntmps29
 go_wp2_with (first | ((with_reducible refine y20 (N := 1) rfl ?_); refine qe 1 #[.int .i64 a0_0,.int .i64 a0_1,.slice A0_2 l0_2.length c0_2] 28 ?_; intro gb178 hg w2 hbox hb; have BK178 := y0.mk (hbox); have GW178 := y0.mk (qg (w := w) hg); have GE178 := y0.mk (qg (w := w) hg); replace HB := y0.mk (y7 qb hb); clear hb hbox hg; obtain ⟨hcz3_0,hcz3_1,hcz3_2,hfz3_0,hfz3_1,hfz3_2⟩ := qz3 BK178.out))
 go_loopg [8] k (fun kq v8 w' => ∃ (x8_1 : Int),v8 = .int .i64 x8_1 ∧ y0 (impl_isGraph.l0 kq l0_2 (l0_2.length : Int) x8_1 a0_0 a0_1 l0_2 = some r) ∧ y0 (kq ≤ k) ∧ y0 (w'.heap[gb178]? = some (.cells #[.int .i64 a0_0,.int .i64 a0_1,(.slice A0_2 l0_2.length c0_2)] 28 (0,0))) ∧ y0 (Below w.heap.size w w'))
 case atStart => exact ⟨(0),qy2,H',⟨Nat.le_refl _⟩,⟨qk BK178.out⟩,⟨qb⟩⟩
 case round =>
  clear H'
  (try clear hcz3_0 hcz3_1 hcz3_2 hfz3_0 hfz3_1 hfz3_2)
  obtain ⟨x8_1,rfl,HA,HK1,BK178,HB⟩ := hrel
  cases gk with
  | zero => exact absurd HA.out (by simp [impl_isGraph.l0])
  | succ k1 =>
   have H := HA.out
   clear HA
   simp only [impl_isGraph.l0] at H
   by_cases c4 : x8_1 < (l0_2.length : Int)
   ·rw [if_pos c4] at H
    have c4b0 := decide_eq_true c4
    clear c4
    obtain ⟨c5,H⟩ := qo H
    have c5b0 : decide (0 ≤ x8_1) = true := decide_eq_true c5
    clear c5
    obtain ⟨c6,H⟩ := qo H
    have c6b0 : decide (x8_1 < (l0_2.length : Int)) = true := decide_eq_true c6
    clear c6
    obtain ⟨t181,A7,H⟩ := qB H
    by_cases c8 : t181 = true
    ·subst c8
     replace H := qT H
     obtain ⟨t182,A9,H⟩ := qB H
     by_cases c10 : t182 = true
     ·subst c10
      replace H := qT H
      by_cases c11 : x8_1 > 0
      ·rw [if_pos c11] at H
       have c11b0 : decide (0 < x8_1) = true := decide_eq_true c11
       clear c11
       obtain ⟨ji12,hji12⟩ : ∃ j_ : Int,(wrap64 (x8_1 - 1)) = j_ := ⟨_,rfl⟩
       replace H : (if 0 ≤ (ji12) then (if (ji12) < (l0_2.length : Int) then ((impl_compareArcs.f k1 ((y25 l0_2 (ji12)).f0) ((y25 l0_2 (ji12)).f1) ((y25 l0_2 (ji12)).f2) ((y25 l0_2 x8_1).f0) ((y25 l0_2 x8_1).f1) ((y25 l0_2 x8_1).f2)).bind fun t184 => (if t184 ≥ 0 then (some false) else (impl_isGraph.l0 k1 l0_2 (l0_2.length : Int) (wrap64 (x8_1 + 1)) a0_0 a0_1 l0_2))) else (none)) else (none)) = some r := by first | (rw [hji12] at H; exact H) | (simp only [hji12] at H ⊢; exact H)
       (try rw [hji12] at A7)
       (try rw [hji12] at A9)
       have hji12w : (IntKind.i64.wrap (x8_1 - 1)) = ji12 := (i64_w _).trans hji12
       obtain ⟨c13,H⟩ := qo H
       have c13b0 : decide (0 ≤ (ji12)) = true := decide_eq_true c13
       clear c13
       obtain ⟨c14,H⟩ := qo H
       have c14b0 : decide ((ji12) < (l0_2.length : Int)) = true := decide_eq_true c14
       clear c14
       obtain ⟨t184,A15,H⟩ := qB H
       by_cases c16 : t184 ≥ 0
       ·rw [if_pos c16] at H
        have c16b0 : decide (0 ≤ t184) = true := decide_eq_true c16
        clear c16
        obtain rfl := Option.some.inj H
        have p179 : 0 ≤ (x8_1 : Int) := of_decide_eq_true qy1
        have q179 : x8_1 < (l0_2.length : Int) := of_decide_eq_true qy1
        obtain ⟨ad179,e179,hx179_0,hx179_1,hx179_2⟩ := at_T53 HR0_2.out x8_1 p179 q179
        cases e179
        replace hx179_0 := (HB.out.cell (World.block_lt_of_cell? w _ hx179_0)).trans hx179_0
        replace hx179_1 := (HB.out.cell (World.block_lt_of_cell? w _ hx179_1)).trans hx179_1
        replace hx179_2 := (HB.out.cell (World.block_lt_of_cell? w _ hx179_2)).trans hx179_2
        replace p179 := eq_true p179
        replace q179 := eq_true q179
        try go_wp2_with (first | ((with_reducible refine y20 (N := 4) rfl ?_); refine qe 4 #[.int .i64 0,.int .i64 0,.bool false] 53 ?_; intro gb180 hg w17 hbox hb; have BK180 := y0.mk (hbox); have GW180 := y0.mk (qg (w := w) hg); have GE180 := y0.mk (qg (w := w) hg); replace HB := y0.mk (y7 qb hb); have NB178_180 := y0.mk (qn BK178.out hg); have NB180_178 := y0.mk (qm BK178.out hg); replace BK178 := y0.mk (qK BK178.out hb); clear hb hbox hg; have hnb18 := NB180_178.out; have hnc18 := NB178_180.out; obtain ⟨hcz19_0,hcz19_1,hcz19_2,hfz19_0,hfz19_1,hfz19_2⟩ := qz3 BK180.out))
        have n0_ : y0 ((((w17.setCell ⟨gb180,0,none⟩ (.int .i64 ((y25 l0_2 x8_1).f0))).setCell ⟨gb180,1,none⟩ (.int .i64 ((y25 l0_2 x8_1).f1))).setCell ⟨gb180,2,none⟩ (.bool ((y25 l0_2 x8_1).f2))).heap[gb178]? = some (.cells #[.int .i64 a0_0,.int .i64 a0_1,.slice (some ad179) l0_2.length c0_2] 28 (0,0))) := ⟨by (with_reducible repeat (first | refine y12 ?_ _ | refine y11 ?_ | refine y8 ?_ _)); refine y13 ?_ NB178_180.out _; (with_reducible repeat (first | refine y12 ?_ _ | refine y11 ?_ | refine y8 ?_ _)); refine y13 ?_ NB178_180.out _; (with_reducible repeat (first | refine y12 ?_ _ | refine y11 ?_ | refine y8 ?_ _)); refine y13 ?_ NB178_180.out _; (with_reducible repeat (first | refine y12 ?_ _ | refine y11 ?_ | refine y8 ?_ _)); exact BK178.out⟩
        have n1_ : y0 ((((w17.setCell ⟨gb180,0,none⟩ (.int .i64 ((y25 l0_2 x8_1).f0))).setCell ⟨gb180,1,none⟩ (.int .i64 ((y25 l0_2 x8_1).f1))).setCell ⟨gb180,2,none⟩ (.bool ((y25 l0_2 x8_1).f2))).heap[gb180]? = some (.cells #[.int .i64 ((y25 l0_2 x8_1).f0),.int .i64 ((y25 l0_2 x8_1).f1),.bool ((y25 l0_2 x8_1).f2)] 53 (0,0))) := ⟨by (with_reducible repeat (first | refine y12 ?_ _ | refine y11 ?_ | refine y8 ?_ _)); refine y16 (cs := #[.int .i64 ((y25 l0_2 x8_1).f0),.int .i64 ((y25 l0_2 x8_1).f1),.bool false]) ?_ 2 _ rfl; (with_reducible repeat (first | refine y12 ?_ _ | refine y11 ?_ | refine y8 ?_ _)); refine y16 (cs := #[.int .i64 ((y25 l0_2 x8_1).f0),.int .i64 0,.bool false]) ?_ 1 _ rfl; (with_reducible repeat (first | refine y12 ?_ _ | refine y11 ?_ | refine y8 ?_ _)); refine y16 (cs := #[.int .i64 0,.int .i64 0,.bool false]) ?_ 0 _ rfl; (with_reducible repeat (first | refine y12 ?_ _ | refine y11 ?_ | refine y8 ?_ _)); exact BK180.out⟩
        have n2_ : y0 (Below w.heap.size w (((w17.setCell ⟨gb180,0,none⟩ (.int .i64 ((y25 l0_2 x8_1).f0))).setCell ⟨gb180,1,none⟩ (.int .i64 ((y25 l0_2 x8_1).f1))).setCell ⟨gb180,2,none⟩ (.bool ((y25 l0_2 x8_1).f2)))) := ⟨qb⟩
        (try clear BK178)
        (try clear BK180)
        (try clear HB)
        generalize (((w17.setCell ⟨gb180,0,none⟩ (.int .i64 ((y25 l0_2 x8_1).f0))).setCell ⟨gb180,1,none⟩ (.int .i64 ((y25 l0_2 x8_1).f1))).setCell ⟨gb180,2,none⟩ (.bool ((y25 l0_2 x8_1).f2))) = w20 at n0_ n1_ n2_ ⊢
        have BK178 := n0_
        have BK180 := n1_
        have HB := n2_
        clear n0_ n1_ n2_
        replace BK178 := y0.mk (y11 BK178.out)
        replace BK180 := y0.mk (y11 BK180.out)
        replace HB := y0.mk (y4 HB.out)
        have p183 : 0 ≤ ((ji12) : Int) := of_decide_eq_true qy1
        have q183 : (ji12) < (l0_2.length : Int) := of_decide_eq_true qy1
        obtain ⟨ad183,e183,hx183_0,hx183_1,hx183_2⟩ := at_T53 HR0_2.out (ji12) p183 q183
        have hw183_2 := hx183_2
        have hw183_1 := hx183_1
        have hw183_0 := hx183_0
        obtain rfl : ad179 = ad183 := (by injection e183)
        replace hx183_0 := (HB.out.cell (World.block_lt_of_cell? w _ hx183_0)).trans hx183_0
        replace hx183_1 := (HB.out.cell (World.block_lt_of_cell? w _ hx183_1)).trans hx183_1
        replace hx183_2 := (HB.out.cell (World.block_lt_of_cell? w _ hx183_2)).trans hx183_2
        replace p183 := eq_true p183
        replace q183 := eq_true q183
        refine start_ (n := 25) (S := fun w' => w'.cell? ⟨gb180,0,none⟩ = some (.int .i64 ((y25 l0_2 x8_1).f0)) ∧ w'.cell? ⟨gb180,1,none⟩ = some (.int .i64 ((y25 l0_2 x8_1).f1)) ∧ w'.cell? ⟨gb180,2,none⟩ = some (.bool ((y25 l0_2 x8_1).f2)) ∧ w'.cell? ⟨gb178,0,none⟩ = some (.int .i64 a0_0) ∧ w'.cell? ⟨gb178,1,none⟩ = some (.int .i64 a0_1) ∧ w'.cell? ⟨gb178,2,none⟩ = some (.slice (some ad179) l0_2.length c0_2) ∧ w'.cell? (ad179.add (((ji12)).toNat * 3)) = some (.int .i64 ((y25 l0_2 (ji12)).f0)) ∧ w'.cell? ⟨(ad179.add (((ji12)).toNat * 3)).block,(ad179.add (((ji12)).toNat * 3)).off + 1,none⟩ = some (.int .i64 ((y25 l0_2 (ji12)).f1)) ∧ w'.cell? ⟨(ad179.add (((ji12)).toNat * 3)).block,(ad179.add (((ji12)).toNat * 3)).off + 2,none⟩ = some (.bool ((y25 l0_2 (ji12)).f2))) (ds := []) (fl_ 25 0) (by kernel_rfl) rfl rfl ⟨(y10 BK180.out 0).trans rfl,(y10 BK180.out 1).trans rfl,(y10 BK180.out 2).trans rfl,(y10 BK178.out 0).trans rfl,(y10 BK178.out 1).trans rfl,(y10 BK178.out 2).trans rfl,((HB.out.cell (World.block_lt_of_cell? w _ hw183_0)).trans hw183_0),((HB.out.cell (World.block_lt_of_cell? w _ hw183_1)).trans hw183_1),((HB.out.cell (World.block_lt_of_cell? w _ hw183_2)).trans hw183_2)⟩ (fun hHeld => ?_); refine with_tabW impl_isGraph.tab4 impl_isGraph.bits4 (fun HT_ HW_ => ?_)
        generalize w20.drew = w21 at BK178 BK180 HB hx183_0 hx183_1 hx183_2 hHeld ⊢
        refine qp 0 13 (fl_ 25 1) ?_
        refine qt 1 14 (fl_ 25 3) hHeld ?_
        refine one_ (i := 2) (N := some 15) (fl_ 25 7) rfl rfl (one_of HT_.out (by kernel_rfl)) (by decide) (fun K hK => ?_)
        refine goes_ Try.func42 (by kernel_rfl) rfl #[.int .i64 ((y25 l0_2 x8_1).f0),.int .i64 0,.int .i64 5] (by rfl) rfl rfl qy0 ?_
        with_reducible refine (impl_in.calls ((y25 l0_2 x8_1).f0) 0 5 true _ A7.out).mono ?_
        rintro e w' ⟨rfl,⟨nd,rfl⟩⟩
        refine ⟨_,rfl, ?_⟩
        refine hK.out _ _ ⟨(y10 BK180.out 0).trans rfl,(y10 BK180.out 1).trans rfl,(y10 BK180.out 2).trans rfl,(y10 BK178.out 0).trans rfl,(y10 BK178.out 1).trans rfl,(y10 BK178.out 2).trans rfl,((HB.out.cell (World.block_lt_of_cell? w _ hw183_0)).trans hw183_0),((HB.out.cell (World.block_lt_of_cell? w _ hw183_1)).trans hw183_1),((HB.out.cell (World.block_lt_of_cell? w _ hw183_2)).trans hw183_2)⟩ (fun hHeld => ?_)
        clear hK K
        refine norm_ (a' := ?_) ?_ ?_
        rotate_left
        ·show Act.put _ (some 15) _ = _
         simp only [Act.put,qS_,qZ_,qC_,i64_w,i32_w]
         rfl
        refine qp 3 16 (fl_ 25 15) ?_
        refine qp 4 17 (fl_ 25 31) ?_
        refine qp 5 18 (fl_ 25 63) ?_
        refine qt 6 19 (fl_ 25 127) hHeld ?_
        refine one_ (i := 7) (N := some 20) (fl_ 25 255) rfl rfl (one_of HT_.out (by kernel_rfl)) (by decide) (fun K hK => ?_)
        refine goes_ Try.func42 (by kernel_rfl) rfl #[.int .i64 ((y25 l0_2 x8_1).f1),.int .i64 0,.int .i64 5] (by rfl) rfl rfl qy0 ?_
        with_reducible refine (impl_in.calls ((y25 l0_2 x8_1).f1) 0 5 true _ A9.out).mono ?_
        rintro e w' ⟨rfl,⟨nd,rfl⟩⟩
        refine ⟨_,rfl, ?_⟩
        refine hK.out _ _ ⟨(y10 BK180.out 0).trans rfl,(y10 BK180.out 1).trans rfl,(y10 BK180.out 2).trans rfl,(y10 BK178.out 0).trans rfl,(y10 BK178.out 1).trans rfl,(y10 BK178.out 2).trans rfl,((HB.out.cell (World.block_lt_of_cell? w _ hw183_0)).trans hw183_0),((HB.out.cell (World.block_lt_of_cell? w _ hw183_1)).trans hw183_1),((HB.out.cell (World.block_lt_of_cell? w _ hw183_2)).trans hw183_2)⟩ (fun hHeld => ?_)
        clear hK K
        refine norm_ (a' := ?_) ?_ ?_
        rotate_left
        ·show Act.put _ (some 20) _ = _
         simp only [Act.put,qS_,qZ_,qC_,i64_w,i32_w]
         rfl
        refine qp 8 21 (fl_ 25 511) ?_
        refine qp 9 22 (fl_ 25 1023) ?_
        refine qp 10 23 (fl_ 25 2047) ?_
        refine qp 11 24 (fl_ 25 4095) ?_
        refine qp 12 25 (fl_ 25 8191) ?_
        refine qp 13 26 (fl_ 25 16383) ?_
        refine qp 14 27 (fl_ 25 32767) ?_
        refine qp 16 29 (fl_ 25 98303) ?_
        refine qp 17 30 (fl_ 25 229375) ?_
        refine qt 15 28 (fl_ 25 262143) hHeld ?_
        refine qp 18 31 (fl_ 25 524287) ?_
        refine qt 19 32 (fl_ 25 1048575) hHeld ?_
        refine qt 20 33 (fl_ 25 2097151) hHeld ?_
        refine one_ (i := 21) (N := some 34) (fl_ 25 4194303) rfl rfl (one_of HT_.out (by kernel_rfl)) (by decide) (fun K hK => ?_)
        refine goes_ Try.func43 (by kernel_rfl) rfl #[.agg #[.int .i64 ((y25 l0_2 (ji12)).f0),.int .i64 ((y25 l0_2 (ji12)).f1),.bool ((y25 l0_2 (ji12)).f2)],.agg #[.int .i64 ((y25 l0_2 x8_1).f0),.int .i64 ((y25 l0_2 x8_1).f1),.bool ((y25 l0_2 x8_1).f2)]] (by rfl) rfl rfl (by (try simp only [qM_,List.map_cons,List.map_nil]); first | done | (simp only [hji12]; rfl) | rfl | (simp only [qD_,qT_]; rfl)) ?_
        with_reducible refine (impl_compareArcs.calls k1 ((y25 l0_2 (ji12)).f0) ((y25 l0_2 (ji12)).f1) ((y25 l0_2 (ji12)).f2) ((y25 l0_2 x8_1).f0) ((y25 l0_2 x8_1).f1) ((y25 l0_2 x8_1).f2) t184 _ A15.out).mono ?_
        rintro e w22 ⟨rfl,hb⟩
        refine ⟨_,rfl, ?_⟩
        replace BK178 := y0.mk (qK BK178.out hb)
        replace BK180 := y0.mk (qK BK180.out hb)
        replace HB := y0.mk (y7 qb hb)
        (try clear hb)
        (try clear hb2)
        (try clear hk)
        (try clear hi)
        refine hK.out _ _ ⟨(y10 BK180.out 0).trans rfl,(y10 BK180.out 1).trans rfl,(y10 BK180.out 2).trans rfl,(y10 BK178.out 0).trans rfl,(y10 BK178.out 1).trans rfl,(y10 BK178.out 2).trans rfl,((HB.out.cell (World.block_lt_of_cell? w _ hw183_0)).trans hw183_0),((HB.out.cell (World.block_lt_of_cell? w _ hw183_1)).trans hw183_1),((HB.out.cell (World.block_lt_of_cell? w _ hw183_2)).trans hw183_2)⟩ (fun hHeld => ?_)
        clear hK K
        refine norm_ (a' := ?_) ?_ ?_
        rotate_left
        ·show Act.put _ (some 34) _ = _
         simp only [Act.put,qS_,qZ_,qC_,i64_w,i32_w]
         rfl
        refine qp 22 35 (fl_ 25 8388607) ?_
        refine qp 23 36 (fl_ 25 16777215) ?_
        refine qp 24 37 (fl_ 25 33554431) ?_
        refine done_ (done_of HT_.out (by kernel_rfl)) ?_
        try go_wp2
        go_ret
        exact ⟨by first | rfl | (simp [y17,y18] <;> rfl) | (simp only [← hji12]; first | rfl | (simp [y17,y18] <;> rfl)) | (simp [*,y17,y18] <;> rfl),qb⟩
       ·rw [if_neg c16] at H
        have c16b0 : decide (0 ≤ t184) = false := decide_eq_false c16
        clear c16
        have H' := y0.mk H
        clear H
        have p179 : 0 ≤ (x8_1 : Int) := of_decide_eq_true qy1
        have q179 : x8_1 < (l0_2.length : Int) := of_decide_eq_true qy1
        obtain ⟨ad179,e179,hx179_0,hx179_1,hx179_2⟩ := at_T53 HR0_2.out x8_1 p179 q179
        cases e179
        replace hx179_0 := (HB.out.cell (World.block_lt_of_cell? w _ hx179_0)).trans hx179_0
        replace hx179_1 := (HB.out.cell (World.block_lt_of_cell? w _ hx179_1)).trans hx179_1
        replace hx179_2 := (HB.out.cell (World.block_lt_of_cell? w _ hx179_2)).trans hx179_2
        replace p179 := eq_true p179
        replace q179 := eq_true q179
        try go_wp2_with (first | ((with_reducible refine y20 (N := 4) rfl ?_); refine qe 4 #[.int .i64 0,.int .i64 0,.bool false] 53 ?_; intro gb180 hg w23 hbox hb; have BK180 := y0.mk (hbox); have GW180 := y0.mk (qg (w := w) hg); have GE180 := y0.mk (qg (w := w) hg); replace HB := y0.mk (y7 qb hb); have NB178_180 := y0.mk (qn BK178.out hg); have NB180_178 := y0.mk (qm BK178.out hg); replace BK178 := y0.mk (qK BK178.out hb); clear hb hbox hg; have hnb24 := NB180_178.out; have hnc24 := NB178_180.out; obtain ⟨hcz25_0,hcz25_1,hcz25_2,hfz25_0,hfz25_1,hfz25_2⟩ := qz3 BK180.out))
        have n0_ : y0 ((((w23.setCell ⟨gb180,0,none⟩ (.int .i64 ((y25 l0_2 x8_1).f0))).setCell ⟨gb180,1,none⟩ (.int .i64 ((y25 l0_2 x8_1).f1))).setCell ⟨gb180,2,none⟩ (.bool ((y25 l0_2 x8_1).f2))).heap[gb178]? = some (.cells #[.int .i64 a0_0,.int .i64 a0_1,.slice (some ad179) l0_2.length c0_2] 28 (0,0))) := ⟨by (with_reducible repeat (first | refine y12 ?_ _ | refine y11 ?_ | refine y8 ?_ _)); refine y13 ?_ NB178_180.out _; (with_reducible repeat (first | refine y12 ?_ _ | refine y11 ?_ | refine y8 ?_ _)); refine y13 ?_ NB178_180.out _; (with_reducible repeat (first | refine y12 ?_ _ | refine y11 ?_ | refine y8 ?_ _)); refine y13 ?_ NB178_180.out _; (with_reducible repeat (first | refine y12 ?_ _ | refine y11 ?_ | refine y8 ?_ _)); exact BK178.out⟩
        have n1_ : y0 ((((w23.setCell ⟨gb180,0,none⟩ (.int .i64 ((y25 l0_2 x8_1).f0))).setCell ⟨gb180,1,none⟩ (.int .i64 ((y25 l0_2 x8_1).f1))).setCell ⟨gb180,2,none⟩ (.bool ((y25 l0_2 x8_1).f2))).heap[gb180]? = some (.cells #[.int .i64 ((y25 l0_2 x8_1).f0),.int .i64 ((y25 l0_2 x8_1).f1),.bool ((y25 l0_2 x8_1).f2)] 53 (0,0))) := ⟨by (with_reducible repeat (first | refine y12 ?_ _ | refine y11 ?_ | refine y8 ?_ _)); refine y16 (cs := #[.int .i64 ((y25 l0_2 x8_1).f0),.int .i64 ((y25 l0_2 x8_1).f1),.bool false]) ?_ 2 _ rfl; (with_reducible repeat (first | refine y12 ?_ _ | refine y11 ?_ | refine y8 ?_ _)); refine y16 (cs := #[.int .i64 ((y25 l0_2 x8_1).f0),.int .i64 0,.bool false]) ?_ 1 _ rfl; (with_reducible repeat (first | refine y12 ?_ _ | refine y11 ?_ | refine y8 ?_ _)); refine y16 (cs := #[.int .i64 0,.int .i64 0,.bool false]) ?_ 0 _ rfl; (with_reducible repeat (first | refine y12 ?_ _ | refine y11 ?_ | refine y8 ?_ _)); exact BK180.out⟩
        have n2_ : y0 (Below w.heap.size w (((w23.setCell ⟨gb180,0,none⟩ (.int .i64 ((y25 l0_2 x8_1).f0))).setCell ⟨gb180,1,none⟩ (.int .i64 ((y25 l0_2 x8_1).f1))).setCell ⟨gb180,2,none⟩ (.bool ((y25 l0_2 x8_1).f2)))) := ⟨qb⟩
        (try clear BK178)
        (try clear BK180)
        (try clear HB)
        generalize (((w23.setCell ⟨gb180,0,none⟩ (.int .i64 ((y25 l0_2 x8_1).f0))).setCell ⟨gb180,1,none⟩ (.int .i64 ((y25 l0_2 x8_1).f1))).setCell ⟨gb180,2,none⟩ (.bool ((y25 l0_2 x8_1).f2))) = w26 at n0_ n1_ n2_ ⊢
        have BK178 := n0_
        have BK180 := n1_
        have HB := n2_
        clear n0_ n1_ n2_
        replace BK178 := y0.mk (y11 BK178.out)
        replace BK180 := y0.mk (y11 BK180.out)
        replace HB := y0.mk (y4 HB.out)
        have p183 : 0 ≤ ((ji12) : Int) := of_decide_eq_true qy1
        have q183 : (ji12) < (l0_2.length : Int) := of_decide_eq_true qy1
        obtain ⟨ad183,e183,hx183_0,hx183_1,hx183_2⟩ := at_T53 HR0_2.out (ji12) p183 q183
        have hw183_2 := hx183_2
        have hw183_1 := hx183_1
        have hw183_0 := hx183_0
        obtain rfl : ad179 = ad183 := (by injection e183)
        replace hx183_0 := (HB.out.cell (World.block_lt_of_cell? w _ hx183_0)).trans hx183_0
        replace hx183_1 := (HB.out.cell (World.block_lt_of_cell? w _ hx183_1)).trans hx183_1
        replace hx183_2 := (HB.out.cell (World.block_lt_of_cell? w _ hx183_2)).trans hx183_2
        replace p183 := eq_true p183
        replace q183 := eq_true q183
        refine start_ (n := 25) (S := fun w' => w'.cell? ⟨gb180,0,none⟩ = some (.int .i64 ((y25 l0_2 x8_1).f0)) ∧ w'.cell? ⟨gb180,1,none⟩ = some (.int .i64 ((y25 l0_2 x8_1).f1)) ∧ w'.cell? ⟨gb180,2,none⟩ = some (.bool ((y25 l0_2 x8_1).f2)) ∧ w'.cell? ⟨gb178,0,none⟩ = some (.int .i64 a0_0) ∧ w'.cell? ⟨gb178,1,none⟩ = some (.int .i64 a0_1) ∧ w'.cell? ⟨gb178,2,none⟩ = some (.slice (some ad179) l0_2.length c0_2) ∧ w'.cell? (ad179.add (((ji12)).toNat * 3)) = some (.int .i64 ((y25 l0_2 (ji12)).f0)) ∧ w'.cell? ⟨(ad179.add (((ji12)).toNat * 3)).block,(ad179.add (((ji12)).toNat * 3)).off + 1,none⟩ = some (.int .i64 ((y25 l0_2 (ji12)).f1)) ∧ w'.cell? ⟨(ad179.add (((ji12)).toNat * 3)).block,(ad179.add (((ji12)).toNat * 3)).off + 2,none⟩ = some (.bool ((y25 l0_2 (ji12)).f2))) (ds := []) (fl_ 25 0) (by kernel_rfl) rfl rfl ⟨(y10 BK180.out 0).trans rfl,(y10 BK180.out 1).trans rfl,(y10 BK180.out 2).trans rfl,(y10 BK178.out 0).trans rfl,(y10 BK178.out 1).trans rfl,(y10 BK178.out 2).trans rfl,((HB.out.cell (World.block_lt_of_cell? w _ hw183_0)).trans hw183_0),((HB.out.cell (World.block_lt_of_cell? w _ hw183_1)).trans hw183_1),((HB.out.cell (World.block_lt_of_cell? w _ hw183_2)).trans hw183_2)⟩ (fun hHeld => ?_); refine with_tabW impl_isGraph.tab4 impl_isGraph.bits4 (fun HT_ HW_ => ?_)
        generalize w26.drew = w27 at BK178 BK180 HB hx183_0 hx183_1 hx183_2 hHeld ⊢
        refine qp 0 13 (fl_ 25 1) ?_
        refine qt 1 14 (fl_ 25 3) hHeld ?_
        refine one_ (i := 2) (N := some 15) (fl_ 25 7) rfl rfl (one_of HT_.out (by kernel_rfl)) (by decide) (fun K hK => ?_)
        refine goes_ Try.func42 (by kernel_rfl) rfl #[.int .i64 ((y25 l0_2 x8_1).f0),.int .i64 0,.int .i64 5] (by rfl) rfl rfl qy0 ?_
        with_reducible refine (impl_in.calls ((y25 l0_2 x8_1).f0) 0 5 true _ A7.out).mono ?_
        rintro e w' ⟨rfl,⟨nd,rfl⟩⟩
        refine ⟨_,rfl, ?_⟩
        refine hK.out _ _ ⟨(y10 BK180.out 0).trans rfl,(y10 BK180.out 1).trans rfl,(y10 BK180.out 2).trans rfl,(y10 BK178.out 0).trans rfl,(y10 BK178.out 1).trans rfl,(y10 BK178.out 2).trans rfl,((HB.out.cell (World.block_lt_of_cell? w _ hw183_0)).trans hw183_0),((HB.out.cell (World.block_lt_of_cell? w _ hw183_1)).trans hw183_1),((HB.out.cell (World.block_lt_of_cell? w _ hw183_2)).trans hw183_2)⟩ (fun hHeld => ?_)
        clear hK K
        refine norm_ (a' := ?_) ?_ ?_
        rotate_left
        ·show Act.put _ (some 15) _ = _
         simp only [Act.put,qS_,qZ_,qC_,i64_w,i32_w]
         rfl
        refine qp 3 16 (fl_ 25 15) ?_
        refine qp 4 17 (fl_ 25 31) ?_
        refine qp 5 18 (fl_ 25 63) ?_
        refine qt 6 19 (fl_ 25 127) hHeld ?_
        refine one_ (i := 7) (N := some 20) (fl_ 25 255) rfl rfl (one_of HT_.out (by kernel_rfl)) (by decide) (fun K hK => ?_)
        refine goes_ Try.func42 (by kernel_rfl) rfl #[.int .i64 ((y25 l0_2 x8_1).f1),.int .i64 0,.int .i64 5] (by rfl) rfl rfl qy0 ?_
        with_reducible refine (impl_in.calls ((y25 l0_2 x8_1).f1) 0 5 true _ A9.out).mono ?_
        rintro e w' ⟨rfl,⟨nd,rfl⟩⟩
        refine ⟨_,rfl, ?_⟩
        refine hK.out _ _ ⟨(y10 BK180.out 0).trans rfl,(y10 BK180.out 1).trans rfl,(y10 BK180.out 2).trans rfl,(y10 BK178.out 0).trans rfl,(y10 BK178.out 1).trans rfl,(y10 BK178.out 2).trans rfl,((HB.out.cell (World.block_lt_of_cell? w _ hw183_0)).trans hw183_0),((HB.out.cell (World.block_lt_of_cell? w _ hw183_1)).trans hw183_1),((HB.out.cell (World.block_lt_of_cell? w _ hw183_2)).trans hw183_2)⟩ (fun hHeld => ?_)
        clear hK K
        refine norm_ (a' := ?_) ?_ ?_
        rotate_left
        ·show Act.put _ (some 20) _ = _
         simp only [Act.put,qS_,qZ_,qC_,i64_w,i32_w]
         rfl
        refine qp 8 21 (fl_ 25 511) ?_
        refine qp 9 22 (fl_ 25 1023) ?_
        refine qp 10 23 (fl_ 25 2047) ?_
        refine qp 11 24 (fl_ 25 4095) ?_
        refine qp 12 25 (fl_ 25 8191) ?_
        refine qp 13 26 (fl_ 25 16383) ?_
        refine qp 14 27 (fl_ 25 32767) ?_
        refine qp 16 29 (fl_ 25 98303) ?_
        refine qp 17 30 (fl_ 25 229375) ?_
        refine qt 15 28 (fl_ 25 262143) hHeld ?_
        refine qp 18 31 (fl_ 25 524287) ?_
        refine qt 19 32 (fl_ 25 1048575) hHeld ?_
        refine qt 20 33 (fl_ 25 2097151) hHeld ?_
        refine one_ (i := 21) (N := some 34) (fl_ 25 4194303) rfl rfl (one_of HT_.out (by kernel_rfl)) (by decide) (fun K hK => ?_)
        refine goes_ Try.func43 (by kernel_rfl) rfl #[.agg #[.int .i64 ((y25 l0_2 (ji12)).f0),.int .i64 ((y25 l0_2 (ji12)).f1),.bool ((y25 l0_2 (ji12)).f2)],.agg #[.int .i64 ((y25 l0_2 x8_1).f0),.int .i64 ((y25 l0_2 x8_1).f1),.bool ((y25 l0_2 x8_1).f2)]] (by rfl) rfl rfl (by (try simp only [qM_,List.map_cons,List.map_nil]); first | done | (simp only [hji12]; rfl) | rfl | (simp only [qD_,qT_]; rfl)) ?_
        with_reducible refine (impl_compareArcs.calls k1 ((y25 l0_2 (ji12)).f0) ((y25 l0_2 (ji12)).f1) ((y25 l0_2 (ji12)).f2) ((y25 l0_2 x8_1).f0) ((y25 l0_2 x8_1).f1) ((y25 l0_2 x8_1).f2) t184 _ A15.out).mono ?_
        rintro e w28 ⟨rfl,hb⟩
        refine ⟨_,rfl, ?_⟩
        replace BK178 := y0.mk (qK BK178.out hb)
        replace BK180 := y0.mk (qK BK180.out hb)
        replace HB := y0.mk (y7 qb hb)
        (try clear hb)
        (try clear hb2)
        (try clear hk)
        (try clear hi)
        refine hK.out _ _ ⟨(y10 BK180.out 0).trans rfl,(y10 BK180.out 1).trans rfl,(y10 BK180.out 2).trans rfl,(y10 BK178.out 0).trans rfl,(y10 BK178.out 1).trans rfl,(y10 BK178.out 2).trans rfl,((HB.out.cell (World.block_lt_of_cell? w _ hw183_0)).trans hw183_0),((HB.out.cell (World.block_lt_of_cell? w _ hw183_1)).trans hw183_1),((HB.out.cell (World.block_lt_of_cell? w _ hw183_2)).trans hw183_2)⟩ (fun hHeld => ?_)
        clear hK K
        refine norm_ (a' := ?_) ?_ ?_
        rotate_left
        ·show Act.put _ (some 34) _ = _
         simp only [Act.put,qS_,qZ_,qC_,i64_w,i32_w]
         rfl
        refine qp 22 35 (fl_ 25 8388607) ?_
        refine qp 23 36 (fl_ 25 16777215) ?_
        refine qp 24 37 (fl_ 25 33554431) ?_
        refine done_ (done_of HT_.out (by kernel_rfl)) ?_
        try go_wp2
        go_roundg k1
        case measure => have := HK1.out; omega
        exact ⟨(wrap64 (x8_1 + 1)),qy2,H',⟨by have := HK1.out; omega⟩,⟨qk BK178.out⟩,⟨qb⟩⟩
      ·rw [if_neg c11] at H
       have c11b0 : decide (0 < x8_1) = false := decide_eq_false c11
       clear c11
       have H' := y0.mk H
       clear H
       have p179 : 0 ≤ (x8_1 : Int) := of_decide_eq_true qy1
       have q179 : x8_1 < (l0_2.length : Int) := of_decide_eq_true qy1
       obtain ⟨ad179,e179,hx179_0,hx179_1,hx179_2⟩ := at_T53 HR0_2.out x8_1 p179 q179
       cases e179
       replace hx179_0 := (HB.out.cell (World.block_lt_of_cell? w _ hx179_0)).trans hx179_0
       replace hx179_1 := (HB.out.cell (World.block_lt_of_cell? w _ hx179_1)).trans hx179_1
       replace hx179_2 := (HB.out.cell (World.block_lt_of_cell? w _ hx179_2)).trans hx179_2
       replace p179 := eq_true p179
       replace q179 := eq_true q179
       try go_wp2_with (first | ((with_reducible refine y20 (N := 4) rfl ?_); refine qe 4 #[.int .i64 0,.int .i64 0,.bool false] 53 ?_; intro gb180 hg w29 hbox hb; have BK180 := y0.mk (hbox); have GW180 := y0.mk (qg (w := w) hg); have GE180 := y0.mk (qg (w := w) hg); replace HB := y0.mk (y7 qb hb); have NB178_180 := y0.mk (qn BK178.out hg); have NB180_178 := y0.mk (qm BK178.out hg); replace BK178 := y0.mk (qK BK178.out hb); clear hb hbox hg; have hnb30 := NB180_178.out; have hnc30 := NB178_180.out; obtain ⟨hcz31_0,hcz31_1,hcz31_2,hfz31_0,hfz31_1,hfz31_2⟩ := qz3 BK180.out))
       have n0_ : y0 ((((w29.setCell ⟨gb180,0,none⟩ (.int .i64 ((y25 l0_2 x8_1).f0))).setCell ⟨gb180,1,none⟩ (.int .i64 ((y25 l0_2 x8_1).f1))).setCell ⟨gb180,2,none⟩ (.bool ((y25 l0_2 x8_1).f2))).heap[gb178]? = some (.cells #[.int .i64 a0_0,.int .i64 a0_1,.slice (some ad179) l0_2.length c0_2] 28 (0,0))) := ⟨by (with_reducible repeat (first | refine y12 ?_ _ | refine y11 ?_ | refine y8 ?_ _)); refine y13 ?_ NB178_180.out _; (with_reducible repeat (first | refine y12 ?_ _ | refine y11 ?_ | refine y8 ?_ _)); refine y13 ?_ NB178_180.out _; (with_reducible repeat (first | refine y12 ?_ _ | refine y11 ?_ | refine y8 ?_ _)); refine y13 ?_ NB178_180.out _; (with_reducible repeat (first | refine y12 ?_ _ | refine y11 ?_ | refine y8 ?_ _)); exact BK178.out⟩
       have n1_ : y0 ((((w29.setCell ⟨gb180,0,none⟩ (.int .i64 ((y25 l0_2 x8_1).f0))).setCell ⟨gb180,1,none⟩ (.int .i64 ((y25 l0_2 x8_1).f1))).setCell ⟨gb180,2,none⟩ (.bool ((y25 l0_2 x8_1).f2))).heap[gb180]? = some (.cells #[.int .i64 ((y25 l0_2 x8_1).f0),.int .i64 ((y25 l0_2 x8_1).f1),.bool ((y25 l0_2 x8_1).f2)] 53 (0,0))) := ⟨by (with_reducible repeat (first | refine y12 ?_ _ | refine y11 ?_ | refine y8 ?_ _)); refine y16 (cs := #[.int .i64 ((y25 l0_2 x8_1).f0),.int .i64 ((y25 l0_2 x8_1).f1),.bool false]) ?_ 2 _ rfl; (with_reducible repeat (first | refine y12 ?_ _ | refine y11 ?_ | refine y8 ?_ _)); refine y16 (cs := #[.int .i64 ((y25 l0_2 x8_1).f0),.int .i64 0,.bool false]) ?_ 1 _ rfl; (with_reducible repeat (first | refine y12 ?_ _ | refine y11 ?_ | refine y8 ?_ _)); refine y16 (cs := #[.int .i64 0,.int .i64 0,.bool false]) ?_ 0 _ rfl; (with_reducible repeat (first | refine y12 ?_ _ | refine y11 ?_ | refine y8 ?_ _)); exact BK180.out⟩
       have n2_ : y0 (Below w.heap.size w (((w29.setCell ⟨gb180,0,none⟩ (.int .i64 ((y25 l0_2 x8_1).f0))).setCell ⟨gb180,1,none⟩ (.int .i64 ((y25 l0_2 x8_1).f1))).setCell ⟨gb180,2,none⟩ (.bool ((y25 l0_2 x8_1).f2)))) := ⟨qb⟩
       (try clear BK178)
       (try clear BK180)
       (try clear HB)
       generalize (((w29.setCell ⟨gb180,0,none⟩ (.int .i64 ((y25 l0_2 x8_1).f0))).setCell ⟨gb180,1,none⟩ (.int .i64 ((y25 l0_2 x8_1).f1))).setCell ⟨gb180,2,none⟩ (.bool ((y25 l0_2 x8_1).f2))) = w32 at n0_ n1_ n2_ ⊢
       have BK178 := n0_
       have BK180 := n1_
       have HB := n2_
       clear n0_ n1_ n2_
       replace BK178 := y0.mk (y11 BK178.out)
       replace BK180 := y0.mk (y11 BK180.out)
       replace HB := y0.mk (y4 HB.out)
       refine start_ (n := 25) (S := fun w' => w'.cell? ⟨gb180,0,none⟩ = some (.int .i64 ((y25 l0_2 x8_1).f0)) ∧ w'.cell? ⟨gb180,1,none⟩ = some (.int .i64 ((y25 l0_2 x8_1).f1)) ∧ w'.cell? ⟨gb180,2,none⟩ = some (.bool ((y25 l0_2 x8_1).f2))) (ds := []) (fl_ 25 0) (by kernel_rfl) rfl rfl ⟨(y10 BK180.out 0).trans rfl,(y10 BK180.out 1).trans rfl,(y10 BK180.out 2).trans rfl⟩ (fun hHeld => ?_); refine with_tabW impl_isGraph.tab4 impl_isGraph.bits4 (fun HT_ HW_ => ?_)
       generalize w32.drew = w33 at BK178 BK180 HB hHeld ⊢
       refine qp 0 13 (fl_ 25 1) ?_
       refine qt 1 14 (fl_ 25 3) hHeld ?_
       refine one_ (i := 2) (N := some 15) (fl_ 25 7) rfl rfl (one_of HT_.out (by kernel_rfl)) (by decide) (fun K hK => ?_)
       refine goes_ Try.func42 (by kernel_rfl) rfl #[.int .i64 ((y25 l0_2 x8_1).f0),.int .i64 0,.int .i64 5] (by rfl) rfl rfl qy0 ?_
       with_reducible refine (impl_in.calls ((y25 l0_2 x8_1).f0) 0 5 true _ A7.out).mono ?_
       rintro e w' ⟨rfl,⟨nd,rfl⟩⟩
       refine ⟨_,rfl, ?_⟩
       refine hK.out _ _ ⟨(y10 BK180.out 0).trans rfl,(y10 BK180.out 1).trans rfl,(y10 BK180.out 2).trans rfl⟩ (fun hHeld => ?_)
       clear hK K
       refine norm_ (a' := ?_) ?_ ?_
       rotate_left
       ·show Act.put _ (some 15) _ = _
        simp only [Act.put,qS_,qZ_,qC_,i64_w,i32_w]
        rfl
       refine qp 3 16 (fl_ 25 15) ?_
       refine qp 4 17 (fl_ 25 31) ?_
       refine qp 5 18 (fl_ 25 63) ?_
       refine qt 6 19 (fl_ 25 127) hHeld ?_
       refine one_ (i := 7) (N := some 20) (fl_ 25 255) rfl rfl (one_of HT_.out (by kernel_rfl)) (by decide) (fun K hK => ?_)
       refine goes_ Try.func42 (by kernel_rfl) rfl #[.int .i64 ((y25 l0_2 x8_1).f1),.int .i64 0,.int .i64 5] (by rfl) rfl rfl qy0 ?_
       with_reducible refine (impl_in.calls ((y25 l0_2 x8_1).f1) 0 5 true _ A9.out).mono ?_
       rintro e w' ⟨rfl,⟨nd,rfl⟩⟩
       refine ⟨_,rfl, ?_⟩
       refine hK.out _ _ ⟨(y10 BK180.out 0).trans rfl,(y10 BK180.out 1).trans rfl,(y10 BK180.out 2).trans rfl⟩ (fun hHeld => ?_)
       clear hK K
       refine norm_ (a' := ?_) ?_ ?_
       rotate_left
       ·show Act.put _ (some 20) _ = _
        simp only [Act.put,qS_,qZ_,qC_,i64_w,i32_w]
        rfl
       refine qp 8 21 (fl_ 25 511) ?_
       refine qp 9 22 (fl_ 25 1023) ?_
       refine qp 10 23 (fl_ 25 2047) ?_
       refine qp 11 24 (fl_ 25 4095) ?_
       refine qp 12 25 (fl_ 25 8191) ?_
       refine qp 13 26 (fl_ 25 16383) ?_
       refine pure_ (i := 14) (N := some 27) (v := undef) (a' := ?_) (fl_ 25 32767) rfl rfl (any_of HT_.out (by kernel_rfl)) (fun _ _ _ h => h) (Or.inr ⟨by rfl,rfl⟩) ?_ ?_
       rotate_left
       ·simp only [Act.put,qS_,qZ_,qC_,i64_w,i32_w]
        rfl
       refine pure_ (i := 15) (N := some 28) (v := undef) (a' := ?_) (fl_ 25 65535) rfl rfl (any_of HT_.out (by kernel_rfl)) (fun _ _ _ h => h) (Or.inr ⟨by rfl,rfl⟩) ?_ ?_
       rotate_left
       ·simp only [Act.put,qS_,qZ_,qC_,i64_w,i32_w]
        rfl
       refine pure_ (i := 16) (N := some 29) (v := undef) (a' := ?_) (fl_ 25 131071) rfl rfl (any_of HT_.out (by kernel_rfl)) (fun _ _ _ h => h) (Or.inr ⟨by rfl,rfl⟩) ?_ ?_
       rotate_left
       ·simp only [Act.put,qS_,qZ_,qC_,i64_w,i32_w]
        rfl
       refine pure_ (i := 17) (N := some 30) (v := undef) (a' := ?_) (fl_ 25 262143) rfl rfl (any_of HT_.out (by kernel_rfl)) (fun _ _ _ h => h) (Or.inr ⟨by rfl,rfl⟩) ?_ ?_
       rotate_left
       ·simp only [Act.put,qS_,qZ_,qC_,i64_w,i32_w]
        rfl
       refine pure_ (i := 18) (N := some 31) (v := undef) (a' := ?_) (fl_ 25 524287) rfl rfl (any_of HT_.out (by kernel_rfl)) (fun _ _ _ h => h) (Or.inr ⟨by rfl,rfl⟩) ?_ ?_
       rotate_left
       ·simp only [Act.put,qS_,qZ_,qC_,i64_w,i32_w]
        rfl
       refine pure_ (i := 19) (N := some 32) (v := undef) (a' := ?_) (fl_ 25 1048575) rfl rfl (any_of HT_.out (by kernel_rfl)) (fun _ _ _ h => h) (Or.inr ⟨by rfl,rfl⟩) ?_ ?_
       rotate_left
       ·simp only [Act.put,qS_,qZ_,qC_,i64_w,i32_w]
        rfl
       refine pure_ (i := 20) (N := some 33) (v := undef) (a' := ?_) (fl_ 25 2097151) rfl rfl (any_of HT_.out (by kernel_rfl)) (fun _ _ _ h => h) (Or.inr ⟨by rfl,rfl⟩) ?_ ?_
       rotate_left
       ·simp only [Act.put,qS_,qZ_,qC_,i64_w,i32_w]
        rfl
       refine pure_ (i := 21) (N := some 34) (v := undef) (a' := ?_) (fl_ 25 4194303) rfl rfl (any_of HT_.out (by kernel_rfl)) (fun _ _ _ h => h) (Or.inr ⟨by rfl,rfl⟩) ?_ ?_
       rotate_left
       ·simp only [Act.put,qS_,qZ_,qC_,i64_w,i32_w]
        rfl
       refine pure_ (i := 22) (N := some 35) (v := undef) (a' := ?_) (fl_ 25 8388607) rfl rfl (any_of HT_.out (by kernel_rfl)) (fun _ _ _ h => h) (Or.inr ⟨by rfl,rfl⟩) ?_ ?_
       rotate_left
       ·simp only [Act.put,qS_,qZ_,qC_,i64_w,i32_w]
        rfl
       refine qp 23 36 (fl_ 25 16777215) ?_
       refine qp 24 37 (fl_ 25 33554431) ?_
       refine done_ (done_of HT_.out (by kernel_rfl)) ?_
       try go_wp2
       go_roundg k1
       case measure => have := HK1.out; omega
       exact ⟨(wrap64 (x8_1 + 1)),qy2,H',⟨by have := HK1.out; omega⟩,⟨qk BK178.out⟩,⟨qb⟩⟩
     ·replace c10 := Bool.eq_false_iff.mpr c10
      subst c10
      replace H := qF H
      obtain rfl := Option.some.inj H
      have p179 : 0 ≤ (x8_1 : Int) := of_decide_eq_true qy1
      have q179 : x8_1 < (l0_2.length : Int) := of_decide_eq_true qy1
      obtain ⟨ad179,e179,hx179_0,hx179_1,hx179_2⟩ := at_T53 HR0_2.out x8_1 p179 q179
      cases e179
      replace hx179_0 := (HB.out.cell (World.block_lt_of_cell? w _ hx179_0)).trans hx179_0
      replace hx179_1 := (HB.out.cell (World.block_lt_of_cell? w _ hx179_1)).trans hx179_1
      replace hx179_2 := (HB.out.cell (World.block_lt_of_cell? w _ hx179_2)).trans hx179_2
      replace p179 := eq_true p179
      replace q179 := eq_true q179
      try go_wp2_with (first | ((with_reducible refine y20 (N := 4) rfl ?_); refine qe 4 #[.int .i64 0,.int .i64 0,.bool false] 53 ?_; intro gb180 hg w34 hbox hb; have BK180 := y0.mk (hbox); have GW180 := y0.mk (qg (w := w) hg); have GE180 := y0.mk (qg (w := w) hg); replace HB := y0.mk (y7 qb hb); have NB178_180 := y0.mk (qn BK178.out hg); have NB180_178 := y0.mk (qm BK178.out hg); replace BK178 := y0.mk (qK BK178.out hb); clear hb hbox hg; have hnb35 := NB180_178.out; have hnc35 := NB178_180.out; obtain ⟨hcz36_0,hcz36_1,hcz36_2,hfz36_0,hfz36_1,hfz36_2⟩ := qz3 BK180.out))
      have n0_ : y0 ((((w34.setCell ⟨gb180,0,none⟩ (.int .i64 ((y25 l0_2 x8_1).f0))).setCell ⟨gb180,1,none⟩ (.int .i64 ((y25 l0_2 x8_1).f1))).setCell ⟨gb180,2,none⟩ (.bool ((y25 l0_2 x8_1).f2))).heap[gb178]? = some (.cells #[.int .i64 a0_0,.int .i64 a0_1,.slice (some ad179) l0_2.length c0_2] 28 (0,0))) := ⟨by (with_reducible repeat (first | refine y12 ?_ _ | refine y11 ?_ | refine y8 ?_ _)); refine y13 ?_ NB178_180.out _; (with_reducible repeat (first | refine y12 ?_ _ | refine y11 ?_ | refine y8 ?_ _)); refine y13 ?_ NB178_180.out _; (with_reducible repeat (first | refine y12 ?_ _ | refine y11 ?_ | refine y8 ?_ _)); refine y13 ?_ NB178_180.out _; (with_reducible repeat (first | refine y12 ?_ _ | refine y11 ?_ | refine y8 ?_ _)); exact BK178.out⟩
      have n1_ : y0 ((((w34.setCell ⟨gb180,0,none⟩ (.int .i64 ((y25 l0_2 x8_1).f0))).setCell ⟨gb180,1,none⟩ (.int .i64 ((y25 l0_2 x8_1).f1))).setCell ⟨gb180,2,none⟩ (.bool ((y25 l0_2 x8_1).f2))).heap[gb180]? = some (.cells #[.int .i64 ((y25 l0_2 x8_1).f0),.int .i64 ((y25 l0_2 x8_1).f1),.bool ((y25 l0_2 x8_1).f2)] 53 (0,0))) := ⟨by (with_reducible repeat (first | refine y12 ?_ _ | refine y11 ?_ | refine y8 ?_ _)); refine y16 (cs := #[.int .i64 ((y25 l0_2 x8_1).f0),.int .i64 ((y25 l0_2 x8_1).f1),.bool false]) ?_ 2 _ rfl; (with_reducible repeat (first | refine y12 ?_ _ | refine y11 ?_ | refine y8 ?_ _)); refine y16 (cs := #[.int .i64 ((y25 l0_2 x8_1).f0),.int .i64 0,.bool false]) ?_ 1 _ rfl; (with_reducible repeat (first | refine y12 ?_ _ | refine y11 ?_ | refine y8 ?_ _)); refine y16 (cs := #[.int .i64 0,.int .i64 0,.bool false]) ?_ 0 _ rfl; (with_reducible repeat (first | refine y12 ?_ _ | refine y11 ?_ | refine y8 ?_ _)); exact BK180.out⟩
      have n2_ : y0 (Below w.heap.size w (((w34.setCell ⟨gb180,0,none⟩ (.int .i64 ((y25 l0_2 x8_1).f0))).setCell ⟨gb180,1,none⟩ (.int .i64 ((y25 l0_2 x8_1).f1))).setCell ⟨gb180,2,none⟩ (.bool ((y25 l0_2 x8_1).f2)))) := ⟨qb⟩
      (try clear BK178)
      (try clear BK180)
      (try clear HB)
      generalize (((w34.setCell ⟨gb180,0,none⟩ (.int .i64 ((y25 l0_2 x8_1).f0))).setCell ⟨gb180,1,none⟩ (.int .i64 ((y25 l0_2 x8_1).f1))).setCell ⟨gb180,2,none⟩ (.bool ((y25 l0_2 x8_1).f2))) = w37 at n0_ n1_ n2_ ⊢
      have BK178 := n0_
      have BK180 := n1_
      have HB := n2_
      clear n0_ n1_ n2_
      replace BK178 := y0.mk (y11 BK178.out)
      replace BK180 := y0.mk (y11 BK180.out)
      replace HB := y0.mk (y4 HB.out)
      refine start_ (n := 25) (S := fun w' => w'.cell? ⟨gb180,0,none⟩ = some (.int .i64 ((y25 l0_2 x8_1).f0)) ∧ w'.cell? ⟨gb180,1,none⟩ = some (.int .i64 ((y25 l0_2 x8_1).f1)) ∧ w'.cell? ⟨gb180,2,none⟩ = some (.bool ((y25 l0_2 x8_1).f2))) (ds := []) (fl_ 25 0) (by kernel_rfl) rfl rfl ⟨(y10 BK180.out 0).trans rfl,(y10 BK180.out 1).trans rfl,(y10 BK180.out 2).trans rfl⟩ (fun hHeld => ?_); refine with_tabW impl_isGraph.tab4 impl_isGraph.bits4 (fun HT_ HW_ => ?_)
      generalize w37.drew = w38 at BK178 BK180 HB hHeld ⊢
      refine qp 0 13 (fl_ 25 1) ?_
      refine qt 1 14 (fl_ 25 3) hHeld ?_
      refine one_ (i := 2) (N := some 15) (fl_ 25 7) rfl rfl (one_of HT_.out (by kernel_rfl)) (by decide) (fun K hK => ?_)
      refine goes_ Try.func42 (by kernel_rfl) rfl #[.int .i64 ((y25 l0_2 x8_1).f0),.int .i64 0,.int .i64 5] (by rfl) rfl rfl qy0 ?_
      with_reducible refine (impl_in.calls ((y25 l0_2 x8_1).f0) 0 5 true _ A7.out).mono ?_
      rintro e w' ⟨rfl,⟨nd,rfl⟩⟩
      refine ⟨_,rfl, ?_⟩
      refine hK.out _ _ ⟨(y10 BK180.out 0).trans rfl,(y10 BK180.out 1).trans rfl,(y10 BK180.out 2).trans rfl⟩ (fun hHeld => ?_)
      clear hK K
      refine norm_ (a' := ?_) ?_ ?_
      rotate_left
      ·show Act.put _ (some 15) _ = _
       simp only [Act.put,qS_,qZ_,qC_,i64_w,i32_w]
       rfl
      refine qp 3 16 (fl_ 25 15) ?_
      refine qp 4 17 (fl_ 25 31) ?_
      refine qp 5 18 (fl_ 25 63) ?_
      refine qt 6 19 (fl_ 25 127) hHeld ?_
      refine one_ (i := 7) (N := some 20) (fl_ 25 255) rfl rfl (one_of HT_.out (by kernel_rfl)) (by decide) (fun K hK => ?_)
      refine goes_ Try.func42 (by kernel_rfl) rfl #[.int .i64 ((y25 l0_2 x8_1).f1),.int .i64 0,.int .i64 5] (by rfl) rfl rfl qy0 ?_
      with_reducible refine (impl_in.calls ((y25 l0_2 x8_1).f1) 0 5 false _ A9.out).mono ?_
      rintro e w' ⟨rfl,⟨nd,rfl⟩⟩
      refine ⟨_,rfl, ?_⟩
      refine hK.out _ _ ⟨(y10 BK180.out 0).trans rfl,(y10 BK180.out 1).trans rfl,(y10 BK180.out 2).trans rfl⟩ (fun hHeld => ?_)
      clear hK K
      refine norm_ (a' := ?_) ?_ ?_
      rotate_left
      ·show Act.put _ (some 20) _ = _
       simp only [Act.put,qS_,qZ_,qC_,i64_w,i32_w]
       rfl
      refine qp 8 21 (fl_ 25 511) ?_
      refine qp 9 22 (fl_ 25 1023) ?_
      refine qp 10 23 (fl_ 25 2047) ?_
      refine pure_ (i := 11) (N := some 24) (v := undef) (a' := ?_) (fl_ 25 4095) rfl rfl (any_of HT_.out (by kernel_rfl)) (fun _ _ _ h => h) (Or.inr ⟨by rfl,rfl⟩) ?_ ?_
      rotate_left
      ·simp only [Act.put,qS_,qZ_,qC_,i64_w,i32_w]
       rfl
      refine pure_ (i := 12) (N := some 25) (v := undef) (a' := ?_) (fl_ 25 8191) rfl rfl (any_of HT_.out (by kernel_rfl)) (fun _ _ _ h => h) (Or.inr ⟨by rfl,rfl⟩) ?_ ?_
      rotate_left
      ·simp only [Act.put,qS_,qZ_,qC_,i64_w,i32_w]
       rfl
      refine pure_ (i := 13) (N := some 26) (v := undef) (a' := ?_) (fl_ 25 16383) rfl rfl (any_of HT_.out (by kernel_rfl)) (fun _ _ _ h => h) (Or.inr ⟨by rfl,rfl⟩) ?_ ?_
      rotate_left
      ·simp only [Act.put,qS_,qZ_,qC_,i64_w,i32_w]
       rfl
      refine pure_ (i := 14) (N := some 27) (v := undef) (a' := ?_) (fl_ 25 32767) rfl rfl (any_of HT_.out (by kernel_rfl)) (fun _ _ _ h => h) (Or.inr ⟨by rfl,rfl⟩) ?_ ?_
      rotate_left
      ·simp only [Act.put,qS_,qZ_,qC_,i64_w,i32_w]
       rfl
      refine pure_ (i := 15) (N := some 28) (v := undef) (a' := ?_) (fl_ 25 65535) rfl rfl (any_of HT_.out (by kernel_rfl)) (fun _ _ _ h => h) (Or.inr ⟨by rfl,rfl⟩) ?_ ?_
      rotate_left
      ·simp only [Act.put,qS_,qZ_,qC_,i64_w,i32_w]
       rfl
      refine pure_ (i := 16) (N := some 29) (v := undef) (a' := ?_) (fl_ 25 131071) rfl rfl (any_of HT_.out (by kernel_rfl)) (fun _ _ _ h => h) (Or.inr ⟨by rfl,rfl⟩) ?_ ?_
      rotate_left
      ·simp only [Act.put,qS_,qZ_,qC_,i64_w,i32_w]
       rfl
      refine pure_ (i := 17) (N := some 30) (v := undef) (a' := ?_) (fl_ 25 262143) rfl rfl (any_of HT_.out (by kernel_rfl)) (fun _ _ _ h => h) (Or.inr ⟨by rfl,rfl⟩) ?_ ?_
      rotate_left
      ·simp only [Act.put,qS_,qZ_,qC_,i64_w,i32_w]
       rfl
      refine pure_ (i := 18) (N := some 31) (v := undef) (a' := ?_) (fl_ 25 524287) rfl rfl (any_of HT_.out (by kernel_rfl)) (fun _ _ _ h => h) (Or.inr ⟨by rfl,rfl⟩) ?_ ?_
      rotate_left
      ·simp only [Act.put,qS_,qZ_,qC_,i64_w,i32_w]
       rfl
      refine pure_ (i := 19) (N := some 32) (v := undef) (a' := ?_) (fl_ 25 1048575) rfl rfl (any_of HT_.out (by kernel_rfl)) (fun _ _ _ h => h) (Or.inr ⟨by rfl,rfl⟩) ?_ ?_
      rotate_left
      ·simp only [Act.put,qS_,qZ_,qC_,i64_w,i32_w]
       rfl
      refine pure_ (i := 20) (N := some 33) (v := undef) (a' := ?_) (fl_ 25 2097151) rfl rfl (any_of HT_.out (by kernel_rfl)) (fun _ _ _ h => h) (Or.inr ⟨by rfl,rfl⟩) ?_ ?_
      rotate_left
      ·simp only [Act.put,qS_,qZ_,qC_,i64_w,i32_w]
       rfl
      refine pure_ (i := 21) (N := some 34) (v := undef) (a' := ?_) (fl_ 25 4194303) rfl rfl (any_of HT_.out (by kernel_rfl)) (fun _ _ _ h => h) (Or.inr ⟨by rfl,rfl⟩) ?_ ?_
      rotate_left
      ·simp only [Act.put,qS_,qZ_,qC_,i64_w,i32_w]
       rfl
      refine pure_ (i := 22) (N := some 35) (v := undef) (a' := ?_) (fl_ 25 8388607) rfl rfl (any_of HT_.out (by kernel_rfl)) (fun _ _ _ h => h) (Or.inr ⟨by rfl,rfl⟩) ?_ ?_
      rotate_left
      ·simp only [Act.put,qS_,qZ_,qC_,i64_w,i32_w]
       rfl
      refine pure_ (i := 23) (N := some 36) (v := undef) (a' := ?_) (fl_ 25 16777215) rfl rfl (any_of HT_.out (by kernel_rfl)) (fun _ _ _ h => h) (Or.inr ⟨by rfl,rfl⟩) ?_ ?_
      rotate_left
      ·simp only [Act.put,qS_,qZ_,qC_,i64_w,i32_w]
       rfl
      refine qp 24 37 (fl_ 25 33554431) ?_
      refine done_ (done_of HT_.out (by kernel_rfl)) ?_
      try go_wp2
      go_ret
      exact ⟨by first | rfl | (simp [y17,y18] <;> rfl) | (simp [*,y17,y18] <;> rfl),qb⟩
    ·replace c8 := Bool.eq_false_iff.mpr c8
     subst c8
     replace H := qF H
     obtain rfl := Option.some.inj H
     have p179 : 0 ≤ (x8_1 : Int) := of_decide_eq_true qy1
     have q179 : x8_1 < (l0_2.length : Int) := of_decide_eq_true qy1
     obtain ⟨ad179,e179,hx179_0,hx179_1,hx179_2⟩ := at_T53 HR0_2.out x8_1 p179 q179
     cases e179
     replace hx179_0 := (HB.out.cell (World.block_lt_of_cell? w _ hx179_0)).trans hx179_0
     replace hx179_1 := (HB.out.cell (World.block_lt_of_cell? w _ hx179_1)).trans hx179_1
     replace hx179_2 := (HB.out.cell (World.block_lt_of_cell? w _ hx179_2)).trans hx179_2
     replace p179 := eq_true p179
     replace q179 := eq_true q179
     try go_wp2_with (first | ((with_reducible refine y20 (N := 4) rfl ?_); refine qe 4 #[.int .i64 0,.int .i64 0,.bool false] 53 ?_; intro gb180 hg w39 hbox hb; have BK180 := y0.mk (hbox); have GW180 := y0.mk (qg (w := w) hg); have GE180 := y0.mk (qg (w := w) hg); replace HB := y0.mk (y7 qb hb); have NB178_180 := y0.mk (qn BK178.out hg); have NB180_178 := y0.mk (qm BK178.out hg); replace BK178 := y0.mk (qK BK178.out hb); clear hb hbox hg; have hnb40 := NB180_178.out; have hnc40 := NB178_180.out; obtain ⟨hcz41_0,hcz41_1,hcz41_2,hfz41_0,hfz41_1,hfz41_2⟩ := qz3 BK180.out))
     have n0_ : y0 ((((w39.setCell ⟨gb180,0,none⟩ (.int .i64 ((y25 l0_2 x8_1).f0))).setCell ⟨gb180,1,none⟩ (.int .i64 ((y25 l0_2 x8_1).f1))).setCell ⟨gb180,2,none⟩ (.bool ((y25 l0_2 x8_1).f2))).heap[gb178]? = some (.cells #[.int .i64 a0_0,.int .i64 a0_1,.slice (some ad179) l0_2.length c0_2] 28 (0,0))) := ⟨by (with_reducible repeat (first | refine y12 ?_ _ | refine y11 ?_ | refine y8 ?_ _)); refine y13 ?_ NB178_180.out _; (with_reducible repeat (first | refine y12 ?_ _ | refine y11 ?_ | refine y8 ?_ _)); refine y13 ?_ NB178_180.out _; (with_reducible repeat (first | refine y12 ?_ _ | refine y11 ?_ | refine y8 ?_ _)); refine y13 ?_ NB178_180.out _; (with_reducible repeat (first | refine y12 ?_ _ | refine y11 ?_ | refine y8 ?_ _)); exact BK178.out⟩
     have n1_ : y0 ((((w39.setCell ⟨gb180,0,none⟩ (.int .i64 ((y25 l0_2 x8_1).f0))).setCell ⟨gb180,1,none⟩ (.int .i64 ((y25 l0_2 x8_1).f1))).setCell ⟨gb180,2,none⟩ (.bool ((y25 l0_2 x8_1).f2))).heap[gb180]? = some (.cells #[.int .i64 ((y25 l0_2 x8_1).f0),.int .i64 ((y25 l0_2 x8_1).f1),.bool ((y25 l0_2 x8_1).f2)] 53 (0,0))) := ⟨by (with_reducible repeat (first | refine y12 ?_ _ | refine y11 ?_ | refine y8 ?_ _)); refine y16 (cs := #[.int .i64 ((y25 l0_2 x8_1).f0),.int .i64 ((y25 l0_2 x8_1).f1),.bool false]) ?_ 2 _ rfl; (with_reducible repeat (first | refine y12 ?_ _ | refine y11 ?_ | refine y8 ?_ _)); refine y16 (cs := #[.int .i64 ((y25 l0_2 x8_1).f0),.int .i64 0,.bool false]) ?_ 1 _ rfl; (with_reducible repeat (first | refine y12 ?_ _ | refine y11 ?_ | refine y8 ?_ _)); refine y16 (cs := #[.int .i64 0,.int .i64 0,.bool false]) ?_ 0 _ rfl; (with_reducible repeat (first | refine y12 ?_ _ | refine y11 ?_ | refine y8 ?_ _)); exact BK180.out⟩
     have n2_ : y0 (Below w.heap.size w (((w39.setCell ⟨gb180,0,none⟩ (.int .i64 ((y25 l0_2 x8_1).f0))).setCell ⟨gb180,1,none⟩ (.int .i64 ((y25 l0_2 x8_1).f1))).setCell ⟨gb180,2,none⟩ (.bool ((y25 l0_2 x8_1).f2)))) := ⟨qb⟩
     (try clear BK178)
     (try clear BK180)
     (try clear HB)
     generalize (((w39.setCell ⟨gb180,0,none⟩ (.int .i64 ((y25 l0_2 x8_1).f0))).setCell ⟨gb180,1,none⟩ (.int .i64 ((y25 l0_2 x8_1).f1))).setCell ⟨gb180,2,none⟩ (.bool ((y25 l0_2 x8_1).f2))) = w42 at n0_ n1_ n2_ ⊢
     have BK178 := n0_
     have BK180 := n1_
     have HB := n2_
     clear n0_ n1_ n2_
     replace BK178 := y0.mk (y11 BK178.out)
     replace BK180 := y0.mk (y11 BK180.out)
     replace HB := y0.mk (y4 HB.out)
     refine start_ (n := 25) (S := fun w' => w'.cell? ⟨gb180,0,none⟩ = some (.int .i64 ((y25 l0_2 x8_1).f0)) ∧ w'.cell? ⟨gb180,1,none⟩ = some (.int .i64 ((y25 l0_2 x8_1).f1)) ∧ w'.cell? ⟨gb180,2,none⟩ = some (.bool ((y25 l0_2 x8_1).f2))) (ds := []) (fl_ 25 0) (by kernel_rfl) rfl rfl ⟨(y10 BK180.out 0).trans rfl,(y10 BK180.out 1).trans rfl,(y10 BK180.out 2).trans rfl⟩ (fun hHeld => ?_); refine with_tabW impl_isGraph.tab4 impl_isGraph.bits4 (fun HT_ HW_ => ?_)
     generalize w42.drew = w43 at BK178 BK180 HB hHeld ⊢
     refine qp 0 13 (fl_ 25 1) ?_
     refine qt 1 14 (fl_ 25 3) hHeld ?_
     refine one_ (i := 2) (N := some 15) (fl_ 25 7) rfl rfl (one_of HT_.out (by kernel_rfl)) (by decide) (fun K hK => ?_)
     refine goes_ Try.func42 (by kernel_rfl) rfl #[.int .i64 ((y25 l0_2 x8_1).f0),.int .i64 0,.int .i64 5] (by rfl) rfl rfl qy0 ?_
     with_reducible refine (impl_in.calls ((y25 l0_2 x8_1).f0) 0 5 false _ A7.out).mono ?_
     rintro e w' ⟨rfl,⟨nd,rfl⟩⟩
     refine ⟨_,rfl, ?_⟩
     refine hK.out _ _ ⟨(y10 BK180.out 0).trans rfl,(y10 BK180.out 1).trans rfl,(y10 BK180.out 2).trans rfl⟩ (fun hHeld => ?_)
     clear hK K
     refine norm_ (a' := ?_) ?_ ?_
     rotate_left
     ·show Act.put _ (some 15) _ = _
      simp only [Act.put,qS_,qZ_,qC_,i64_w,i32_w]
      rfl
     refine qp 3 16 (fl_ 25 15) ?_
     refine qp 4 17 (fl_ 25 31) ?_
     refine pure_ (i := 5) (N := some 18) (v := undef) (a' := ?_) (fl_ 25 63) rfl rfl (any_of HT_.out (by kernel_rfl)) (fun _ _ _ h => h) (Or.inr ⟨by rfl,rfl⟩) ?_ ?_
     rotate_left
     ·simp only [Act.put,qS_,qZ_,qC_,i64_w,i32_w]
      rfl
     refine pure_ (i := 6) (N := some 19) (v := undef) (a' := ?_) (fl_ 25 127) rfl rfl (any_of HT_.out (by kernel_rfl)) (fun _ _ _ h => h) (Or.inr ⟨by rfl,rfl⟩) ?_ ?_
     rotate_left
     ·simp only [Act.put,qS_,qZ_,qC_,i64_w,i32_w]
      rfl
     refine pure_ (i := 7) (N := some 20) (v := undef) (a' := ?_) (fl_ 25 255) rfl rfl (any_of HT_.out (by kernel_rfl)) (fun _ _ _ h => h) (Or.inr ⟨by rfl,rfl⟩) ?_ ?_
     rotate_left
     ·simp only [Act.put,qS_,qZ_,qC_,i64_w,i32_w]
      rfl
     refine pure_ (i := 8) (N := some 21) (v := undef) (a' := ?_) (fl_ 25 511) rfl rfl (any_of HT_.out (by kernel_rfl)) (fun _ _ _ h => h) (Or.inr ⟨by rfl,rfl⟩) ?_ ?_
     rotate_left
     ·simp only [Act.put,qS_,qZ_,qC_,i64_w,i32_w]
      rfl
     refine qp 9 22 (fl_ 25 1023) ?_
     refine qp 10 23 (fl_ 25 2047) ?_
     refine pure_ (i := 11) (N := some 24) (v := undef) (a' := ?_) (fl_ 25 4095) rfl rfl (any_of HT_.out (by kernel_rfl)) (fun _ _ _ h => h) (Or.inr ⟨by rfl,rfl⟩) ?_ ?_
     rotate_left
     ·simp only [Act.put,qS_,qZ_,qC_,i64_w,i32_w]
      rfl
     refine pure_ (i := 12) (N := some 25) (v := undef) (a' := ?_) (fl_ 25 8191) rfl rfl (any_of HT_.out (by kernel_rfl)) (fun _ _ _ h => h) (Or.inr ⟨by rfl,rfl⟩) ?_ ?_
     rotate_left
     ·simp only [Act.put,qS_,qZ_,qC_,i64_w,i32_w]
      rfl
     refine pure_ (i := 13) (N := some 26) (v := undef) (a' := ?_) (fl_ 25 16383) rfl rfl (any_of HT_.out (by kernel_rfl)) (fun _ _ _ h => h) (Or.inr ⟨by rfl,rfl⟩) ?_ ?_
     rotate_left
     ·simp only [Act.put,qS_,qZ_,qC_,i64_w,i32_w]
      rfl
     refine pure_ (i := 14) (N := some 27) (v := undef) (a' := ?_) (fl_ 25 32767) rfl rfl (any_of HT_.out (by kernel_rfl)) (fun _ _ _ h => h) (Or.inr ⟨by rfl,rfl⟩) ?_ ?_
     rotate_left
     ·simp only [Act.put,qS_,qZ_,qC_,i64_w,i32_w]
      rfl
     refine pure_ (i := 15) (N := some 28) (v := undef) (a' := ?_) (fl_ 25 65535) rfl rfl (any_of HT_.out (by kernel_rfl)) (fun _ _ _ h => h) (Or.inr ⟨by rfl,rfl⟩) ?_ ?_
     rotate_left
     ·simp only [Act.put,qS_,qZ_,qC_,i64_w,i32_w]
      rfl
     refine pure_ (i := 16) (N := some 29) (v := undef) (a' := ?_) (fl_ 25 131071) rfl rfl (any_of HT_.out (by kernel_rfl)) (fun _ _ _ h => h) (Or.inr ⟨by rfl,rfl⟩) ?_ ?_
     rotate_left
     ·simp only [Act.put,qS_,qZ_,qC_,i64_w,i32_w]
      rfl
     refine pure_ (i := 17) (N := some 30) (v := undef) (a' := ?_) (fl_ 25 262143) rfl rfl (any_of HT_.out (by kernel_rfl)) (fun _ _ _ h => h) (Or.inr ⟨by rfl,rfl⟩) ?_ ?_
     rotate_left
     ·simp only [Act.put,qS_,qZ_,qC_,i64_w,i32_w]
      rfl
     refine pure_ (i := 18) (N := some 31) (v := undef) (a' := ?_) (fl_ 25 524287) rfl rfl (any_of HT_.out (by kernel_rfl)) (fun _ _ _ h => h) (Or.inr ⟨by rfl,rfl⟩) ?_ ?_
     rotate_left
     ·simp only [Act.put,qS_,qZ_,qC_,i64_w,i32_w]
      rfl
     refine pure_ (i := 19) (N := some 32) (v := undef) (a' := ?_) (fl_ 25 1048575) rfl rfl (any_of HT_.out (by kernel_rfl)) (fun _ _ _ h => h) (Or.inr ⟨by rfl,rfl⟩) ?_ ?_
     rotate_left
     ·simp only [Act.put,qS_,qZ_,qC_,i64_w,i32_w]
      rfl
     refine pure_ (i := 20) (N := some 33) (v := undef) (a' := ?_) (fl_ 25 2097151) rfl rfl (any_of HT_.out (by kernel_rfl)) (fun _ _ _ h => h) (Or.inr ⟨by rfl,rfl⟩) ?_ ?_
     rotate_left
     ·simp only [Act.put,qS_,qZ_,qC_,i64_w,i32_w]
      rfl
     refine pure_ (i := 21) (N := some 34) (v := undef) (a' := ?_) (fl_ 25 4194303) rfl rfl (any_of HT_.out (by kernel_rfl)) (fun _ _ _ h => h) (Or.inr ⟨by rfl,rfl⟩) ?_ ?_
     rotate_left
     ·simp only [Act.put,qS_,qZ_,qC_,i64_w,i32_w]
      rfl
     refine pure_ (i := 22) (N := some 35) (v := undef) (a' := ?_) (fl_ 25 8388607) rfl rfl (any_of HT_.out (by kernel_rfl)) (fun _ _ _ h => h) (Or.inr ⟨by rfl,rfl⟩) ?_ ?_
     rotate_left
     ·simp only [Act.put,qS_,qZ_,qC_,i64_w,i32_w]
      rfl
     refine pure_ (i := 23) (N := some 36) (v := undef) (a' := ?_) (fl_ 25 16777215) rfl rfl (any_of HT_.out (by kernel_rfl)) (fun _ _ _ h => h) (Or.inr ⟨by rfl,rfl⟩) ?_ ?_
     rotate_left
     ·simp only [Act.put,qS_,qZ_,qC_,i64_w,i32_w]
      rfl
     refine qp 24 37 (fl_ 25 33554431) ?_
     refine done_ (done_of HT_.out (by kernel_rfl)) ?_
     try go_wp2
     go_ret
     exact ⟨by first | rfl | (simp [y17,y18] <;> rfl) | (simp [*,y17,y18] <;> rfl),qb⟩
   ·rw [if_neg c4] at H
    have c4b0 := decide_eq_false c4
    clear c4
    obtain rfl := Option.some.inj H
    go_wp2
    go_ret
    exact ⟨by first | rfl | (simp [y17,y18] <;> rfl) | (simp [*,y17,y18] <;> rfl),qb⟩
end Go.Proofs.Ytcckpjflbfofjaa.Pd
end

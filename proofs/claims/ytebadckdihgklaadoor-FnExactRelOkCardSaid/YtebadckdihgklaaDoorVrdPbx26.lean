-- Cut by prune.py, a program of this session, out of the texts of this claim: Lean checks it.
import Derived.Test.YtebadckdihgklaaDoorVrdPbx0
import Derived.Test.YtebadckdihgklaaDoorVrdPbx7
section
namespace Go.Proofs.YtebadckdihgklaaDoor.Pb
open Go.RowKit Go.Proofs.YtebadckdihgklaaDoorW.PrintWords Go.Proofs.YtebadckdihgklaaDoorW.PrintLast Go.Proofs.YtebadckdihgklaaDoorW.PrintMore
attribute [local go_sem] max2_int min2_int max_two min_two max_three min_three max_four min_four   -- for this text's walks alone
set_option linter.unusedVariables false
set_option linter.unusedSimpArgs false
mutual
def spec_l01Cmp.l0 : Nat → List ByteArray → List ByteArray → Int → Option (Int)
 | 0,_,_,_ => none
 | k + 1,x12,x14,x15 => if x15 < (x12.length : Int) then (if 0 ≤ x15 then (if x15 < (x14.length : Int) then ((spec_l01Cmp.f k (rdOf ByteArray.empty x12 x15) (rdOf ByteArray.empty x14 x15)).bind fun t569 => (if t569 = 0 then (spec_l01Cmp.l0 k x12 x14 (wrap64 (x15 + 1))) else (some t569))) else (none)) else (none)) else (some 0)
def spec_l01Cmp.f : Nat → ByteArray → ByteArray → Option (Int)
 | 0,_,_ => none
 | k + 1,a0,a1 => (z3_.f k a0).bind fun t548 => ((z3_.f k a1).bind fun t549 => (if t548 = t549 then (if t548 = 1 then ((z5_.f k a0).bind fun bt551 => ((z5_.f k a1).bind fun bt553 => ((spec_l01Sign.f (wrap64 (bt551.1 - bt553.1))).bind fun t555 => (some t555)))) else (if t548 = 2 then (if 1 ≤ (wrap64 ((a0.size : Int) - 1)) then (if (wrap64 ((a0.size : Int) - 1)) ≤ (a0.size : Int) then (if 1 ≤ (wrap64 ((a1.size : Int) - 1)) then (if (wrap64 ((a1.size : Int) - 1)) ≤ (a1.size : Int) then ((spec_l01Texts.f (a0.extract 1 ((wrap64 ((a0.size : Int) - 1)) : Int).toNat) (a1.extract 1 ((wrap64 ((a1.size : Int) - 1)) : Int).toNat)).bind fun t556 => (some t556)) else (none)) else (none)) else (none)) else (none)) else ((spec_TermParts.f k a0).bind fun bt557 => ((spec_TermParts.f k a1).bind fun bt561 => (if bt557.1.toList = bt561.1.toList then (if (bt557.2.length : Int) = (bt561.2.length : Int) then (spec_l01Cmp.l0 k bt557.2 bt561.2 0) else ((spec_l01Sign.f (wrap64 ((bt557.2.length : Int) - (bt561.2.length : Int)))).bind fun t566 => (some t566))) else ((spec_l01Texts.f bt557.1 bt561.1).bind fun t565 => (some t565))))))) else ((spec_l01Sign.f (wrap64 (t548 - t549))).bind fun t550 => (some t550))))
end
def spec_l01Cmp.T10 : Bool × List (List Nat × List Nat) := (true,[([],[]),([],[]),([1],[1]),([2],[2]),([0,3],[0,3]),([],[]),([],[]),([6],[6]),([7],[7]),([5,8],[5,8]),([4,9],[4,9]),([10,10,0,1,2,3,4,5,6,7,8,9,10],[10])])
def spec_l01Cmp.B10 : List Nat := [0,0,2,6,15,0,0,64,192,480,1023,2047]
theorem spec_l01Cmp.tab10 : rtab .any (opsOf Tryd.f91 10) = spec_l01Cmp.T10 := by kernel_rfl
theorem spec_l01Cmp.bits10 : waitsOk spec_l01Cmp.T10.2 spec_l01Cmp.B10 = true := by kernel_rfl
def spec_l01Cmp.T20 : Bool × List (List Nat × List Nat) := (true,[([],[]),([],[]),([0,1],[0,1]),([2],[2]),([],[]),([],[]),([4,5],[4,5]),([6],[6]),([3,7],[3,7]),([8,8,0,1,2,3,4,5,6,7,8],[8])])
def spec_l01Cmp.B20 : List Nat := [0,0,3,7,0,0,48,112,255,511]
theorem spec_l01Cmp.tab20 : rtab .any (opsOf Tryd.f91 20) = spec_l01Cmp.T20 := by kernel_rfl
theorem spec_l01Cmp.bits20 : waitsOk spec_l01Cmp.T20.2 spec_l01Cmp.B20 = true := by kernel_rfl
set_option maxHeartbeats 8000000 in
set_option maxRecDepth 100000 in
theorem spec_l01Cmp.calls (k : Nat) : ∀ (a0 : ByteArray) (a1 : ByteArray) (r : Int) (w : World) (h : spec_l01Cmp.f k a0 a1 = some r),
  Calls Tryd.prog 91 #[.string a0,.string a1] w fun e w' => e = .returned (.int .i64 r) ∧ Below w.heap.size w w' := by
 induction k using Nat.strongRecOn with
 | _ k ih =>
 intro a0 a1 r w h
 cases k with
 | zero => exact absurd h (by simp [spec_l01Cmp.f])
 | succ k =>
 simp only [spec_l01Cmp.f] at h
 have HB := y0.mk (Below.refl w.heap.size w)
 have H : ((z3_.f k a0).bind fun t548 => ((z3_.f k a1).bind fun t549 => (if t548 = t549 then (if t548 = 1 then ((z5_.f k a0).bind fun bt551 => ((z5_.f k a1).bind fun bt553 => ((spec_l01Sign.f (wrap64 (bt551.1 - bt553.1))).bind fun t555 => (some t555)))) else (if t548 = 2 then (if 1 ≤ (wrap64 ((a0.size : Int) - 1)) then (if (wrap64 ((a0.size : Int) - 1)) ≤ (a0.size : Int) then (if 1 ≤ (wrap64 ((a1.size : Int) - 1)) then (if (wrap64 ((a1.size : Int) - 1)) ≤ (a1.size : Int) then ((spec_l01Texts.f (a0.extract 1 ((wrap64 ((a0.size : Int) - 1)) : Int).toNat) (a1.extract 1 ((wrap64 ((a1.size : Int) - 1)) : Int).toNat)).bind fun t556 => (some t556)) else (none)) else (none)) else (none)) else (none)) else ((spec_TermParts.f k a0).bind fun bt557 => ((spec_TermParts.f k a1).bind fun bt561 => (if bt557.1.toList = bt561.1.toList then (if (bt557.2.length : Int) = (bt561.2.length : Int) then (spec_l01Cmp.l0 k bt557.2 bt561.2 0) else ((spec_l01Sign.f (wrap64 ((bt557.2.length : Int) - (bt561.2.length : Int)))).bind fun t566 => (some t566))) else ((spec_l01Texts.f bt557.1 bt561.1).bind fun t565 => (some t565))))))) else ((spec_l01Sign.f (wrap64 (t548 - t549))).bind fun t550 => (some t550))))) = some r := h
 clear h
 obtain ⟨t548,A3,H⟩ := qB H
 obtain ⟨t549,A4,H⟩ := qB H
 by_cases c5 : t548 = t549
 ·rw [if_pos c5] at H
  have c5b0 : (t548 == t549) = true := beq_iff_eq.mpr c5
  have c5b1 : (t548 != t549) = false := bne_eq_false_iff_eq.mpr c5
  clear c5
  by_cases c6 : t548 = 1
  ·rw [if_pos c6] at H
   have c6b0 : (t548 == 1) = true := beq_iff_eq.mpr c6
   have c6b1 : (t548 != 1) = false := bne_eq_false_iff_eq.mpr c6
   clear c6
   obtain ⟨⟨t551,t552⟩,A7,H⟩ := qB H
   replace H : ((z5_.f k a1).bind fun bt553 => ((spec_l01Sign.f (wrap64 (t551 - bt553.1))).bind fun t555 => (some t555))) = some r := H
   obtain ⟨⟨t553,t554⟩,A8,H⟩ := qB H
   replace H : ((spec_l01Sign.f (wrap64 (t551 - t553))).bind fun t555 => (some t555)) = some r := H
   obtain ⟨t555,A9,H⟩ := qB H
   obtain rfl := Option.some.inj H
   go_enter Tryd.func91,Tryd.ntmps91
   go_wp2_with (first | ((with_reducible refine y10 (f := 29) rfl ?_); refine y11 (some 18) rfl rfl Tryd.func29 (by kernel_rfl) rfl #[.string a0] rfl qy0 ?_; (with_reducible refine (z3_.calls k a0 t548 _ A3.out).mono ?_); rintro e w10 ⟨rfl,hb⟩; refine ⟨_,rfl, ?_⟩; replace HB := y0.mk (y5 qb hb); (try clear hb); (try clear hb2); (try clear hk); (try clear hi)) | ((with_reducible refine y10 (f := 29) rfl ?_); refine y11 (some 20) rfl rfl Tryd.func29 (by kernel_rfl) rfl #[.string a1] rfl qy0 ?_; (with_reducible refine (z3_.calls k a1 t549 _ A4.out).mono ?_); rintro e w11 ⟨rfl,hb⟩; refine ⟨_,rfl, ?_⟩; replace HB := y0.mk (y5 qb hb); (try clear hb); (try clear hb2); (try clear hk); (try clear hi)) | ((with_reducible refine y10 (f := 73) rfl ?_); refine y11 (some 33) rfl rfl Tryd.func73 (by kernel_rfl) rfl #[.string a0] rfl qy0 ?_; (with_reducible refine (z5_.calls k a0 t551 t552 _ A7.out).mono ?_); rintro e w12 ⟨rfl,hb⟩; refine ⟨_,rfl, ?_⟩; replace HB := y0.mk (y5 qb hb); (try clear hb); (try clear hb2); (try clear hk); (try clear hi)) | ((with_reducible refine y10 (f := 73) rfl ?_); refine y11 (some 38) rfl rfl Tryd.func73 (by kernel_rfl) rfl #[.string a1] rfl qy0 ?_; (with_reducible refine (z5_.calls k a1 t553 t554 _ A8.out).mono ?_); rintro e w13 ⟨rfl,hb⟩; refine ⟨_,rfl, ?_⟩; replace HB := y0.mk (y5 qb hb); (try clear hb); (try clear hb2); (try clear hk); (try clear hi)) | ((with_reducible refine y10 (f := 112) rfl ?_); refine y11 (some 44) rfl rfl Tryd.func112 (by kernel_rfl) rfl #[.int .i64 (wrap64 (t551 - t553))] rfl qy0 ?_; (with_reducible refine (spec_l01Sign.calls (wrap64 (t551 - t553)) t555 _ A9.out).mono ?_); rintro e w' ⟨rfl,⟨nd,rfl⟩⟩; refine ⟨_,rfl, ?_⟩))
   go_ret
   exact ⟨by first | rfl | (simp [y8,y9] <;> rfl) | (simp [*,y8,y9] <;> rfl),qb⟩
  ·rw [if_neg c6] at H
   have c6b0 : (t548 == 1) = false := beq_eq_false_iff_ne.mpr c6
   have c6b1 : (t548 != 1) = true := bne_iff_ne.mpr c6
   by_cases c14 : t548 = 2
   ·rw [if_pos c14] at H
    have c14b0 : (t548 == 2) = true := beq_iff_eq.mpr c14
    have c14b1 : (t548 != 2) = false := bne_eq_false_iff_eq.mpr c14
    clear c14
    obtain ⟨c15,H⟩ := qo H
    have c15b0 := eq_true c15
    have c15b1 := decide_eq_true c15
    clear c15
    obtain ⟨c16,H⟩ := qo H
    have c16b0 := eq_true c16
    have c16b1 := decide_eq_true c16
    clear c16
    obtain ⟨c17,H⟩ := qo H
    have c17b0 := eq_true c17
    have c17b1 := decide_eq_true c17
    clear c17
    obtain ⟨c18,H⟩ := qo H
    have c18b0 := eq_true c18
    have c18b1 := decide_eq_true c18
    clear c18
    obtain ⟨t556,A19,H⟩ := qB H
    obtain rfl := Option.some.inj H
    go_enter Tryd.func91,Tryd.ntmps91
    try go_wp2_with (first | ((with_reducible refine y10 (f := 29) rfl ?_); refine y11 (some 18) rfl rfl Tryd.func29 (by kernel_rfl) rfl #[.string a0] rfl qy0 ?_; (with_reducible refine (z3_.calls k a0 t548 _ A3.out).mono ?_); rintro e w20 ⟨rfl,hb⟩; refine ⟨_,rfl, ?_⟩; replace HB := y0.mk (y5 qb hb); (try clear hb); (try clear hb2); (try clear hk); (try clear hi)) | ((with_reducible refine y10 (f := 29) rfl ?_); refine y11 (some 20) rfl rfl Tryd.func29 (by kernel_rfl) rfl #[.string a1] rfl qy0 ?_; (with_reducible refine (z3_.calls k a1 t549 _ A4.out).mono ?_); rintro e w21 ⟨rfl,hb⟩; refine ⟨_,rfl, ?_⟩; replace HB := y0.mk (y5 qb hb); (try clear hb); (try clear hb2); (try clear hk); (try clear hi)))
    replace HB := y0.mk (y3 HB.out)
    refine start_ (n := 12) (S := fun w' => True) (ds := []) (fl_ 12 0) (by kernel_rfl) rfl rfl trivial (fun hHeld => ?_); refine with_tabW spec_l01Cmp.tab10 spec_l01Cmp.bits10 (fun HT_ HW_ => ?_)
    generalize w21.drew = w22 at HB hHeld ⊢
    refine qp 0 47 (fl_ 12 1) ?_
    refine qp 1 48 (fl_ 12 3) ?_
    refine qp 2 49 (fl_ 12 7) ?_
    refine qp 3 50 (fl_ 12 15) ?_
    refine qp 4 51 (fl_ 12 31) ?_
    refine qp 5 52 (fl_ 12 63) ?_
    refine qp 6 53 (fl_ 12 127) ?_
    refine qp 7 54 (fl_ 12 255) ?_
    refine qp 8 55 (fl_ 12 511) ?_
    refine qp 9 56 (fl_ 12 1023) ?_
    refine one_ (i := 10) (N := some 57) (fl_ 12 2047) rfl rfl (one_of HT_.out (by kernel_rfl)) (by decide) (fun K hK => ?_)
    refine goes_ Tryd.func113 (by kernel_rfl) rfl #[.string (a0.extract 1 ((wrap64 ((a0.size : Int) - 1)) : Int).toNat),.string (a1.extract 1 ((wrap64 ((a1.size : Int) - 1)) : Int).toNat)] (by rfl) rfl rfl qy0 ?_
    with_reducible refine (spec_l01Texts.calls (a0.extract 1 ((wrap64 ((a0.size : Int) - 1)) : Int).toNat) (a1.extract 1 ((wrap64 ((a1.size : Int) - 1)) : Int).toNat) t556 _ A19.out).mono ?_
    rintro e w' ⟨rfl,⟨nd,rfl⟩⟩
    refine ⟨_,rfl, ?_⟩
    refine hK.out _ _ trivial (fun hHeld => ?_)
    clear hK K
    refine norm_ (a' := ?_) ?_ ?_
    rotate_left
    ·show Act.put _ (some 57) _ = _
     simp only [Act.put,qS_,qZ_,qC_,y13,y12]
     rfl
    refine qp 11 4 (fl_ 12 4095) ?_
    refine done_ (done_of HT_.out (by kernel_rfl)) ?_
    try go_wp2
    go_ret
    exact ⟨by first | rfl | (simp [y8,y9] <;> rfl) | (simp [*,y8,y9] <;> rfl),qb⟩
   ·rw [if_neg c14] at H
    have c14b0 : (t548 == 2) = false := beq_eq_false_iff_ne.mpr c14
    have c14b1 : (t548 != 2) = true := bne_iff_ne.mpr c14
    obtain ⟨⟨t557,t558⟩,A23,H⟩ := qB H
    replace H : ((spec_TermParts.f k a1).bind fun bt561 => (if t557.toList = bt561.1.toList then (if (t558.length : Int) = (bt561.2.length : Int) then (spec_l01Cmp.l0 k t558 bt561.2 0) else ((spec_l01Sign.f (wrap64 ((t558.length : Int) - (bt561.2.length : Int)))).bind fun t566 => (some t566))) else ((spec_l01Texts.f t557 bt561.1).bind fun t565 => (some t565)))) = some r := H
    obtain ⟨⟨t561,t562⟩,A24,H⟩ := qB H
    replace H : (if t557.toList = t561.toList then (if (t558.length : Int) = (t562.length : Int) then (spec_l01Cmp.l0 k t558 t562 0) else ((spec_l01Sign.f (wrap64 ((t558.length : Int) - (t562.length : Int)))).bind fun t566 => (some t566))) else ((spec_l01Texts.f t557 t561).bind fun t565 => (some t565))) = some r := H
    by_cases c25 : t557.toList = t561.toList
    ·rw [if_pos c25] at H
     have c25b0 : (t557.toList == t561.toList) = true := beq_iff_eq.mpr c25
     have c25b1 : (t557.toList != t561.toList) = false := bne_eq_false_iff_eq.mpr c25
     clear c25
     by_cases c26 : (t558.length : Int) = (t562.length : Int)
     ·rw [if_pos c26] at H
      have c26b0 : ((t558.length : Int) == (t562.length : Int)) = true := beq_iff_eq.mpr c26
      have c26b1 : ((t558.length : Int) != (t562.length : Int)) = false := bne_eq_false_iff_eq.mpr c26
      have c26b2 : (t558.length == t562.length) = true := by first | simpa using c26 | (simp at c26 ⊢; omega)
      clear c26
      have H' := y0.mk H
      clear H
      go_enter Tryd.func91,Tryd.ntmps91
      go_wp2_with (first | ((with_reducible refine y10 (f := 29) rfl ?_); refine y11 (some 18) rfl rfl Tryd.func29 (by kernel_rfl) rfl #[.string a0] rfl qy0 ?_; (with_reducible refine (z3_.calls k a0 t548 _ A3.out).mono ?_); rintro e w27 ⟨rfl,hb⟩; refine ⟨_,rfl, ?_⟩; replace HB := y0.mk (y5 qb hb); (try clear hb); (try clear hb2); (try clear hk); (try clear hi)) | ((with_reducible refine y10 (f := 29) rfl ?_); refine y11 (some 20) rfl rfl Tryd.func29 (by kernel_rfl) rfl #[.string a1] rfl qy0 ?_; (with_reducible refine (z3_.calls k a1 t549 _ A4.out).mono ?_); rintro e w28 ⟨rfl,hb⟩; refine ⟨_,rfl, ?_⟩; replace HB := y0.mk (y5 qb hb); (try clear hb); (try clear hb2); (try clear hk); (try clear hi)) | ((with_reducible refine y10 (f := 44) rfl ?_); refine y11 (some 60) rfl rfl Tryd.func44 (by kernel_rfl) rfl #[.string a0] rfl qy0 ?_; (with_reducible refine (spec_TermParts.calls k a0 t557 t558 _ A23.out).mono ?_); rintro e w29 ⟨v559,rfl,ho0,hb⟩; refine ⟨_,rfl, ?_⟩; have HO560 := y0.mk (Kd.R_lower ho0 (y4 qb)); replace HB := y0.mk (y5 qb hb); (try clear hb); (try clear hb2); (try clear hk); (try clear hi); (try clear ho0)) | ((with_reducible refine y10 (f := 44) rfl ?_); refine y11 (some 65) rfl rfl Tryd.func44 (by kernel_rfl) rfl #[.string a1] rfl qy0 ?_; (with_reducible refine (spec_TermParts.calls k a1 t561 t562 _ A24.out).mono ?_); rintro e w30 ⟨v563,rfl,ho0,hb⟩; refine ⟨_,rfl, ?_⟩; have HO564 := y0.mk (Kd.R_lower (Kd.R_new' ho0 (Kd.R_lt (qR HO560.out))) (y4 qb)); replace HO560 := y0.mk (Kd.R_elder' (qR HO560.out) (Kd.R_base ho0) hb); replace HB := y0.mk (y5 qb hb); (try clear hb); (try clear hb2); (try clear hk); (try clear hi); (try clear ho0); obtain ⟨Ao31,co31,eo31⟩ := Kd.R_slice HO560.out; subst eo31; obtain ⟨Ao32,co32,eo32⟩ := Kd.R_slice HO564.out; subst eo32))
      go_loopg [15] k (fun kq v15 w' => ∃ (x15_1 : Int),v15 = .int .i64 x15_1 ∧ y0 (spec_l01Cmp.l0 kq t558 t562 x15_1 = some r) ∧ y0 (kq ≤ k) ∧ y0 (Kd.R Kd.string 9 w' w.heap.size (fun k_ => some k_ ≠ ((.slice Ao32 t562.length co32) : Value).ownBlock) (.slice Ao31 t558.length co31) t558) ∧ y0 (Kd.R Kd.string 9 w' w.heap.size (fun k_ => some k_ ≠ ((.slice Ao31 t558.length co31) : Value).ownBlock) (.slice Ao32 t562.length co32) t562) ∧ y0 (Below w.heap.size w w'))
      case atStart => exact ⟨(0),qy2,H',⟨Nat.le_refl _⟩,⟨qR (Kd.R_mono HO560.out (fun _ hk => hk.2))⟩,⟨qR (Kd.R_mono HO564.out (fun _ hk => hk.2))⟩,⟨qb⟩⟩
      case round =>
       clear H'
       (try clear c5b0 c5b1 c6b0 c6b1 c14b0 c14b1 c25b0 c25b1 c26b0 c26b1 c26b2)
       obtain ⟨x15_1,rfl,HA,HK1,HO_12,HO_14,HB⟩ := hrel
       cases gk with
       | zero => exact absurd HA.out (by simp [spec_l01Cmp.l0])
       | succ k1 =>
        have H := HA.out
        clear HA
        simp only [spec_l01Cmp.l0] at H
        by_cases c33 : x15_1 < (t558.length : Int)
        ·rw [if_pos c33] at H
         have c33b0 := decide_eq_true c33
         clear c33
         obtain ⟨c34,H⟩ := qo H
         have c34b0 : decide (0 ≤ x15_1) = true := decide_eq_true c34
         clear c34
         obtain ⟨c35,H⟩ := qo H
         have c35b0 : decide (x15_1 < (t562.length : Int)) = true := decide_eq_true c35
         clear c35
         obtain ⟨t569,A36,H⟩ := qB H
         by_cases c37 : t569 = 0
         ·rw [if_pos c37] at H
          have c37b0 : (t569 == 0) = true := beq_iff_eq.mpr c37
          have c37b1 : (t569 != 0) = false := bne_eq_false_iff_eq.mpr c37
          clear c37
          have H' := y0.mk H
          clear H
          try go_wp2
          replace HO_12 := y0.mk (Kd.R_drew HO_12.out)
          replace HO_14 := y0.mk (Kd.R_drew HO_14.out)
          replace HB := y0.mk (y3 HB.out)
          have p567 : 0 ≤ (x15_1 : Int) := of_decide_eq_true qy1
          have q567 : x15_1 < (t558.length : Int) := of_decide_eq_true qy1
          obtain ⟨ad567,e567,hx567_0⟩ := Kd.at_string (Kd.R_reads' HO_12.out).2.2 x15_1 p567 q567
          cases e567
          replace p567 := eq_true p567
          replace q567 := eq_true q567
          have p568 : 0 ≤ (x15_1 : Int) := of_decide_eq_true qy1
          have q568 : x15_1 < (t562.length : Int) := of_decide_eq_true qy1
          obtain ⟨ad568,e568,hx568_0⟩ := Kd.at_string (Kd.R_reads' HO_14.out).2.2 x15_1 p568 q568
          cases e568
          replace p568 := eq_true p568
          replace q568 := eq_true q568
          refine start_ (n := 10) (S := fun w' => w'.cell? (ad567.add (x15_1).toNat) = some (.string (rdOf ByteArray.empty t558 x15_1)) ∧ w'.cell? (ad568.add (x15_1).toNat) = some (.string (rdOf ByteArray.empty t562 x15_1))) (ds := []) (fl_ 10 0) (by kernel_rfl) rfl rfl ⟨hx567_0,hx568_0⟩ (fun hHeld => ?_); refine with_tabW spec_l01Cmp.tab20 spec_l01Cmp.bits20 (fun HT_ HW_ => ?_)
          generalize wr.drew = w38 at HO_12 HO_14 HB hx567_0 hx568_0 hHeld ⊢
          refine qp 0 91 (fl_ 10 1) ?_
          refine qp 1 92 (fl_ 10 3) ?_
          refine qp 2 93 (fl_ 10 7) ?_
          refine qp 4 95 (fl_ 10 23) ?_
          refine qp 5 96 (fl_ 10 55) ?_
          refine qp 6 97 (fl_ 10 119) ?_
          refine qt 3 94 (fl_ 10 127) hHeld ?_
          refine qt 7 98 (fl_ 10 255) hHeld ?_
          refine one_ (i := 8) (N := some 99) (fl_ 10 511) rfl rfl (one_of HT_.out (by kernel_rfl)) (by decide) (fun K hK => ?_)
          refine goes_ Tryd.func91 (by kernel_rfl) rfl #[.string (rdOf ByteArray.empty t558 x15_1),.string (rdOf ByteArray.empty t562 x15_1)] (by rfl) rfl rfl qy0 ?_
          with_reducible refine (ih k1 (by have := HK1.out; omega) (rdOf ByteArray.empty t558 x15_1) (rdOf ByteArray.empty t562 x15_1) t569 _ A36.out).mono ?_
          rintro e w39 ⟨rfl,hb⟩
          have HS0_ := (hb.cell (World.block_lt_of_cell? _ _ (hHeld.1))).trans (hHeld.1)
          have HS1_ := (hb.cell (World.block_lt_of_cell? _ _ (hHeld.2))).trans (hHeld.2)
          refine ⟨_,rfl, ?_⟩
          replace HO_12 := y0.mk (Kd.R_below (qR HO_12.out) hb)
          replace HO_14 := y0.mk (Kd.R_below (qR HO_14.out) hb)
          replace HB := y0.mk (y5 qb hb)
          (try clear hb)
          (try clear hb2)
          (try clear hk)
          (try clear hi)
          refine hK.out _ _ ⟨HS0_,HS1_⟩ (fun hHeld => ?_)
          clear hK K
          refine norm_ (a' := ?_) ?_ ?_
          rotate_left
          ·show Act.put _ (some 99) _ = _
           simp only [Act.put,qS_,qZ_,qC_,y13,y12]
           rfl
          refine qp 9 16 (fl_ 10 1023) ?_
          refine done_ (done_of HT_.out (by kernel_rfl)) ?_
          try go_wp2
          go_roundg k1
          case measure => have := HK1.out; omega
          exact ⟨(wrap64 (x15_1 + 1)),qy2,H',⟨by have := HK1.out; omega⟩,⟨qR HO_12.out⟩,⟨qR HO_14.out⟩,⟨qb⟩⟩
         ·rw [if_neg c37] at H
          have c37b0 : (t569 == 0) = false := beq_eq_false_iff_ne.mpr c37
          have c37b1 : (t569 != 0) = true := bne_iff_ne.mpr c37
          obtain rfl := Option.some.inj H
          try go_wp2
          replace HO_12 := y0.mk (Kd.R_drew HO_12.out)
          replace HO_14 := y0.mk (Kd.R_drew HO_14.out)
          replace HB := y0.mk (y3 HB.out)
          have p567 : 0 ≤ (x15_1 : Int) := of_decide_eq_true qy1
          have q567 : x15_1 < (t558.length : Int) := of_decide_eq_true qy1
          obtain ⟨ad567,e567,hx567_0⟩ := Kd.at_string (Kd.R_reads' HO_12.out).2.2 x15_1 p567 q567
          cases e567
          replace p567 := eq_true p567
          replace q567 := eq_true q567
          have p568 : 0 ≤ (x15_1 : Int) := of_decide_eq_true qy1
          have q568 : x15_1 < (t562.length : Int) := of_decide_eq_true qy1
          obtain ⟨ad568,e568,hx568_0⟩ := Kd.at_string (Kd.R_reads' HO_14.out).2.2 x15_1 p568 q568
          cases e568
          replace p568 := eq_true p568
          replace q568 := eq_true q568
          refine start_ (n := 10) (S := fun w' => w'.cell? (ad567.add (x15_1).toNat) = some (.string (rdOf ByteArray.empty t558 x15_1)) ∧ w'.cell? (ad568.add (x15_1).toNat) = some (.string (rdOf ByteArray.empty t562 x15_1))) (ds := []) (fl_ 10 0) (by kernel_rfl) rfl rfl ⟨hx567_0,hx568_0⟩ (fun hHeld => ?_); refine with_tabW spec_l01Cmp.tab20 spec_l01Cmp.bits20 (fun HT_ HW_ => ?_)
          generalize wr.drew = w40 at HO_12 HO_14 HB hx567_0 hx568_0 hHeld ⊢
          refine qp 0 91 (fl_ 10 1) ?_
          refine qp 1 92 (fl_ 10 3) ?_
          refine qp 2 93 (fl_ 10 7) ?_
          refine qp 4 95 (fl_ 10 23) ?_
          refine qp 5 96 (fl_ 10 55) ?_
          refine qp 6 97 (fl_ 10 119) ?_
          refine qt 3 94 (fl_ 10 127) hHeld ?_
          refine qt 7 98 (fl_ 10 255) hHeld ?_
          refine one_ (i := 8) (N := some 99) (fl_ 10 511) rfl rfl (one_of HT_.out (by kernel_rfl)) (by decide) (fun K hK => ?_)
          refine goes_ Tryd.func91 (by kernel_rfl) rfl #[.string (rdOf ByteArray.empty t558 x15_1),.string (rdOf ByteArray.empty t562 x15_1)] (by rfl) rfl rfl qy0 ?_
          with_reducible refine (ih k1 (by have := HK1.out; omega) (rdOf ByteArray.empty t558 x15_1) (rdOf ByteArray.empty t562 x15_1) t569 _ A36.out).mono ?_
          rintro e w41 ⟨rfl,hb⟩
          have HS0_ := (hb.cell (World.block_lt_of_cell? _ _ (hHeld.1))).trans (hHeld.1)
          have HS1_ := (hb.cell (World.block_lt_of_cell? _ _ (hHeld.2))).trans (hHeld.2)
          refine ⟨_,rfl, ?_⟩
          replace HO_12 := y0.mk (Kd.R_below (qR HO_12.out) hb)
          replace HO_14 := y0.mk (Kd.R_below (qR HO_14.out) hb)
          replace HB := y0.mk (y5 qb hb)
          (try clear hb)
          (try clear hb2)
          (try clear hk)
          (try clear hi)
          refine hK.out _ _ ⟨HS0_,HS1_⟩ (fun hHeld => ?_)
          clear hK K
          refine norm_ (a' := ?_) ?_ ?_
          rotate_left
          ·show Act.put _ (some 99) _ = _
           simp only [Act.put,qS_,qZ_,qC_,y13,y12]
           rfl
          refine qp 9 16 (fl_ 10 1023) ?_
          refine done_ (done_of HT_.out (by kernel_rfl)) ?_
          try go_wp2
          go_ret
          exact ⟨by first | rfl | (simp [y8,y9] <;> rfl) | (simp [*,y8,y9] <;> rfl),qb⟩
        ·rw [if_neg c33] at H
         have c33b0 := decide_eq_false c33
         clear c33
         obtain rfl := Option.some.inj H
         go_wp2
         go_ret
         exact ⟨by first | rfl | (simp [y8,y9] <;> rfl) | (simp [*,y8,y9] <;> rfl),qb⟩
     ·rw [if_neg c26] at H
      have c26b0 : ((t558.length : Int) == (t562.length : Int)) = false := beq_eq_false_iff_ne.mpr c26
      have c26b1 : ((t558.length : Int) != (t562.length : Int)) = true := bne_iff_ne.mpr c26
      have c26b2 : (t558.length == t562.length) = false := by first | simpa using c26 | (simp at c26 ⊢; omega)
      obtain ⟨t566,A42,H⟩ := qB H
      obtain rfl := Option.some.inj H
      go_enter Tryd.func91,Tryd.ntmps91
      go_wp2_with (first | ((with_reducible refine y10 (f := 29) rfl ?_); refine y11 (some 18) rfl rfl Tryd.func29 (by kernel_rfl) rfl #[.string a0] rfl qy0 ?_; (with_reducible refine (z3_.calls k a0 t548 _ A3.out).mono ?_); rintro e w43 ⟨rfl,hb⟩; refine ⟨_,rfl, ?_⟩; replace HB := y0.mk (y5 qb hb); (try clear hb); (try clear hb2); (try clear hk); (try clear hi)) | ((with_reducible refine y10 (f := 29) rfl ?_); refine y11 (some 20) rfl rfl Tryd.func29 (by kernel_rfl) rfl #[.string a1] rfl qy0 ?_; (with_reducible refine (z3_.calls k a1 t549 _ A4.out).mono ?_); rintro e w44 ⟨rfl,hb⟩; refine ⟨_,rfl, ?_⟩; replace HB := y0.mk (y5 qb hb); (try clear hb); (try clear hb2); (try clear hk); (try clear hi)) | ((with_reducible refine y10 (f := 44) rfl ?_); refine y11 (some 60) rfl rfl Tryd.func44 (by kernel_rfl) rfl #[.string a0] rfl qy0 ?_; (with_reducible refine (spec_TermParts.calls k a0 t557 t558 _ A23.out).mono ?_); rintro e w45 ⟨v559,rfl,ho0,hb⟩; refine ⟨_,rfl, ?_⟩; have HO560 := y0.mk (Kd.R_lower ho0 (y4 qb)); replace HB := y0.mk (y5 qb hb); (try clear hb); (try clear hb2); (try clear hk); (try clear hi); (try clear ho0)) | ((with_reducible refine y10 (f := 44) rfl ?_); refine y11 (some 65) rfl rfl Tryd.func44 (by kernel_rfl) rfl #[.string a1] rfl qy0 ?_; (with_reducible refine (spec_TermParts.calls k a1 t561 t562 _ A24.out).mono ?_); rintro e w46 ⟨v563,rfl,ho0,hb⟩; refine ⟨_,rfl, ?_⟩; have HO564 := y0.mk (Kd.R_lower (Kd.R_new' ho0 (Kd.R_lt (qR HO560.out))) (y4 qb)); replace HO560 := y0.mk (Kd.R_elder' (qR HO560.out) (Kd.R_base ho0) hb); replace HB := y0.mk (y5 qb hb); (try clear hb); (try clear hb2); (try clear hk); (try clear hi); (try clear ho0); obtain ⟨Ao47,co47,eo47⟩ := Kd.R_slice HO560.out; subst eo47; obtain ⟨Ao48,co48,eo48⟩ := Kd.R_slice HO564.out; subst eo48) | ((with_reducible refine y10 (f := 112) rfl ?_); refine y11 (some 84) rfl rfl Tryd.func112 (by kernel_rfl) rfl #[.int .i64 (wrap64 ((t558.length : Int) - (t562.length : Int)))] rfl qy0 ?_; (with_reducible refine (spec_l01Sign.calls (wrap64 ((t558.length : Int) - (t562.length : Int))) t566 _ A42.out).mono ?_); rintro e w' ⟨rfl,⟨nd,rfl⟩⟩; refine ⟨_,rfl, ?_⟩))
      go_ret
      exact ⟨by first | rfl | (simp [y8,y9] <;> rfl) | (simp [*,y8,y9] <;> rfl),qb⟩
    ·rw [if_neg c25] at H
     have c25b0 : (t557.toList == t561.toList) = false := beq_eq_false_iff_ne.mpr c25
     have c25b1 : (t557.toList != t561.toList) = true := bne_iff_ne.mpr c25
     obtain ⟨t565,A49,H⟩ := qB H
     obtain rfl := Option.some.inj H
     go_enter Tryd.func91,Tryd.ntmps91
     go_wp2_with (first | ((with_reducible refine y10 (f := 29) rfl ?_); refine y11 (some 18) rfl rfl Tryd.func29 (by kernel_rfl) rfl #[.string a0] rfl qy0 ?_; (with_reducible refine (z3_.calls k a0 t548 _ A3.out).mono ?_); rintro e w50 ⟨rfl,hb⟩; refine ⟨_,rfl, ?_⟩; replace HB := y0.mk (y5 qb hb); (try clear hb); (try clear hb2); (try clear hk); (try clear hi)) | ((with_reducible refine y10 (f := 29) rfl ?_); refine y11 (some 20) rfl rfl Tryd.func29 (by kernel_rfl) rfl #[.string a1] rfl qy0 ?_; (with_reducible refine (z3_.calls k a1 t549 _ A4.out).mono ?_); rintro e w51 ⟨rfl,hb⟩; refine ⟨_,rfl, ?_⟩; replace HB := y0.mk (y5 qb hb); (try clear hb); (try clear hb2); (try clear hk); (try clear hi)) | ((with_reducible refine y10 (f := 44) rfl ?_); refine y11 (some 60) rfl rfl Tryd.func44 (by kernel_rfl) rfl #[.string a0] rfl qy0 ?_; (with_reducible refine (spec_TermParts.calls k a0 t557 t558 _ A23.out).mono ?_); rintro e w52 ⟨v559,rfl,ho0,hb⟩; refine ⟨_,rfl, ?_⟩; have HO560 := y0.mk (Kd.R_lower ho0 (y4 qb)); replace HB := y0.mk (y5 qb hb); (try clear hb); (try clear hb2); (try clear hk); (try clear hi); (try clear ho0)) | ((with_reducible refine y10 (f := 44) rfl ?_); refine y11 (some 65) rfl rfl Tryd.func44 (by kernel_rfl) rfl #[.string a1] rfl qy0 ?_; (with_reducible refine (spec_TermParts.calls k a1 t561 t562 _ A24.out).mono ?_); rintro e w53 ⟨v563,rfl,ho0,hb⟩; refine ⟨_,rfl, ?_⟩; have HO564 := y0.mk (Kd.R_lower (Kd.R_new' ho0 (Kd.R_lt (qR HO560.out))) (y4 qb)); replace HO560 := y0.mk (Kd.R_elder' (qR HO560.out) (Kd.R_base ho0) hb); replace HB := y0.mk (y5 qb hb); (try clear hb); (try clear hb2); (try clear hk); (try clear hi); (try clear ho0)) | ((with_reducible refine y10 (f := 113) rfl ?_); refine y11 (some 73) rfl rfl Tryd.func113 (by kernel_rfl) rfl #[.string t557,.string t561] rfl qy0 ?_; (with_reducible refine (spec_l01Texts.calls t557 t561 t565 _ A49.out).mono ?_); rintro e w' ⟨rfl,⟨nd,rfl⟩⟩; refine ⟨_,rfl, ?_⟩))
     go_ret
     exact ⟨by first | rfl | (simp [y8,y9] <;> rfl) | (simp [*,y8,y9] <;> rfl),qb⟩
 ·rw [if_neg c5] at H
  have c5b0 : (t548 == t549) = false := beq_eq_false_iff_ne.mpr c5
  have c5b1 : (t548 != t549) = true := bne_iff_ne.mpr c5
  obtain ⟨t550,A54,H⟩ := qB H
  obtain rfl := Option.some.inj H
  go_enter Tryd.func91,Tryd.ntmps91
  go_wp2_with (first | ((with_reducible refine y10 (f := 29) rfl ?_); refine y11 (some 18) rfl rfl Tryd.func29 (by kernel_rfl) rfl #[.string a0] rfl qy0 ?_; (with_reducible refine (z3_.calls k a0 t548 _ A3.out).mono ?_); rintro e w55 ⟨rfl,hb⟩; refine ⟨_,rfl, ?_⟩; replace HB := y0.mk (y5 qb hb); (try clear hb); (try clear hb2); (try clear hk); (try clear hi)) | ((with_reducible refine y10 (f := 29) rfl ?_); refine y11 (some 20) rfl rfl Tryd.func29 (by kernel_rfl) rfl #[.string a1] rfl qy0 ?_; (with_reducible refine (z3_.calls k a1 t549 _ A4.out).mono ?_); rintro e w56 ⟨rfl,hb⟩; refine ⟨_,rfl, ?_⟩; replace HB := y0.mk (y5 qb hb); (try clear hb); (try clear hb2); (try clear hk); (try clear hi)) | ((with_reducible refine y10 (f := 112) rfl ?_); refine y11 (some 27) rfl rfl Tryd.func112 (by kernel_rfl) rfl #[.int .i64 (wrap64 (t548 - t549))] rfl qy0 ?_; (with_reducible refine (spec_l01Sign.calls (wrap64 (t548 - t549)) t550 _ A54.out).mono ?_); rintro e w' ⟨rfl,⟨nd,rfl⟩⟩; refine ⟨_,rfl, ?_⟩))
  go_ret
  exact ⟨by first | rfl | (simp [y8,y9] <;> rfl) | (simp [*,y8,y9] <;> rfl),qb⟩
end Go.Proofs.YtebadckdihgklaaDoor.Pb
end
section
namespace Go.Proofs.YtebadckdihgklaaDoor.Pb
open Go.RowKit Go.Proofs.YtebadckdihgklaaDoorW.PrintWords Go.Proofs.YtebadckdihgklaaDoorW.PrintLast Go.Proofs.YtebadckdihgklaaDoorW.PrintMore
attribute [local go_sem] max2_int min2_int max_two min_two max_three min_three max_four min_four   -- for this text's walks alone
set_option linter.unusedVariables false
set_option linter.unusedSimpArgs false
def cmp_isNaN_int.f (a0 : Int) : Option (Bool) := some (a0 != a0)
set_option maxHeartbeats 8000000 in
set_option maxRecDepth 100000 in
theorem cmp_isNaN_int.calls (a0 : Int) (r : Bool) (w : World) (h : cmp_isNaN_int.f a0 = some r) :
  Calls Tryd.prog 135 #[.int .i64 a0] w fun e w' => e = .returned (.bool r) ∧ y1 w w' := by
 have H : (some (a0 != a0)) = some r := h
 clear h
 obtain rfl := Option.some.inj H
 go_enter Tryd.func135,Tryd.ntmps135
 go_wp2
 go_ret
 exact ⟨by first | rfl | (simp; done) | (simp [*]; done),by repeat (first | exact y1.refl _ | apply y1.step)⟩
def cmp_Compare_int.f (a0 : Int) (a1 : Int) : Option (Int) := (cmp_isNaN_int.f a0).bind fun t573 => ((cmp_isNaN_int.f a1).bind fun t574 => (if t573 = true then (if t574 = true then (some 0) else (some (-1))) else (if t574 = true then (some 1) else (if a0 < a1 then (some (-1)) else (if a0 > a1 then (some 1) else (some 0))))))
set_option maxHeartbeats 8000000 in
set_option maxRecDepth 100000 in
theorem cmp_Compare_int.calls (a0 : Int) (a1 : Int) (r : Int) (w : World) (h : cmp_Compare_int.f a0 a1 = some r) :
  Calls Tryd.prog 114 #[.int .i64 a0,.int .i64 a1] w fun e w' => e = .returned (.int .i64 r) ∧ y1 w w' := by
 have H : ((cmp_isNaN_int.f a0).bind fun t573 => ((cmp_isNaN_int.f a1).bind fun t574 => (if t573 = true then (if t574 = true then (some 0) else (some (-1))) else (if t574 = true then (some 1) else (if a0 < a1 then (some (-1)) else (if a0 > a1 then (some 1) else (some 0))))))) = some r := h
 clear h
 obtain ⟨t573,A3,H⟩ := qB H
 obtain ⟨t574,A4,H⟩ := qB H
 by_cases c5 : t573 = true
 ·subst c5
  replace H := qT H
  by_cases c6 : t574 = true
  ·subst c6
   replace H := qT H
   obtain rfl := Option.some.inj H
   go_enter Tryd.func114,Tryd.ntmps114
   go_wp2_with (first | ((with_reducible refine y10 (f := 135) rfl ?_); refine y11 (some 8) rfl rfl Tryd.func135 (by kernel_rfl) rfl #[.int .i64 a0] rfl qy0 ?_; (with_reducible refine (cmp_isNaN_int.calls a0 true _ A3.out).mono ?_); rintro e w' ⟨rfl,⟨nd,rfl⟩⟩; refine ⟨_,rfl, ?_⟩) | ((with_reducible refine y10 (f := 135) rfl ?_); refine y11 (some 10) rfl rfl Tryd.func135 (by kernel_rfl) rfl #[.int .i64 a1] rfl qy0 ?_; (with_reducible refine (cmp_isNaN_int.calls a1 true _ A4.out).mono ?_); rintro e w' ⟨rfl,⟨nd,rfl⟩⟩; refine ⟨_,rfl, ?_⟩))
   go_ret
   exact ⟨by first | rfl | (simp; done) | (simp [*]; done),by repeat (first | exact y1.refl _ | apply y1.step)⟩
  ·replace c6 := Bool.eq_false_iff.mpr c6
   subst c6
   replace H := qF H
   obtain rfl := Option.some.inj H
   go_enter Tryd.func114,Tryd.ntmps114
   go_wp2_with (first | ((with_reducible refine y10 (f := 135) rfl ?_); refine y11 (some 8) rfl rfl Tryd.func135 (by kernel_rfl) rfl #[.int .i64 a0] rfl qy0 ?_; (with_reducible refine (cmp_isNaN_int.calls a0 true _ A3.out).mono ?_); rintro e w' ⟨rfl,⟨nd,rfl⟩⟩; refine ⟨_,rfl, ?_⟩) | ((with_reducible refine y10 (f := 135) rfl ?_); refine y11 (some 10) rfl rfl Tryd.func135 (by kernel_rfl) rfl #[.int .i64 a1] rfl qy0 ?_; (with_reducible refine (cmp_isNaN_int.calls a1 false _ A4.out).mono ?_); rintro e w' ⟨rfl,⟨nd,rfl⟩⟩; refine ⟨_,rfl, ?_⟩))
   go_ret
   exact ⟨by first | rfl | (simp; done) | (simp [*]; done),by repeat (first | exact y1.refl _ | apply y1.step)⟩
 ·replace c5 := Bool.eq_false_iff.mpr c5
  subst c5
  replace H := qF H
  by_cases c7 : t574 = true
  ·subst c7
   replace H := qT H
   obtain rfl := Option.some.inj H
   go_enter Tryd.func114,Tryd.ntmps114
   go_wp2_with (first | ((with_reducible refine y10 (f := 135) rfl ?_); refine y11 (some 8) rfl rfl Tryd.func135 (by kernel_rfl) rfl #[.int .i64 a0] rfl qy0 ?_; (with_reducible refine (cmp_isNaN_int.calls a0 false _ A3.out).mono ?_); rintro e w' ⟨rfl,⟨nd,rfl⟩⟩; refine ⟨_,rfl, ?_⟩) | ((with_reducible refine y10 (f := 135) rfl ?_); refine y11 (some 10) rfl rfl Tryd.func135 (by kernel_rfl) rfl #[.int .i64 a1] rfl qy0 ?_; (with_reducible refine (cmp_isNaN_int.calls a1 true _ A4.out).mono ?_); rintro e w' ⟨rfl,⟨nd,rfl⟩⟩; refine ⟨_,rfl, ?_⟩))
   go_ret
   exact ⟨by first | rfl | (simp; done) | (simp [*]; done),by repeat (first | exact y1.refl _ | apply y1.step)⟩
  ·replace c7 := Bool.eq_false_iff.mpr c7
   subst c7
   replace H := qF H
   by_cases c8 : a0 < a1
   ·rw [if_pos c8] at H
    have c8b0 := decide_eq_true c8
    clear c8
    obtain rfl := Option.some.inj H
    go_enter Tryd.func114,Tryd.ntmps114
    go_wp2_with (first | ((with_reducible refine y10 (f := 135) rfl ?_); refine y11 (some 8) rfl rfl Tryd.func135 (by kernel_rfl) rfl #[.int .i64 a0] rfl qy0 ?_; (with_reducible refine (cmp_isNaN_int.calls a0 false _ A3.out).mono ?_); rintro e w' ⟨rfl,⟨nd,rfl⟩⟩; refine ⟨_,rfl, ?_⟩) | ((with_reducible refine y10 (f := 135) rfl ?_); refine y11 (some 10) rfl rfl Tryd.func135 (by kernel_rfl) rfl #[.int .i64 a1] rfl qy0 ?_; (with_reducible refine (cmp_isNaN_int.calls a1 false _ A4.out).mono ?_); rintro e w' ⟨rfl,⟨nd,rfl⟩⟩; refine ⟨_,rfl, ?_⟩))
    go_ret
    exact ⟨by first | rfl | (simp; done) | (simp [*]; done),by repeat (first | exact y1.refl _ | apply y1.step)⟩
   ·rw [if_neg c8] at H
    have c8b0 := decide_eq_false c8
    clear c8
    by_cases c9 : a0 > a1
    ·rw [if_pos c9] at H
     have c9b0 : decide (a1 < a0) = true := decide_eq_true c9
     clear c9
     obtain rfl := Option.some.inj H
     go_enter Tryd.func114,Tryd.ntmps114
     go_wp2_with (first | ((with_reducible refine y10 (f := 135) rfl ?_); refine y11 (some 8) rfl rfl Tryd.func135 (by kernel_rfl) rfl #[.int .i64 a0] rfl qy0 ?_; (with_reducible refine (cmp_isNaN_int.calls a0 false _ A3.out).mono ?_); rintro e w' ⟨rfl,⟨nd,rfl⟩⟩; refine ⟨_,rfl, ?_⟩) | ((with_reducible refine y10 (f := 135) rfl ?_); refine y11 (some 10) rfl rfl Tryd.func135 (by kernel_rfl) rfl #[.int .i64 a1] rfl qy0 ?_; (with_reducible refine (cmp_isNaN_int.calls a1 false _ A4.out).mono ?_); rintro e w' ⟨rfl,⟨nd,rfl⟩⟩; refine ⟨_,rfl, ?_⟩))
     go_ret
     exact ⟨by first | rfl | (simp; done) | (simp [*]; done),by repeat (first | exact y1.refl _ | apply y1.step)⟩
    ·rw [if_neg c9] at H
     have c9b0 : decide (a1 < a0) = false := decide_eq_false c9
     clear c9
     obtain rfl := Option.some.inj H
     go_enter Tryd.func114,Tryd.ntmps114
     go_wp2_with (first | ((with_reducible refine y10 (f := 135) rfl ?_); refine y11 (some 8) rfl rfl Tryd.func135 (by kernel_rfl) rfl #[.int .i64 a0] rfl qy0 ?_; (with_reducible refine (cmp_isNaN_int.calls a0 false _ A3.out).mono ?_); rintro e w' ⟨rfl,⟨nd,rfl⟩⟩; refine ⟨_,rfl, ?_⟩) | ((with_reducible refine y10 (f := 135) rfl ?_); refine y11 (some 10) rfl rfl Tryd.func135 (by kernel_rfl) rfl #[.int .i64 a1] rfl qy0 ?_; (with_reducible refine (cmp_isNaN_int.calls a1 false _ A4.out).mono ?_); rintro e w' ⟨rfl,⟨nd,rfl⟩⟩; refine ⟨_,rfl, ?_⟩))
     go_ret
     exact ⟨by first | rfl | (simp; done) | (simp [*]; done),by repeat (first | exact y1.refl _ | apply y1.step)⟩
def cmp_isNaN_string.f (a0 : ByteArray) : Option (Bool) := some (a0.toList != a0.toList)
set_option maxHeartbeats 8000000 in
set_option maxRecDepth 100000 in
theorem cmp_isNaN_string.calls (a0 : ByteArray) (r : Bool) (w : World) (h : cmp_isNaN_string.f a0 = some r) :
  Calls Tryd.prog 136 #[.string a0] w fun e w' => e = .returned (.bool r) ∧ y1 w w' := by
 have H : (some (a0.toList != a0.toList)) = some r := h
 clear h
 obtain rfl := Option.some.inj H
 go_enter Tryd.func136,Tryd.ntmps136
 go_wp2
 go_ret
 exact ⟨by first | rfl | (simp; done) | (simp [*]; done),by repeat (first | exact y1.refl _ | apply y1.step)⟩
def cmp_Compare_string.f (a0 : ByteArray) (a1 : ByteArray) : Option (Int) := (cmp_isNaN_string.f a0).bind fun t575 => ((cmp_isNaN_string.f a1).bind fun t576 => (if t575 = true then (if t576 = true then (some 0) else (some (-1))) else (if t576 = true then (some 1) else (if (Op.bytesLess a0.toList a1.toList) = true then (some (-1)) else (if (Op.bytesLess a1.toList a0.toList) = true then (some 1) else (some 0))))))
theorem cmp_Compare_string.bl : ∀ x y : List UInt8,(!(Op.bytesLess x y || x == y)) = Op.bytesLess y x
 | [],[] => rfl
 | [],b :: y => rfl
 | a :: x,[] => rfl
 | a :: x,b :: y => by
  have ih := cmp_Compare_string.bl x y
  have e1 : (decide (a < b)) = (decide (a.toNat < b.toNat)) := rfl
  have e2 : (decide (b < a)) = (decide (b.toNat < a.toNat)) := rfl
  rw [Op.bytesLess,Op.bytesLess,e1,e2,← ih]
  by_cases h : a = b
  ·subst h
   simp
  ·have hn : a.toNat ≠ b.toNat := fun h' => h (UInt8.toNat_inj.1 h')
   have h1 : (a == b) = false := by simpa using h
   have h2 : (b == a) = false := by simpa using fun h' => h (Eq.symm h')
   have h3 : ((a :: x) == (b :: y)) = false := by simp [h]
   rw [h1,h2,h3]
   by_cases hl : a.toNat < b.toNat
   ·have : ¬ b.toNat < a.toNat := by omega
    simp [hl,this]
   ·have : b.toNat < a.toNat := by omega
    simp [hl,this]
theorem cmp_Compare_string.gtr (t : TypeId) (a b : ByteArray) : binOp .gtr t (.string a) (.string b) = pure (.bool (Op.bytesLess b.toList a.toList)) := by
 rw [← cmp_Compare_string.bl]
 simp [binOp,Op.stringOp]
attribute [local go_sem] cmp_Compare_string.gtr
set_option maxHeartbeats 8000000 in
set_option maxRecDepth 100000 in
theorem cmp_Compare_string.calls (a0 : ByteArray) (a1 : ByteArray) (r : Int) (w : World) (h : cmp_Compare_string.f a0 a1 = some r) :
  Calls Tryd.prog 115 #[.string a0,.string a1] w fun e w' => e = .returned (.int .i64 r) ∧ y1 w w' := by
 have H : ((cmp_isNaN_string.f a0).bind fun t575 => ((cmp_isNaN_string.f a1).bind fun t576 => (if t575 = true then (if t576 = true then (some 0) else (some (-1))) else (if t576 = true then (some 1) else (if (Op.bytesLess a0.toList a1.toList) = true then (some (-1)) else (if (Op.bytesLess a1.toList a0.toList) = true then (some 1) else (some 0))))))) = some r := h
 clear h
 obtain ⟨t575,A3,H⟩ := qB H
 obtain ⟨t576,A4,H⟩ := qB H
 by_cases c5 : t575 = true
 ·subst c5
  replace H := qT H
  by_cases c6 : t576 = true
  ·subst c6
   replace H := qT H
   obtain rfl := Option.some.inj H
   go_enter Tryd.func115,Tryd.ntmps115
   go_wp2_with (first | ((with_reducible refine y10 (f := 136) rfl ?_); refine y11 (some 8) rfl rfl Tryd.func136 (by kernel_rfl) rfl #[.string a0] rfl qy0 ?_; (with_reducible refine (cmp_isNaN_string.calls a0 true _ A3.out).mono ?_); rintro e w' ⟨rfl,⟨nd,rfl⟩⟩; refine ⟨_,rfl, ?_⟩) | ((with_reducible refine y10 (f := 136) rfl ?_); refine y11 (some 10) rfl rfl Tryd.func136 (by kernel_rfl) rfl #[.string a1] rfl qy0 ?_; (with_reducible refine (cmp_isNaN_string.calls a1 true _ A4.out).mono ?_); rintro e w' ⟨rfl,⟨nd,rfl⟩⟩; refine ⟨_,rfl, ?_⟩))
   go_ret
   exact ⟨by first | rfl | (simp; done) | (simp [*]; done),by repeat (first | exact y1.refl _ | apply y1.step)⟩
  ·replace c6 := Bool.eq_false_iff.mpr c6
   subst c6
   replace H := qF H
   obtain rfl := Option.some.inj H
   go_enter Tryd.func115,Tryd.ntmps115
   go_wp2_with (first | ((with_reducible refine y10 (f := 136) rfl ?_); refine y11 (some 8) rfl rfl Tryd.func136 (by kernel_rfl) rfl #[.string a0] rfl qy0 ?_; (with_reducible refine (cmp_isNaN_string.calls a0 true _ A3.out).mono ?_); rintro e w' ⟨rfl,⟨nd,rfl⟩⟩; refine ⟨_,rfl, ?_⟩) | ((with_reducible refine y10 (f := 136) rfl ?_); refine y11 (some 10) rfl rfl Tryd.func136 (by kernel_rfl) rfl #[.string a1] rfl qy0 ?_; (with_reducible refine (cmp_isNaN_string.calls a1 false _ A4.out).mono ?_); rintro e w' ⟨rfl,⟨nd,rfl⟩⟩; refine ⟨_,rfl, ?_⟩))
   go_ret
   exact ⟨by first | rfl | (simp; done) | (simp [*]; done),by repeat (first | exact y1.refl _ | apply y1.step)⟩
 ·replace c5 := Bool.eq_false_iff.mpr c5
  subst c5
  replace H := qF H
  by_cases c7 : t576 = true
  ·subst c7
   replace H := qT H
   obtain rfl := Option.some.inj H
   go_enter Tryd.func115,Tryd.ntmps115
   go_wp2_with (first | ((with_reducible refine y10 (f := 136) rfl ?_); refine y11 (some 8) rfl rfl Tryd.func136 (by kernel_rfl) rfl #[.string a0] rfl qy0 ?_; (with_reducible refine (cmp_isNaN_string.calls a0 false _ A3.out).mono ?_); rintro e w' ⟨rfl,⟨nd,rfl⟩⟩; refine ⟨_,rfl, ?_⟩) | ((with_reducible refine y10 (f := 136) rfl ?_); refine y11 (some 10) rfl rfl Tryd.func136 (by kernel_rfl) rfl #[.string a1] rfl qy0 ?_; (with_reducible refine (cmp_isNaN_string.calls a1 true _ A4.out).mono ?_); rintro e w' ⟨rfl,⟨nd,rfl⟩⟩; refine ⟨_,rfl, ?_⟩))
   go_ret
   exact ⟨by first | rfl | (simp; done) | (simp [*]; done),by repeat (first | exact y1.refl _ | apply y1.step)⟩
  ·replace c7 := Bool.eq_false_iff.mpr c7
   subst c7
   replace H := qF H
   by_cases c8 : (Op.bytesLess a0.toList a1.toList) = true
   ·rw [if_pos c8] at H
    have c8b0 : (Op.bytesLess a0.toList a1.toList) = true := c8
    clear c8
    obtain rfl := Option.some.inj H
    go_enter Tryd.func115,Tryd.ntmps115
    go_wp2_with (first | ((with_reducible refine y10 (f := 136) rfl ?_); refine y11 (some 8) rfl rfl Tryd.func136 (by kernel_rfl) rfl #[.string a0] rfl qy0 ?_; (with_reducible refine (cmp_isNaN_string.calls a0 false _ A3.out).mono ?_); rintro e w' ⟨rfl,⟨nd,rfl⟩⟩; refine ⟨_,rfl, ?_⟩) | ((with_reducible refine y10 (f := 136) rfl ?_); refine y11 (some 10) rfl rfl Tryd.func136 (by kernel_rfl) rfl #[.string a1] rfl qy0 ?_; (with_reducible refine (cmp_isNaN_string.calls a1 false _ A4.out).mono ?_); rintro e w' ⟨rfl,⟨nd,rfl⟩⟩; refine ⟨_,rfl, ?_⟩))
    go_ret
    exact ⟨by first | rfl | (simp; done) | (simp [*]; done),by repeat (first | exact y1.refl _ | apply y1.step)⟩
   ·rw [if_neg c8] at H
    have c8b0 : (Op.bytesLess a0.toList a1.toList) = false := by simpa using c8
    clear c8
    by_cases c9 : (Op.bytesLess a1.toList a0.toList) = true
    ·rw [if_pos c9] at H
     have c9b0 : (Op.bytesLess a1.toList a0.toList) = true := c9
     clear c9
     obtain rfl := Option.some.inj H
     go_enter Tryd.func115,Tryd.ntmps115
     go_wp2_with (first | ((with_reducible refine y10 (f := 136) rfl ?_); refine y11 (some 8) rfl rfl Tryd.func136 (by kernel_rfl) rfl #[.string a0] rfl qy0 ?_; (with_reducible refine (cmp_isNaN_string.calls a0 false _ A3.out).mono ?_); rintro e w' ⟨rfl,⟨nd,rfl⟩⟩; refine ⟨_,rfl, ?_⟩) | ((with_reducible refine y10 (f := 136) rfl ?_); refine y11 (some 10) rfl rfl Tryd.func136 (by kernel_rfl) rfl #[.string a1] rfl qy0 ?_; (with_reducible refine (cmp_isNaN_string.calls a1 false _ A4.out).mono ?_); rintro e w' ⟨rfl,⟨nd,rfl⟩⟩; refine ⟨_,rfl, ?_⟩))
     go_ret
     exact ⟨by first | rfl | (simp; done) | (simp [*]; done),by repeat (first | exact y1.refl _ | apply y1.step)⟩
    ·rw [if_neg c9] at H
     have c9b0 : (Op.bytesLess a1.toList a0.toList) = false := by simpa using c9
     clear c9
     obtain rfl := Option.some.inj H
     go_enter Tryd.func115,Tryd.ntmps115
     go_wp2_with (first | ((with_reducible refine y10 (f := 136) rfl ?_); refine y11 (some 8) rfl rfl Tryd.func136 (by kernel_rfl) rfl #[.string a0] rfl qy0 ?_; (with_reducible refine (cmp_isNaN_string.calls a0 false _ A3.out).mono ?_); rintro e w' ⟨rfl,⟨nd,rfl⟩⟩; refine ⟨_,rfl, ?_⟩) | ((with_reducible refine y10 (f := 136) rfl ?_); refine y11 (some 10) rfl rfl Tryd.func136 (by kernel_rfl) rfl #[.string a1] rfl qy0 ?_; (with_reducible refine (cmp_isNaN_string.calls a1 false _ A4.out).mono ?_); rintro e w' ⟨rfl,⟨nd,rfl⟩⟩; refine ⟨_,rfl, ?_⟩))
     go_ret
     exact ⟨by first | rfl | (simp; done) | (simp [*]; done),by repeat (first | exact y1.refl _ | apply y1.step)⟩
def cmp_Or_int.l0 : Nat → Int → List Int → Int → Int → Option (Int)
 | 0,_,_,_,_ => none
 | k + 1,x3,x6,x7,x8 => if x8 < x7 then (if 0 ≤ x8 then (if x8 < (x6.length : Int) then (if (rd x6 x8) = x3 then (cmp_Or_int.l0 k x3 x6 x7 (wrap64 (x8 + 1))) else (some (rd x6 x8))) else (none)) else (none)) else (some x3)
def cmp_Or_int.f (k : Nat) (l0 : List Int) : Option (Int) := cmp_Or_int.l0 k 0 l0 (l0.length : Int) 0
set_option maxHeartbeats 8000000 in
set_option maxRecDepth 100000 in
theorem cmp_Or_int.calls (k : Nat) (A0 : Option Addr) (c0 : Nat) (l0 : List Int) (r : Int) (w : World) (hr0 : Kd.C (Kd.int .i64) w A0 l0.length l0) (hc0 : l0.length ≤ c0) (h : cmp_Or_int.f k l0 = some r) :
  Calls Tryd.prog 137 #[.slice A0 l0.length c0] w fun e w' => e = .returned (.int .i64 r) ∧ y1 w w' := by
 have HR0 := y0.mk hr0
 have HC0 := y0.mk hc0
 clear hr0 hc0
 have H : (cmp_Or_int.l0 k 0 l0 (l0.length : Int) 0) = some r := h
 clear h
 have H' := y0.mk H
 clear H
 go_enter Tryd.func137,Tryd.ntmps137
 go_wp2
 go_loopg [8] k (fun kq v8 w' => ∃ (x8_1 : Int),v8 = .int .i64 x8_1 ∧ y0 (cmp_Or_int.l0 kq 0 l0 (l0.length : Int) x8_1 = some r) ∧ y0 (kq ≤ k) ∧ y1 w w')
 case atStart => exact ⟨(0),qy2,H',⟨Nat.le_refl _⟩,by repeat (first | exact y1.refl _ | apply y1.step)⟩
 case round =>
  clear H'
  obtain ⟨x8_1,rfl,HA,HK1,⟨m1,rfl⟩⟩ := hrel
  cases gk with
  | zero => exact absurd HA.out (by simp [cmp_Or_int.l0])
  | succ k1 =>
   have H := HA.out
   clear HA
   simp only [cmp_Or_int.l0] at H
   by_cases c2 : x8_1 < (l0.length : Int)
   ·rw [if_pos c2] at H
    have c2b0 := decide_eq_true c2
    clear c2
    obtain ⟨c3,H⟩ := qo H
    have c3b0 : decide (0 ≤ x8_1) = true := decide_eq_true c3
    clear c3
    obtain ⟨c4,H⟩ := qo H
    have c4b0 : decide (x8_1 < (l0.length : Int)) = true := decide_eq_true c4
    clear c4
    by_cases c5 : (rd l0 x8_1) = 0
    ·rw [if_pos c5] at H
     have c5b0 : ((rd l0 x8_1) == 0) = true := beq_iff_eq.mpr c5
     have c5b1 : ((rd l0 x8_1) != 0) = false := bne_eq_false_iff_eq.mpr c5
     clear c5
     have H' := y0.mk H
     clear H
     have p577 : 0 ≤ (x8_1 : Int) := of_decide_eq_true qy1
     have q577 : x8_1 < (l0.length : Int) := of_decide_eq_true qy1
     obtain ⟨ad577,e577,hx577_0⟩ := Kd.at_int HR0.out x8_1 p577 q577
     cases e577
     replace p577 := eq_true p577
     replace q577 := eq_true q577
     go_wp2
     go_roundg k1
     case measure => have := HK1.out; omega
     exact ⟨(wrap64 (x8_1 + 1)),qy2,H',⟨by have := HK1.out; omega⟩,by repeat (first | exact y1.refl _ | apply y1.step)⟩
    ·rw [if_neg c5] at H
     have c5b0 : ((rd l0 x8_1) == 0) = false := beq_eq_false_iff_ne.mpr c5
     have c5b1 : ((rd l0 x8_1) != 0) = true := bne_iff_ne.mpr c5
     obtain rfl := Option.some.inj H
     have p577 : 0 ≤ (x8_1 : Int) := of_decide_eq_true qy1
     have q577 : x8_1 < (l0.length : Int) := of_decide_eq_true qy1
     obtain ⟨ad577,e577,hx577_0⟩ := Kd.at_int HR0.out x8_1 p577 q577
     cases e577
     replace p577 := eq_true p577
     replace q577 := eq_true q577
     go_wp2
     go_ret
     exact ⟨by first | rfl | (simp; done) | (simp [*]; done),by repeat (first | exact y1.refl _ | apply y1.step)⟩
   ·rw [if_neg c2] at H
    have c2b0 := decide_eq_false c2
    clear c2
    obtain rfl := Option.some.inj H
    go_wp2
    go_ret
    exact ⟨by first | rfl | (simp; done) | (simp [*]; done),by repeat (first | exact y1.refl _ | apply y1.step)⟩
end Go.Proofs.YtebadckdihgklaaDoor.Pb
end
section
namespace Go.Proofs.YtebadckdihgklaaDoor.Pb
open Go.RowKit Go.Proofs.YtebadckdihgklaaDoorW.PrintWords Go.Proofs.YtebadckdihgklaaDoorW.PrintLast Go.Proofs.YtebadckdihgklaaDoorW.PrintMore
attribute [local go_sem] max2_int min2_int max_two min_two max_three min_three max_four min_four   -- for this text's walks alone
set_option linter.unusedVariables false
set_option linter.unusedSimpArgs false
mutual
def impl_compareCons.l0 : Nat → List ByteArray → List ByteArray → Int → Int → Option (Int)
 | 0,_,_,_,_ => none
 | k + 1,x8,x36,x37,x38 => if x38 < x37 then (if 0 ≤ x38 then (if x38 < (x36.length : Int) then (if x38 < (x8.length : Int) then ((impl_compareTerms.f k (rdOf ByteArray.empty x36 x38) (rdOf ByteArray.empty x8 x38)).bind fun t594 => (if t594 = 0 then (impl_compareCons.l0 k x8 x36 x37 (wrap64 (x38 + 1))) else (some t594))) else (none)) else (none)) else (none)) else (some 0)
def impl_compareCons.f : Nat → ByteArray → ByteArray → Option (Int)
 | 0,_,_ => none
 | k + 1,a0,a1 => (z0_.f k a0).bind fun bt578 => ((z0_.f k a1).bind fun bt582 => ((cmp_Compare_string.f bt578.1 bt582.1).bind fun t586 => ((cmp_Compare_int.f (bt578.2.length : Int) (bt582.2.length : Int)).bind fun t587 => ((cmp_Or_int.f k (([t586,t587] : List Int))).bind fun t591 => (if t591 = 0 then (impl_compareCons.l0 k bt582.2 bt578.2 (bt578.2.length : Int) 0) else (some t591))))))
def impl_compareTerms.j0 : Nat → ByteArray → ByteArray → Int → Int → Bool → Option (Int)
 | 0,_,_,_,_,_ => none
 | k + 1,x0,x1,x5,x6,x11 => if x11 = true then (some 2) else (if x5 = x6 then (if x5 = 1 then ((impl_numOf.f x0).bind fun t597 => ((impl_numOf.f x1).bind fun t598 => ((cmp_Compare_int.f t597 t598).bind fun t599 => (some t599)))) else (if x5 = 2 then (if 1 ≤ (wrap64 ((x0.size : Int) - 1)) then (if (wrap64 ((x0.size : Int) - 1)) ≤ (x0.size : Int) then (if 1 ≤ (wrap64 ((x1.size : Int) - 1)) then (if (wrap64 ((x1.size : Int) - 1)) ≤ (x1.size : Int) then ((cmp_Compare_string.f (x0.extract 1 ((wrap64 ((x0.size : Int) - 1)) : Int).toNat) (x1.extract 1 ((wrap64 ((x1.size : Int) - 1)) : Int).toNat)).bind fun t600 => (some t600)) else (none)) else (none)) else (none)) else (none)) else ((impl_compareCons.f k x0 x1).bind fun t601 => (some t601)))) else ((cmp_Compare_int.f x5 x6).bind fun t602 => (some t602)))
def impl_compareTerms.f : Nat → ByteArray → ByteArray → Option (Int)
 | 0,_,_ => none
 | k + 1,a0,a1 => (impl_kindOf.f k a0).bind fun t595 => ((impl_kindOf.f k a1).bind fun t596 => (if t595 = 0 then (impl_compareTerms.j0 k a0 a1 t595 t596 true) else (impl_compareTerms.j0 k a0 a1 t595 t596 (t596 == 0))))
end
abbrev impl_compareCons.Stm (k : Nat) : Prop := ∀ (a0 : ByteArray) (a1 : ByteArray) (r : Int) (w : World) (hT : Tb w) (h : impl_compareCons.f k a0 a1 = some r),
  Calls Tryd.prog 116 #[.string a0,.string a1] w fun e w' => e = .returned (.int .i64 r) ∧ Below w.heap.size w w'
abbrev impl_compareTerms.Stm (k : Nat) : Prop := ∀ (a0 : ByteArray) (a1 : ByteArray) (r : Int) (w : World) (hT : Tb w) (h : impl_compareTerms.f k a0 a1 = some r),
  Calls Tryd.prog 92 #[.string a0,.string a1] w fun e w' => e = .returned (.int .i64 r) ∧ Below w.heap.size w w'
set_option maxHeartbeats 8000000 in
set_option maxRecDepth 100000 in
theorem impl_compareCons.step (k : Nat) (ih : ∀ m,m < k → impl_compareCons.Stm m) (ih_impl_compareTerms : ∀ m,m < k → impl_compareTerms.Stm m) : impl_compareCons.Stm k := by
 intro a0 a1 r w hT h
 cases k with
 | zero => exact absurd h (by simp [impl_compareCons.f])
 | succ k =>
 simp only [impl_compareCons.f] at h
 have HT := y0.mk hT
 clear hT
 have HB := y0.mk (Below.refl w.heap.size w)
 have H : ((z0_.f k a0).bind fun bt578 => ((z0_.f k a1).bind fun bt582 => ((cmp_Compare_string.f bt578.1 bt582.1).bind fun t586 => ((cmp_Compare_int.f (bt578.2.length : Int) (bt582.2.length : Int)).bind fun t587 => ((cmp_Or_int.f k (([t586,t587] : List Int))).bind fun t591 => (if t591 = 0 then (impl_compareCons.l0 k bt582.2 bt578.2 (bt578.2.length : Int) 0) else (some t591))))))) = some r := h
 clear h
 obtain ⟨⟨t578,t579⟩,A3,H⟩ := qB H
 replace H : ((z0_.f k a1).bind fun bt582 => ((cmp_Compare_string.f t578 bt582.1).bind fun t586 => ((cmp_Compare_int.f (t579.length : Int) (bt582.2.length : Int)).bind fun t587 => ((cmp_Or_int.f k (([t586,t587] : List Int))).bind fun t591 => (if t591 = 0 then (impl_compareCons.l0 k bt582.2 t579 (t579.length : Int) 0) else (some t591)))))) = some r := H
 obtain ⟨⟨t582,t583⟩,A4,H⟩ := qB H
 replace H : ((cmp_Compare_string.f t578 t582).bind fun t586 => ((cmp_Compare_int.f (t579.length : Int) (t583.length : Int)).bind fun t587 => ((cmp_Or_int.f k (([t586,t587] : List Int))).bind fun t591 => (if t591 = 0 then (impl_compareCons.l0 k t583 t579 (t579.length : Int) 0) else (some t591))))) = some r := H
 obtain ⟨t586,A5,H⟩ := qB H
 obtain ⟨t587,A6,H⟩ := qB H
 obtain ⟨y588,hy588⟩ : ∃ y_ : List Int,y_ = (([t586,t587] : List Int)) := ⟨_,rfl⟩
 replace H : ((cmp_Or_int.f k y588).bind fun t591 => (if t591 = 0 then (impl_compareCons.l0 k t583 t579 (t579.length : Int) 0) else (some t591))) = some r := by first | (rw [hy588]; with_reducible exact H) | (have H2_ := (Option.bind_some _ _).symm.trans H; rw [hy588]; with_reducible exact H2_) | (have H2_ := (Option.bind_some _ _).symm.trans H; with_reducible exact H2_) | with_reducible exact H | (rw [hy588]; exact H) | exact H
 have Ny588 := y0.mk hy588
 clear hy588
 obtain ⟨t591,A7,H⟩ := qB H
 by_cases c8 : t591 = 0
 ·rw [if_pos c8] at H
  have c8b0 : (t591 == 0) = true := beq_iff_eq.mpr c8
  have c8b1 : (t591 != 0) = false := bne_eq_false_iff_eq.mpr c8
  clear c8
  have H' := y0.mk H
  clear H
  go_enter Tryd.func116,Tryd.ntmps116
  go_wp2_with (first | ((with_reducible refine y10 (f := 81) rfl ?_); refine y11 (some 15) rfl rfl Tryd.func81 (by kernel_rfl) rfl #[.string a0] rfl qy0 ?_; (with_reducible refine (z0_.calls k a0 t578 t579 _ (by exact Tb.below HT.out qb) A3.out).mono ?_); rintro e w9 ⟨v580,rfl,ho0,hb⟩; refine ⟨_,rfl, ?_⟩; have HO581 := y0.mk (Kd.R_lower ho0 (y4 qb)); replace HB := y0.mk (y5 qb hb); (try clear hb); (try clear hb2); (try clear hk); (try clear hi); (try clear ho0)) | ((with_reducible refine y10 (f := 81) rfl ?_); refine y11 (some 20) rfl rfl Tryd.func81 (by kernel_rfl) rfl #[.string a1] rfl qy0 ?_; (with_reducible refine (z0_.calls k a1 t582 t583 _ (by exact Tb.below HT.out qb) A4.out).mono ?_); rintro e w10 ⟨v584,rfl,ho0,hb⟩; refine ⟨_,rfl, ?_⟩; have HO585 := y0.mk (Kd.R_lower (Kd.R_new' ho0 (Kd.R_lt (qR HO581.out))) (y4 qb)); replace HO581 := y0.mk (Kd.R_elder' (qR HO581.out) (Kd.R_base ho0) hb); replace HB := y0.mk (y5 qb hb); (try clear hb); (try clear hb2); (try clear hk); (try clear hi); (try clear ho0)) | ((with_reducible refine y10 (f := 115) rfl ?_); refine y11 (some 25) rfl rfl Tryd.func115 (by kernel_rfl) rfl #[.string t578,.string t582] rfl qy0 ?_; (with_reducible refine (cmp_Compare_string.calls t578 t582 t586 _ A5.out).mono ?_); rintro e w' ⟨rfl,⟨nd,rfl⟩⟩; refine ⟨_,rfl, ?_⟩; obtain ⟨Ao11,co11,eo11⟩ := Kd.R_slice HO581.out; subst eo11; obtain ⟨Ao12,co12,eo12⟩ := Kd.R_slice HO585.out; subst eo12) | ((with_reducible refine y10 (f := 114) rfl ?_); refine y11 (some 30) rfl rfl Tryd.func114 (by kernel_rfl) rfl #[.int .i64 (t579.length : Int),.int .i64 (t583.length : Int)] rfl qy0 ?_; (with_reducible refine (cmp_Compare_int.calls (t579.length : Int) (t583.length : Int) t587 _ A6.out).mono ?_); rintro e w' ⟨rfl,⟨nd,rfl⟩⟩; refine ⟨_,rfl, ?_⟩) | ((with_reducible refine gate_dst (N := 31) rfl ?_); refine Kd.R_lit (Kd.int .i64) _ 3 ?hg (N := 31) ?hd (xs := ([t586,t587] : List Int)) (inner := [.int .i64 t586,.int .i64 t587]) (ok := fun _ => True) (okp := fun _ => True) ?hr ?hp (fun _ hk => hk) trivial (Below.refl _ _) (Nat.le_refl _) (by simp) ?_; (case hd => rfl); (case hg => rfl); (case hr => first | (go_simp; done) | (go_simp; rfl)); (case hp => exact (Reps.one (show Kd.M (Kd.int .i64) _ _ _ t586 [.int .i64 t586] from rfl) (Reps.one (show Kd.M (Kd.int .i64) _ _ _ t587 [.int .i64 t587] from rfl) (Reps.none _ _)))); intro v589 w13 ho14 hb hg_ hnew_; clear hg_ hnew_; (first | rw [← Ny588.out] at ho14 | (simp only [Int.reduceToNat] at ho14; rw [← Ny588.out] at ho14)); replace HO581 := y0.mk (Kd.R_below (qR HO581.out) hb); replace HO585 := y0.mk (Kd.R_below (qR HO585.out) hb); have HO590 := y0.mk (Kd.R_lower ho14 (y4 qb)); replace HB := y0.mk (y5 qb hb); clear hb ho14; obtain ⟨Ao15,co15,eo15⟩ := Kd.R_slice HO590.out; subst eo15) | ((with_reducible refine y10 (f := 137) rfl ?_); refine y11 (some 32) rfl rfl Tryd.func137 (by kernel_rfl) rfl #[.slice Ao15 y588.length co15] rfl qy0 ?_; (with_reducible refine (cmp_Or_int.calls k _ _ y588 t591 _ (qc ((Kd.R_reads' HO590.out).2.2)) (by exact (Kd.R_reads' HO590.out).2.1) A7.out).mono ?_); rintro e w' ⟨rfl,⟨nd,rfl⟩⟩; refine ⟨_,rfl, ?_⟩))
  go_loopg [38] k (fun kq v38 w' => ∃ (x38_1 : Int),v38 = .int .i64 x38_1 ∧ y0 (impl_compareCons.l0 kq t583 t579 (t579.length : Int) x38_1 = some r) ∧ y0 (kq ≤ k) ∧ y0 (Kd.R Kd.string 9 w' w.heap.size (fun k_ => some k_ ≠ ((.slice Ao11 t579.length co11) : Value).ownBlock) (.slice Ao12 t583.length co12) t583) ∧ y0 (Kd.R Kd.string 9 w' w.heap.size (fun k_ => some k_ ≠ ((.slice Ao12 t583.length co12) : Value).ownBlock) (.slice Ao11 t579.length co11) t579) ∧ y0 (Below w.heap.size w w'))
  case atStart => exact ⟨(0),qy2,H',⟨Nat.le_refl _⟩,⟨qR (Kd.R_mono HO585.out (fun _ hk => hk.2))⟩,⟨qR (Kd.R_mono HO581.out (fun _ hk => hk.2))⟩,⟨qb⟩⟩
  case round =>
   clear H'
   (try clear c8b0 c8b1)
   obtain ⟨x38_1,rfl,HA,HK1,HO_8,HO_36,HB⟩ := hrel
   cases gk with
   | zero => exact absurd HA.out (by simp [impl_compareCons.l0])
   | succ k1 =>
    have H := HA.out
    clear HA
    simp only [impl_compareCons.l0] at H
    by_cases c16 : x38_1 < (t579.length : Int)
    ·rw [if_pos c16] at H
     have c16b0 := decide_eq_true c16
     clear c16
     obtain ⟨c17,H⟩ := qo H
     have c17b0 := decide_eq_true c17
     clear c17
     obtain ⟨c18,H⟩ := qo H
     have c18b0 := decide_eq_true c18
     clear c18
     obtain ⟨c19,H⟩ := qo H
     have c19b0 : decide (x38_1 < (t583.length : Int)) = true := decide_eq_true c19
     clear c19
     obtain ⟨t594,A20,H⟩ := qB H
     by_cases c21 : t594 = 0
     ·rw [if_pos c21] at H
      have c21b0 : (t594 == 0) = true := beq_iff_eq.mpr c21
      have c21b1 : (t594 != 0) = false := bne_eq_false_iff_eq.mpr c21
      clear c21
      have H' := y0.mk H
      clear H
      have p592 : 0 ≤ (x38_1 : Int) := of_decide_eq_true qy1
      have q592 : x38_1 < (t579.length : Int) := of_decide_eq_true qy1
      obtain ⟨ad592,e592,hx592_0⟩ := Kd.at_string (Kd.R_reads' HO_36.out).2.2 x38_1 p592 q592
      cases e592
      replace p592 := eq_true p592
      replace q592 := eq_true q592
      have p593 : 0 ≤ (x38_1 : Int) := of_decide_eq_true qy1
      have q593 : x38_1 < (t583.length : Int) := of_decide_eq_true qy1
      obtain ⟨ad593,e593,hx593_0⟩ := Kd.at_string (Kd.R_reads' HO_8.out).2.2 x38_1 p593 q593
      cases e593
      replace p593 := eq_true p593
      replace q593 := eq_true q593
      go_wp2_with (first | ((with_reducible refine y10 (f := 92) rfl ?_); refine y11 (some 48) rfl rfl Tryd.func92 (by kernel_rfl) rfl #[.string (rdOf ByteArray.empty t579 x38_1),.string (rdOf ByteArray.empty t583 x38_1)] rfl qy0 ?_; (with_reducible refine (ih_impl_compareTerms k1 (by have := HK1.out; omega) (rdOf ByteArray.empty t579 x38_1) (rdOf ByteArray.empty t583 x38_1) t594 _ (by exact Tb.below HT.out qb) A20.out).mono ?_); rintro e w22 ⟨rfl,hb⟩; refine ⟨_,rfl, ?_⟩; replace HO_8 := y0.mk (Kd.R_below (qR HO_8.out) hb); replace HO_36 := y0.mk (Kd.R_below (qR HO_36.out) hb); replace HB := y0.mk (y5 qb hb); (try clear hb); (try clear hb2); (try clear hk); (try clear hi)))
      go_roundg k1
      case measure => have := HK1.out; omega
      exact ⟨(wrap64 (x38_1 + 1)),qy2,H',⟨by have := HK1.out; omega⟩,⟨qR HO_8.out⟩,⟨qR HO_36.out⟩,⟨qb⟩⟩
     ·rw [if_neg c21] at H
      have c21b0 : (t594 == 0) = false := beq_eq_false_iff_ne.mpr c21
      have c21b1 : (t594 != 0) = true := bne_iff_ne.mpr c21
      obtain rfl := Option.some.inj H
      have p592 : 0 ≤ (x38_1 : Int) := of_decide_eq_true qy1
      have q592 : x38_1 < (t579.length : Int) := of_decide_eq_true qy1
      obtain ⟨ad592,e592,hx592_0⟩ := Kd.at_string (Kd.R_reads' HO_36.out).2.2 x38_1 p592 q592
      cases e592
      replace p592 := eq_true p592
      replace q592 := eq_true q592
      have p593 : 0 ≤ (x38_1 : Int) := of_decide_eq_true qy1
      have q593 : x38_1 < (t583.length : Int) := of_decide_eq_true qy1
      obtain ⟨ad593,e593,hx593_0⟩ := Kd.at_string (Kd.R_reads' HO_8.out).2.2 x38_1 p593 q593
      cases e593
      replace p593 := eq_true p593
      replace q593 := eq_true q593
      go_wp2_with (first | ((with_reducible refine y10 (f := 92) rfl ?_); refine y11 (some 48) rfl rfl Tryd.func92 (by kernel_rfl) rfl #[.string (rdOf ByteArray.empty t579 x38_1),.string (rdOf ByteArray.empty t583 x38_1)] rfl qy0 ?_; (with_reducible refine (ih_impl_compareTerms k1 (by have := HK1.out; omega) (rdOf ByteArray.empty t579 x38_1) (rdOf ByteArray.empty t583 x38_1) t594 _ (by exact Tb.below HT.out qb) A20.out).mono ?_); rintro e w23 ⟨rfl,hb⟩; refine ⟨_,rfl, ?_⟩; replace HO_8 := y0.mk (Kd.R_below (qR HO_8.out) hb); replace HO_36 := y0.mk (Kd.R_below (qR HO_36.out) hb); replace HB := y0.mk (y5 qb hb); (try clear hb); (try clear hb2); (try clear hk); (try clear hi)))
      go_ret
      exact ⟨by first | rfl | (simp [y8,y9] <;> rfl) | (simp [*,y8,y9] <;> rfl),qb⟩
    ·rw [if_neg c16] at H
     have c16b0 := decide_eq_false c16
     clear c16
     obtain rfl := Option.some.inj H
     go_wp2
     go_ret
     exact ⟨by first | rfl | (simp [y8,y9] <;> rfl) | (simp [*,y8,y9] <;> rfl),qb⟩
 ·rw [if_neg c8] at H
  have c8b0 : (t591 == 0) = false := beq_eq_false_iff_ne.mpr c8
  have c8b1 : (t591 != 0) = true := bne_iff_ne.mpr c8
  obtain rfl := Option.some.inj H
  go_enter Tryd.func116,Tryd.ntmps116
  go_wp2_with (first | ((with_reducible refine y10 (f := 81) rfl ?_); refine y11 (some 15) rfl rfl Tryd.func81 (by kernel_rfl) rfl #[.string a0] rfl qy0 ?_; (with_reducible refine (z0_.calls k a0 t578 t579 _ (by exact Tb.below HT.out qb) A3.out).mono ?_); rintro e w24 ⟨v580,rfl,ho0,hb⟩; refine ⟨_,rfl, ?_⟩; have HO581 := y0.mk (Kd.R_lower ho0 (y4 qb)); replace HB := y0.mk (y5 qb hb); (try clear hb); (try clear hb2); (try clear hk); (try clear hi); (try clear ho0)) | ((with_reducible refine y10 (f := 81) rfl ?_); refine y11 (some 20) rfl rfl Tryd.func81 (by kernel_rfl) rfl #[.string a1] rfl qy0 ?_; (with_reducible refine (z0_.calls k a1 t582 t583 _ (by exact Tb.below HT.out qb) A4.out).mono ?_); rintro e w25 ⟨v584,rfl,ho0,hb⟩; refine ⟨_,rfl, ?_⟩; have HO585 := y0.mk (Kd.R_lower (Kd.R_new' ho0 (Kd.R_lt (qR HO581.out))) (y4 qb)); replace HO581 := y0.mk (Kd.R_elder' (qR HO581.out) (Kd.R_base ho0) hb); replace HB := y0.mk (y5 qb hb); (try clear hb); (try clear hb2); (try clear hk); (try clear hi); (try clear ho0)) | ((with_reducible refine y10 (f := 115) rfl ?_); refine y11 (some 25) rfl rfl Tryd.func115 (by kernel_rfl) rfl #[.string t578,.string t582] rfl qy0 ?_; (with_reducible refine (cmp_Compare_string.calls t578 t582 t586 _ A5.out).mono ?_); rintro e w' ⟨rfl,⟨nd,rfl⟩⟩; refine ⟨_,rfl, ?_⟩; obtain ⟨Ao26,co26,eo26⟩ := Kd.R_slice HO581.out; subst eo26; obtain ⟨Ao27,co27,eo27⟩ := Kd.R_slice HO585.out; subst eo27) | ((with_reducible refine y10 (f := 114) rfl ?_); refine y11 (some 30) rfl rfl Tryd.func114 (by kernel_rfl) rfl #[.int .i64 (t579.length : Int),.int .i64 (t583.length : Int)] rfl qy0 ?_; (with_reducible refine (cmp_Compare_int.calls (t579.length : Int) (t583.length : Int) t587 _ A6.out).mono ?_); rintro e w' ⟨rfl,⟨nd,rfl⟩⟩; refine ⟨_,rfl, ?_⟩) | ((with_reducible refine gate_dst (N := 31) rfl ?_); refine Kd.R_lit (Kd.int .i64) _ 3 ?hg (N := 31) ?hd (xs := ([t586,t587] : List Int)) (inner := [.int .i64 t586,.int .i64 t587]) (ok := fun _ => True) (okp := fun _ => True) ?hr ?hp (fun _ hk => hk) trivial (Below.refl _ _) (Nat.le_refl _) (by simp) ?_; (case hd => rfl); (case hg => rfl); (case hr => first | (go_simp; done) | (go_simp; rfl)); (case hp => exact (Reps.one (show Kd.M (Kd.int .i64) _ _ _ t586 [.int .i64 t586] from rfl) (Reps.one (show Kd.M (Kd.int .i64) _ _ _ t587 [.int .i64 t587] from rfl) (Reps.none _ _)))); intro v589 w28 ho29 hb hg_ hnew_; clear hg_ hnew_; (first | rw [← Ny588.out] at ho29 | (simp only [Int.reduceToNat] at ho29; rw [← Ny588.out] at ho29)); replace HO581 := y0.mk (Kd.R_below (qR HO581.out) hb); replace HO585 := y0.mk (Kd.R_below (qR HO585.out) hb); have HO590 := y0.mk (Kd.R_lower ho29 (y4 qb)); replace HB := y0.mk (y5 qb hb); clear hb ho29; obtain ⟨Ao30,co30,eo30⟩ := Kd.R_slice HO590.out; subst eo30) | ((with_reducible refine y10 (f := 137) rfl ?_); refine y11 (some 32) rfl rfl Tryd.func137 (by kernel_rfl) rfl #[.slice Ao30 y588.length co30] rfl qy0 ?_; (with_reducible refine (cmp_Or_int.calls k _ _ y588 t591 _ (qc ((Kd.R_reads' HO590.out).2.2)) (by exact (Kd.R_reads' HO590.out).2.1) A7.out).mono ?_); rintro e w' ⟨rfl,⟨nd,rfl⟩⟩; refine ⟨_,rfl, ?_⟩))
  go_ret
  exact ⟨by first | rfl | (simp [y8,y9] <;> rfl) | (simp [*,y8,y9] <;> rfl),qb⟩
set_option maxHeartbeats 8000000 in
set_option maxRecDepth 100000 in
theorem impl_compareTerms.step (k : Nat) (ih_impl_compareCons : ∀ m,m < k → impl_compareCons.Stm m) (ih : ∀ m,m < k → impl_compareTerms.Stm m) : impl_compareTerms.Stm k := by
 intro a0 a1 r w hT h
 cases k with
 | zero => exact absurd h (by simp [impl_compareTerms.f])
 | succ k =>
 simp only [impl_compareTerms.f] at h
 have HT := y0.mk hT
 clear hT
 have HB := y0.mk (Below.refl w.heap.size w)
 have H : ((impl_kindOf.f k a0).bind fun t595 => ((impl_kindOf.f k a1).bind fun t596 => (if t595 = 0 then (impl_compareTerms.j0 k a0 a1 t595 t596 true) else (impl_compareTerms.j0 k a0 a1 t595 t596 (t596 == 0))))) = some r := h
 clear h
 obtain ⟨t595,A3,H⟩ := qB H
 obtain ⟨t596,A4,H⟩ := qB H
 have HC5 := y0.mk H
 clear H
 go_enter Tryd.func92,Tryd.ntmps92
 go_upto_region 2 with (first | (go_at_call 71; (with_reducible refine (impl_kindOf.calls k a0 t595 _ (by exact Tb.below HT.out qb) A3.out).mono ?_); rintro e w6 ⟨rfl,hb⟩; replace HB := y0.mk (y5 qb hb); (try clear hb); (try clear hb2); (try clear hk); (try clear hi)) | (go_at_call 71; (with_reducible refine (impl_kindOf.calls k a1 t596 _ (by exact Tb.below HT.out qb) A4.out).mono ?_); rintro e w7 ⟨rfl,hb⟩; replace HB := y0.mk (y5 qb hb); (try clear hb); (try clear hb2); (try clear hk); (try clear hi)))
 repeat (go_quiet (first | (go_at_call 71; (with_reducible refine (impl_kindOf.calls k a0 t595 _ (by exact Tb.below HT.out qb) A3.out).mono ?_); rintro e w6 ⟨rfl,hb⟩; replace HB := y0.mk (y5 qb hb); (try clear hb); (try clear hb2); (try clear hk); (try clear hi)) | (go_at_call 71; (with_reducible refine (impl_kindOf.calls k a1 t596 _ (by exact Tb.below HT.out qb) A4.out).mono ?_); rintro e w7 ⟨rfl,hb⟩; replace HB := y0.mk (y5 qb hb); (try clear hb); (try clear hb2); (try clear hk); (try clear hi))); go_upto_region 2 with (first | (go_at_call 71; (with_reducible refine (impl_kindOf.calls k a0 t595 _ (by exact Tb.below HT.out qb) A3.out).mono ?_); rintro e w6 ⟨rfl,hb⟩; replace HB := y0.mk (y5 qb hb); (try clear hb); (try clear hb2); (try clear hk); (try clear hi)) | (go_at_call 71; (with_reducible refine (impl_kindOf.calls k a1 t596 _ (by exact Tb.below HT.out qb) A4.out).mono ?_); rintro e w7 ⟨rfl,hb⟩; replace HB := y0.mk (y5 qb hb); (try clear hb); (try clear hb2); (try clear hk); (try clear hi))))
 (try simp only [Act.put,qS_,qZ_,qC_])
 go_cut [11] (fun v11 wc => ∃ (kq : Nat) (x11_4 : Bool),v11 = .bool x11_4 ∧ y0 (impl_compareTerms.j0 kq a0 a1 t595 t596 x11_4 = some r) ∧ y0 (kq ≤ k) ∧ y0 (Below w.heap.size w wc))
 case first =>
  have H := HC5.out
  clear HC5
  by_cases c8 : t595 = 0
  ·rw [if_pos c8] at H
   have c8b0 : (t595 == 0) = true := beq_iff_eq.mpr c8
   have c8b1 : (t595 != 0) = false := bne_eq_false_iff_eq.mpr c8
   clear c8
   (first | rw [c8b0] | (simp only [y13,y12]; rw [c8b0]) | skip)
   have H' := y0.mk H
   clear H
   go_wp2
   repeat (go_quiet (fail); try go_wp2)
   go_meet
   exact ⟨_,(true),qy2,H',⟨by first | omega | exact Nat.le_refl _⟩,⟨qb⟩⟩
  ·rw [if_neg c8] at H
   have c8b0 : (t595 == 0) = false := beq_eq_false_iff_ne.mpr c8
   have c8b1 : (t595 != 0) = true := bne_iff_ne.mpr c8
   (first | rw [c8b0] | (simp only [y13,y12]; rw [c8b0]) | skip)
   have H' := y0.mk H
   clear H
   go_wp2
   repeat (go_quiet (fail); try go_wp2)
   go_meet
   exact ⟨_,((t596 == 0)),qy2,H',⟨by first | omega | exact Nat.le_refl _⟩,⟨qb⟩⟩
 case rest =>
  clear HC5
  obtain ⟨kq,x11_4,rfl,HA,HJ4,HB⟩ := hcut
  cases kq with
  | zero => exact absurd HA.out (by simp [impl_compareTerms.j0])
  | succ kj4 =>
   have H := HA.out
   clear HA
   simp only [impl_compareTerms.j0] at H
   by_cases c9 : x11_4 = true
   ·subst c9
    replace H := qT H
    obtain rfl := Option.some.inj H
    go_wp2
    repeat (go_quiet (fail); try go_wp2)
    go_ret
    exact ⟨by first | rfl | (simp [y8,y9] <;> rfl) | (simp [*,y8,y9] <;> rfl),qb⟩
   ·replace c9 := Bool.eq_false_iff.mpr c9
    subst c9
    replace H := qF H
    by_cases c10 : t595 = t596
    ·rw [if_pos c10] at H
     have c10b0 : (t595 == t596) = true := beq_iff_eq.mpr c10
     have c10b1 : (t595 != t596) = false := bne_eq_false_iff_eq.mpr c10
     clear c10
     by_cases c11 : t595 = 1
     ·rw [if_pos c11] at H
      have c11b0 : (t595 == 1) = true := beq_iff_eq.mpr c11
      have c11b1 : (t595 != 1) = false := bne_eq_false_iff_eq.mpr c11
      clear c11
      obtain ⟨t597,A12,H⟩ := qB H
      obtain ⟨t598,A13,H⟩ := qB H
      obtain ⟨t599,A14,H⟩ := qB H
      obtain rfl := Option.some.inj H
      go_wp2_with (first | (go_at_call 72; (with_reducible refine (impl_numOf.calls a0 t597 _ (by exact Tb.below HT.out qb) A12.out).mono ?_); rintro e w15 ⟨rfl,hb⟩; replace HB := y0.mk (y5 qb hb); (try clear hb); (try clear hb2); (try clear hk); (try clear hi)) | (go_at_call 72; (with_reducible refine (impl_numOf.calls a1 t598 _ (by exact Tb.below HT.out qb) A13.out).mono ?_); rintro e w16 ⟨rfl,hb⟩; replace HB := y0.mk (y5 qb hb); (try clear hb); (try clear hb2); (try clear hk); (try clear hi)) | (go_at_call 114; (with_reducible refine (cmp_Compare_int.calls t597 t598 t599 _ A14.out).mono ?_); rintro e w' ⟨rfl,⟨nd,rfl⟩⟩; (try first | exact ⟨rfl,_,World.drewN_drewN _ _ _⟩ | exact ⟨rfl,_,Eq.trans (World.drewN_drewN _ _ _) (congrArg (World.drewN _) (Nat.add_assoc _ _ _))⟩)))
      repeat (go_quiet (first | (go_at_call 72; (with_reducible refine (impl_numOf.calls a0 t597 _ (by exact Tb.below HT.out qb) A12.out).mono ?_); rintro e w15 ⟨rfl,hb⟩; replace HB := y0.mk (y5 qb hb); (try clear hb); (try clear hb2); (try clear hk); (try clear hi)) | (go_at_call 72; (with_reducible refine (impl_numOf.calls a1 t598 _ (by exact Tb.below HT.out qb) A13.out).mono ?_); rintro e w16 ⟨rfl,hb⟩; replace HB := y0.mk (y5 qb hb); (try clear hb); (try clear hb2); (try clear hk); (try clear hi)) | (go_at_call 114; (with_reducible refine (cmp_Compare_int.calls t597 t598 t599 _ A14.out).mono ?_); rintro e w' ⟨rfl,⟨nd,rfl⟩⟩; (try first | exact ⟨rfl,_,World.drewN_drewN _ _ _⟩ | exact ⟨rfl,_,Eq.trans (World.drewN_drewN _ _ _) (congrArg (World.drewN _) (Nat.add_assoc _ _ _))⟩))); try go_wp2_with (first | (go_at_call 72; (with_reducible refine (impl_numOf.calls a0 t597 _ (by exact Tb.below HT.out qb) A12.out).mono ?_); rintro e w15 ⟨rfl,hb⟩; replace HB := y0.mk (y5 qb hb); (try clear hb); (try clear hb2); (try clear hk); (try clear hi)) | (go_at_call 72; (with_reducible refine (impl_numOf.calls a1 t598 _ (by exact Tb.below HT.out qb) A13.out).mono ?_); rintro e w16 ⟨rfl,hb⟩; replace HB := y0.mk (y5 qb hb); (try clear hb); (try clear hb2); (try clear hk); (try clear hi)) | (go_at_call 114; (with_reducible refine (cmp_Compare_int.calls t597 t598 t599 _ A14.out).mono ?_); rintro e w' ⟨rfl,⟨nd,rfl⟩⟩; (try first | exact ⟨rfl,_,World.drewN_drewN _ _ _⟩ | exact ⟨rfl,_,Eq.trans (World.drewN_drewN _ _ _) (congrArg (World.drewN _) (Nat.add_assoc _ _ _))⟩))))
      go_ret
      exact ⟨by first | rfl | (simp [y8,y9] <;> rfl) | (simp [*,y8,y9] <;> rfl),qb⟩
     ·rw [if_neg c11] at H
      have c11b0 : (t595 == 1) = false := beq_eq_false_iff_ne.mpr c11
      have c11b1 : (t595 != 1) = true := bne_iff_ne.mpr c11
      by_cases c17 : t595 = 2
      ·rw [if_pos c17] at H
       have c17b0 : (t595 == 2) = true := beq_iff_eq.mpr c17
       have c17b1 : (t595 != 2) = false := bne_eq_false_iff_eq.mpr c17
       clear c17
       obtain ⟨c18,H⟩ := qo H
       have c18b0 := eq_true c18
       have c18b1 := decide_eq_true c18
       clear c18
       obtain ⟨c19,H⟩ := qo H
       have c19b0 := eq_true c19
       have c19b1 := decide_eq_true c19
       clear c19
       obtain ⟨c20,H⟩ := qo H
       have c20b0 := eq_true c20
       have c20b1 := decide_eq_true c20
       clear c20
       obtain ⟨c21,H⟩ := qo H
       have c21b0 := eq_true c21
       have c21b1 := decide_eq_true c21
       clear c21
       obtain ⟨t600,A22,H⟩ := qB H
       obtain rfl := Option.some.inj H
       go_wp2_with (first | (go_at_call 115; (with_reducible refine (cmp_Compare_string.calls (a0.extract 1 ((wrap64 ((a0.size : Int) - 1)) : Int).toNat) (a1.extract 1 ((wrap64 ((a1.size : Int) - 1)) : Int).toNat) t600 _ A22.out).mono ?_); rintro e w' ⟨rfl,⟨nd,rfl⟩⟩; (try first | exact ⟨rfl,_,World.drewN_drewN _ _ _⟩ | exact ⟨rfl,_,Eq.trans (World.drewN_drewN _ _ _) (congrArg (World.drewN _) (Nat.add_assoc _ _ _))⟩)))
       repeat (go_quiet (first | (go_at_call 115; (with_reducible refine (cmp_Compare_string.calls (a0.extract 1 ((wrap64 ((a0.size : Int) - 1)) : Int).toNat) (a1.extract 1 ((wrap64 ((a1.size : Int) - 1)) : Int).toNat) t600 _ A22.out).mono ?_); rintro e w' ⟨rfl,⟨nd,rfl⟩⟩; (try first | exact ⟨rfl,_,World.drewN_drewN _ _ _⟩ | exact ⟨rfl,_,Eq.trans (World.drewN_drewN _ _ _) (congrArg (World.drewN _) (Nat.add_assoc _ _ _))⟩))); try go_wp2_with (first | (go_at_call 115; (with_reducible refine (cmp_Compare_string.calls (a0.extract 1 ((wrap64 ((a0.size : Int) - 1)) : Int).toNat) (a1.extract 1 ((wrap64 ((a1.size : Int) - 1)) : Int).toNat) t600 _ A22.out).mono ?_); rintro e w' ⟨rfl,⟨nd,rfl⟩⟩; (try first | exact ⟨rfl,_,World.drewN_drewN _ _ _⟩ | exact ⟨rfl,_,Eq.trans (World.drewN_drewN _ _ _) (congrArg (World.drewN _) (Nat.add_assoc _ _ _))⟩))))
       go_ret
       exact ⟨by first | rfl | (simp [y8,y9] <;> rfl) | (simp [*,y8,y9] <;> rfl),qb⟩
      ·rw [if_neg c17] at H
       have c17b0 : (t595 == 2) = false := beq_eq_false_iff_ne.mpr c17
       have c17b1 : (t595 != 2) = true := bne_iff_ne.mpr c17
       obtain ⟨t601,A23,H⟩ := qB H
       obtain rfl := Option.some.inj H
       go_wp2_with (first | (go_at_call 116; (with_reducible refine (ih_impl_compareCons kj4 (by have := HJ4.out; omega) a0 a1 t601 _ (by exact Tb.below HT.out qb) A23.out).mono ?_); rintro e w24 ⟨rfl,hb⟩; replace HB := y0.mk (y5 qb hb); (try clear hb); (try clear hb2); (try clear hk); (try clear hi)))
       repeat (go_quiet (first | (go_at_call 116; (with_reducible refine (ih_impl_compareCons kj4 (by have := HJ4.out; omega) a0 a1 t601 _ (by exact Tb.below HT.out qb) A23.out).mono ?_); rintro e w24 ⟨rfl,hb⟩; replace HB := y0.mk (y5 qb hb); (try clear hb); (try clear hb2); (try clear hk); (try clear hi))); try go_wp2_with (first | (go_at_call 116; (with_reducible refine (ih_impl_compareCons kj4 (by have := HJ4.out; omega) a0 a1 t601 _ (by exact Tb.below HT.out qb) A23.out).mono ?_); rintro e w24 ⟨rfl,hb⟩; replace HB := y0.mk (y5 qb hb); (try clear hb); (try clear hb2); (try clear hk); (try clear hi))))
       go_ret
       exact ⟨by first | rfl | (simp [y8,y9] <;> rfl) | (simp [*,y8,y9] <;> rfl),qb⟩
    ·rw [if_neg c10] at H
     have c10b0 : (t595 == t596) = false := beq_eq_false_iff_ne.mpr c10
     have c10b1 : (t595 != t596) = true := bne_iff_ne.mpr c10
     obtain ⟨t602,A25,H⟩ := qB H
     obtain rfl := Option.some.inj H
     go_wp2_with (first | (go_at_call 114; (with_reducible refine (cmp_Compare_int.calls t595 t596 t602 _ A25.out).mono ?_); rintro e w' ⟨rfl,⟨nd,rfl⟩⟩; (try first | exact ⟨rfl,_,World.drewN_drewN _ _ _⟩ | exact ⟨rfl,_,Eq.trans (World.drewN_drewN _ _ _) (congrArg (World.drewN _) (Nat.add_assoc _ _ _))⟩)))
     repeat (go_quiet (first | (go_at_call 114; (with_reducible refine (cmp_Compare_int.calls t595 t596 t602 _ A25.out).mono ?_); rintro e w' ⟨rfl,⟨nd,rfl⟩⟩; (try first | exact ⟨rfl,_,World.drewN_drewN _ _ _⟩ | exact ⟨rfl,_,Eq.trans (World.drewN_drewN _ _ _) (congrArg (World.drewN _) (Nat.add_assoc _ _ _))⟩))); try go_wp2_with (first | (go_at_call 114; (with_reducible refine (cmp_Compare_int.calls t595 t596 t602 _ A25.out).mono ?_); rintro e w' ⟨rfl,⟨nd,rfl⟩⟩; (try first | exact ⟨rfl,_,World.drewN_drewN _ _ _⟩ | exact ⟨rfl,_,Eq.trans (World.drewN_drewN _ _ _) (congrArg (World.drewN _) (Nat.add_assoc _ _ _))⟩))))
     go_ret
     exact ⟨by first | rfl | (simp [y8,y9] <;> rfl) | (simp [*,y8,y9] <;> rfl),qb⟩
theorem impl_compareCons.all.Stm : ∀ k,impl_compareCons.Stm k ∧ impl_compareTerms.Stm k := by
 intro k
 induction k using Nat.strongRecOn with
 | _ k ih =>
 exact ⟨impl_compareCons.step k (fun m h => (ih m h).1) (fun m h => (ih m h).2),impl_compareTerms.step k (fun m h => (ih m h).1) (fun m h => (ih m h).2)⟩
theorem impl_compareTerms.calls (k : Nat) : ∀ (a0 : ByteArray) (a1 : ByteArray) (r : Int) (w : World) (hT : Tb w) (h : impl_compareTerms.f k a0 a1 = some r),
  Calls Tryd.prog 92 #[.string a0,.string a1] w fun e w' => e = .returned (.int .i64 r) ∧ Below w.heap.size w w' := (impl_compareCons.all.Stm k).2
end Go.Proofs.YtebadckdihgklaaDoor.Pb
end
section
namespace Go.Proofs.YtebadckdihgklaaDoor.Pb
open Go.RowKit Go.Proofs.YtebadckdihgklaaDoorW.PrintWords Go.Proofs.YtebadckdihgklaaDoorW.PrintLast Go.Proofs.YtebadckdihgklaaDoorW.PrintMore
attribute [local go_sem] max2_int min2_int max_two min_two max_three min_three max_four min_four   -- for this text's walks alone
set_option linter.unusedVariables false
set_option linter.unusedSimpArgs false
def laws_szTuple.f (k : Nat) (l0_0 : List ByteArray) (a1 : Int) : Option (Int) := (laws_szStringS.f k l0_0 a1).bind fun t744 => (if t744 < 0 then (some (-1)) else (some t744))
set_option maxHeartbeats 8000000 in
set_option maxRecDepth 100000 in
theorem laws_szTuple.calls (k : Nat) (A0_0 : Option Addr) (c0_0 : Nat) (l0_0 : List ByteArray) (a1 : Int) (r : Int) (w : World) (hr0_0 : Kd.C Kd.string w A0_0 l0_0.length l0_0) (hc0_0 : l0_0.length ≤ c0_0) (h : laws_szTuple.f k l0_0 a1 = some r) :
  Calls Tryd.prog 30 #[.agg #[.slice A0_0 l0_0.length c0_0],.int .i64 a1] w fun e w' => e = .returned (.int .i64 r) ∧ Below w.heap.size w w' := by
 have hu33 := Tryd.underlying33
 have HR0_0 := y0.mk hr0_0
 have HC0_0 := y0.mk hc0_0
 clear hr0_0 hc0_0
 have HB := y0.mk (Below.refl w.heap.size w)
 have H : ((laws_szStringS.f k l0_0 a1).bind fun t744 => (if t744 < 0 then (some (-1)) else (some t744))) = some r := h
 clear h
 obtain ⟨t744,A3,H⟩ := qB H
 by_cases c4 : t744 < 0
 ·rw [if_pos c4] at H
  have c4b0 := decide_eq_true c4
  clear c4
  obtain rfl := Option.some.inj H
  go_enter Tryd.func30,Tryd.ntmps30
  go_wp2_with (first | ((with_reducible refine gate_dst (N := 2) rfl ?_); refine qe 2 #[.slice A0_0 l0_0.length c0_0] 33 ?_; intro gb743 hg w5 hbox hb; have BK743 := y0.mk (hbox); have GW743 := y0.mk (qg (w := w) hg); have GE743 := y0.mk (qg (w := w) hg); replace HB := y0.mk (y5 qb hb); clear hb hbox hg; obtain ⟨hcz6_0,hfz6_0⟩ := qz1 BK743.out) | ((with_reducible refine y10 (f := 35) rfl ?_); refine y11 (some 8) rfl rfl Tryd.func35 (by kernel_rfl) rfl #[.slice A0_0 l0_0.length c0_0,.int .i64 a1] rfl qy0 ?_; (with_reducible refine (laws_szStringS.calls k _ _ l0_0 a1 t744 _ (qc (Kd.C_below HR0_0.out HB.out)) HC0_0.out A3.out).mono ?_); rintro e w' ⟨rfl,⟨nd,rfl⟩⟩; refine ⟨_,rfl, ?_⟩))
  go_ret
  exact ⟨by first | rfl | (simp [y8,y9] <;> rfl) | (simp [*,y8,y9] <;> rfl),qb⟩
 ·rw [if_neg c4] at H
  have c4b0 := decide_eq_false c4
  clear c4
  obtain rfl := Option.some.inj H
  go_enter Tryd.func30,Tryd.ntmps30
  go_wp2_with (first | ((with_reducible refine gate_dst (N := 2) rfl ?_); refine qe 2 #[.slice A0_0 l0_0.length c0_0] 33 ?_; intro gb743 hg w7 hbox hb; have BK743 := y0.mk (hbox); have GW743 := y0.mk (qg (w := w) hg); have GE743 := y0.mk (qg (w := w) hg); replace HB := y0.mk (y5 qb hb); clear hb hbox hg; obtain ⟨hcz8_0,hfz8_0⟩ := qz1 BK743.out) | ((with_reducible refine y10 (f := 35) rfl ?_); refine y11 (some 8) rfl rfl Tryd.func35 (by kernel_rfl) rfl #[.slice A0_0 l0_0.length c0_0,.int .i64 a1] rfl qy0 ?_; (with_reducible refine (laws_szStringS.calls k _ _ l0_0 a1 t744 _ (qc (Kd.C_below HR0_0.out HB.out)) HC0_0.out A3.out).mono ?_); rintro e w' ⟨rfl,⟨nd,rfl⟩⟩; refine ⟨_,rfl, ?_⟩))
  go_ret
  exact ⟨by first | rfl | (simp [y8,y9] <;> rfl) | (simp [*,y8,y9] <;> rfl),qb⟩
def spec_TupleOk.l0 : Nat → Int → List ByteArray → Option (Bool)
 | 0,_,_ => none
 | k + 1,x3,x746000 => if x3 < (x746000.length : Int) then (if 0 ≤ x3 then ((z3_.f k (rdOf ByteArray.empty x746000 x3)).bind fun t747 => (if t747 = 0 then (some false) else (spec_TupleOk.l0 k (wrap64 (x3 + 1)) x746000))) else (none)) else (some true)
def spec_TupleOk.f (k : Nat) (l0_0 : List ByteArray) : Option (Bool) := if (l0_0.length : Int) > 6 then (some false) else (spec_TupleOk.l0 k 0 l0_0)
set_option maxHeartbeats 8000000 in
set_option maxRecDepth 100000 in
theorem spec_TupleOk.calls (k : Nat) (A0_0 : Option Addr) (c0_0 : Nat) (l0_0 : List ByteArray) (r : Bool) (w : World) (hr0_0 : Kd.C Kd.string w A0_0 l0_0.length l0_0) (hc0_0 : l0_0.length ≤ c0_0) (h : spec_TupleOk.f k l0_0 = some r) :
  Calls Tryd.prog 31 #[.agg #[.slice A0_0 l0_0.length c0_0]] w fun e w' => e = .returned (.bool r) ∧ Below w.heap.size w w' := by
 have hu36 := Tryd.underlying36
 have HR0_0 := y0.mk hr0_0
 have HC0_0 := y0.mk hc0_0
 clear hr0_0 hc0_0
 have HB := y0.mk (Below.refl w.heap.size w)
 have H : (if (l0_0.length : Int) > 6 then (some false) else (spec_TupleOk.l0 k 0 l0_0)) = some r := h
 clear h
 by_cases c2 : (l0_0.length : Int) > 6
 ·rw [if_pos c2] at H
  have c2b0 : decide (6 < (l0_0.length : Int)) = true := decide_eq_true c2
  have c2b1 : decide (6 < l0_0.length) = true := decide_eq_true (by omega)
  clear c2
  obtain rfl := Option.some.inj H
  go_enter Tryd.func31,Tryd.ntmps31
  go_wp2_with (first | ((with_reducible refine gate_dst (N := 1) rfl ?_); refine qe 1 #[.slice A0_0 l0_0.length c0_0] 36 ?_; intro gb745 hg w3 hbox hb; have BK745 := y0.mk (hbox); have GW745 := y0.mk (qg (w := w) hg); have GE745 := y0.mk (qg (w := w) hg); replace HB := y0.mk (y5 qb hb); clear hb hbox hg; obtain ⟨hcz4_0,hfz4_0⟩ := qz1 BK745.out))
  go_ret
  exact ⟨by first | rfl | (simp [y8,y9] <;> rfl) | (simp [*,y8,y9] <;> rfl),qb⟩
 ·rw [if_neg c2] at H
  have c2b0 : decide (6 < (l0_0.length : Int)) = false := decide_eq_false c2
  have c2b1 : decide (6 < l0_0.length) = false := decide_eq_false (by omega)
  clear c2
  have H' := y0.mk H
  clear H
  go_enter Tryd.func31,Tryd.ntmps31
  go_wp2_with (first | ((with_reducible refine gate_dst (N := 1) rfl ?_); refine qe 1 #[.slice A0_0 l0_0.length c0_0] 36 ?_; intro gb745 hg w5 hbox hb; have BK745 := y0.mk (hbox); have GW745 := y0.mk (qg (w := w) hg); have GE745 := y0.mk (qg (w := w) hg); replace HB := y0.mk (y5 qb hb); clear hb hbox hg; obtain ⟨hcz6_0,hfz6_0⟩ := qz1 BK745.out))
  go_loopg [3] k (fun kq v3 w' => ∃ (x3_1 : Int),v3 = .int .i64 x3_1 ∧ y0 (spec_TupleOk.l0 kq x3_1 l0_0 = some r) ∧ y0 (kq ≤ k) ∧ y0 (w'.heap[gb745]? = some (.cells #[(.slice A0_0 l0_0.length c0_0)] 36 (0,0))) ∧ y0 (Below w.heap.size w w'))
  case atStart => exact ⟨(0),qy2,H',⟨Nat.le_refl _⟩,⟨qk BK745.out⟩,⟨qb⟩⟩
  case round =>
   clear H'
   (try clear c2b0 c2b1 hcz6_0 hfz6_0)
   obtain ⟨x3_1,rfl,HA,HK1,BK745,HB⟩ := hrel
   cases gk with
   | zero => exact absurd HA.out (by simp [spec_TupleOk.l0])
   | succ k1 =>
    have H := HA.out
    clear HA
    simp only [spec_TupleOk.l0] at H
    by_cases c7 : x3_1 < (l0_0.length : Int)
    ·rw [if_pos c7] at H
     have c7b0 := decide_eq_true c7
     clear c7
     obtain ⟨c8,H⟩ := qo H
     have c8b0 : decide (0 ≤ x3_1) = true := decide_eq_true c8
     clear c8
     obtain ⟨t747,A9,H⟩ := qB H
     by_cases c10 : t747 = 0
     ·rw [if_pos c10] at H
      have c10b0 : (t747 == 0) = true := beq_iff_eq.mpr c10
      have c10b1 : (t747 != 0) = false := bne_eq_false_iff_eq.mpr c10
      clear c10
      obtain rfl := Option.some.inj H
      obtain ⟨hcz11_0,hfz11_0⟩ := qz1 BK745.out
      have p746 : 0 ≤ (x3_1 : Int) := of_decide_eq_true qy1
      have q746 : x3_1 < (l0_0.length : Int) := of_decide_eq_true qy1
      obtain ⟨ad746,e746,hx746_0⟩ := Kd.at_string HR0_0.out x3_1 p746 q746
      cases e746
      replace hx746_0 := (HB.out.cell (World.block_lt_of_cell? w _ hx746_0)).trans hx746_0
      replace p746 := eq_true p746
      replace q746 := eq_true q746
      go_wp2_with (first | ((with_reducible refine y10 (f := 29) rfl ?_); refine y11 (some 20) rfl rfl Tryd.func29 (by kernel_rfl) rfl #[.string (rdOf ByteArray.empty l0_0 x3_1)] rfl qy0 ?_; (with_reducible refine (z3_.calls k1 (rdOf ByteArray.empty l0_0 x3_1) t747 _ A9.out).mono ?_); rintro e w12 ⟨rfl,hb⟩; refine ⟨_,rfl, ?_⟩; replace BK745 := y0.mk (qK BK745.out hb); replace HB := y0.mk (y5 qb hb); (try clear hb); (try clear hb2); (try clear hk); (try clear hi)))
      go_ret
      exact ⟨by first | rfl | (simp [y8,y9] <;> rfl) | (simp [*,y8,y9] <;> rfl),qb⟩
     ·rw [if_neg c10] at H
      have c10b0 : (t747 == 0) = false := beq_eq_false_iff_ne.mpr c10
      have c10b1 : (t747 != 0) = true := bne_iff_ne.mpr c10
      have H' := y0.mk H
      clear H
      obtain ⟨hcz13_0,hfz13_0⟩ := qz1 BK745.out
      have p746 : 0 ≤ (x3_1 : Int) := of_decide_eq_true qy1
      have q746 : x3_1 < (l0_0.length : Int) := of_decide_eq_true qy1
      obtain ⟨ad746,e746,hx746_0⟩ := Kd.at_string HR0_0.out x3_1 p746 q746
      cases e746
      replace hx746_0 := (HB.out.cell (World.block_lt_of_cell? w _ hx746_0)).trans hx746_0
      replace p746 := eq_true p746
      replace q746 := eq_true q746
      go_wp2_with (first | ((with_reducible refine y10 (f := 29) rfl ?_); refine y11 (some 20) rfl rfl Tryd.func29 (by kernel_rfl) rfl #[.string (rdOf ByteArray.empty l0_0 x3_1)] rfl qy0 ?_; (with_reducible refine (z3_.calls k1 (rdOf ByteArray.empty l0_0 x3_1) t747 _ A9.out).mono ?_); rintro e w14 ⟨rfl,hb⟩; refine ⟨_,rfl, ?_⟩; replace BK745 := y0.mk (qK BK745.out hb); replace HB := y0.mk (y5 qb hb); (try clear hb); (try clear hb2); (try clear hk); (try clear hi)))
      go_roundg k1
      case measure => have := HK1.out; omega
      exact ⟨(wrap64 (x3_1 + 1)),qy2,H',⟨by have := HK1.out; omega⟩,⟨qk BK745.out⟩,⟨qb⟩⟩
    ·rw [if_neg c7] at H
     have c7b0 := decide_eq_false c7
     clear c7
     obtain rfl := Option.some.inj H
     obtain ⟨hcz15_0,hfz15_0⟩ := qz1 BK745.out
     go_wp2
     go_ret
     exact ⟨by first | rfl | (simp [y8,y9] <;> rfl) | (simp [*,y8,y9] <;> rfl),qb⟩
def laws_toTuple.f (k : Nat) (l0_0 : List ByteArray) : Option (List ByteArray) := (laws_toStringS.f k l0_0).bind fun t751 => (some t751)
set_option maxHeartbeats 8000000 in
set_option maxRecDepth 100000 in
theorem laws_toTuple.calls (k : Nat) (A0_0 : Option Addr) (c0_0 : Nat) (l0_0 : List ByteArray) (r : List ByteArray) (w : World) (hr0_0 : Kd.C Kd.string w A0_0 l0_0.length l0_0) (hc0_0 : l0_0.length ≤ c0_0) (h : laws_toTuple.f k l0_0 = some r) :
  Calls Tryd.prog 32 #[.agg #[.slice A0_0 l0_0.length c0_0]] w fun e w' => ∃ v0_ : Value,e = .returned (.agg #[v0_]) ∧ Kd.R Kd.string 9 w' w.heap.size (fun _ => True) v0_ r ∧ Below w.heap.size w w' := by
 have hu33 := Tryd.underlying33
 have hu36 := Tryd.underlying36
 have HR0_0 := y0.mk hr0_0
 have HC0_0 := y0.mk hc0_0
 clear hr0_0 hc0_0
 have HB := y0.mk (Below.refl w.heap.size w)
 have H : ((laws_toStringS.f k l0_0).bind fun t751 => (some t751)) = some r := h
 clear h
 obtain ⟨t751,A2,H⟩ := qB H
 obtain rfl := Option.some.inj H
 go_enter Tryd.func32,Tryd.ntmps32
 go_wp2_with (first | ((with_reducible refine gate_dst (N := 1) rfl ?_); refine qe 1 #[.slice A0_0 l0_0.length c0_0] 33 ?_; intro gb748 hg w3 hbox hb; have BK748 := y0.mk (hbox); have GW748 := y0.mk (qg (w := w) hg); have GE748 := y0.mk (qg (w := w) hg); replace HB := y0.mk (y5 qb hb); clear hb hbox hg) | ((with_reducible refine gate_dst (N := 2) rfl ?_); refine qe 2 #[.slice none 0 0] 36 ?_; intro gb749 hg w4 hbox hb; have BK749 := y0.mk (hbox); have GW749 := y0.mk (qg (w := w) hg); have GE749 := y0.mk (qg (w := w) hg); replace HB := y0.mk (y5 qb hb); have NB748_749 := y0.mk (qn BK748.out hg); have NB749_748 := y0.mk (qm BK748.out hg); replace BK748 := y0.mk (qK BK748.out hb); clear hb hbox hg) | ((with_reducible refine gate_dst (N := 3) rfl ?_); refine qe 3 #[.slice none 0 0] 36 ?_; intro gb750 hg w5 hbox hb; have BK750 := y0.mk (hbox); have GW750 := y0.mk (qg (w := w) hg); have GE750 := y0.mk (qg (w := w) hg); replace HB := y0.mk (y5 qb hb); have NB748_750 := y0.mk (qn BK748.out hg); have NB750_748 := y0.mk (qm BK748.out hg); replace BK748 := y0.mk (qK BK748.out hb); have NB749_750 := y0.mk (qn BK749.out hg); have NB750_749 := y0.mk (qm BK749.out hg); replace BK749 := y0.mk (qK BK749.out hb); clear hb hbox hg; have hnb6 := NB748_749.out; have hnc6 := NB749_748.out; have hnb7 := NB748_750.out; have hnc7 := NB750_748.out; obtain ⟨hcz8_0,hfz8_0⟩ := qz1 BK748.out) | ((with_reducible refine y10 (f := 37) rfl ?_); refine y11 (some 6) rfl rfl Tryd.func37 (by kernel_rfl) rfl #[.slice A0_0 l0_0.length c0_0] rfl qy0 ?_; (with_reducible refine (laws_toStringS.calls k _ _ l0_0 t751 _ (qc (Kd.C_below HR0_0.out HB.out)) HC0_0.out A2.out).mono ?_); rintro e w9 ⟨v752,rfl,ho0,hb⟩; refine ⟨_,rfl, ?_⟩; have HO753 := y0.mk (Kd.R_lower ho0 (y4 qb)); replace BK748 := y0.mk (qK BK748.out hb); replace BK749 := y0.mk (qK BK749.out hb); replace BK750 := y0.mk (qK BK750.out hb); replace HB := y0.mk (y5 qb hb); (try clear hb); (try clear hb2); (try clear hk); (try clear hi); (try clear ho0); obtain ⟨Ao10,co10,eo10⟩ := Kd.R_slice HO753.out; subst eo10; have hnb11 := NB750_749.out; have hnc11 := NB749_750.out; obtain ⟨hcz12_0,hfz12_0⟩ := qz1 BK750.out; obtain ⟨hcz13_0,hfz13_0⟩ := qz1 BK749.out))
 refine bodyPost_ret (results_cell_row rfl _ _ gb749 36 #[.slice Ao10 t751.length co10] (0,0) _ rfl (by (with_reducible repeat (first | refine blk_drewN ?_ _ | refine y7 ?_ | refine blk_alloc ?_ _)); refine blk_put (cs := #[.slice none 0 0]) ?_ 0 _ rfl; (with_reducible repeat (first | refine blk_drewN ?_ _ | refine y7 ?_ | refine blk_alloc ?_ _)); refine blk_far ?_ NB749_750.out _; (with_reducible repeat (first | refine blk_drewN ?_ _ | refine y7 ?_ | refine blk_alloc ?_ _)); exact BK749.out) Tryd.underlying36 rfl (by kernel_rfl)) rfl ?_
 exact ⟨_,by first | rfl | (simp [y8,y9] <;> rfl) | (simp [*,y8,y9] <;> rfl),by (with_reducible repeat (first | apply Kd.R_alloc | apply Kd.R_drewN | apply Kd.R_drew)); exact Kd.R_mono (Kd.R_far (p := ⟨gb749,0,none⟩) (Kd.R_far (p := ⟨gb750,0,none⟩) (Kd.R_types (Kd.R_types HO753.out BK750.out (by decide)) BK749.out (by decide)) (fun _ hk => hk.1.2) (.slice Ao10 t751.length co10)) (fun _ hk => hk.2) (.slice Ao10 t751.length co10)) (fun _ hk => trivial),qb⟩
end Go.Proofs.YtebadckdihgklaaDoor.Pb
end
section
namespace Go.Proofs.YtebadckdihgklaaDoor.Pb
open Go.RowKit Go.Proofs.YtebadckdihgklaaDoorW.PrintWords Go.Proofs.YtebadckdihgklaaDoorW.PrintLast Go.Proofs.YtebadckdihgklaaDoorW.PrintMore
attribute [local go_sem] max2_int min2_int max_two min_two max_three min_three max_four min_four   -- for this text's walks alone
set_option linter.unusedVariables false
set_option linter.unusedSimpArgs false
def laws_szTupleS.l0 : Nat → List (S33) → Int → Int → Option (Int)
 | 0,_,_,_ => none
 | k + 1,x0,x1,x5 => if x5 < (x0.length : Int) then (if 0 ≤ x5 then ((laws_szTuple.f k ((rd_T33 x0 x5).f0) x1).bind fun t831 => (if t831 < 0 then (some (-1)) else (laws_szTupleS.l0 k x0 t831 (wrap64 (x5 + 1))))) else (none)) else (some x1)
def laws_szTupleS.f (k : Nat) (l0 : List (S33)) (a1 : Int) : Option (Int) := if (wrap64 (a1 - (l0.length : Int))) < 0 then (some (-1)) else (laws_szTupleS.l0 k l0 (wrap64 (a1 - (l0.length : Int))) 0)
set_option maxHeartbeats 8000000 in
set_option maxRecDepth 100000 in
theorem laws_szTupleS.calls (k : Nat) (A0 : Option Addr) (c0 : Nat) (l0 : List (S33)) (a1 : Int) (r : Int) (w : World) (hr0 : Kd.C k33 w A0 l0.length l0) (hc0 : l0.length ≤ c0) (h : laws_szTupleS.f k l0 a1 = some r) :
  Calls Tryd.prog 96 #[.slice A0 l0.length c0,.int .i64 a1] w fun e w' => e = .returned (.int .i64 r) ∧ Below w.heap.size w w' := by
 have hu33 := Tryd.underlying33
 have HR0 := y0.mk hr0
 have HC0 := y0.mk hc0
 clear hr0 hc0
 have HB := y0.mk (Below.refl w.heap.size w)
 have H : (if (wrap64 (a1 - (l0.length : Int))) < 0 then (some (-1)) else (laws_szTupleS.l0 k l0 (wrap64 (a1 - (l0.length : Int))) 0)) = some r := h
 clear h
 by_cases c3 : (wrap64 (a1 - (l0.length : Int))) < 0
 ·rw [if_pos c3] at H
  have c3b0 := decide_eq_true c3
  clear c3
  obtain rfl := Option.some.inj H
  go_enter Tryd.func96,Tryd.ntmps96
  go_wp2
  go_ret
  exact ⟨by first | rfl | (simp [y8,y9] <;> rfl) | (simp [*,y8,y9] <;> rfl),qb⟩
 ·rw [if_neg c3] at H
  have c3b0 := decide_eq_false c3
  clear c3
  have H' := y0.mk H
  clear H
  go_enter Tryd.func96,Tryd.ntmps96
  go_wp2
  go_loopg [1,5] k (fun kq v1 v5 w' => ∃ (x1_1 : Int) (x5_1 : Int),v1 = .int .i64 x1_1 ∧ v5 = .int .i64 x5_1 ∧ y0 (laws_szTupleS.l0 kq l0 x1_1 x5_1 = some r) ∧ y0 (kq ≤ k) ∧ y0 (Below w.heap.size w w'))
  case atStart => exact ⟨(wrap64 (a1 - (l0.length : Int))),(0),qy2,qy2,H',⟨Nat.le_refl _⟩,⟨qb⟩⟩
  case round =>
   clear H'
   (try clear c3b0)
   obtain ⟨x1_1,x5_1,rfl,rfl,HA,HK1,HB⟩ := hrel
   cases gk with
   | zero => exact absurd HA.out (by simp [laws_szTupleS.l0])
   | succ k1 =>
    have H := HA.out
    clear HA
    simp only [laws_szTupleS.l0] at H
    by_cases c4 : x5_1 < (l0.length : Int)
    ·rw [if_pos c4] at H
     have c4b0 := decide_eq_true c4
     clear c4
     obtain ⟨c5,H⟩ := qo H
     have c5b0 : decide (0 ≤ x5_1) = true := decide_eq_true c5
     clear c5
     obtain ⟨t831,A6,H⟩ := qB H
     by_cases c7 : t831 < 0
     ·rw [if_pos c7] at H
      have c7b0 := decide_eq_true c7
      clear c7
      obtain rfl := Option.some.inj H
      have p830 : 0 ≤ (x5_1 : Int) := of_decide_eq_true qy1
      have q830 : x5_1 < (l0.length : Int) := of_decide_eq_true qy1
      obtain ⟨ad830,A830_0,c830_0,e830,hx830_0,hl830_0,hi830_0⟩ := at_T33 HR0.out x5_1 p830 q830
      cases e830
      replace hx830_0 := (HB.out.cell (World.block_lt_of_cell? w _ hx830_0)).trans hx830_0
      have HR830_0 := y0.mk hi830_0
      have HC830_0 := y0.mk hl830_0
      clear hi830_0 hl830_0
      replace p830 := eq_true p830
      replace q830 := eq_true q830
      go_wp2_with (first | ((with_reducible refine y10 (f := 30) rfl ?_); refine y11 (some 23) rfl rfl Tryd.func30 (by kernel_rfl) rfl #[.agg #[.slice A830_0 ((rd_T33 l0 x5_1).f0).length c830_0],.int .i64 x1_1] rfl qy0 ?_; (with_reducible refine (laws_szTuple.calls k1 _ _ ((rd_T33 l0 x5_1).f0) x1_1 t831 _ (qc (Kd.C_below HR830_0.out HB.out)) HC830_0.out A6.out).mono ?_); rintro e w8 ⟨rfl,hb⟩; refine ⟨_,rfl, ?_⟩; replace HB := y0.mk (y5 qb hb); (try clear hb); (try clear hb2); (try clear hk); (try clear hi)))
      go_ret
      exact ⟨by first | rfl | (simp [y8,y9] <;> rfl) | (simp [*,y8,y9] <;> rfl),qb⟩
     ·rw [if_neg c7] at H
      have c7b0 := decide_eq_false c7
      clear c7
      have H' := y0.mk H
      clear H
      have p830 : 0 ≤ (x5_1 : Int) := of_decide_eq_true qy1
      have q830 : x5_1 < (l0.length : Int) := of_decide_eq_true qy1
      obtain ⟨ad830,A830_0,c830_0,e830,hx830_0,hl830_0,hi830_0⟩ := at_T33 HR0.out x5_1 p830 q830
      cases e830
      replace hx830_0 := (HB.out.cell (World.block_lt_of_cell? w _ hx830_0)).trans hx830_0
      have HR830_0 := y0.mk hi830_0
      have HC830_0 := y0.mk hl830_0
      clear hi830_0 hl830_0
      replace p830 := eq_true p830
      replace q830 := eq_true q830
      go_wp2_with (first | ((with_reducible refine y10 (f := 30) rfl ?_); refine y11 (some 23) rfl rfl Tryd.func30 (by kernel_rfl) rfl #[.agg #[.slice A830_0 ((rd_T33 l0 x5_1).f0).length c830_0],.int .i64 x1_1] rfl qy0 ?_; (with_reducible refine (laws_szTuple.calls k1 _ _ ((rd_T33 l0 x5_1).f0) x1_1 t831 _ (qc (Kd.C_below HR830_0.out HB.out)) HC830_0.out A6.out).mono ?_); rintro e w9 ⟨rfl,hb⟩; refine ⟨_,rfl, ?_⟩; replace HB := y0.mk (y5 qb hb); (try clear hb); (try clear hb2); (try clear hk); (try clear hi)))
      go_roundg k1
      case measure => have := HK1.out; omega
      exact ⟨(t831),(wrap64 (x5_1 + 1)),qy2,qy2,H',⟨by have := HK1.out; omega⟩,⟨qb⟩⟩
    ·rw [if_neg c4] at H
     have c4b0 := decide_eq_false c4
     clear c4
     obtain rfl := Option.some.inj H
     go_wp2
     go_ret
     exact ⟨by first | rfl | (simp [y8,y9] <;> rfl) | (simp [*,y8,y9] <;> rfl),qb⟩
def laws_szRel.f (k : Nat) (a0_0 : Int) (l0_1 : List (S33)) (a1 : Int) : Option (Int) := (laws_szTupleS.f k l0_1 a1).bind fun t833 => (if t833 < 0 then (some (-1)) else (some t833))
set_option maxHeartbeats 8000000 in
set_option maxRecDepth 100000 in
theorem laws_szRel.calls (k : Nat) (a0_0 : Int) (A0_1 : Option Addr) (c0_1 : Nat) (l0_1 : List (S33)) (a1 : Int) (r : Int) (w : World) (hr0_1 : Kd.C k33 w A0_1 l0_1.length l0_1) (hc0_1 : l0_1.length ≤ c0_1) (h : laws_szRel.f k a0_0 l0_1 a1 = some r) :
  Calls Tryd.prog 60 #[.agg #[.int .i64 a0_0,.slice A0_1 l0_1.length c0_1],.int .i64 a1] w fun e w' => e = .returned (.int .i64 r) ∧ Below w.heap.size w w' := by
 have hu65 := Tryd.underlying65
 have HR0_1 := y0.mk hr0_1
 have HC0_1 := y0.mk hc0_1
 clear hr0_1 hc0_1
 have HB := y0.mk (Below.refl w.heap.size w)
 have H : ((laws_szTupleS.f k l0_1 a1).bind fun t833 => (if t833 < 0 then (some (-1)) else (some t833))) = some r := h
 clear h
 obtain ⟨t833,A3,H⟩ := qB H
 by_cases c4 : t833 < 0
 ·rw [if_pos c4] at H
  have c4b0 := decide_eq_true c4
  clear c4
  obtain rfl := Option.some.inj H
  go_enter Tryd.func60,Tryd.ntmps60
  go_wp2_with (first | ((with_reducible refine gate_dst (N := 2) rfl ?_); refine qe 2 #[.int .i64 a0_0,.slice A0_1 l0_1.length c0_1] 65 ?_; intro gb832 hg w5 hbox hb; have BK832 := y0.mk (hbox); have GW832 := y0.mk (qg (w := w) hg); have GE832 := y0.mk (qg (w := w) hg); replace HB := y0.mk (y5 qb hb); clear hb hbox hg; obtain ⟨hcz6_0,hcz6_1,hfz6_0,hfz6_1⟩ := qz2 BK832.out) | ((with_reducible refine y10 (f := 96) rfl ?_); refine y11 (some 8) rfl rfl Tryd.func96 (by kernel_rfl) rfl #[.slice A0_1 l0_1.length c0_1,.int .i64 a1] rfl qy0 ?_; (with_reducible refine (laws_szTupleS.calls k _ _ l0_1 a1 t833 _ (qc (Kd.C_below HR0_1.out HB.out)) HC0_1.out A3.out).mono ?_); rintro e w7 ⟨rfl,hb⟩; refine ⟨_,rfl, ?_⟩; replace BK832 := y0.mk (qK BK832.out hb); replace HB := y0.mk (y5 qb hb); (try clear hb); (try clear hb2); (try clear hk); (try clear hi)))
  go_ret
  exact ⟨by first | rfl | (simp [y8,y9] <;> rfl) | (simp [*,y8,y9] <;> rfl),qb⟩
 ·rw [if_neg c4] at H
  have c4b0 := decide_eq_false c4
  clear c4
  obtain rfl := Option.some.inj H
  go_enter Tryd.func60,Tryd.ntmps60
  go_wp2_with (first | ((with_reducible refine gate_dst (N := 2) rfl ?_); refine qe 2 #[.int .i64 a0_0,.slice A0_1 l0_1.length c0_1] 65 ?_; intro gb832 hg w8 hbox hb; have BK832 := y0.mk (hbox); have GW832 := y0.mk (qg (w := w) hg); have GE832 := y0.mk (qg (w := w) hg); replace HB := y0.mk (y5 qb hb); clear hb hbox hg; obtain ⟨hcz9_0,hcz9_1,hfz9_0,hfz9_1⟩ := qz2 BK832.out) | ((with_reducible refine y10 (f := 96) rfl ?_); refine y11 (some 8) rfl rfl Tryd.func96 (by kernel_rfl) rfl #[.slice A0_1 l0_1.length c0_1,.int .i64 a1] rfl qy0 ?_; (with_reducible refine (laws_szTupleS.calls k _ _ l0_1 a1 t833 _ (qc (Kd.C_below HR0_1.out HB.out)) HC0_1.out A3.out).mono ?_); rintro e w10 ⟨rfl,hb⟩; refine ⟨_,rfl, ?_⟩; replace BK832 := y0.mk (qK BK832.out hb); replace HB := y0.mk (y5 qb hb); (try clear hb); (try clear hb2); (try clear hk); (try clear hi)))
  go_ret
  exact ⟨by first | rfl | (simp [y8,y9] <;> rfl) | (simp [*,y8,y9] <;> rfl),qb⟩
end Go.Proofs.YtebadckdihgklaaDoor.Pb
end
section
namespace Go.Proofs.YtebadckdihgklaaDoor.Pb
open Go.RowKit Go.Proofs.YtebadckdihgklaaDoorW.PrintWords Go.Proofs.YtebadckdihgklaaDoorW.PrintLast Go.Proofs.YtebadckdihgklaaDoorW.PrintMore
attribute [local go_sem] max2_int min2_int max_two min_two max_three min_three max_four min_four   -- for this text's walks alone
set_option linter.unusedVariables false
set_option linter.unusedSimpArgs false
mutual
def spec_l02Cmp.l0 : Nat → Int → List ByteArray → List ByteArray → Option (Int)
 | 0,_,_,_ => none
 | k + 1,x5,x781000,x782000 => if x5 < (x781000.length : Int) then (spec_l02Cmp.j1 k x5 (decide (x5 < (x782000.length : Int))) x781000 x782000) else (spec_l02Cmp.j1 k x5 false x781000 x782000)
def spec_l02Cmp.j1 : Nat → Int → Bool → List ByteArray → List ByteArray → Option (Int)
 | 0,_,_,_,_ => none
 | k + 1,x5,x18,x781000,x782000 => if x18 = true then (if 0 ≤ x5 then (if x5 < (x781000.length : Int) then (if x5 < (x782000.length : Int) then ((spec_l01Cmp.f k (rdOf ByteArray.empty x781000 x5) (rdOf ByteArray.empty x782000 x5)).bind fun t784 => (if t784 = 0 then (spec_l02Cmp.l0 k (wrap64 (x5 + 1)) x781000 x782000) else (some t784))) else (none)) else (none)) else (none)) else ((spec_l01Sign.f (wrap64 ((x781000.length : Int) - (x782000.length : Int)))).bind fun t785 => (some t785))
end
def spec_l02Cmp.f (k : Nat) (l0_0 : List ByteArray) (l1_0 : List ByteArray) : Option (Int) := spec_l02Cmp.l0 k 0 l0_0 l1_0
def spec_l02Cmp.T4 : Bool × List (List Nat × List Nat) := (true,[([],[]),([0],[0]),([],[]),([1,2],[1,2]),([3],[3]),([],[]),([5],[5]),([],[]),([6,7],[6,7]),([8],[8]),([4,9],[4,9]),([10,10,0,1,2,3,4,5,6,7,8,9,10],[10])])
def spec_l02Cmp.B4 : List Nat := [0,1,0,7,15,0,32,0,224,480,1023,2047]
theorem spec_l02Cmp.tab4 : rtab .any (opsOf Tryd.f94 4) = spec_l02Cmp.T4 := by kernel_rfl
theorem spec_l02Cmp.bits4 : waitsOk spec_l02Cmp.T4.2 spec_l02Cmp.B4 = true := by kernel_rfl
set_option maxHeartbeats 8000000 in
set_option maxRecDepth 100000 in
theorem spec_l02Cmp.calls (k : Nat) (A0_0 : Option Addr) (c0_0 : Nat) (l0_0 : List ByteArray) (A1_0 : Option Addr) (c1_0 : Nat) (l1_0 : List ByteArray) (r : Int) (w : World) (hr0_0 : Kd.C Kd.string w A0_0 l0_0.length l0_0) (hc0_0 : l0_0.length ≤ c0_0) (hr1_0 : Kd.C Kd.string w A1_0 l1_0.length l1_0) (hc1_0 : l1_0.length ≤ c1_0) (h : spec_l02Cmp.f k l0_0 l1_0 = some r) :
  Calls Tryd.prog 94 #[.agg #[.slice A0_0 l0_0.length c0_0],.agg #[.slice A1_0 l1_0.length c1_0]] w fun e w' => e = .returned (.int .i64 r) ∧ Below w.heap.size w w' := by
 have hu36 := Tryd.underlying36
 have HR0_0 := y0.mk hr0_0
 have HC0_0 := y0.mk hc0_0
 clear hr0_0 hc0_0
 have HR1_0 := y0.mk hr1_0
 have HC1_0 := y0.mk hc1_0
 clear hr1_0 hc1_0
 have HB := y0.mk (Below.refl w.heap.size w)
 have H : (spec_l02Cmp.l0 k 0 l0_0 l1_0) = some r := h
 clear h
 have H' := y0.mk H
 clear H
 go_enter Tryd.func94,Tryd.ntmps94
 go_wp2_with (first | ((with_reducible refine gate_dst (N := 2) rfl ?_); (try (refine gate_guard (by rfl) ?_; dsimp only)); refine qe 2 #[.slice A0_0 l0_0.length c0_0] 36 ?_; intro gb780 hg w3 hbox hb; have BK780 := y0.mk (hbox); have GW780 := y0.mk (qg (w := w) hg); have GE780 := y0.mk (qg (w := w) hg); replace HB := y0.mk (y5 qb hb); clear hb hbox hg) | ((with_reducible refine gate_dst (N := 3) rfl ?_); (try (refine gate_guard (by rfl) ?_; dsimp only)); refine qe 3 #[.slice A1_0 l1_0.length c1_0] 36 ?_; intro gb781 hg w4 hbox hb; have BK781 := y0.mk (hbox); have GW781 := y0.mk (qg (w := w) hg); have GE781 := y0.mk (qg (w := w) hg); replace HB := y0.mk (y5 qb hb); have NB780_781 := y0.mk (qn BK780.out hg); have NB781_780 := y0.mk (qm BK780.out hg); replace BK780 := y0.mk (qK BK780.out hb); clear hb hbox hg))
 go_loopg [5] k (fun kq v5 w' => ∃ (x5_1 : Int),v5 = .int .i64 x5_1 ∧ y0 (spec_l02Cmp.l0 kq x5_1 l0_0 l1_0 = some r) ∧ y0 (kq ≤ k) ∧ y0 (w'.heap[gb780]? = some (.cells #[(.slice A0_0 l0_0.length c0_0)] 36 (0,0))) ∧ y0 (w'.heap[gb781]? = some (.cells #[(.slice A1_0 l1_0.length c1_0)] 36 (0,0))) ∧ y0 (Below w.heap.size w w'))
 case atStart => exact ⟨(0),qy2,H',⟨Nat.le_refl _⟩,⟨qk BK780.out⟩,⟨qk BK781.out⟩,⟨qb⟩⟩
 case round =>
  clear H'
  obtain ⟨x5_1,rfl,HA,HK1,BK780,BK781,HB⟩ := hrel
  cases gk with
  | zero => exact absurd HA.out (by simp [spec_l02Cmp.l0])
  | succ k1 =>
   have H := HA.out
   clear HA
   simp only [spec_l02Cmp.l0] at H
   have HC5 := y0.mk H
   clear H
   go_upto_region 2 with (fail)
   go_cut [18] (fun v18 wc => ∃ (kq : Nat) (x18_4 : Bool),v18 = .bool x18_4 ∧ y0 (spec_l02Cmp.j1 kq x5_1 x18_4 l0_0 l1_0 = some r) ∧ y0 (kq ≤ k1) ∧ y0 (wc.heap[gb780]? = some (.cells #[(.slice A0_0 l0_0.length c0_0)] 36 (0,0))) ∧ y0 (wc.heap[gb781]? = some (.cells #[(.slice A1_0 l1_0.length c1_0)] 36 (0,0))) ∧ y0 (Below w.heap.size w wc))
   case first =>
    have H := HC5.out
    clear HC5
    by_cases c6 : x5_1 < (l0_0.length : Int)
    ·rw [if_pos c6] at H
     have c6b0 := decide_eq_true c6
     clear c6
     (first | rw [c6b0] | (simp only [y13,y12]; rw [c6b0]) | skip)
     have H' := y0.mk H
     clear H
     have hnb7 := NB780_781.out
     have hnc7 := NB781_780.out
     obtain ⟨hcz8_0,hfz8_0⟩ := qz1 BK780.out
     obtain ⟨hcz9_0,hfz9_0⟩ := qz1 BK781.out
     go_wp2
     go_meet
     exact ⟨_,(decide (x5_1 < (l1_0.length : Int))),qy2,H',⟨by have := HK1.out; first | omega | exact Nat.le_refl _⟩,⟨qk BK780.out⟩,⟨qk BK781.out⟩,⟨qb⟩⟩
    ·rw [if_neg c6] at H
     have c6b0 := decide_eq_false c6
     clear c6
     (first | rw [c6b0] | (simp only [y13,y12]; rw [c6b0]) | skip)
     have H' := y0.mk H
     clear H
     have hnb10 := NB780_781.out
     have hnc10 := NB781_780.out
     obtain ⟨hcz11_0,hfz11_0⟩ := qz1 BK780.out
     go_wp2
     go_meet
     exact ⟨_,(false),qy2,H',⟨by have := HK1.out; first | omega | exact Nat.le_refl _⟩,⟨qk BK780.out⟩,⟨qk BK781.out⟩,⟨qb⟩⟩
   case rest =>
    clear HC5
    obtain ⟨kq,x18_4,rfl,HA,HJ4,BK780,BK781,HB⟩ := hcut
    cases kq with
    | zero => exact absurd HA.out (by simp [spec_l02Cmp.j1])
    | succ kj4 =>
     have H := HA.out
     clear HA
     simp only [spec_l02Cmp.j1] at H
     by_cases c12 : x18_4 = true
     ·subst c12
      replace H := qT H
      obtain ⟨c13,H⟩ := qo H
      have c13b0 : decide (0 ≤ x5_1) = true := decide_eq_true c13
      clear c13
      obtain ⟨c14,H⟩ := qo H
      have c14b0 : decide (x5_1 < (l0_0.length : Int)) = true := decide_eq_true c14
      clear c14
      obtain ⟨c15,H⟩ := qo H
      have c15b0 := decide_eq_true c15
      clear c15
      obtain ⟨t784,A16,H⟩ := qB H
      by_cases c17 : t784 = 0
      ·rw [if_pos c17] at H
       have c17b0 : (t784 == 0) = true := beq_iff_eq.mpr c17
       have c17b1 : (t784 != 0) = false := bne_eq_false_iff_eq.mpr c17
       clear c17
       have H' := y0.mk H
       clear H
       try go_wp2
       replace BK780 := y0.mk (y7 BK780.out)
       replace BK781 := y0.mk (y7 BK781.out)
       replace HB := y0.mk (y3 HB.out)
       have p782 : 0 ≤ (x5_1 : Int) := of_decide_eq_true qy1
       have q782 : x5_1 < (l0_0.length : Int) := of_decide_eq_true qy1
       obtain ⟨ad782,e782,hx782_0⟩ := Kd.at_string HR0_0.out x5_1 p782 q782
       have hw782_0 := hx782_0
       cases e782
       replace hx782_0 := (HB.out.cell (World.block_lt_of_cell? w _ hx782_0)).trans hx782_0
       replace p782 := eq_true p782
       replace q782 := eq_true q782
       have p783 : 0 ≤ (x5_1 : Int) := of_decide_eq_true qy1
       have q783 : x5_1 < (l1_0.length : Int) := of_decide_eq_true qy1
       obtain ⟨ad783,e783,hx783_0⟩ := Kd.at_string HR1_0.out x5_1 p783 q783
       have hw783_0 := hx783_0
       cases e783
       replace hx783_0 := (HB.out.cell (World.block_lt_of_cell? w _ hx783_0)).trans hx783_0
       replace p783 := eq_true p783
       replace q783 := eq_true q783
       refine start_ (n := 12) (S := fun w' => w'.cell? ⟨gb780,0,none⟩ = some (.slice (some ad782) l0_0.length c0_0) ∧ w'.cell? ⟨gb781,0,none⟩ = some (.slice (some ad783) l1_0.length c1_0) ∧ w'.cell? (ad782.add (x5_1).toNat) = some (.string (rdOf ByteArray.empty l0_0 x5_1)) ∧ w'.cell? (ad783.add (x5_1).toNat) = some (.string (rdOf ByteArray.empty l1_0 x5_1))) (ds := []) (fl_ 12 0) (by kernel_rfl) rfl rfl ⟨(y6 BK780.out 0).trans rfl,(y6 BK781.out 0).trans rfl,((HB.out.cell (World.block_lt_of_cell? w _ hw782_0)).trans hw782_0),((HB.out.cell (World.block_lt_of_cell? w _ hw783_0)).trans hw783_0)⟩ (fun hHeld => ?_); refine with_tabW spec_l02Cmp.tab4 spec_l02Cmp.bits4 (fun HT_ HW_ => ?_)
       generalize wc.drew = w18 at BK780 BK781 HB hx782_0 hx783_0 hHeld ⊢
       refine qp 0 21 (fl_ 12 1) ?_
       refine qp 2 23 (fl_ 12 5) ?_
       refine qp 5 26 (fl_ 12 37) ?_
       refine qp 7 28 (fl_ 12 165) ?_
       refine qt 1 22 (fl_ 12 167) hHeld ?_
       refine qp 3 24 (fl_ 12 175) ?_
       refine qt 4 25 (fl_ 12 191) hHeld ?_
       refine qt 6 27 (fl_ 12 255) hHeld ?_
       refine qp 8 29 (fl_ 12 511) ?_
       refine qt 9 30 (fl_ 12 1023) hHeld ?_
       refine one_ (i := 10) (N := some 31) (fl_ 12 2047) rfl rfl (one_of HT_.out (by kernel_rfl)) (by decide) (fun K hK => ?_)
       refine goes_ Tryd.func91 (by kernel_rfl) rfl #[.string (rdOf ByteArray.empty l0_0 x5_1),.string (rdOf ByteArray.empty l1_0 x5_1)] (by rfl) rfl rfl qy0 ?_
       with_reducible refine (spec_l01Cmp.calls kj4 (rdOf ByteArray.empty l0_0 x5_1) (rdOf ByteArray.empty l1_0 x5_1) t784 _ A16.out).mono ?_
       rintro e w19 ⟨rfl,hb⟩
       refine ⟨_,rfl, ?_⟩
       replace BK780 := y0.mk (qK BK780.out hb)
       replace BK781 := y0.mk (qK BK781.out hb)
       replace HB := y0.mk (y5 qb hb)
       (try clear hb)
       (try clear hb2)
       (try clear hk)
       (try clear hi)
       refine hK.out _ _ ⟨(y6 BK780.out 0).trans rfl,(y6 BK781.out 0).trans rfl,((HB.out.cell (World.block_lt_of_cell? w _ hw782_0)).trans hw782_0),((HB.out.cell (World.block_lt_of_cell? w _ hw783_0)).trans hw783_0)⟩ (fun hHeld => ?_)
       clear hK K
       refine norm_ (a' := ?_) ?_ ?_
       rotate_left
       ·show Act.put _ (some 31) _ = _
        simp only [Act.put,qS_,qZ_,qC_,y13,y12]
        rfl
       refine qp 11 6 (fl_ 12 4095) ?_
       refine done_ (done_of HT_.out (by kernel_rfl)) ?_
       try go_wp2
       go_roundg kj4
       case measure => have := HK1.out; have := HJ4.out; omega
       exact ⟨(wrap64 (x5_1 + 1)),qy2,H',⟨by have := HK1.out; have := HJ4.out; omega⟩,⟨qk BK780.out⟩,⟨qk BK781.out⟩,⟨qb⟩⟩
      ·rw [if_neg c17] at H
       have c17b0 : (t784 == 0) = false := beq_eq_false_iff_ne.mpr c17
       have c17b1 : (t784 != 0) = true := bne_iff_ne.mpr c17
       obtain rfl := Option.some.inj H
       try go_wp2
       replace BK780 := y0.mk (y7 BK780.out)
       replace BK781 := y0.mk (y7 BK781.out)
       replace HB := y0.mk (y3 HB.out)
       have p782 : 0 ≤ (x5_1 : Int) := of_decide_eq_true qy1
       have q782 : x5_1 < (l0_0.length : Int) := of_decide_eq_true qy1
       obtain ⟨ad782,e782,hx782_0⟩ := Kd.at_string HR0_0.out x5_1 p782 q782
       have hw782_0 := hx782_0
       cases e782
       replace hx782_0 := (HB.out.cell (World.block_lt_of_cell? w _ hx782_0)).trans hx782_0
       replace p782 := eq_true p782
       replace q782 := eq_true q782
       have p783 : 0 ≤ (x5_1 : Int) := of_decide_eq_true qy1
       have q783 : x5_1 < (l1_0.length : Int) := of_decide_eq_true qy1
       obtain ⟨ad783,e783,hx783_0⟩ := Kd.at_string HR1_0.out x5_1 p783 q783
       have hw783_0 := hx783_0
       cases e783
       replace hx783_0 := (HB.out.cell (World.block_lt_of_cell? w _ hx783_0)).trans hx783_0
       replace p783 := eq_true p783
       replace q783 := eq_true q783
       refine start_ (n := 12) (S := fun w' => w'.cell? ⟨gb780,0,none⟩ = some (.slice (some ad782) l0_0.length c0_0) ∧ w'.cell? ⟨gb781,0,none⟩ = some (.slice (some ad783) l1_0.length c1_0) ∧ w'.cell? (ad782.add (x5_1).toNat) = some (.string (rdOf ByteArray.empty l0_0 x5_1)) ∧ w'.cell? (ad783.add (x5_1).toNat) = some (.string (rdOf ByteArray.empty l1_0 x5_1))) (ds := []) (fl_ 12 0) (by kernel_rfl) rfl rfl ⟨(y6 BK780.out 0).trans rfl,(y6 BK781.out 0).trans rfl,((HB.out.cell (World.block_lt_of_cell? w _ hw782_0)).trans hw782_0),((HB.out.cell (World.block_lt_of_cell? w _ hw783_0)).trans hw783_0)⟩ (fun hHeld => ?_); refine with_tabW spec_l02Cmp.tab4 spec_l02Cmp.bits4 (fun HT_ HW_ => ?_)
       generalize wc.drew = w20 at BK780 BK781 HB hx782_0 hx783_0 hHeld ⊢
       refine qp 0 21 (fl_ 12 1) ?_
       refine qp 2 23 (fl_ 12 5) ?_
       refine qp 5 26 (fl_ 12 37) ?_
       refine qp 7 28 (fl_ 12 165) ?_
       refine qt 1 22 (fl_ 12 167) hHeld ?_
       refine qp 3 24 (fl_ 12 175) ?_
       refine qt 4 25 (fl_ 12 191) hHeld ?_
       refine qt 6 27 (fl_ 12 255) hHeld ?_
       refine qp 8 29 (fl_ 12 511) ?_
       refine qt 9 30 (fl_ 12 1023) hHeld ?_
       refine one_ (i := 10) (N := some 31) (fl_ 12 2047) rfl rfl (one_of HT_.out (by kernel_rfl)) (by decide) (fun K hK => ?_)
       refine goes_ Tryd.func91 (by kernel_rfl) rfl #[.string (rdOf ByteArray.empty l0_0 x5_1),.string (rdOf ByteArray.empty l1_0 x5_1)] (by rfl) rfl rfl qy0 ?_
       with_reducible refine (spec_l01Cmp.calls kj4 (rdOf ByteArray.empty l0_0 x5_1) (rdOf ByteArray.empty l1_0 x5_1) t784 _ A16.out).mono ?_
       rintro e w21 ⟨rfl,hb⟩
       refine ⟨_,rfl, ?_⟩
       replace BK780 := y0.mk (qK BK780.out hb)
       replace BK781 := y0.mk (qK BK781.out hb)
       replace HB := y0.mk (y5 qb hb)
       (try clear hb)
       (try clear hb2)
       (try clear hk)
       (try clear hi)
       refine hK.out _ _ ⟨(y6 BK780.out 0).trans rfl,(y6 BK781.out 0).trans rfl,((HB.out.cell (World.block_lt_of_cell? w _ hw782_0)).trans hw782_0),((HB.out.cell (World.block_lt_of_cell? w _ hw783_0)).trans hw783_0)⟩ (fun hHeld => ?_)
       clear hK K
       refine norm_ (a' := ?_) ?_ ?_
       rotate_left
       ·show Act.put _ (some 31) _ = _
        simp only [Act.put,qS_,qZ_,qC_,y13,y12]
        rfl
       refine qp 11 6 (fl_ 12 4095) ?_
       refine done_ (done_of HT_.out (by kernel_rfl)) ?_
       try go_wp2
       go_ret
       exact ⟨by first | rfl | (simp [y8,y9] <;> rfl) | (simp [*,y8,y9] <;> rfl),qb⟩
     ·replace c12 := Bool.eq_false_iff.mpr c12
      subst c12
      replace H := qF H
      obtain ⟨t785,A22,H⟩ := qB H
      obtain rfl := Option.some.inj H
      have hnb23 := NB780_781.out
      have hnc23 := NB781_780.out
      obtain ⟨hcz24_0,hfz24_0⟩ := qz1 BK780.out
      obtain ⟨hcz25_0,hfz25_0⟩ := qz1 BK781.out
      go_wp2_with (first | ((with_reducible refine y10 (f := 112) rfl ?_); refine y11 (some 42) rfl rfl Tryd.func112 (by kernel_rfl) rfl #[.int .i64 (wrap64 ((l0_0.length : Int) - (l1_0.length : Int)))] rfl qy0 ?_; (with_reducible refine (spec_l01Sign.calls (wrap64 ((l0_0.length : Int) - (l1_0.length : Int))) t785 _ A22.out).mono ?_); rintro e w' ⟨rfl,⟨nd,rfl⟩⟩; refine ⟨_,rfl, ?_⟩))
      go_ret
      exact ⟨by first | rfl | (simp [y8,y9] <;> rfl) | (simp [*,y8,y9] <;> rfl),qb⟩
end Go.Proofs.YtebadckdihgklaaDoor.Pb
end

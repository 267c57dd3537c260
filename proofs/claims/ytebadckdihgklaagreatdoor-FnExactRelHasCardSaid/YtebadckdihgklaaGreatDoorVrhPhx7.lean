-- Cut by prune.py, a program of this session, out of the texts of this claim: Lean checks it.
import Derived.Test.YtebadckdihgklaaGreatDoorVrhPhx0
section
namespace Go.Proofs.YtebadckdihgklaaGreatDoor.Ph
open Go.RowKit Go.Proofs.YtebadckdihgklaaGreatDoorW.PrintWords Go.Proofs.YtebadckdihgklaaGreatDoorW.PrintLast Go.Proofs.YtebadckdihgklaaGreatDoorW.PrintMore
attribute [local go_sem] max2_int min2_int max_two min_two max_three min_three max_four min_four   -- for this text's walks alone
set_option linter.unusedVariables false
set_option linter.unusedSimpArgs false
mutual
def spec_l01Cmp.l0 : Nat → List ByteArray → List ByteArray → Int → Option (Int)
 | 0,_,_,_ => none
 | k + 1,x12,x14,x15 => if x15 < (x12.length : Int) then (if 0 ≤ x15 then (if x15 < (x14.length : Int) then ((spec_l01Cmp.f k (rdOf ByteArray.empty x12 x15) (rdOf ByteArray.empty x14 x15)).bind fun t205 => (if t205 = 0 then (spec_l01Cmp.l0 k x12 x14 (wrap64 (x15 + 1))) else (some t205))) else (none)) else (none)) else (some 0)
def spec_l01Cmp.f : Nat → ByteArray → ByteArray → Option (Int)
 | 0,_,_ => none
 | k + 1,a0,a1 => (z5_.f k a0).bind fun t184 => ((z5_.f k a1).bind fun t185 => (if t184 = t185 then (if t184 = 1 then ((z8_.f k a0).bind fun bt187 => ((z8_.f k a1).bind fun bt189 => ((spec_l01Sign.f (wrap64 (bt187.1 - bt189.1))).bind fun t191 => (some t191)))) else (if t184 = 2 then (if 1 ≤ (wrap64 ((a0.size : Int) - 1)) then (if (wrap64 ((a0.size : Int) - 1)) ≤ (a0.size : Int) then (if 1 ≤ (wrap64 ((a1.size : Int) - 1)) then (if (wrap64 ((a1.size : Int) - 1)) ≤ (a1.size : Int) then ((spec_l01Texts.f (a0.extract 1 ((wrap64 ((a0.size : Int) - 1)) : Int).toNat) (a1.extract 1 ((wrap64 ((a1.size : Int) - 1)) : Int).toNat)).bind fun t192 => (some t192)) else (none)) else (none)) else (none)) else (none)) else ((spec_TermParts.f k a0).bind fun bt193 => ((spec_TermParts.f k a1).bind fun bt197 => (if bt193.1.toList = bt197.1.toList then (if (bt193.2.length : Int) = (bt197.2.length : Int) then (spec_l01Cmp.l0 k bt193.2 bt197.2 0) else ((spec_l01Sign.f (wrap64 ((bt193.2.length : Int) - (bt197.2.length : Int)))).bind fun t202 => (some t202))) else ((spec_l01Texts.f bt193.1 bt197.1).bind fun t201 => (some t201))))))) else ((spec_l01Sign.f (wrap64 (t184 - t185))).bind fun t186 => (some t186))))
end
def spec_l01Cmp.T10 : Bool × List (List Nat × List Nat) := (true,[([],[]),([],[]),([1],[1]),([2],[2]),([0,3],[0,3]),([],[]),([],[]),([6],[6]),([7],[7]),([5,8],[5,8]),([4,9],[4,9]),([10,10,0,1,2,3,4,5,6,7,8,9,10],[10])])
def spec_l01Cmp.B10 : List Nat := [0,0,2,6,15,0,0,64,192,480,1023,2047]
theorem spec_l01Cmp.tab10 : rtab .any (opsOf Tryz.f83 10) = spec_l01Cmp.T10 := by kernel_rfl
theorem spec_l01Cmp.bits10 : waitsOk spec_l01Cmp.T10.2 spec_l01Cmp.B10 = true := by kernel_rfl
def spec_l01Cmp.T20 : Bool × List (List Nat × List Nat) := (true,[([],[]),([],[]),([0,1],[0,1]),([2],[2]),([],[]),([],[]),([4,5],[4,5]),([6],[6]),([3,7],[3,7]),([8,8,0,1,2,3,4,5,6,7,8],[8])])
def spec_l01Cmp.B20 : List Nat := [0,0,3,7,0,0,48,112,255,511]
theorem spec_l01Cmp.tab20 : rtab .any (opsOf Tryz.f83 20) = spec_l01Cmp.T20 := by kernel_rfl
theorem spec_l01Cmp.bits20 : waitsOk spec_l01Cmp.T20.2 spec_l01Cmp.B20 = true := by kernel_rfl
set_option maxHeartbeats 8000000 in
set_option maxRecDepth 100000 in
theorem spec_l01Cmp.calls (k : Nat) : ∀ (a0 : ByteArray) (a1 : ByteArray) (r : Int) (w : World) (h : spec_l01Cmp.f k a0 a1 = some r),
  Calls Tryz.prog 83 #[.string a0,.string a1] w fun e w' => e = .returned (.int .i64 r) ∧ Below w.heap.size w w' := by
 induction k using Nat.strongRecOn with
 | _ k ih =>
 intro a0 a1 r w h
 cases k with
 | zero => exact absurd h (by simp [spec_l01Cmp.f])
 | succ k =>
 simp only [spec_l01Cmp.f] at h
 have HB := y0.mk (Below.refl w.heap.size w)
 have H : ((z5_.f k a0).bind fun t184 => ((z5_.f k a1).bind fun t185 => (if t184 = t185 then (if t184 = 1 then ((z8_.f k a0).bind fun bt187 => ((z8_.f k a1).bind fun bt189 => ((spec_l01Sign.f (wrap64 (bt187.1 - bt189.1))).bind fun t191 => (some t191)))) else (if t184 = 2 then (if 1 ≤ (wrap64 ((a0.size : Int) - 1)) then (if (wrap64 ((a0.size : Int) - 1)) ≤ (a0.size : Int) then (if 1 ≤ (wrap64 ((a1.size : Int) - 1)) then (if (wrap64 ((a1.size : Int) - 1)) ≤ (a1.size : Int) then ((spec_l01Texts.f (a0.extract 1 ((wrap64 ((a0.size : Int) - 1)) : Int).toNat) (a1.extract 1 ((wrap64 ((a1.size : Int) - 1)) : Int).toNat)).bind fun t192 => (some t192)) else (none)) else (none)) else (none)) else (none)) else ((spec_TermParts.f k a0).bind fun bt193 => ((spec_TermParts.f k a1).bind fun bt197 => (if bt193.1.toList = bt197.1.toList then (if (bt193.2.length : Int) = (bt197.2.length : Int) then (spec_l01Cmp.l0 k bt193.2 bt197.2 0) else ((spec_l01Sign.f (wrap64 ((bt193.2.length : Int) - (bt197.2.length : Int)))).bind fun t202 => (some t202))) else ((spec_l01Texts.f bt193.1 bt197.1).bind fun t201 => (some t201))))))) else ((spec_l01Sign.f (wrap64 (t184 - t185))).bind fun t186 => (some t186))))) = some r := h
 clear h
 replace H := Option.bind_eq_some_iff.mp H
 obtain ⟨t184,A30,H⟩ := H
 replace H : ((z5_.f k a1).bind fun t185 => (if t184 = t185 then (if t184 = 1 then ((z8_.f k a0).bind fun bt187 => ((z8_.f k a1).bind fun bt189 => ((spec_l01Sign.f (wrap64 (bt187.1 - bt189.1))).bind fun t191 => (some t191)))) else (if t184 = 2 then (if 1 ≤ (wrap64 ((a0.size : Int) - 1)) then (if (wrap64 ((a0.size : Int) - 1)) ≤ (a0.size : Int) then (if 1 ≤ (wrap64 ((a1.size : Int) - 1)) then (if (wrap64 ((a1.size : Int) - 1)) ≤ (a1.size : Int) then ((spec_l01Texts.f (a0.extract 1 ((wrap64 ((a0.size : Int) - 1)) : Int).toNat) (a1.extract 1 ((wrap64 ((a1.size : Int) - 1)) : Int).toNat)).bind fun t192 => (some t192)) else (none)) else (none)) else (none)) else (none)) else ((spec_TermParts.f k a0).bind fun bt193 => ((spec_TermParts.f k a1).bind fun bt197 => (if bt193.1.toList = bt197.1.toList then (if (bt193.2.length : Int) = (bt197.2.length : Int) then (spec_l01Cmp.l0 k bt193.2 bt197.2 0) else ((spec_l01Sign.f (wrap64 ((bt193.2.length : Int) - (bt197.2.length : Int)))).bind fun t202 => (some t202))) else ((spec_l01Texts.f bt193.1 bt197.1).bind fun t201 => (some t201))))))) else ((spec_l01Sign.f (wrap64 (t184 - t185))).bind fun t186 => (some t186)))) = some r := H
 have A3 := y0.mk A30
 clear A30
 replace H := Option.bind_eq_some_iff.mp H
 obtain ⟨t185,A40,H⟩ := H
 replace H : (if t184 = t185 then (if t184 = 1 then ((z8_.f k a0).bind fun bt187 => ((z8_.f k a1).bind fun bt189 => ((spec_l01Sign.f (wrap64 (bt187.1 - bt189.1))).bind fun t191 => (some t191)))) else (if t184 = 2 then (if 1 ≤ (wrap64 ((a0.size : Int) - 1)) then (if (wrap64 ((a0.size : Int) - 1)) ≤ (a0.size : Int) then (if 1 ≤ (wrap64 ((a1.size : Int) - 1)) then (if (wrap64 ((a1.size : Int) - 1)) ≤ (a1.size : Int) then ((spec_l01Texts.f (a0.extract 1 ((wrap64 ((a0.size : Int) - 1)) : Int).toNat) (a1.extract 1 ((wrap64 ((a1.size : Int) - 1)) : Int).toNat)).bind fun t192 => (some t192)) else (none)) else (none)) else (none)) else (none)) else ((spec_TermParts.f k a0).bind fun bt193 => ((spec_TermParts.f k a1).bind fun bt197 => (if bt193.1.toList = bt197.1.toList then (if (bt193.2.length : Int) = (bt197.2.length : Int) then (spec_l01Cmp.l0 k bt193.2 bt197.2 0) else ((spec_l01Sign.f (wrap64 ((bt193.2.length : Int) - (bt197.2.length : Int)))).bind fun t202 => (some t202))) else ((spec_l01Texts.f bt193.1 bt197.1).bind fun t201 => (some t201))))))) else ((spec_l01Sign.f (wrap64 (t184 - t185))).bind fun t186 => (some t186))) = some r := H
 have A4 := y0.mk A40
 clear A40
 by_cases c5 : t184 = t185
 ·rw [if_pos c5] at H
  have c5b0 : (t184 == t185) = true := beq_iff_eq.mpr c5
  have c5b1 : (t184 != t185) = false := bne_eq_false_iff_eq.mpr c5
  clear c5
  by_cases c6 : t184 = 1
  ·rw [if_pos c6] at H
   have c6b0 : (t184 == 1) = true := beq_iff_eq.mpr c6
   have c6b1 : (t184 != 1) = false := bne_eq_false_iff_eq.mpr c6
   clear c6
   replace H := Option.bind_eq_some_iff.mp H
   obtain ⟨⟨t187,t188⟩,A70,H⟩ := H
   replace H : ((z8_.f k a1).bind fun bt189 => ((spec_l01Sign.f (wrap64 (t187 - bt189.1))).bind fun t191 => (some t191))) = some r := H
   have A7 := y0.mk A70
   clear A70
   replace H := Option.bind_eq_some_iff.mp H
   obtain ⟨⟨t189,t190⟩,A80,H⟩ := H
   replace H : ((spec_l01Sign.f (wrap64 (t187 - t189))).bind fun t191 => (some t191)) = some r := H
   have A8 := y0.mk A80
   clear A80
   replace H := Option.bind_eq_some_iff.mp H
   obtain ⟨t191,A90,H⟩ := H
   replace H : (some t191) = some r := H
   have A9 := y0.mk A90
   clear A90
   obtain rfl := Option.some.inj H
   go_enter Tryz.func83,Tryz.ntmps83
   go_wp2_with (first | ((with_reducible refine y17 (f := 82) rfl ?_); refine y19 (some 18) rfl rfl Tryz.func82 (by kernel_rfl) rfl #[.string a0] rfl (by (try simp only [qM_,List.map_cons,List.map_nil]); first | done | rfl | (simp only [qD_,qT_]; rfl)) ?_; (with_reducible refine (z5_.calls k a0 t184 _ A3.out).mono ?_); rintro e w10 ⟨rfl,hb⟩; refine ⟨_,rfl, ?_⟩; have n0_ := y0.mk (y7 (by repeat (first | (with_reducible first | exact HB.out | apply y3 | apply y23 | apply y4) | exact HB.out)) hb); clear HB; have HB := n0_; clear n0_; (try clear hb); (try clear hb2); (try clear hk); (try clear hi)) | ((with_reducible refine y17 (f := 82) rfl ?_); refine y19 (some 20) rfl rfl Tryz.func82 (by kernel_rfl) rfl #[.string a1] rfl (by (try simp only [qM_,List.map_cons,List.map_nil]); first | done | rfl | (simp only [qD_,qT_]; rfl)) ?_; (with_reducible refine (z5_.calls k a1 t185 _ A4.out).mono ?_); rintro e w11 ⟨rfl,hb⟩; refine ⟨_,rfl, ?_⟩; have n0_ := y0.mk (y7 (by repeat (first | (with_reducible first | exact HB.out | apply y3 | apply y23 | apply y4) | exact HB.out)) hb); clear HB; have HB := n0_; clear n0_; (try clear hb); (try clear hb2); (try clear hk); (try clear hi)) | ((with_reducible refine y17 (f := 97) rfl ?_); refine y19 (some 33) rfl rfl Tryz.func97 (by kernel_rfl) rfl #[.string a0] rfl (by (try simp only [qM_,List.map_cons,List.map_nil]); first | done | rfl | (simp only [qD_,qT_]; rfl)) ?_; (with_reducible refine (z8_.calls k a0 t187 t188 _ A7.out).mono ?_); rintro e w12 ⟨rfl,hb⟩; refine ⟨_,rfl, ?_⟩; have n0_ := y0.mk (y7 (by repeat (first | (with_reducible first | exact HB.out | apply y3 | apply y23 | apply y4) | exact HB.out)) hb); clear HB; have HB := n0_; clear n0_; (try clear hb); (try clear hb2); (try clear hk); (try clear hi)) | ((with_reducible refine y17 (f := 97) rfl ?_); refine y19 (some 38) rfl rfl Tryz.func97 (by kernel_rfl) rfl #[.string a1] rfl (by (try simp only [qM_,List.map_cons,List.map_nil]); first | done | rfl | (simp only [qD_,qT_]; rfl)) ?_; (with_reducible refine (z8_.calls k a1 t189 t190 _ A8.out).mono ?_); rintro e w13 ⟨rfl,hb⟩; refine ⟨_,rfl, ?_⟩; have n0_ := y0.mk (y7 (by repeat (first | (with_reducible first | exact HB.out | apply y3 | apply y23 | apply y4) | exact HB.out)) hb); clear HB; have HB := n0_; clear n0_; (try clear hb); (try clear hb2); (try clear hk); (try clear hi)) | ((with_reducible refine y17 (f := 84) rfl ?_); refine y19 (some 44) rfl rfl Tryz.func84 (by kernel_rfl) rfl #[.int .i64 (wrap64 (t187 - t189))] rfl (by (try simp only [qM_,List.map_cons,List.map_nil]); first | done | rfl | (simp only [qD_,qT_]; rfl)) ?_; (with_reducible refine (spec_l01Sign.calls (wrap64 (t187 - t189)) t191 _ A9.out).mono ?_); rintro e w' ⟨rfl,⟨nd,rfl⟩⟩; refine ⟨_,rfl, ?_⟩))
   go_ret
   exact ⟨by first | rfl | (simp [y15,y16] <;> rfl) | (simp [*,y15,y16] <;> rfl),by repeat (first | (with_reducible first | exact HB.out | apply y3 | apply y23 | apply y4) | exact HB.out)⟩
  ·rw [if_neg c6] at H
   have c6b0 : (t184 == 1) = false := beq_eq_false_iff_ne.mpr c6
   have c6b1 : (t184 != 1) = true := bne_iff_ne.mpr c6
   by_cases c14 : t184 = 2
   ·rw [if_pos c14] at H
    have c14b0 : (t184 == 2) = true := beq_iff_eq.mpr c14
    have c14b1 : (t184 != 2) = false := bne_eq_false_iff_eq.mpr c14
    clear c14
    by_cases c15 : 1 ≤ (wrap64 ((a0.size : Int) - 1))
    ·rw [if_pos c15] at H
     have c15b0 := eq_true c15
     have c15b1 : decide (1 ≤ (wrap64 ((a0.size : Int) - 1))) = true := decide_eq_true c15
     clear c15
     by_cases c16 : (wrap64 ((a0.size : Int) - 1)) ≤ (a0.size : Int)
     ·rw [if_pos c16] at H
      have c16b0 := eq_true c16
      have c16b1 : decide ((wrap64 ((a0.size : Int) - 1)) ≤ (a0.size : Int)) = true := decide_eq_true c16
      clear c16
      by_cases c17 : 1 ≤ (wrap64 ((a1.size : Int) - 1))
      ·rw [if_pos c17] at H
       have c17b0 := eq_true c17
       have c17b1 : decide (1 ≤ (wrap64 ((a1.size : Int) - 1))) = true := decide_eq_true c17
       clear c17
       by_cases c18 : (wrap64 ((a1.size : Int) - 1)) ≤ (a1.size : Int)
       ·rw [if_pos c18] at H
        have c18b0 := eq_true c18
        have c18b1 : decide ((wrap64 ((a1.size : Int) - 1)) ≤ (a1.size : Int)) = true := decide_eq_true c18
        clear c18
        replace H := Option.bind_eq_some_iff.mp H
        obtain ⟨t192,A190,H⟩ := H
        replace H : (some t192) = some r := H
        have A19 := y0.mk A190
        clear A190
        obtain rfl := Option.some.inj H
        go_enter Tryz.func83,Tryz.ntmps83
        try go_wp2_with (first | ((with_reducible refine y17 (f := 82) rfl ?_); refine y19 (some 18) rfl rfl Tryz.func82 (by kernel_rfl) rfl #[.string a0] rfl (by (try simp only [qM_,List.map_cons,List.map_nil]); first | done | rfl | (simp only [qD_,qT_]; rfl)) ?_; (with_reducible refine (z5_.calls k a0 t184 _ A3.out).mono ?_); rintro e w20 ⟨rfl,hb⟩; refine ⟨_,rfl, ?_⟩; have n0_ := y0.mk (y7 (by repeat (first | (with_reducible first | exact HB.out | apply y3 | apply y23 | apply y4) | exact HB.out)) hb); clear HB; have HB := n0_; clear n0_; (try clear hb); (try clear hb2); (try clear hk); (try clear hi)) | ((with_reducible refine y17 (f := 82) rfl ?_); refine y19 (some 20) rfl rfl Tryz.func82 (by kernel_rfl) rfl #[.string a1] rfl (by (try simp only [qM_,List.map_cons,List.map_nil]); first | done | rfl | (simp only [qD_,qT_]; rfl)) ?_; (with_reducible refine (z5_.calls k a1 t185 _ A4.out).mono ?_); rintro e w21 ⟨rfl,hb⟩; refine ⟨_,rfl, ?_⟩; have n0_ := y0.mk (y7 (by repeat (first | (with_reducible first | exact HB.out | apply y3 | apply y23 | apply y4) | exact HB.out)) hb); clear HB; have HB := n0_; clear n0_; (try clear hb); (try clear hb2); (try clear hk); (try clear hi)))
        have n0_ := y0.mk (y4 HB.out)
        clear HB
        have HB := n0_
        clear n0_
        refine start_ (n := 12) (S := fun w' => True) (ds := []) (fl_ 12 0) (by kernel_rfl) rfl rfl trivial (fun hHeld => ?_); refine with_tabW spec_l01Cmp.tab10 spec_l01Cmp.bits10 (fun HT_ HW_ => ?_)
        generalize w21.drew = w22 at HB hHeld ⊢
        refine y22 (i := 0) (N := some 47) (v := ?_) (a' := ?_) (fl_ 12 1) rfl rfl (y2 HT_.out (by kernel_rfl)) (fun _ _ _ h => h) (Or.inl ⟨by rfl, ?_⟩) ?_ ?_
        rotate_left
        ·intro w'
         go_simp
         with_reducible rfl
        rotate_left
        ·simp only [Act.put,qS_,qZ_,qC_,y21,y20]
         rfl
        refine y22 (i := 1) (N := some 48) (v := ?_) (a' := ?_) (fl_ 12 3) rfl rfl (y2 HT_.out (by kernel_rfl)) (fun _ _ _ h => h) (Or.inl ⟨by rfl, ?_⟩) ?_ ?_
        rotate_left
        ·intro w'
         go_simp
         with_reducible rfl
        rotate_left
        ·simp only [Act.put,qS_,qZ_,qC_,y21,y20]
         rfl
        refine y22 (i := 2) (N := some 49) (v := ?_) (a' := ?_) (fl_ 12 7) rfl rfl (y2 HT_.out (by kernel_rfl)) (fun _ _ _ h => h) (Or.inl ⟨by rfl, ?_⟩) ?_ ?_
        rotate_left
        ·intro w'
         go_simp
         with_reducible rfl
        rotate_left
        ·simp only [Act.put,qS_,qZ_,qC_,y21,y20]
         rfl
        refine y22 (i := 3) (N := some 50) (v := ?_) (a' := ?_) (fl_ 12 15) rfl rfl (y2 HT_.out (by kernel_rfl)) (fun _ _ _ h => h) (Or.inl ⟨by rfl, ?_⟩) ?_ ?_
        rotate_left
        ·intro w'
         go_simp
         with_reducible rfl
        rotate_left
        ·simp only [Act.put,qS_,qZ_,qC_,y21,y20]
         rfl
        refine y22 (i := 4) (N := some 51) (v := ?_) (a' := ?_) (fl_ 12 31) rfl rfl (y2 HT_.out (by kernel_rfl)) (fun _ _ _ h => h) (Or.inl ⟨by rfl, ?_⟩) ?_ ?_
        rotate_left
        ·intro w'
         go_simp
         with_reducible rfl
        rotate_left
        ·simp only [Act.put,qS_,qZ_,qC_,y21,y20]
         rfl
        refine y22 (i := 5) (N := some 52) (v := ?_) (a' := ?_) (fl_ 12 63) rfl rfl (y2 HT_.out (by kernel_rfl)) (fun _ _ _ h => h) (Or.inl ⟨by rfl, ?_⟩) ?_ ?_
        rotate_left
        ·intro w'
         go_simp
         with_reducible rfl
        rotate_left
        ·simp only [Act.put,qS_,qZ_,qC_,y21,y20]
         rfl
        refine y22 (i := 6) (N := some 53) (v := ?_) (a' := ?_) (fl_ 12 127) rfl rfl (y2 HT_.out (by kernel_rfl)) (fun _ _ _ h => h) (Or.inl ⟨by rfl, ?_⟩) ?_ ?_
        rotate_left
        ·intro w'
         go_simp
         with_reducible rfl
        rotate_left
        ·simp only [Act.put,qS_,qZ_,qC_,y21,y20]
         rfl
        refine y22 (i := 7) (N := some 54) (v := ?_) (a' := ?_) (fl_ 12 255) rfl rfl (y2 HT_.out (by kernel_rfl)) (fun _ _ _ h => h) (Or.inl ⟨by rfl, ?_⟩) ?_ ?_
        rotate_left
        ·intro w'
         go_simp
         with_reducible rfl
        rotate_left
        ·simp only [Act.put,qS_,qZ_,qC_,y21,y20]
         rfl
        refine y22 (i := 8) (N := some 55) (v := ?_) (a' := ?_) (fl_ 12 511) rfl rfl (y2 HT_.out (by kernel_rfl)) (fun _ _ _ h => h) (Or.inl ⟨by rfl, ?_⟩) ?_ ?_
        rotate_left
        ·intro w'
         go_simp
         with_reducible rfl
        rotate_left
        ·simp only [Act.put,qS_,qZ_,qC_,y21,y20]
         rfl
        refine y22 (i := 9) (N := some 56) (v := ?_) (a' := ?_) (fl_ 12 1023) rfl rfl (y2 HT_.out (by kernel_rfl)) (fun _ _ _ h => h) (Or.inl ⟨by rfl, ?_⟩) ?_ ?_
        rotate_left
        ·intro w'
         go_simp
         with_reducible rfl
        rotate_left
        ·simp only [Act.put,qS_,qZ_,qC_,y21,y20]
         rfl
        refine one_ (i := 10) (N := some 57) (fl_ 12 2047) rfl rfl (one_of HT_.out (by kernel_rfl)) (by decide) (fun K hK => ?_)
        refine goes_ Tryz.func100 (by kernel_rfl) rfl #[.string (a0.extract 1 ((wrap64 ((a0.size : Int) - 1)) : Int).toNat),.string (a1.extract 1 ((wrap64 ((a1.size : Int) - 1)) : Int).toNat)] (by rfl) rfl rfl (by (try simp only [qM_,List.map_cons,List.map_nil]); first | done | rfl | (simp only [qD_,qT_]; rfl)) ?_
        with_reducible refine (spec_l01Texts.calls (a0.extract 1 ((wrap64 ((a0.size : Int) - 1)) : Int).toNat) (a1.extract 1 ((wrap64 ((a1.size : Int) - 1)) : Int).toNat) t192 _ A19.out).mono ?_
        rintro e w' ⟨rfl,⟨nd,rfl⟩⟩
        refine ⟨_,rfl, ?_⟩
        refine hK.out _ _ trivial (fun hHeld => ?_)
        clear hK K
        refine norm_ (a' := ?_) ?_ ?_
        rotate_left
        ·show Act.put _ (some 57) _ = _
         simp only [Act.put,qS_,qZ_,qC_,y21,y20]
         rfl
        refine y22 (i := 11) (N := some 4) (v := ?_) (a' := ?_) (fl_ 12 4095) rfl rfl (y2 HT_.out (by kernel_rfl)) (fun _ _ _ h => h) (Or.inl ⟨by rfl, ?_⟩) ?_ ?_
        rotate_left
        ·intro w'
         go_simp
         with_reducible rfl
        rotate_left
        ·simp only [Act.put,qS_,qZ_,qC_,y21,y20]
         rfl
        refine done_ (done_of HT_.out (by kernel_rfl)) ?_
        try go_wp2
        go_ret
        exact ⟨by first | rfl | (simp [y15,y16] <;> rfl) | (simp [*,y15,y16] <;> rfl),by repeat (first | (with_reducible first | exact HB.out | apply y3 | apply y23 | apply y4) | exact HB.out)⟩
       ·rw [if_neg c18] at H
        exact absurd H (by simp)
      ·rw [if_neg c17] at H
       exact absurd H (by simp)
     ·rw [if_neg c16] at H
      exact absurd H (by simp)
    ·rw [if_neg c15] at H
     exact absurd H (by simp)
   ·rw [if_neg c14] at H
    have c14b0 : (t184 == 2) = false := beq_eq_false_iff_ne.mpr c14
    have c14b1 : (t184 != 2) = true := bne_iff_ne.mpr c14
    replace H := Option.bind_eq_some_iff.mp H
    obtain ⟨⟨t193,t194⟩,A230,H⟩ := H
    replace H : ((spec_TermParts.f k a1).bind fun bt197 => (if t193.toList = bt197.1.toList then (if (t194.length : Int) = (bt197.2.length : Int) then (spec_l01Cmp.l0 k t194 bt197.2 0) else ((spec_l01Sign.f (wrap64 ((t194.length : Int) - (bt197.2.length : Int)))).bind fun t202 => (some t202))) else ((spec_l01Texts.f t193 bt197.1).bind fun t201 => (some t201)))) = some r := H
    have A23 := y0.mk A230
    clear A230
    replace H := Option.bind_eq_some_iff.mp H
    obtain ⟨⟨t197,t198⟩,A240,H⟩ := H
    replace H : (if t193.toList = t197.toList then (if (t194.length : Int) = (t198.length : Int) then (spec_l01Cmp.l0 k t194 t198 0) else ((spec_l01Sign.f (wrap64 ((t194.length : Int) - (t198.length : Int)))).bind fun t202 => (some t202))) else ((spec_l01Texts.f t193 t197).bind fun t201 => (some t201))) = some r := H
    have A24 := y0.mk A240
    clear A240
    by_cases c25 : t193.toList = t197.toList
    ·rw [if_pos c25] at H
     have c25b0 : (t193.toList == t197.toList) = true := beq_iff_eq.mpr c25
     have c25b1 : (t193.toList != t197.toList) = false := bne_eq_false_iff_eq.mpr c25
     clear c25
     by_cases c26 : (t194.length : Int) = (t198.length : Int)
     ·rw [if_pos c26] at H
      have c26b0 : ((t194.length : Int) == (t198.length : Int)) = true := beq_iff_eq.mpr c26
      have c26b1 : ((t194.length : Int) != (t198.length : Int)) = false := bne_eq_false_iff_eq.mpr c26
      have c26b2 : (t194.length == t198.length) = true := by first | simpa using c26 | (simp at c26 ⊢; omega)
      clear c26
      have H' := y0.mk H
      clear H
      go_enter Tryz.func83,Tryz.ntmps83
      go_wp2_with (first | ((with_reducible refine y17 (f := 82) rfl ?_); refine y19 (some 18) rfl rfl Tryz.func82 (by kernel_rfl) rfl #[.string a0] rfl (by (try simp only [qM_,List.map_cons,List.map_nil]); first | done | rfl | (simp only [qD_,qT_]; rfl)) ?_; (with_reducible refine (z5_.calls k a0 t184 _ A3.out).mono ?_); rintro e w27 ⟨rfl,hb⟩; refine ⟨_,rfl, ?_⟩; have n0_ := y0.mk (y7 (by repeat (first | (with_reducible first | exact HB.out | apply y3 | apply y23 | apply y4) | exact HB.out)) hb); clear HB; have HB := n0_; clear n0_; (try clear hb); (try clear hb2); (try clear hk); (try clear hi)) | ((with_reducible refine y17 (f := 82) rfl ?_); refine y19 (some 20) rfl rfl Tryz.func82 (by kernel_rfl) rfl #[.string a1] rfl (by (try simp only [qM_,List.map_cons,List.map_nil]); first | done | rfl | (simp only [qD_,qT_]; rfl)) ?_; (with_reducible refine (z5_.calls k a1 t185 _ A4.out).mono ?_); rintro e w28 ⟨rfl,hb⟩; refine ⟨_,rfl, ?_⟩; have n0_ := y0.mk (y7 (by repeat (first | (with_reducible first | exact HB.out | apply y3 | apply y23 | apply y4) | exact HB.out)) hb); clear HB; have HB := n0_; clear n0_; (try clear hb); (try clear hb2); (try clear hk); (try clear hi)) | ((with_reducible refine y17 (f := 101) rfl ?_); refine y19 (some 60) rfl rfl Tryz.func101 (by kernel_rfl) rfl #[.string a0] rfl (by (try simp only [qM_,List.map_cons,List.map_nil]); first | done | rfl | (simp only [qD_,qT_]; rfl)) ?_; (with_reducible refine (spec_TermParts.calls k a0 t193 t194 _ A23.out).mono ?_); rintro e w29 ⟨v195,rfl,ho0,hb⟩; refine ⟨_,rfl, ?_⟩; have n0_ := y0.mk (Kd.R_lower ho0 (y6 (by repeat (first | (with_reducible first | exact HB.out | apply y3 | apply y23 | apply y4) | exact HB.out)))); have n1_ := y0.mk (y7 (by repeat (first | (with_reducible first | exact HB.out | apply y3 | apply y23 | apply y4) | exact HB.out)) hb); clear HB; have HO196 := n0_; have HB := n1_; clear n0_ n1_; (try clear hb); (try clear hb2); (try clear hk); (try clear hi); (try clear ho0)) | ((with_reducible refine y17 (f := 101) rfl ?_); refine y19 (some 65) rfl rfl Tryz.func101 (by kernel_rfl) rfl #[.string a1] rfl (by (try simp only [qM_,List.map_cons,List.map_nil]); first | done | rfl | (simp only [qD_,qT_]; rfl)) ?_; (with_reducible refine (spec_TermParts.calls k a1 t197 t198 _ A24.out).mono ?_); rintro e w30 ⟨v199,rfl,ho0,hb⟩; refine ⟨_,rfl, ?_⟩; have n0_ := y0.mk (Kd.R_elder' (by (with_reducible repeat (first | apply Kd.R_alloc | apply Kd.R_drewN | apply Kd.R_drew)); exact HO196.out) (Kd.R_base ho0) hb); have n1_ := y0.mk (Kd.R_lower (Kd.R_new' ho0 (Kd.R_lt (by (with_reducible repeat (first | apply Kd.R_alloc | apply Kd.R_drewN | apply Kd.R_drew)); exact HO196.out))) (y6 (by repeat (first | (with_reducible first | exact HB.out | apply y3 | apply y23 | apply y4) | exact HB.out)))); have n2_ := y0.mk (y7 (by repeat (first | (with_reducible first | exact HB.out | apply y3 | apply y23 | apply y4) | exact HB.out)) hb); clear HO196; clear HB; have HO196 := n0_; have HO200 := n1_; have HB := n2_; clear n0_ n1_ n2_; (try clear hb); (try clear hb2); (try clear hk); (try clear hi); (try clear ho0); obtain ⟨Ao31,co31,eo31⟩ := Kd.R_slice HO196.out; subst eo31; obtain ⟨Ao32,co32,eo32⟩ := Kd.R_slice HO200.out; subst eo32))
      go_loopg [15] k (fun kq v15 w' => ∃ (x15_1 : Int),v15 = .int .i64 x15_1 ∧ y0 (spec_l01Cmp.l0 kq t194 t198 x15_1 = some r) ∧ y0 (kq ≤ k) ∧ y0 (Kd.R Kd.string 9 w' w.heap.size (fun k_ => some k_ ≠ ((.slice Ao32 t198.length co32) : Value).ownBlock) (.slice Ao31 t194.length co31) t194) ∧ y0 (Kd.R Kd.string 9 w' w.heap.size (fun k_ => some k_ ≠ ((.slice Ao31 t194.length co31) : Value).ownBlock) (.slice Ao32 t198.length co32) t198) ∧ y0 (Below w.heap.size w w'))
      case atStart => exact ⟨(0),(by first | rfl | (simp; done) | (simp [*]; done)),H',⟨Nat.le_refl _⟩,⟨by (with_reducible repeat (first | apply Kd.R_alloc | apply Kd.R_drewN | apply Kd.R_drew)); exact Kd.R_mono HO196.out (fun _ hk => hk.2)⟩,⟨by (with_reducible repeat (first | apply Kd.R_alloc | apply Kd.R_drewN | apply Kd.R_drew)); exact Kd.R_mono HO200.out (fun _ hk => hk.2)⟩,⟨by repeat (first | (with_reducible first | exact HB.out | apply y3 | apply y23 | apply y4) | exact HB.out)⟩⟩
      case round =>
       clear H'
       try clear c1
       try clear c2
       try clear p2
       try clear c5
       try clear c5b0
       try clear c5b1
       try clear c6
       try clear c6b0
       try clear c6b1
       try clear p6
       try clear c8
       try clear c9
       try clear c10
       try clear c14
       try clear c14b0
       try clear c14b1
       try clear c15
       try clear c15b0
       try clear c15b1
       try clear c16
       try clear c16b0
       try clear c16b1
       try clear c17
       try clear c17b0
       try clear c17b1
       try clear c18
       try clear c18b0
       try clear c18b1
       try clear c25
       try clear c25b0
       try clear c25b1
       try clear c26
       try clear c26b0
       try clear c26b1
       try clear c26b2
       obtain ⟨x15_1,rfl,HA,HK1,HO_12,HO_14,HB⟩ := hrel
       cases gk with
       | zero => exact absurd HA.out (by simp [spec_l01Cmp.l0])
       | succ k1 =>
        have H := HA.out
        clear HA
        simp only [spec_l01Cmp.l0] at H
        by_cases c33 : x15_1 < (t194.length : Int)
        ·rw [if_pos c33] at H
         have c33b0 : decide (x15_1 < (t194.length : Int)) = true := decide_eq_true c33
         clear c33
         by_cases c34 : 0 ≤ x15_1
         ·rw [if_pos c34] at H
          have c34b0 : decide (0 ≤ x15_1) = true := decide_eq_true c34
          clear c34
          by_cases c35 : x15_1 < (t198.length : Int)
          ·rw [if_pos c35] at H
           have c35b0 : decide (x15_1 < (t198.length : Int)) = true := decide_eq_true c35
           clear c35
           replace H := Option.bind_eq_some_iff.mp H
           obtain ⟨t205,A360,H⟩ := H
           replace H : (if t205 = 0 then (spec_l01Cmp.l0 k1 t194 t198 (wrap64 (x15_1 + 1))) else (some t205)) = some r := H
           have A36 := y0.mk A360
           clear A360
           by_cases c37 : t205 = 0
           ·rw [if_pos c37] at H
            have c37b0 : (t205 == 0) = true := beq_iff_eq.mpr c37
            have c37b1 : (t205 != 0) = false := bne_eq_false_iff_eq.mpr c37
            clear c37
            have H' := y0.mk H
            clear H
            try go_wp2
            have n0_ := y0.mk (Kd.R_drew HO_12.out)
            have n1_ := y0.mk (Kd.R_drew HO_14.out)
            have n2_ := y0.mk (y4 HB.out)
            clear HO_12
            clear HO_14
            clear HB
            have HO_12 := n0_
            have HO_14 := n1_
            have HB := n2_
            clear n0_ n1_ n2_
            have p203 : 0 ≤ (x15_1 : Int) := of_decide_eq_true (by first | (with_reducible assumption) | assumption)
            have q203 : x15_1 < (t194.length : Int) := of_decide_eq_true (by first | (with_reducible assumption) | assumption)
            obtain ⟨ad203,e203,hx203_0⟩ := Kd.at_string (Kd.R_reads' HO_12.out).2.2 x15_1 p203 q203
            cases e203
            replace p203 := eq_true p203
            replace q203 := eq_true q203
            have p204 : 0 ≤ (x15_1 : Int) := of_decide_eq_true (by first | (with_reducible assumption) | assumption)
            have q204 : x15_1 < (t198.length : Int) := of_decide_eq_true (by first | (with_reducible assumption) | assumption)
            obtain ⟨ad204,e204,hx204_0⟩ := Kd.at_string (Kd.R_reads' HO_14.out).2.2 x15_1 p204 q204
            cases e204
            replace p204 := eq_true p204
            replace q204 := eq_true q204
            refine start_ (n := 10) (S := fun w' => w'.cell? (ad203.add (x15_1).toNat) = some (.string (rdOf ByteArray.empty t194 x15_1)) ∧ w'.cell? (ad204.add (x15_1).toNat) = some (.string (rdOf ByteArray.empty t198 x15_1))) (ds := []) (fl_ 10 0) (by kernel_rfl) rfl rfl ⟨hx203_0,hx204_0⟩ (fun hHeld => ?_); refine with_tabW spec_l01Cmp.tab20 spec_l01Cmp.bits20 (fun HT_ HW_ => ?_)
            generalize wr.drew = w38 at HO_12 HO_14 HB hx203_0 hx204_0 hHeld ⊢
            refine y22 (i := 0) (N := some 91) (v := ?_) (a' := ?_) (fl_ 10 1) rfl rfl (y2 HT_.out (by kernel_rfl)) (fun _ _ _ h => h) (Or.inl ⟨by rfl, ?_⟩) ?_ ?_
            rotate_left
            ·intro w'
             go_simp
             with_reducible rfl
            rotate_left
            ·simp only [Act.put,qS_,qZ_,qC_,y21,y20]
             rfl
            refine y22 (i := 1) (N := some 92) (v := ?_) (a' := ?_) (fl_ 10 3) rfl rfl (y2 HT_.out (by kernel_rfl)) (fun _ _ _ h => h) (Or.inl ⟨by rfl, ?_⟩) ?_ ?_
            rotate_left
            ·intro w'
             go_simp
             with_reducible rfl
            rotate_left
            ·simp only [Act.put,qS_,qZ_,qC_,y21,y20]
             rfl
            refine y22 (i := 2) (N := some 93) (v := ?_) (a' := ?_) (fl_ 10 7) rfl rfl (y2 HT_.out (by kernel_rfl)) (fun _ _ _ h => h) (Or.inl ⟨by rfl, ?_⟩) ?_ ?_
            rotate_left
            ·intro w'
             go_simp
             with_reducible rfl
            rotate_left
            ·simp only [Act.put,qS_,qZ_,qC_,y21,y20]
             rfl
            refine y22 (i := 4) (N := some 95) (v := ?_) (a' := ?_) (fl_ 10 23) rfl rfl (y2 HT_.out (by kernel_rfl)) (fun _ _ _ h => h) (Or.inl ⟨by rfl, ?_⟩) ?_ ?_
            rotate_left
            ·intro w'
             go_simp
             with_reducible rfl
            rotate_left
            ·simp only [Act.put,qS_,qZ_,qC_,y21,y20]
             rfl
            refine y22 (i := 5) (N := some 96) (v := ?_) (a' := ?_) (fl_ 10 55) rfl rfl (y2 HT_.out (by kernel_rfl)) (fun _ _ _ h => h) (Or.inl ⟨by rfl, ?_⟩) ?_ ?_
            rotate_left
            ·intro w'
             go_simp
             with_reducible rfl
            rotate_left
            ·simp only [Act.put,qS_,qZ_,qC_,y21,y20]
             rfl
            refine y22 (i := 6) (N := some 97) (v := ?_) (a' := ?_) (fl_ 10 119) rfl rfl (y2 HT_.out (by kernel_rfl)) (fun _ _ _ h => h) (Or.inl ⟨by rfl, ?_⟩) ?_ ?_
            rotate_left
            ·intro w'
             go_simp
             with_reducible rfl
            rotate_left
            ·simp only [Act.put,qS_,qZ_,qC_,y21,y20]
             rfl
            refine take_ (i := 3) (N := some 94) (v := ?_) (a' := ?_) (fl_ 10 127) rfl rfl (y26 HT_.out HW_.out (by kernel_rfl)) (fun _ _ _ h => h) (Or.inl ⟨by rfl, ?_⟩) hHeld ?_ ?_
            rotate_left
            ·rintro w' ⟨s0,s1⟩
             go_simp
             with_reducible rfl
            rotate_left
            ·simp only [Act.put,qS_,qZ_,qC_,y21,y20]
             rfl
            refine take_ (i := 7) (N := some 98) (v := ?_) (a' := ?_) (fl_ 10 255) rfl rfl (y26 HT_.out HW_.out (by kernel_rfl)) (fun _ _ _ h => h) (Or.inl ⟨by rfl, ?_⟩) hHeld ?_ ?_
            rotate_left
            ·rintro w' ⟨s0,s1⟩
             go_simp
             with_reducible rfl
            rotate_left
            ·simp only [Act.put,qS_,qZ_,qC_,y21,y20]
             rfl
            refine one_ (i := 8) (N := some 99) (fl_ 10 511) rfl rfl (one_of HT_.out (by kernel_rfl)) (by decide) (fun K hK => ?_)
            refine goes_ Tryz.func83 (by kernel_rfl) rfl #[.string (rdOf ByteArray.empty t194 x15_1),.string (rdOf ByteArray.empty t198 x15_1)] (by rfl) rfl rfl (by (try simp only [qM_,List.map_cons,List.map_nil]); first | done | rfl | (simp only [qD_,qT_]; rfl)) ?_
            with_reducible refine (ih k1 (by have := HK1.out; omega) (rdOf ByteArray.empty t194 x15_1) (rdOf ByteArray.empty t198 x15_1) t205 _ A36.out).mono ?_
            rintro e w39 ⟨rfl,hb⟩
            have HS0_ := (hb.cell (World.block_lt_of_cell? _ _ (hHeld.1))).trans (hHeld.1)
            have HS1_ := (hb.cell (World.block_lt_of_cell? _ _ (hHeld.2))).trans (hHeld.2)
            refine ⟨_,rfl, ?_⟩
            have n0_ := y0.mk (Kd.R_below (by (with_reducible repeat (first | apply Kd.R_alloc | apply Kd.R_drewN | apply Kd.R_drew)); exact HO_12.out) hb)
            have n1_ := y0.mk (Kd.R_below (by (with_reducible repeat (first | apply Kd.R_alloc | apply Kd.R_drewN | apply Kd.R_drew)); exact HO_14.out) hb)
            have n2_ := y0.mk (y7 (by repeat (first | (with_reducible first | exact HB.out | apply y3 | apply y23 | apply y4) | exact HB.out)) hb)
            clear HO_12
            clear HO_14
            clear HB
            have HO_12 := n0_
            have HO_14 := n1_
            have HB := n2_
            clear n0_ n1_ n2_
            (try clear hb)
            (try clear hb2)
            (try clear hk)
            (try clear hi)
            refine hK.out _ _ ⟨HS0_,HS1_⟩ (fun hHeld => ?_)
            clear hK K
            refine norm_ (a' := ?_) ?_ ?_
            rotate_left
            ·show Act.put _ (some 99) _ = _
             simp only [Act.put,qS_,qZ_,qC_,y21,y20]
             rfl
            refine y22 (i := 9) (N := some 16) (v := ?_) (a' := ?_) (fl_ 10 1023) rfl rfl (y2 HT_.out (by kernel_rfl)) (fun _ _ _ h => h) (Or.inl ⟨by rfl, ?_⟩) ?_ ?_
            rotate_left
            ·intro w'
             go_simp
             with_reducible rfl
            rotate_left
            ·simp only [Act.put,qS_,qZ_,qC_,y21,y20]
             rfl
            refine done_ (done_of HT_.out (by kernel_rfl)) ?_
            try go_wp2
            go_roundg k1
            case measure => have := HK1.out; omega
            case rel => exact ⟨(wrap64 (x15_1 + 1)),(by first | rfl | (simp; done) | (simp [*]; done)),H',⟨by have := HK1.out; omega⟩,⟨by (with_reducible repeat (first | apply Kd.R_alloc | apply Kd.R_drewN | apply Kd.R_drew)); exact HO_12.out⟩,⟨by (with_reducible repeat (first | apply Kd.R_alloc | apply Kd.R_drewN | apply Kd.R_drew)); exact HO_14.out⟩,⟨by repeat (first | (with_reducible first | exact HB.out | apply y3 | apply y23 | apply y4) | exact HB.out)⟩⟩
           ·rw [if_neg c37] at H
            have c37b0 : (t205 == 0) = false := beq_eq_false_iff_ne.mpr c37
            have c37b1 : (t205 != 0) = true := bne_iff_ne.mpr c37
            obtain rfl := Option.some.inj H
            try go_wp2
            have n0_ := y0.mk (Kd.R_drew HO_12.out)
            have n1_ := y0.mk (Kd.R_drew HO_14.out)
            have n2_ := y0.mk (y4 HB.out)
            clear HO_12
            clear HO_14
            clear HB
            have HO_12 := n0_
            have HO_14 := n1_
            have HB := n2_
            clear n0_ n1_ n2_
            have p203 : 0 ≤ (x15_1 : Int) := of_decide_eq_true (by first | (with_reducible assumption) | assumption)
            have q203 : x15_1 < (t194.length : Int) := of_decide_eq_true (by first | (with_reducible assumption) | assumption)
            obtain ⟨ad203,e203,hx203_0⟩ := Kd.at_string (Kd.R_reads' HO_12.out).2.2 x15_1 p203 q203
            cases e203
            replace p203 := eq_true p203
            replace q203 := eq_true q203
            have p204 : 0 ≤ (x15_1 : Int) := of_decide_eq_true (by first | (with_reducible assumption) | assumption)
            have q204 : x15_1 < (t198.length : Int) := of_decide_eq_true (by first | (with_reducible assumption) | assumption)
            obtain ⟨ad204,e204,hx204_0⟩ := Kd.at_string (Kd.R_reads' HO_14.out).2.2 x15_1 p204 q204
            cases e204
            replace p204 := eq_true p204
            replace q204 := eq_true q204
            refine start_ (n := 10) (S := fun w' => w'.cell? (ad203.add (x15_1).toNat) = some (.string (rdOf ByteArray.empty t194 x15_1)) ∧ w'.cell? (ad204.add (x15_1).toNat) = some (.string (rdOf ByteArray.empty t198 x15_1))) (ds := []) (fl_ 10 0) (by kernel_rfl) rfl rfl ⟨hx203_0,hx204_0⟩ (fun hHeld => ?_); refine with_tabW spec_l01Cmp.tab20 spec_l01Cmp.bits20 (fun HT_ HW_ => ?_)
            generalize wr.drew = w40 at HO_12 HO_14 HB hx203_0 hx204_0 hHeld ⊢
            refine y22 (i := 0) (N := some 91) (v := ?_) (a' := ?_) (fl_ 10 1) rfl rfl (y2 HT_.out (by kernel_rfl)) (fun _ _ _ h => h) (Or.inl ⟨by rfl, ?_⟩) ?_ ?_
            rotate_left
            ·intro w'
             go_simp
             with_reducible rfl
            rotate_left
            ·simp only [Act.put,qS_,qZ_,qC_,y21,y20]
             rfl
            refine y22 (i := 1) (N := some 92) (v := ?_) (a' := ?_) (fl_ 10 3) rfl rfl (y2 HT_.out (by kernel_rfl)) (fun _ _ _ h => h) (Or.inl ⟨by rfl, ?_⟩) ?_ ?_
            rotate_left
            ·intro w'
             go_simp
             with_reducible rfl
            rotate_left
            ·simp only [Act.put,qS_,qZ_,qC_,y21,y20]
             rfl
            refine y22 (i := 2) (N := some 93) (v := ?_) (a' := ?_) (fl_ 10 7) rfl rfl (y2 HT_.out (by kernel_rfl)) (fun _ _ _ h => h) (Or.inl ⟨by rfl, ?_⟩) ?_ ?_
            rotate_left
            ·intro w'
             go_simp
             with_reducible rfl
            rotate_left
            ·simp only [Act.put,qS_,qZ_,qC_,y21,y20]
             rfl
            refine y22 (i := 4) (N := some 95) (v := ?_) (a' := ?_) (fl_ 10 23) rfl rfl (y2 HT_.out (by kernel_rfl)) (fun _ _ _ h => h) (Or.inl ⟨by rfl, ?_⟩) ?_ ?_
            rotate_left
            ·intro w'
             go_simp
             with_reducible rfl
            rotate_left
            ·simp only [Act.put,qS_,qZ_,qC_,y21,y20]
             rfl
            refine y22 (i := 5) (N := some 96) (v := ?_) (a' := ?_) (fl_ 10 55) rfl rfl (y2 HT_.out (by kernel_rfl)) (fun _ _ _ h => h) (Or.inl ⟨by rfl, ?_⟩) ?_ ?_
            rotate_left
            ·intro w'
             go_simp
             with_reducible rfl
            rotate_left
            ·simp only [Act.put,qS_,qZ_,qC_,y21,y20]
             rfl
            refine y22 (i := 6) (N := some 97) (v := ?_) (a' := ?_) (fl_ 10 119) rfl rfl (y2 HT_.out (by kernel_rfl)) (fun _ _ _ h => h) (Or.inl ⟨by rfl, ?_⟩) ?_ ?_
            rotate_left
            ·intro w'
             go_simp
             with_reducible rfl
            rotate_left
            ·simp only [Act.put,qS_,qZ_,qC_,y21,y20]
             rfl
            refine take_ (i := 3) (N := some 94) (v := ?_) (a' := ?_) (fl_ 10 127) rfl rfl (y26 HT_.out HW_.out (by kernel_rfl)) (fun _ _ _ h => h) (Or.inl ⟨by rfl, ?_⟩) hHeld ?_ ?_
            rotate_left
            ·rintro w' ⟨s0,s1⟩
             go_simp
             with_reducible rfl
            rotate_left
            ·simp only [Act.put,qS_,qZ_,qC_,y21,y20]
             rfl
            refine take_ (i := 7) (N := some 98) (v := ?_) (a' := ?_) (fl_ 10 255) rfl rfl (y26 HT_.out HW_.out (by kernel_rfl)) (fun _ _ _ h => h) (Or.inl ⟨by rfl, ?_⟩) hHeld ?_ ?_
            rotate_left
            ·rintro w' ⟨s0,s1⟩
             go_simp
             with_reducible rfl
            rotate_left
            ·simp only [Act.put,qS_,qZ_,qC_,y21,y20]
             rfl
            refine one_ (i := 8) (N := some 99) (fl_ 10 511) rfl rfl (one_of HT_.out (by kernel_rfl)) (by decide) (fun K hK => ?_)
            refine goes_ Tryz.func83 (by kernel_rfl) rfl #[.string (rdOf ByteArray.empty t194 x15_1),.string (rdOf ByteArray.empty t198 x15_1)] (by rfl) rfl rfl (by (try simp only [qM_,List.map_cons,List.map_nil]); first | done | rfl | (simp only [qD_,qT_]; rfl)) ?_
            with_reducible refine (ih k1 (by have := HK1.out; omega) (rdOf ByteArray.empty t194 x15_1) (rdOf ByteArray.empty t198 x15_1) t205 _ A36.out).mono ?_
            rintro e w41 ⟨rfl,hb⟩
            have HS0_ := (hb.cell (World.block_lt_of_cell? _ _ (hHeld.1))).trans (hHeld.1)
            have HS1_ := (hb.cell (World.block_lt_of_cell? _ _ (hHeld.2))).trans (hHeld.2)
            refine ⟨_,rfl, ?_⟩
            have n0_ := y0.mk (Kd.R_below (by (with_reducible repeat (first | apply Kd.R_alloc | apply Kd.R_drewN | apply Kd.R_drew)); exact HO_12.out) hb)
            have n1_ := y0.mk (Kd.R_below (by (with_reducible repeat (first | apply Kd.R_alloc | apply Kd.R_drewN | apply Kd.R_drew)); exact HO_14.out) hb)
            have n2_ := y0.mk (y7 (by repeat (first | (with_reducible first | exact HB.out | apply y3 | apply y23 | apply y4) | exact HB.out)) hb)
            clear HO_12
            clear HO_14
            clear HB
            have HO_12 := n0_
            have HO_14 := n1_
            have HB := n2_
            clear n0_ n1_ n2_
            (try clear hb)
            (try clear hb2)
            (try clear hk)
            (try clear hi)
            refine hK.out _ _ ⟨HS0_,HS1_⟩ (fun hHeld => ?_)
            clear hK K
            refine norm_ (a' := ?_) ?_ ?_
            rotate_left
            ·show Act.put _ (some 99) _ = _
             simp only [Act.put,qS_,qZ_,qC_,y21,y20]
             rfl
            refine y22 (i := 9) (N := some 16) (v := ?_) (a' := ?_) (fl_ 10 1023) rfl rfl (y2 HT_.out (by kernel_rfl)) (fun _ _ _ h => h) (Or.inl ⟨by rfl, ?_⟩) ?_ ?_
            rotate_left
            ·intro w'
             go_simp
             with_reducible rfl
            rotate_left
            ·simp only [Act.put,qS_,qZ_,qC_,y21,y20]
             rfl
            refine done_ (done_of HT_.out (by kernel_rfl)) ?_
            try go_wp2
            go_ret
            exact ⟨by first | rfl | (simp [y15,y16] <;> rfl) | (simp [*,y15,y16] <;> rfl),by repeat (first | (with_reducible first | exact HB.out | apply y3 | apply y23 | apply y4) | exact HB.out)⟩
          ·rw [if_neg c35] at H
           exact absurd H (by simp)
         ·rw [if_neg c34] at H
          exact absurd H (by simp)
        ·rw [if_neg c33] at H
         have c33b0 : decide (x15_1 < (t194.length : Int)) = false := decide_eq_false c33
         clear c33
         obtain rfl := Option.some.inj H
         go_wp2
         go_ret
         exact ⟨by first | rfl | (simp [y15,y16] <;> rfl) | (simp [*,y15,y16] <;> rfl),by repeat (first | (with_reducible first | exact HB.out | apply y3 | apply y23 | apply y4) | exact HB.out)⟩
     ·rw [if_neg c26] at H
      have c26b0 : ((t194.length : Int) == (t198.length : Int)) = false := beq_eq_false_iff_ne.mpr c26
      have c26b1 : ((t194.length : Int) != (t198.length : Int)) = true := bne_iff_ne.mpr c26
      have c26b2 : (t194.length == t198.length) = false := by first | simpa using c26 | (simp at c26 ⊢; omega)
      replace H := Option.bind_eq_some_iff.mp H
      obtain ⟨t202,A420,H⟩ := H
      replace H : (some t202) = some r := H
      have A42 := y0.mk A420
      clear A420
      obtain rfl := Option.some.inj H
      go_enter Tryz.func83,Tryz.ntmps83
      go_wp2_with (first | ((with_reducible refine y17 (f := 82) rfl ?_); refine y19 (some 18) rfl rfl Tryz.func82 (by kernel_rfl) rfl #[.string a0] rfl (by (try simp only [qM_,List.map_cons,List.map_nil]); first | done | rfl | (simp only [qD_,qT_]; rfl)) ?_; (with_reducible refine (z5_.calls k a0 t184 _ A3.out).mono ?_); rintro e w43 ⟨rfl,hb⟩; refine ⟨_,rfl, ?_⟩; have n0_ := y0.mk (y7 (by repeat (first | (with_reducible first | exact HB.out | apply y3 | apply y23 | apply y4) | exact HB.out)) hb); clear HB; have HB := n0_; clear n0_; (try clear hb); (try clear hb2); (try clear hk); (try clear hi)) | ((with_reducible refine y17 (f := 82) rfl ?_); refine y19 (some 20) rfl rfl Tryz.func82 (by kernel_rfl) rfl #[.string a1] rfl (by (try simp only [qM_,List.map_cons,List.map_nil]); first | done | rfl | (simp only [qD_,qT_]; rfl)) ?_; (with_reducible refine (z5_.calls k a1 t185 _ A4.out).mono ?_); rintro e w44 ⟨rfl,hb⟩; refine ⟨_,rfl, ?_⟩; have n0_ := y0.mk (y7 (by repeat (first | (with_reducible first | exact HB.out | apply y3 | apply y23 | apply y4) | exact HB.out)) hb); clear HB; have HB := n0_; clear n0_; (try clear hb); (try clear hb2); (try clear hk); (try clear hi)) | ((with_reducible refine y17 (f := 101) rfl ?_); refine y19 (some 60) rfl rfl Tryz.func101 (by kernel_rfl) rfl #[.string a0] rfl (by (try simp only [qM_,List.map_cons,List.map_nil]); first | done | rfl | (simp only [qD_,qT_]; rfl)) ?_; (with_reducible refine (spec_TermParts.calls k a0 t193 t194 _ A23.out).mono ?_); rintro e w45 ⟨v195,rfl,ho0,hb⟩; refine ⟨_,rfl, ?_⟩; have n0_ := y0.mk (Kd.R_lower ho0 (y6 (by repeat (first | (with_reducible first | exact HB.out | apply y3 | apply y23 | apply y4) | exact HB.out)))); have n1_ := y0.mk (y7 (by repeat (first | (with_reducible first | exact HB.out | apply y3 | apply y23 | apply y4) | exact HB.out)) hb); clear HB; have HO196 := n0_; have HB := n1_; clear n0_ n1_; (try clear hb); (try clear hb2); (try clear hk); (try clear hi); (try clear ho0)) | ((with_reducible refine y17 (f := 101) rfl ?_); refine y19 (some 65) rfl rfl Tryz.func101 (by kernel_rfl) rfl #[.string a1] rfl (by (try simp only [qM_,List.map_cons,List.map_nil]); first | done | rfl | (simp only [qD_,qT_]; rfl)) ?_; (with_reducible refine (spec_TermParts.calls k a1 t197 t198 _ A24.out).mono ?_); rintro e w46 ⟨v199,rfl,ho0,hb⟩; refine ⟨_,rfl, ?_⟩; have n0_ := y0.mk (Kd.R_elder' (by (with_reducible repeat (first | apply Kd.R_alloc | apply Kd.R_drewN | apply Kd.R_drew)); exact HO196.out) (Kd.R_base ho0) hb); have n1_ := y0.mk (Kd.R_lower (Kd.R_new' ho0 (Kd.R_lt (by (with_reducible repeat (first | apply Kd.R_alloc | apply Kd.R_drewN | apply Kd.R_drew)); exact HO196.out))) (y6 (by repeat (first | (with_reducible first | exact HB.out | apply y3 | apply y23 | apply y4) | exact HB.out)))); have n2_ := y0.mk (y7 (by repeat (first | (with_reducible first | exact HB.out | apply y3 | apply y23 | apply y4) | exact HB.out)) hb); clear HO196; clear HB; have HO196 := n0_; have HO200 := n1_; have HB := n2_; clear n0_ n1_ n2_; (try clear hb); (try clear hb2); (try clear hk); (try clear hi); (try clear ho0); obtain ⟨Ao47,co47,eo47⟩ := Kd.R_slice HO196.out; subst eo47; obtain ⟨Ao48,co48,eo48⟩ := Kd.R_slice HO200.out; subst eo48) | ((with_reducible refine y17 (f := 84) rfl ?_); refine y19 (some 84) rfl rfl Tryz.func84 (by kernel_rfl) rfl #[.int .i64 (wrap64 ((t194.length : Int) - (t198.length : Int)))] rfl (by (try simp only [qM_,List.map_cons,List.map_nil]); first | done | rfl | (simp only [qD_,qT_]; rfl)) ?_; (with_reducible refine (spec_l01Sign.calls (wrap64 ((t194.length : Int) - (t198.length : Int))) t202 _ A42.out).mono ?_); rintro e w' ⟨rfl,⟨nd,rfl⟩⟩; refine ⟨_,rfl, ?_⟩))
      go_ret
      exact ⟨by first | rfl | (simp [y15,y16] <;> rfl) | (simp [*,y15,y16] <;> rfl),by repeat (first | (with_reducible first | exact HB.out | apply y3 | apply y23 | apply y4) | exact HB.out)⟩
    ·rw [if_neg c25] at H
     have c25b0 : (t193.toList == t197.toList) = false := beq_eq_false_iff_ne.mpr c25
     have c25b1 : (t193.toList != t197.toList) = true := bne_iff_ne.mpr c25
     replace H := Option.bind_eq_some_iff.mp H
     obtain ⟨t201,A490,H⟩ := H
     replace H : (some t201) = some r := H
     have A49 := y0.mk A490
     clear A490
     obtain rfl := Option.some.inj H
     go_enter Tryz.func83,Tryz.ntmps83
     go_wp2_with (first | ((with_reducible refine y17 (f := 82) rfl ?_); refine y19 (some 18) rfl rfl Tryz.func82 (by kernel_rfl) rfl #[.string a0] rfl (by (try simp only [qM_,List.map_cons,List.map_nil]); first | done | rfl | (simp only [qD_,qT_]; rfl)) ?_; (with_reducible refine (z5_.calls k a0 t184 _ A3.out).mono ?_); rintro e w50 ⟨rfl,hb⟩; refine ⟨_,rfl, ?_⟩; have n0_ := y0.mk (y7 (by repeat (first | (with_reducible first | exact HB.out | apply y3 | apply y23 | apply y4) | exact HB.out)) hb); clear HB; have HB := n0_; clear n0_; (try clear hb); (try clear hb2); (try clear hk); (try clear hi)) | ((with_reducible refine y17 (f := 82) rfl ?_); refine y19 (some 20) rfl rfl Tryz.func82 (by kernel_rfl) rfl #[.string a1] rfl (by (try simp only [qM_,List.map_cons,List.map_nil]); first | done | rfl | (simp only [qD_,qT_]; rfl)) ?_; (with_reducible refine (z5_.calls k a1 t185 _ A4.out).mono ?_); rintro e w51 ⟨rfl,hb⟩; refine ⟨_,rfl, ?_⟩; have n0_ := y0.mk (y7 (by repeat (first | (with_reducible first | exact HB.out | apply y3 | apply y23 | apply y4) | exact HB.out)) hb); clear HB; have HB := n0_; clear n0_; (try clear hb); (try clear hb2); (try clear hk); (try clear hi)) | ((with_reducible refine y17 (f := 101) rfl ?_); refine y19 (some 60) rfl rfl Tryz.func101 (by kernel_rfl) rfl #[.string a0] rfl (by (try simp only [qM_,List.map_cons,List.map_nil]); first | done | rfl | (simp only [qD_,qT_]; rfl)) ?_; (with_reducible refine (spec_TermParts.calls k a0 t193 t194 _ A23.out).mono ?_); rintro e w52 ⟨v195,rfl,ho0,hb⟩; refine ⟨_,rfl, ?_⟩; have n0_ := y0.mk (Kd.R_lower ho0 (y6 (by repeat (first | (with_reducible first | exact HB.out | apply y3 | apply y23 | apply y4) | exact HB.out)))); have n1_ := y0.mk (y7 (by repeat (first | (with_reducible first | exact HB.out | apply y3 | apply y23 | apply y4) | exact HB.out)) hb); clear HB; have HO196 := n0_; have HB := n1_; clear n0_ n1_; (try clear hb); (try clear hb2); (try clear hk); (try clear hi); (try clear ho0)) | ((with_reducible refine y17 (f := 101) rfl ?_); refine y19 (some 65) rfl rfl Tryz.func101 (by kernel_rfl) rfl #[.string a1] rfl (by (try simp only [qM_,List.map_cons,List.map_nil]); first | done | rfl | (simp only [qD_,qT_]; rfl)) ?_; (with_reducible refine (spec_TermParts.calls k a1 t197 t198 _ A24.out).mono ?_); rintro e w53 ⟨v199,rfl,ho0,hb⟩; refine ⟨_,rfl, ?_⟩; have n0_ := y0.mk (Kd.R_elder' (by (with_reducible repeat (first | apply Kd.R_alloc | apply Kd.R_drewN | apply Kd.R_drew)); exact HO196.out) (Kd.R_base ho0) hb); have n1_ := y0.mk (Kd.R_lower (Kd.R_new' ho0 (Kd.R_lt (by (with_reducible repeat (first | apply Kd.R_alloc | apply Kd.R_drewN | apply Kd.R_drew)); exact HO196.out))) (y6 (by repeat (first | (with_reducible first | exact HB.out | apply y3 | apply y23 | apply y4) | exact HB.out)))); have n2_ := y0.mk (y7 (by repeat (first | (with_reducible first | exact HB.out | apply y3 | apply y23 | apply y4) | exact HB.out)) hb); clear HO196; clear HB; have HO196 := n0_; have HO200 := n1_; have HB := n2_; clear n0_ n1_ n2_; (try clear hb); (try clear hb2); (try clear hk); (try clear hi); (try clear ho0)) | ((with_reducible refine y17 (f := 100) rfl ?_); refine y19 (some 73) rfl rfl Tryz.func100 (by kernel_rfl) rfl #[.string t193,.string t197] rfl (by (try simp only [qM_,List.map_cons,List.map_nil]); first | done | rfl | (simp only [qD_,qT_]; rfl)) ?_; (with_reducible refine (spec_l01Texts.calls t193 t197 t201 _ A49.out).mono ?_); rintro e w' ⟨rfl,⟨nd,rfl⟩⟩; refine ⟨_,rfl, ?_⟩))
     go_ret
     exact ⟨by first | rfl | (simp [y15,y16] <;> rfl) | (simp [*,y15,y16] <;> rfl),by repeat (first | (with_reducible first | exact HB.out | apply y3 | apply y23 | apply y4) | exact HB.out)⟩
 ·rw [if_neg c5] at H
  have c5b0 : (t184 == t185) = false := beq_eq_false_iff_ne.mpr c5
  have c5b1 : (t184 != t185) = true := bne_iff_ne.mpr c5
  replace H := Option.bind_eq_some_iff.mp H
  obtain ⟨t186,A540,H⟩ := H
  replace H : (some t186) = some r := H
  have A54 := y0.mk A540
  clear A540
  obtain rfl := Option.some.inj H
  go_enter Tryz.func83,Tryz.ntmps83
  go_wp2_with (first | ((with_reducible refine y17 (f := 82) rfl ?_); refine y19 (some 18) rfl rfl Tryz.func82 (by kernel_rfl) rfl #[.string a0] rfl (by (try simp only [qM_,List.map_cons,List.map_nil]); first | done | rfl | (simp only [qD_,qT_]; rfl)) ?_; (with_reducible refine (z5_.calls k a0 t184 _ A3.out).mono ?_); rintro e w55 ⟨rfl,hb⟩; refine ⟨_,rfl, ?_⟩; have n0_ := y0.mk (y7 (by repeat (first | (with_reducible first | exact HB.out | apply y3 | apply y23 | apply y4) | exact HB.out)) hb); clear HB; have HB := n0_; clear n0_; (try clear hb); (try clear hb2); (try clear hk); (try clear hi)) | ((with_reducible refine y17 (f := 82) rfl ?_); refine y19 (some 20) rfl rfl Tryz.func82 (by kernel_rfl) rfl #[.string a1] rfl (by (try simp only [qM_,List.map_cons,List.map_nil]); first | done | rfl | (simp only [qD_,qT_]; rfl)) ?_; (with_reducible refine (z5_.calls k a1 t185 _ A4.out).mono ?_); rintro e w56 ⟨rfl,hb⟩; refine ⟨_,rfl, ?_⟩; have n0_ := y0.mk (y7 (by repeat (first | (with_reducible first | exact HB.out | apply y3 | apply y23 | apply y4) | exact HB.out)) hb); clear HB; have HB := n0_; clear n0_; (try clear hb); (try clear hb2); (try clear hk); (try clear hi)) | ((with_reducible refine y17 (f := 84) rfl ?_); refine y19 (some 27) rfl rfl Tryz.func84 (by kernel_rfl) rfl #[.int .i64 (wrap64 (t184 - t185))] rfl (by (try simp only [qM_,List.map_cons,List.map_nil]); first | done | rfl | (simp only [qD_,qT_]; rfl)) ?_; (with_reducible refine (spec_l01Sign.calls (wrap64 (t184 - t185)) t186 _ A54.out).mono ?_); rintro e w' ⟨rfl,⟨nd,rfl⟩⟩; refine ⟨_,rfl, ?_⟩))
  go_ret
  exact ⟨by first | rfl | (simp [y15,y16] <;> rfl) | (simp [*,y15,y16] <;> rfl),by repeat (first | (with_reducible first | exact HB.out | apply y3 | apply y23 | apply y4) | exact HB.out)⟩
end Go.Proofs.YtebadckdihgklaaGreatDoor.Ph
end
section
namespace Go.Proofs.YtebadckdihgklaaGreatDoor.Ph
open Go.RowKit Go.Proofs.YtebadckdihgklaaGreatDoorW.PrintWords Go.Proofs.YtebadckdihgklaaGreatDoorW.PrintLast Go.Proofs.YtebadckdihgklaaGreatDoorW.PrintMore
attribute [local go_sem] max2_int min2_int max_two min_two max_three min_three max_four min_four   -- for this text's walks alone
set_option linter.unusedVariables false
set_option linter.unusedSimpArgs false
mutual
def spec_l02Cmp.l0 : Nat → Int → List ByteArray → List ByteArray → Option (Int)
 | 0,_,_,_ => none
 | k + 1,x5,x207000,x208000 => if x5 < (x207000.length : Int) then (spec_l02Cmp.j1 k x5 (decide (x5 < (x208000.length : Int))) x207000 x208000) else (spec_l02Cmp.j1 k x5 false x207000 x208000)
def spec_l02Cmp.j1 : Nat → Int → Bool → List ByteArray → List ByteArray → Option (Int)
 | 0,_,_,_,_ => none
 | k + 1,x5,x18,x207000,x208000 => if x18 = true then (if 0 ≤ x5 then (if x5 < (x207000.length : Int) then (if x5 < (x208000.length : Int) then ((spec_l01Cmp.f k (rdOf ByteArray.empty x207000 x5) (rdOf ByteArray.empty x208000 x5)).bind fun t210 => (if t210 = 0 then (spec_l02Cmp.l0 k (wrap64 (x5 + 1)) x207000 x208000) else (some t210))) else (none)) else (none)) else (none)) else ((spec_l01Sign.f (wrap64 ((x207000.length : Int) - (x208000.length : Int)))).bind fun t211 => (some t211))
end
def spec_l02Cmp.f (k : Nat) (l0_0 : List ByteArray) (l1_0 : List ByteArray) : Option (Int) := spec_l02Cmp.l0 k 0 l0_0 l1_0
def spec_l02Cmp.T4 : Bool × List (List Nat × List Nat) := (true,[([],[]),([0],[0]),([],[]),([1,2],[1,2]),([3],[3]),([],[]),([5],[5]),([],[]),([6,7],[6,7]),([8],[8]),([4,9],[4,9]),([10,10,0,1,2,3,4,5,6,7,8,9,10],[10])])
def spec_l02Cmp.B4 : List Nat := [0,1,0,7,15,0,32,0,224,480,1023,2047]
theorem spec_l02Cmp.tab4 : rtab .any (opsOf Tryz.f57 4) = spec_l02Cmp.T4 := by kernel_rfl
theorem spec_l02Cmp.bits4 : waitsOk spec_l02Cmp.T4.2 spec_l02Cmp.B4 = true := by kernel_rfl
set_option maxHeartbeats 8000000 in
set_option maxRecDepth 100000 in
theorem spec_l02Cmp.calls (k : Nat) (A0_0 : Option Addr) (c0_0 : Nat) (l0_0 : List ByteArray) (A1_0 : Option Addr) (c1_0 : Nat) (l1_0 : List ByteArray) (r : Int) (w : World) (hr0_0 : Kd.C Kd.string w A0_0 l0_0.length l0_0) (hc0_0 : l0_0.length ≤ c0_0) (hr1_0 : Kd.C Kd.string w A1_0 l1_0.length l1_0) (hc1_0 : l1_0.length ≤ c1_0) (h : spec_l02Cmp.f k l0_0 l1_0 = some r) :
  Calls Tryz.prog 57 #[.agg #[.slice A0_0 l0_0.length c0_0],.agg #[.slice A1_0 l1_0.length c1_0]] w fun e w' => e = .returned (.int .i64 r) ∧ Below w.heap.size w w' := by
 have hu35 := Tryz.underlying35
 have HR0_0 := y0.mk hr0_0
 have HC0_0 := y0.mk hc0_0
 clear hr0_0 hc0_0
 have HR1_0 := y0.mk hr1_0
 have HC1_0 := y0.mk hc1_0
 clear hr1_0 hc1_0
 have HB := y0.mk (Below.refl w.heap.size w)
 have H : (spec_l02Cmp.l0 k 0 l0_0 l1_0) = some r := h
 clear h
 have H' := y0.mk H
 clear H
 go_enter Tryz.func57,Tryz.ntmps57
 go_wp2_with (first | ((with_reducible refine y18 (N := 2) rfl ?_); (try (refine gate_guard (by rfl) ?_; dsimp only)); refine y14 ?hg (N := 2) ?hd (cs := #[.slice A0_0 l0_0.length c0_0]) (t := 35) ?hr ?_; (case hd => rfl); (case hg => rfl); (case hr => first | (go_simp; done) | (go_simp; rfl)); intro gb206 hg w3 hbox hb; have n0_ := y0.mk (y7 (by repeat (first | (with_reducible first | exact HB.out | apply y3 | apply y23 | apply y4) | exact HB.out)) hb); have n1_ := y0.mk (hbox); have n2_ := y0.mk ((by rw [hg]; exact (y6 (by repeat (first | (with_reducible first | exact HB.out | apply y3 | apply y23 | apply y4) | exact HB.out))) : w.heap.size ≤ gb206)); have n3_ := y0.mk ((by rw [hg]; exact (y6 (by repeat (first | (with_reducible first | exact HB.out | apply y3 | apply y23 | apply y4) | exact HB.out))) : w.heap.size ≤ gb206)); clear HB; have HB := n0_; have BK206 := n1_; have GW206 := n2_; have GE206 := n3_; clear n0_ n1_ n2_ n3_; clear hb hbox hg) | ((with_reducible refine y18 (N := 3) rfl ?_); (try (refine gate_guard (by rfl) ?_; dsimp only)); refine y14 ?hg (N := 3) ?hd (cs := #[.slice A1_0 l1_0.length c1_0]) (t := 35) ?hr ?_; (case hd => rfl); (case hg => rfl); (case hr => first | (go_simp; done) | (go_simp; rfl)); intro gb207 hg w4 hbox hb; have n0_ := y0.mk (y9 (g := gb206) (o := .cells #[.slice A0_0 l0_0.length c0_0] 35 (0,0)) (by (with_reducible repeat (first | refine y12 ?_ _ | refine y11 ?_ | refine y8 ?_ _)); exact BK206.out) hb); have n1_ := y0.mk (y7 (by repeat (first | (with_reducible first | exact HB.out | apply y3 | apply y23 | apply y4 | refine y5 ?_ GE206.out) | exact HB.out)) hb); have n2_ := y0.mk (hbox); have n3_ := y0.mk ((by rw [hg]; exact (y6 (by repeat (first | (with_reducible first | exact HB.out | apply y3 | apply y23 | apply y4 | refine y5 ?_ GE206.out) | exact HB.out))) : w.heap.size ≤ gb207)); have n4_ := y0.mk ((by rw [hg]; exact (y6 (by repeat (first | (with_reducible first | exact HB.out | apply y3 | apply y23 | apply y4 | refine y5 ?_ GE206.out) | exact HB.out))) : w.heap.size ≤ gb207)); have n5_ := y0.mk ((by rw [hg]; exact Nat.ne_of_lt (blk_lt (g := gb206) (o := .cells #[.slice A0_0 l0_0.length c0_0] 35 (0,0)) (by (with_reducible repeat (first | refine y12 ?_ _ | refine y11 ?_ | refine y8 ?_ _)); exact BK206.out)) : gb206 ≠ gb207)); have n6_ := y0.mk ((by rw [hg]; exact Nat.ne_of_gt (blk_lt (g := gb206) (o := .cells #[.slice A0_0 l0_0.length c0_0] 35 (0,0)) (by (with_reducible repeat (first | refine y12 ?_ _ | refine y11 ?_ | refine y8 ?_ _)); exact BK206.out)) : gb207 ≠ gb206)); clear BK206; clear HB; have BK206 := n0_; have HB := n1_; have BK207 := n2_; have GW207 := n3_; have GE207 := n4_; have NB206_207 := n5_; have NB207_206 := n6_; clear n0_ n1_ n2_ n3_ n4_ n5_ n6_; clear hb hbox hg))
 go_loopg [5] k (fun kq v5 w' => ∃ (x5_1 : Int),v5 = .int .i64 x5_1 ∧ y0 (spec_l02Cmp.l0 kq x5_1 l0_0 l1_0 = some r) ∧ y0 (kq ≤ k) ∧ y0 (w'.heap[gb206]? = some (.cells #[(.slice A0_0 l0_0.length c0_0)] 35 (0,0))) ∧ y0 (w'.heap[gb207]? = some (.cells #[(.slice A1_0 l1_0.length c1_0)] 35 (0,0))) ∧ y0 (Below w.heap.size w w'))
 case atStart => exact ⟨(0),(by first | rfl | (simp; done) | (simp [*]; done)),H',⟨Nat.le_refl _⟩,⟨by (with_reducible repeat (first | refine y12 ?_ _ | refine y11 ?_ | refine y8 ?_ _)); exact BK206.out⟩,⟨by (with_reducible repeat (first | refine y12 ?_ _ | refine y11 ?_ | refine y8 ?_ _)); exact BK207.out⟩,⟨by repeat (first | (with_reducible first | exact HB.out | apply y3 | apply y23 | apply y4 | refine y5 ?_ GE206.out | refine y5 ?_ GE207.out) | exact HB.out)⟩⟩
 case round =>
  clear H'
  try clear c1
  try clear p2
  obtain ⟨x5_1,rfl,HA,HK1,BK206,BK207,HB⟩ := hrel
  cases gk with
  | zero => exact absurd HA.out (by simp [spec_l02Cmp.l0])
  | succ k1 =>
   have H := HA.out
   clear HA
   simp only [spec_l02Cmp.l0] at H
   have HC5 := y0.mk H
   clear H
   go_upto_region 2 with (fail)
   go_cut [18] (fun v18 wc => ∃ (kq : Nat) (x18_4 : Bool),v18 = .bool x18_4 ∧ y0 (spec_l02Cmp.j1 kq x5_1 x18_4 l0_0 l1_0 = some r) ∧ y0 (kq ≤ k1) ∧ y0 (wc.heap[gb206]? = some (.cells #[(.slice A0_0 l0_0.length c0_0)] 35 (0,0))) ∧ y0 (wc.heap[gb207]? = some (.cells #[(.slice A1_0 l1_0.length c1_0)] 35 (0,0))) ∧ y0 (Below w.heap.size w wc))
   case first =>
    have H := HC5.out
    clear HC5
    by_cases c6 : x5_1 < (l0_0.length : Int)
    ·rw [if_pos c6] at H
     have c6b0 : decide (x5_1 < (l0_0.length : Int)) = true := decide_eq_true c6
     clear c6
     (first | rw [c6b0] | (simp only [y21,y20]; rw [c6b0]) | skip)
     have H' := y0.mk H
     clear H
     have hnb7 := NB206_207.out
     have hnc7 := NB207_206.out
     have hcz8_0 : wr.cell? ⟨gb206,0,none⟩ = some (.slice A0_0 l0_0.length c0_0) := (y10 BK206.out 0).trans rfl
     have hfz8_0 := y13 BK206.out 0
     have hcz9_0 : wr.cell? ⟨gb207,0,none⟩ = some (.slice A1_0 l1_0.length c1_0) := (y10 BK207.out 0).trans rfl
     have hfz9_0 := y13 BK207.out 0
     go_wp2
     go_meet
     case rel => exact ⟨_,(decide (x5_1 < (l1_0.length : Int))),(by first | rfl | (simp; done) | (simp [*]; done)),H',⟨by have := HK1.out; first | omega | exact Nat.le_refl _⟩,⟨by (with_reducible repeat (first | refine y12 ?_ _ | refine y11 ?_ | refine y8 ?_ _)); exact BK206.out⟩,⟨by (with_reducible repeat (first | refine y12 ?_ _ | refine y11 ?_ | refine y8 ?_ _)); exact BK207.out⟩,⟨by repeat (first | (with_reducible first | exact HB.out | apply y3 | apply y23 | apply y4 | refine y5 ?_ GE206.out | refine y5 ?_ GE207.out) | exact HB.out)⟩⟩
    ·rw [if_neg c6] at H
     have c6b0 : decide (x5_1 < (l0_0.length : Int)) = false := decide_eq_false c6
     clear c6
     (first | rw [c6b0] | (simp only [y21,y20]; rw [c6b0]) | skip)
     have H' := y0.mk H
     clear H
     have hnb10 := NB206_207.out
     have hnc10 := NB207_206.out
     have hcz11_0 : wr.cell? ⟨gb206,0,none⟩ = some (.slice A0_0 l0_0.length c0_0) := (y10 BK206.out 0).trans rfl
     have hfz11_0 := y13 BK206.out 0
     go_wp2
     go_meet
     case rel => exact ⟨_,(false),(by first | rfl | (simp; done) | (simp [*]; done)),H',⟨by have := HK1.out; first | omega | exact Nat.le_refl _⟩,⟨by (with_reducible repeat (first | refine y12 ?_ _ | refine y11 ?_ | refine y8 ?_ _)); exact BK206.out⟩,⟨by (with_reducible repeat (first | refine y12 ?_ _ | refine y11 ?_ | refine y8 ?_ _)); exact BK207.out⟩,⟨by repeat (first | (with_reducible first | exact HB.out | apply y3 | apply y23 | apply y4 | refine y5 ?_ GE206.out | refine y5 ?_ GE207.out) | exact HB.out)⟩⟩
   case rest =>
    clear HC5
    try clear c1
    try clear p2
    try clear c5
    try clear c6
    try clear c6b0
    try clear c7
    try clear c10
    try clear hcz11_0
    try clear hcz8_0
    try clear hcz9_0
    try clear hfz11_0
    try clear hfz8_0
    try clear hfz9_0
    try clear p2
    obtain ⟨kq,x18_4,rfl,HA,HJ4,BK206,BK207,HB⟩ := hcut
    cases kq with
    | zero => exact absurd HA.out (by simp [spec_l02Cmp.j1])
    | succ kj4 =>
     have H := HA.out
     clear HA
     simp only [spec_l02Cmp.j1] at H
     by_cases c12 : x18_4 = true
     ·subst c12
      have H1 : (if 0 ≤ x5_1 then (if x5_1 < (l0_0.length : Int) then (if x5_1 < (l1_0.length : Int) then ((spec_l01Cmp.f kj4 (rdOf ByteArray.empty l0_0 x5_1) (rdOf ByteArray.empty l1_0 x5_1)).bind fun t210 => (if t210 = 0 then (spec_l02Cmp.l0 kj4 (wrap64 (x5_1 + 1)) l0_0 l1_0) else (some t210))) else (none)) else (none)) else (none)) = some r := by rw [if_pos rfl] at H; exact H
      clear H
      have H := H1
      clear H1
      by_cases c13 : 0 ≤ x5_1
      ·rw [if_pos c13] at H
       have c13b0 : decide (0 ≤ x5_1) = true := decide_eq_true c13
       clear c13
       by_cases c14 : x5_1 < (l0_0.length : Int)
       ·rw [if_pos c14] at H
        have c14b0 : decide (x5_1 < (l0_0.length : Int)) = true := decide_eq_true c14
        clear c14
        by_cases c15 : x5_1 < (l1_0.length : Int)
        ·rw [if_pos c15] at H
         have c15b0 : decide (x5_1 < (l1_0.length : Int)) = true := decide_eq_true c15
         clear c15
         replace H := Option.bind_eq_some_iff.mp H
         obtain ⟨t210,A160,H⟩ := H
         replace H : (if t210 = 0 then (spec_l02Cmp.l0 kj4 (wrap64 (x5_1 + 1)) l0_0 l1_0) else (some t210)) = some r := H
         have A16 := y0.mk A160
         clear A160
         by_cases c17 : t210 = 0
         ·rw [if_pos c17] at H
          have c17b0 : (t210 == 0) = true := beq_iff_eq.mpr c17
          have c17b1 : (t210 != 0) = false := bne_eq_false_iff_eq.mpr c17
          clear c17
          have H' := y0.mk H
          clear H
          try go_wp2
          have n0_ := y0.mk (y11 BK206.out)
          have n1_ := y0.mk (y11 BK207.out)
          have n2_ := y0.mk (y4 HB.out)
          clear BK206
          clear BK207
          clear HB
          have BK206 := n0_
          have BK207 := n1_
          have HB := n2_
          clear n0_ n1_ n2_
          have p208 : 0 ≤ (x5_1 : Int) := of_decide_eq_true (by first | (with_reducible assumption) | assumption)
          have q208 : x5_1 < (l0_0.length : Int) := of_decide_eq_true (by first | (with_reducible assumption) | assumption)
          obtain ⟨ad208,e208,hx208_0⟩ := Kd.at_string HR0_0.out x5_1 p208 q208
          have hw208_0 := hx208_0
          cases e208
          replace hx208_0 := (HB.out.cell (World.block_lt_of_cell? w _ hx208_0)).trans hx208_0
          replace p208 := eq_true p208
          replace q208 := eq_true q208
          have p209 : 0 ≤ (x5_1 : Int) := of_decide_eq_true (by first | (with_reducible assumption) | assumption)
          have q209 : x5_1 < (l1_0.length : Int) := of_decide_eq_true (by first | (with_reducible assumption) | assumption)
          obtain ⟨ad209,e209,hx209_0⟩ := Kd.at_string HR1_0.out x5_1 p209 q209
          have hw209_0 := hx209_0
          cases e209
          replace hx209_0 := (HB.out.cell (World.block_lt_of_cell? w _ hx209_0)).trans hx209_0
          replace p209 := eq_true p209
          replace q209 := eq_true q209
          refine start_ (n := 12) (S := fun w' => w'.cell? ⟨gb206,0,none⟩ = some (.slice (some ad208) l0_0.length c0_0) ∧ w'.cell? ⟨gb207,0,none⟩ = some (.slice (some ad209) l1_0.length c1_0) ∧ w'.cell? (ad208.add (x5_1).toNat) = some (.string (rdOf ByteArray.empty l0_0 x5_1)) ∧ w'.cell? (ad209.add (x5_1).toNat) = some (.string (rdOf ByteArray.empty l1_0 x5_1))) (ds := []) (fl_ 12 0) (by kernel_rfl) rfl rfl ⟨(y10 BK206.out 0).trans rfl,(y10 BK207.out 0).trans rfl,((HB.out.cell (World.block_lt_of_cell? w _ hw208_0)).trans hw208_0),((HB.out.cell (World.block_lt_of_cell? w _ hw209_0)).trans hw209_0)⟩ (fun hHeld => ?_); refine with_tabW spec_l02Cmp.tab4 spec_l02Cmp.bits4 (fun HT_ HW_ => ?_)
          generalize wc.drew = w18 at BK206 BK207 HB hx208_0 hx209_0 hHeld ⊢
          refine y22 (i := 0) (N := some 21) (v := ?_) (a' := ?_) (fl_ 12 1) rfl rfl (y2 HT_.out (by kernel_rfl)) (fun _ _ _ h => h) (Or.inl ⟨by rfl, ?_⟩) ?_ ?_
          rotate_left
          ·intro w'
           go_simp
           with_reducible rfl
          rotate_left
          ·simp only [Act.put,qS_,qZ_,qC_,y21,y20]
           rfl
          refine y22 (i := 2) (N := some 23) (v := ?_) (a' := ?_) (fl_ 12 5) rfl rfl (y2 HT_.out (by kernel_rfl)) (fun _ _ _ h => h) (Or.inl ⟨by rfl, ?_⟩) ?_ ?_
          rotate_left
          ·intro w'
           go_simp
           with_reducible rfl
          rotate_left
          ·simp only [Act.put,qS_,qZ_,qC_,y21,y20]
           rfl
          refine y22 (i := 5) (N := some 26) (v := ?_) (a' := ?_) (fl_ 12 37) rfl rfl (y2 HT_.out (by kernel_rfl)) (fun _ _ _ h => h) (Or.inl ⟨by rfl, ?_⟩) ?_ ?_
          rotate_left
          ·intro w'
           go_simp
           with_reducible rfl
          rotate_left
          ·simp only [Act.put,qS_,qZ_,qC_,y21,y20]
           rfl
          refine y22 (i := 7) (N := some 28) (v := ?_) (a' := ?_) (fl_ 12 165) rfl rfl (y2 HT_.out (by kernel_rfl)) (fun _ _ _ h => h) (Or.inl ⟨by rfl, ?_⟩) ?_ ?_
          rotate_left
          ·intro w'
           go_simp
           with_reducible rfl
          rotate_left
          ·simp only [Act.put,qS_,qZ_,qC_,y21,y20]
           rfl
          refine take_ (i := 1) (N := some 22) (v := ?_) (a' := ?_) (fl_ 12 167) rfl rfl (y26 HT_.out HW_.out (by kernel_rfl)) (fun _ _ _ h => h) (Or.inl ⟨by rfl, ?_⟩) hHeld ?_ ?_
          rotate_left
          ·rintro w' ⟨s0,s1,s2,s3⟩
           go_simp
           with_reducible rfl
          rotate_left
          ·simp only [Act.put,qS_,qZ_,qC_,y21,y20]
           rfl
          refine y22 (i := 3) (N := some 24) (v := ?_) (a' := ?_) (fl_ 12 175) rfl rfl (y2 HT_.out (by kernel_rfl)) (fun _ _ _ h => h) (Or.inl ⟨by rfl, ?_⟩) ?_ ?_
          rotate_left
          ·intro w'
           go_simp
           with_reducible rfl
          rotate_left
          ·simp only [Act.put,qS_,qZ_,qC_,y21,y20]
           rfl
          refine take_ (i := 4) (N := some 25) (v := ?_) (a' := ?_) (fl_ 12 191) rfl rfl (y26 HT_.out HW_.out (by kernel_rfl)) (fun _ _ _ h => h) (Or.inl ⟨by rfl, ?_⟩) hHeld ?_ ?_
          rotate_left
          ·rintro w' ⟨s0,s1,s2,s3⟩
           go_simp
           with_reducible rfl
          rotate_left
          ·simp only [Act.put,qS_,qZ_,qC_,y21,y20]
           rfl
          refine take_ (i := 6) (N := some 27) (v := ?_) (a' := ?_) (fl_ 12 255) rfl rfl (y26 HT_.out HW_.out (by kernel_rfl)) (fun _ _ _ h => h) (Or.inl ⟨by rfl, ?_⟩) hHeld ?_ ?_
          rotate_left
          ·rintro w' ⟨s0,s1,s2,s3⟩
           go_simp
           with_reducible rfl
          rotate_left
          ·simp only [Act.put,qS_,qZ_,qC_,y21,y20]
           rfl
          refine y22 (i := 8) (N := some 29) (v := ?_) (a' := ?_) (fl_ 12 511) rfl rfl (y2 HT_.out (by kernel_rfl)) (fun _ _ _ h => h) (Or.inl ⟨by rfl, ?_⟩) ?_ ?_
          rotate_left
          ·intro w'
           go_simp
           with_reducible rfl
          rotate_left
          ·simp only [Act.put,qS_,qZ_,qC_,y21,y20]
           rfl
          refine take_ (i := 9) (N := some 30) (v := ?_) (a' := ?_) (fl_ 12 1023) rfl rfl (y26 HT_.out HW_.out (by kernel_rfl)) (fun _ _ _ h => h) (Or.inl ⟨by rfl, ?_⟩) hHeld ?_ ?_
          rotate_left
          ·rintro w' ⟨s0,s1,s2,s3⟩
           go_simp
           with_reducible rfl
          rotate_left
          ·simp only [Act.put,qS_,qZ_,qC_,y21,y20]
           rfl
          refine one_ (i := 10) (N := some 31) (fl_ 12 2047) rfl rfl (one_of HT_.out (by kernel_rfl)) (by decide) (fun K hK => ?_)
          refine goes_ Tryz.func83 (by kernel_rfl) rfl #[.string (rdOf ByteArray.empty l0_0 x5_1),.string (rdOf ByteArray.empty l1_0 x5_1)] (by rfl) rfl rfl (by (try simp only [qM_,List.map_cons,List.map_nil]); first | done | rfl | (simp only [qD_,qT_]; rfl)) ?_
          with_reducible refine (spec_l01Cmp.calls kj4 (rdOf ByteArray.empty l0_0 x5_1) (rdOf ByteArray.empty l1_0 x5_1) t210 _ A16.out).mono ?_
          rintro e w19 ⟨rfl,hb⟩
          refine ⟨_,rfl, ?_⟩
          have n0_ := y0.mk (y9 (g := gb206) (o := .cells #[.slice (some ad208) l0_0.length c0_0] 35 (0,0)) (by (with_reducible repeat (first | refine y12 ?_ _ | refine y11 ?_ | refine y8 ?_ _)); exact BK206.out) hb)
          have n1_ := y0.mk (y9 (g := gb207) (o := .cells #[.slice (some ad209) l1_0.length c1_0] 35 (0,0)) (by (with_reducible repeat (first | refine y12 ?_ _ | refine y11 ?_ | refine y8 ?_ _)); exact BK207.out) hb)
          have n2_ := y0.mk (y7 (by repeat (first | (with_reducible first | exact HB.out | apply y3 | apply y23 | apply y4 | refine y5 ?_ GE206.out | refine y5 ?_ GE207.out) | exact HB.out)) hb)
          clear BK206
          clear BK207
          clear HB
          have BK206 := n0_
          have BK207 := n1_
          have HB := n2_
          clear n0_ n1_ n2_
          (try clear hb)
          (try clear hb2)
          (try clear hk)
          (try clear hi)
          refine hK.out _ _ ⟨(y10 BK206.out 0).trans rfl,(y10 BK207.out 0).trans rfl,((HB.out.cell (World.block_lt_of_cell? w _ hw208_0)).trans hw208_0),((HB.out.cell (World.block_lt_of_cell? w _ hw209_0)).trans hw209_0)⟩ (fun hHeld => ?_)
          clear hK K
          refine norm_ (a' := ?_) ?_ ?_
          rotate_left
          ·show Act.put _ (some 31) _ = _
           simp only [Act.put,qS_,qZ_,qC_,y21,y20]
           rfl
          refine y22 (i := 11) (N := some 6) (v := ?_) (a' := ?_) (fl_ 12 4095) rfl rfl (y2 HT_.out (by kernel_rfl)) (fun _ _ _ h => h) (Or.inl ⟨by rfl, ?_⟩) ?_ ?_
          rotate_left
          ·intro w'
           go_simp
           with_reducible rfl
          rotate_left
          ·simp only [Act.put,qS_,qZ_,qC_,y21,y20]
           rfl
          refine done_ (done_of HT_.out (by kernel_rfl)) ?_
          try go_wp2
          go_roundg kj4
          case measure => have := HK1.out; have := HJ4.out; omega
          case rel => exact ⟨(wrap64 (x5_1 + 1)),(by first | rfl | (simp; done) | (simp [*]; done)),H',⟨by have := HK1.out; have := HJ4.out; omega⟩,⟨by (with_reducible repeat (first | refine y12 ?_ _ | refine y11 ?_ | refine y8 ?_ _)); exact BK206.out⟩,⟨by (with_reducible repeat (first | refine y12 ?_ _ | refine y11 ?_ | refine y8 ?_ _)); exact BK207.out⟩,⟨by repeat (first | (with_reducible first | exact HB.out | apply y3 | apply y23 | apply y4 | refine y5 ?_ GE206.out | refine y5 ?_ GE207.out) | exact HB.out)⟩⟩
         ·rw [if_neg c17] at H
          have c17b0 : (t210 == 0) = false := beq_eq_false_iff_ne.mpr c17
          have c17b1 : (t210 != 0) = true := bne_iff_ne.mpr c17
          obtain rfl := Option.some.inj H
          try go_wp2
          have n0_ := y0.mk (y11 BK206.out)
          have n1_ := y0.mk (y11 BK207.out)
          have n2_ := y0.mk (y4 HB.out)
          clear BK206
          clear BK207
          clear HB
          have BK206 := n0_
          have BK207 := n1_
          have HB := n2_
          clear n0_ n1_ n2_
          have p208 : 0 ≤ (x5_1 : Int) := of_decide_eq_true (by first | (with_reducible assumption) | assumption)
          have q208 : x5_1 < (l0_0.length : Int) := of_decide_eq_true (by first | (with_reducible assumption) | assumption)
          obtain ⟨ad208,e208,hx208_0⟩ := Kd.at_string HR0_0.out x5_1 p208 q208
          have hw208_0 := hx208_0
          cases e208
          replace hx208_0 := (HB.out.cell (World.block_lt_of_cell? w _ hx208_0)).trans hx208_0
          replace p208 := eq_true p208
          replace q208 := eq_true q208
          have p209 : 0 ≤ (x5_1 : Int) := of_decide_eq_true (by first | (with_reducible assumption) | assumption)
          have q209 : x5_1 < (l1_0.length : Int) := of_decide_eq_true (by first | (with_reducible assumption) | assumption)
          obtain ⟨ad209,e209,hx209_0⟩ := Kd.at_string HR1_0.out x5_1 p209 q209
          have hw209_0 := hx209_0
          cases e209
          replace hx209_0 := (HB.out.cell (World.block_lt_of_cell? w _ hx209_0)).trans hx209_0
          replace p209 := eq_true p209
          replace q209 := eq_true q209
          refine start_ (n := 12) (S := fun w' => w'.cell? ⟨gb206,0,none⟩ = some (.slice (some ad208) l0_0.length c0_0) ∧ w'.cell? ⟨gb207,0,none⟩ = some (.slice (some ad209) l1_0.length c1_0) ∧ w'.cell? (ad208.add (x5_1).toNat) = some (.string (rdOf ByteArray.empty l0_0 x5_1)) ∧ w'.cell? (ad209.add (x5_1).toNat) = some (.string (rdOf ByteArray.empty l1_0 x5_1))) (ds := []) (fl_ 12 0) (by kernel_rfl) rfl rfl ⟨(y10 BK206.out 0).trans rfl,(y10 BK207.out 0).trans rfl,((HB.out.cell (World.block_lt_of_cell? w _ hw208_0)).trans hw208_0),((HB.out.cell (World.block_lt_of_cell? w _ hw209_0)).trans hw209_0)⟩ (fun hHeld => ?_); refine with_tabW spec_l02Cmp.tab4 spec_l02Cmp.bits4 (fun HT_ HW_ => ?_)
          generalize wc.drew = w20 at BK206 BK207 HB hx208_0 hx209_0 hHeld ⊢
          refine y22 (i := 0) (N := some 21) (v := ?_) (a' := ?_) (fl_ 12 1) rfl rfl (y2 HT_.out (by kernel_rfl)) (fun _ _ _ h => h) (Or.inl ⟨by rfl, ?_⟩) ?_ ?_
          rotate_left
          ·intro w'
           go_simp
           with_reducible rfl
          rotate_left
          ·simp only [Act.put,qS_,qZ_,qC_,y21,y20]
           rfl
          refine y22 (i := 2) (N := some 23) (v := ?_) (a' := ?_) (fl_ 12 5) rfl rfl (y2 HT_.out (by kernel_rfl)) (fun _ _ _ h => h) (Or.inl ⟨by rfl, ?_⟩) ?_ ?_
          rotate_left
          ·intro w'
           go_simp
           with_reducible rfl
          rotate_left
          ·simp only [Act.put,qS_,qZ_,qC_,y21,y20]
           rfl
          refine y22 (i := 5) (N := some 26) (v := ?_) (a' := ?_) (fl_ 12 37) rfl rfl (y2 HT_.out (by kernel_rfl)) (fun _ _ _ h => h) (Or.inl ⟨by rfl, ?_⟩) ?_ ?_
          rotate_left
          ·intro w'
           go_simp
           with_reducible rfl
          rotate_left
          ·simp only [Act.put,qS_,qZ_,qC_,y21,y20]
           rfl
          refine y22 (i := 7) (N := some 28) (v := ?_) (a' := ?_) (fl_ 12 165) rfl rfl (y2 HT_.out (by kernel_rfl)) (fun _ _ _ h => h) (Or.inl ⟨by rfl, ?_⟩) ?_ ?_
          rotate_left
          ·intro w'
           go_simp
           with_reducible rfl
          rotate_left
          ·simp only [Act.put,qS_,qZ_,qC_,y21,y20]
           rfl
          refine take_ (i := 1) (N := some 22) (v := ?_) (a' := ?_) (fl_ 12 167) rfl rfl (y26 HT_.out HW_.out (by kernel_rfl)) (fun _ _ _ h => h) (Or.inl ⟨by rfl, ?_⟩) hHeld ?_ ?_
          rotate_left
          ·rintro w' ⟨s0,s1,s2,s3⟩
           go_simp
           with_reducible rfl
          rotate_left
          ·simp only [Act.put,qS_,qZ_,qC_,y21,y20]
           rfl
          refine y22 (i := 3) (N := some 24) (v := ?_) (a' := ?_) (fl_ 12 175) rfl rfl (y2 HT_.out (by kernel_rfl)) (fun _ _ _ h => h) (Or.inl ⟨by rfl, ?_⟩) ?_ ?_
          rotate_left
          ·intro w'
           go_simp
           with_reducible rfl
          rotate_left
          ·simp only [Act.put,qS_,qZ_,qC_,y21,y20]
           rfl
          refine take_ (i := 4) (N := some 25) (v := ?_) (a' := ?_) (fl_ 12 191) rfl rfl (y26 HT_.out HW_.out (by kernel_rfl)) (fun _ _ _ h => h) (Or.inl ⟨by rfl, ?_⟩) hHeld ?_ ?_
          rotate_left
          ·rintro w' ⟨s0,s1,s2,s3⟩
           go_simp
           with_reducible rfl
          rotate_left
          ·simp only [Act.put,qS_,qZ_,qC_,y21,y20]
           rfl
          refine take_ (i := 6) (N := some 27) (v := ?_) (a' := ?_) (fl_ 12 255) rfl rfl (y26 HT_.out HW_.out (by kernel_rfl)) (fun _ _ _ h => h) (Or.inl ⟨by rfl, ?_⟩) hHeld ?_ ?_
          rotate_left
          ·rintro w' ⟨s0,s1,s2,s3⟩
           go_simp
           with_reducible rfl
          rotate_left
          ·simp only [Act.put,qS_,qZ_,qC_,y21,y20]
           rfl
          refine y22 (i := 8) (N := some 29) (v := ?_) (a' := ?_) (fl_ 12 511) rfl rfl (y2 HT_.out (by kernel_rfl)) (fun _ _ _ h => h) (Or.inl ⟨by rfl, ?_⟩) ?_ ?_
          rotate_left
          ·intro w'
           go_simp
           with_reducible rfl
          rotate_left
          ·simp only [Act.put,qS_,qZ_,qC_,y21,y20]
           rfl
          refine take_ (i := 9) (N := some 30) (v := ?_) (a' := ?_) (fl_ 12 1023) rfl rfl (y26 HT_.out HW_.out (by kernel_rfl)) (fun _ _ _ h => h) (Or.inl ⟨by rfl, ?_⟩) hHeld ?_ ?_
          rotate_left
          ·rintro w' ⟨s0,s1,s2,s3⟩
           go_simp
           with_reducible rfl
          rotate_left
          ·simp only [Act.put,qS_,qZ_,qC_,y21,y20]
           rfl
          refine one_ (i := 10) (N := some 31) (fl_ 12 2047) rfl rfl (one_of HT_.out (by kernel_rfl)) (by decide) (fun K hK => ?_)
          refine goes_ Tryz.func83 (by kernel_rfl) rfl #[.string (rdOf ByteArray.empty l0_0 x5_1),.string (rdOf ByteArray.empty l1_0 x5_1)] (by rfl) rfl rfl (by (try simp only [qM_,List.map_cons,List.map_nil]); first | done | rfl | (simp only [qD_,qT_]; rfl)) ?_
          with_reducible refine (spec_l01Cmp.calls kj4 (rdOf ByteArray.empty l0_0 x5_1) (rdOf ByteArray.empty l1_0 x5_1) t210 _ A16.out).mono ?_
          rintro e w21 ⟨rfl,hb⟩
          refine ⟨_,rfl, ?_⟩
          have n0_ := y0.mk (y9 (g := gb206) (o := .cells #[.slice (some ad208) l0_0.length c0_0] 35 (0,0)) (by (with_reducible repeat (first | refine y12 ?_ _ | refine y11 ?_ | refine y8 ?_ _)); exact BK206.out) hb)
          have n1_ := y0.mk (y9 (g := gb207) (o := .cells #[.slice (some ad209) l1_0.length c1_0] 35 (0,0)) (by (with_reducible repeat (first | refine y12 ?_ _ | refine y11 ?_ | refine y8 ?_ _)); exact BK207.out) hb)
          have n2_ := y0.mk (y7 (by repeat (first | (with_reducible first | exact HB.out | apply y3 | apply y23 | apply y4 | refine y5 ?_ GE206.out | refine y5 ?_ GE207.out) | exact HB.out)) hb)
          clear BK206
          clear BK207
          clear HB
          have BK206 := n0_
          have BK207 := n1_
          have HB := n2_
          clear n0_ n1_ n2_
          (try clear hb)
          (try clear hb2)
          (try clear hk)
          (try clear hi)
          refine hK.out _ _ ⟨(y10 BK206.out 0).trans rfl,(y10 BK207.out 0).trans rfl,((HB.out.cell (World.block_lt_of_cell? w _ hw208_0)).trans hw208_0),((HB.out.cell (World.block_lt_of_cell? w _ hw209_0)).trans hw209_0)⟩ (fun hHeld => ?_)
          clear hK K
          refine norm_ (a' := ?_) ?_ ?_
          rotate_left
          ·show Act.put _ (some 31) _ = _
           simp only [Act.put,qS_,qZ_,qC_,y21,y20]
           rfl
          refine y22 (i := 11) (N := some 6) (v := ?_) (a' := ?_) (fl_ 12 4095) rfl rfl (y2 HT_.out (by kernel_rfl)) (fun _ _ _ h => h) (Or.inl ⟨by rfl, ?_⟩) ?_ ?_
          rotate_left
          ·intro w'
           go_simp
           with_reducible rfl
          rotate_left
          ·simp only [Act.put,qS_,qZ_,qC_,y21,y20]
           rfl
          refine done_ (done_of HT_.out (by kernel_rfl)) ?_
          try go_wp2
          go_ret
          exact ⟨by first | rfl | (simp [y15,y16] <;> rfl) | (simp [*,y15,y16] <;> rfl),by repeat (first | (with_reducible first | exact HB.out | apply y3 | apply y23 | apply y4 | refine y5 ?_ GE206.out | refine y5 ?_ GE207.out) | exact HB.out)⟩
        ·rw [if_neg c15] at H
         exact absurd H (by simp)
       ·rw [if_neg c14] at H
        exact absurd H (by simp)
      ·rw [if_neg c13] at H
       exact absurd H (by simp)
     ·replace c12 := Bool.eq_false_iff.mpr c12
      subst c12
      have H1 : ((spec_l01Sign.f (wrap64 ((l0_0.length : Int) - (l1_0.length : Int)))).bind fun t211 => (some t211)) = some r := by rw [if_neg (show ¬ (false = true) by decide)] at H; exact H
      clear H
      have H := H1
      clear H1
      replace H := Option.bind_eq_some_iff.mp H
      obtain ⟨t211,A220,H⟩ := H
      replace H : (some t211) = some r := H
      have A22 := y0.mk A220
      clear A220
      obtain rfl := Option.some.inj H
      have hnb23 := NB206_207.out
      have hnc23 := NB207_206.out
      have hcz24_0 : wc.cell? ⟨gb206,0,none⟩ = some (.slice A0_0 l0_0.length c0_0) := (y10 BK206.out 0).trans rfl
      have hfz24_0 := y13 BK206.out 0
      have hcz25_0 : wc.cell? ⟨gb207,0,none⟩ = some (.slice A1_0 l1_0.length c1_0) := (y10 BK207.out 0).trans rfl
      have hfz25_0 := y13 BK207.out 0
      go_wp2_with (first | ((with_reducible refine y17 (f := 84) rfl ?_); refine y19 (some 42) rfl rfl Tryz.func84 (by kernel_rfl) rfl #[.int .i64 (wrap64 ((l0_0.length : Int) - (l1_0.length : Int)))] rfl (by (try simp only [qM_,List.map_cons,List.map_nil]); first | done | rfl | (simp only [qD_,qT_]; rfl)) ?_; (with_reducible refine (spec_l01Sign.calls (wrap64 ((l0_0.length : Int) - (l1_0.length : Int))) t211 _ A22.out).mono ?_); rintro e w' ⟨rfl,⟨nd,rfl⟩⟩; refine ⟨_,rfl, ?_⟩))
      go_ret
      exact ⟨by first | rfl | (simp [y15,y16] <;> rfl) | (simp [*,y15,y16] <;> rfl),by repeat (first | (with_reducible first | exact HB.out | apply y3 | apply y23 | apply y4 | refine y5 ?_ GE206.out | refine y5 ?_ GE207.out) | exact HB.out)⟩
end Go.Proofs.YtebadckdihgklaaGreatDoor.Ph
end

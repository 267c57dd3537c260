-- Cut by prune.py, a program of this session, out of the texts of this claim: Lean checks it.
import Derived.Test.YtkajecadkkgfmaaGreatDoorVptPex0
section
namespace Go.Proofs.YtkajecadkkgfmaaGreatDoor.Pe
open Go.RowKit Go.Proofs.YtkajecadkkgfmaaGreatDoorW.PrintWords Go.Proofs.YtkajecadkkgfmaaGreatDoorW.PrintLast Go.Proofs.YtkajecadkkgfmaaGreatDoorW.PrintMore
attribute [local go_sem] max2_int min2_int max_two min_two max_three min_three max_four min_four   -- for this text's walks alone
set_option linter.unusedVariables false
set_option linter.unusedSimpArgs false
mutual
def z3_.j0 : Nat → ByteArray → Bool → Option (Int)
 | 0,_,_ => none
 | k + 1,x0,x16 => if x16 = true then (some 0) else ((z5_.f k x0).bind fun bt182 => (if bt182.2 = true then (some 1) else (if 0 < (x0.size : Int) then (if (bt x0 0) = 34 then ((spec_l01Between.f (x0.size : Int) 2 22).bind fun t184 => (if t184 = true then (if 0 ≤ (wrap64 ((x0.size : Int) - 1)) then (if (wrap64 ((x0.size : Int) - 1)) < (x0.size : Int) then (z3_.j1 k x0 ((bt x0 (wrap64 ((x0.size : Int) - 1))) != 34)) else (none)) else (none)) else (z3_.j1 k x0 true))) else ((z4_.f k x0).bind fun bt186 => (if bt186.2.2 = true then ((spec_l01Name.f k bt186.1 true).bind fun t191 => (z3_.j3 k bt186.2.1 (!t191))) else (z3_.j3 k bt186.2.1 true)))) else (none))))
def z3_.j1 : Nat → ByteArray → Bool → Option (Int)
 | 0,_,_ => none
 | k + 1,x0,x37 => if x37 = true then (some 0) else (z3_.l0 k x0 1)
def z3_.l0 : Nat → ByteArray → Int → Option (Int)
 | 0,_,_ => none
 | k + 1,x0,x5 => if (wrap64 (x5 + 1)) < (x0.size : Int) then (if 0 ≤ x5 then (if x5 < (x0.size : Int) then ((spec_l01Between.f (wrap64 (bt x0 x5)) 32 126).bind fun t185 => (if t185 = true then (if (bt x0 x5) = 34 then (some 0) else (if (bt x0 x5) = 92 then (some 0) else (z3_.l0 k x0 (wrap64 (x5 + 1))))) else (some 0))) else (none)) else (none)) else (some 2)
def z3_.j3 : Nat → List ByteArray → Bool → Option (Int)
 | 0,_,_ => none
 | k + 1,x7,x75 => if x75 = true then (some 0) else (z3_.l1 k x7 0)
def z3_.l1 : Nat → List ByteArray → Int → Option (Int)
 | 0,_,_ => none
 | k + 1,x7,x9 => if x9 < (x7.length : Int) then (if 0 ≤ x9 then ((z3_.f k (rdOf ByteArray.empty x7 x9)).bind fun t193 => (if t193 = 0 then (some 0) else (z3_.l1 k x7 (wrap64 (x9 + 1))))) else (none)) else (some 3)
def z3_.f : Nat → ByteArray → Option (Int)
 | 0,_ => none
 | k + 1,a0 => if a0.toList = ([] : List UInt8) then (z3_.j0 k a0 true) else (z3_.j0 k a0 (decide ((a0.size : Int) > 200)))
end
set_option maxHeartbeats 8000000 in
set_option maxRecDepth 100000 in
theorem z3_.calls (k : Nat) : ∀ (a0 : ByteArray) (r : Int) (w : World) (h : z3_.f k a0 = some r),
  Calls Tryz.prog 68 #[.string a0] w fun e w' => e = .returned (.int .i64 r) ∧ Below w.heap.size w w' := by
 induction k using Nat.strongRecOn with
 | _ k ih =>
 intro a0 r w h
 cases k with
 | zero => exact absurd h (by simp [z3_.f])
 | succ k =>
 simp only [z3_.f] at h
 have HB := y0.mk (Below.refl w.heap.size w)
 have H : (if a0.toList = ([] : List UInt8) then (z3_.j0 k a0 true) else (z3_.j0 k a0 (decide ((a0.size : Int) > 200)))) = some r := h
 clear h
 have HC2 := y0.mk H
 clear H
 go_enter Tryz.func68,Tryz.ntmps68
 go_upto_region 1 with (fail)
 go_cut [16] (fun v16 wc => ∃ (kq : Nat) (x16_1 : Bool),v16 = .bool x16_1 ∧ y0 (z3_.j0 kq a0 x16_1 = some r) ∧ y0 (kq ≤ k) ∧ y0 (Below w.heap.size w wc))
 case first =>
  have H := HC2.out
  clear HC2
  by_cases c3 : a0.toList = ([] : List UInt8)
  ·rw [if_pos c3] at H
   have c3b0 : (a0.toList == ([] : List UInt8)) = true := beq_iff_eq.mpr c3
   have c3b1 : (a0.toList != ([] : List UInt8)) = false := bne_eq_false_iff_eq.mpr c3
   clear c3
   (first | rw [c3b0] | (simp only [y19,y18]; rw [c3b0]) | skip)
   have H' := y0.mk H
   clear H
   go_wp2
   go_meet
   exact ⟨_,(true),qy2,H',⟨by first | omega | exact Nat.le_refl _⟩,⟨qb⟩⟩
  ·rw [if_neg c3] at H
   have c3b0 : (a0.toList == ([] : List UInt8)) = false := beq_eq_false_iff_ne.mpr c3
   have c3b1 : (a0.toList != ([] : List UInt8)) = true := bne_iff_ne.mpr c3
   (first | rw [c3b0] | (simp only [y19,y18]; rw [c3b0]) | skip)
   have H' := y0.mk H
   clear H
   go_wp2
   go_meet
   exact ⟨_,(decide ((a0.size : Int) > 200)),qy2,H',⟨by first | omega | exact Nat.le_refl _⟩,⟨qb⟩⟩
 case rest =>
  clear HC2
  obtain ⟨kq,x16_1,rfl,HA,HJ1,HB⟩ := hcut
  cases kq with
  | zero => exact absurd HA.out (by simp [z3_.j0])
  | succ kj1 =>
   have H := HA.out
   clear HA
   simp only [z3_.j0] at H
   by_cases c4 : x16_1 = true
   ·subst c4
    replace H := qT H
    obtain rfl := Option.some.inj H
    go_wp2
    go_ret
    exact ⟨by first | rfl | (simp [y13,y14] <;> rfl) | (simp [*,y13,y14] <;> rfl),qb⟩
   ·replace c4 := Bool.eq_false_iff.mpr c4
    subst c4
    replace H := qF H
    obtain ⟨⟨t182,t183⟩,A5,H⟩ := qB H
    replace H : (if t183 = true then (some 1) else (if 0 < (a0.size : Int) then (if (bt a0 0) = 34 then ((spec_l01Between.f (a0.size : Int) 2 22).bind fun t184 => (if t184 = true then (if 0 ≤ (wrap64 ((a0.size : Int) - 1)) then (if (wrap64 ((a0.size : Int) - 1)) < (a0.size : Int) then (z3_.j1 kj1 a0 ((bt a0 (wrap64 ((a0.size : Int) - 1))) != 34)) else (none)) else (none)) else (z3_.j1 kj1 a0 true))) else ((z4_.f kj1 a0).bind fun bt186 => (if bt186.2.2 = true then ((spec_l01Name.f kj1 bt186.1 true).bind fun t191 => (z3_.j3 kj1 bt186.2.1 (!t191))) else (z3_.j3 kj1 bt186.2.1 true)))) else (none))) = some r := H
    by_cases c6 : t183 = true
    ·subst c6
     replace H := qT H
     obtain rfl := Option.some.inj H
     go_wp2_with (first | ((with_reducible refine y15 (f := 92) rfl ?_); refine y17 (some 19) rfl rfl Tryz.func92 (by kernel_rfl) rfl #[.string a0] rfl qy0 ?_; (with_reducible refine (z5_.calls kj1 a0 t182 true _ A5.out).mono ?_); rintro e w7 ⟨rfl,hb⟩; refine ⟨_,rfl, ?_⟩; replace HB := y0.mk (y6 qb hb); (try clear hb); (try clear hb2); (try clear hk); (try clear hi)))
     go_ret
     exact ⟨by first | rfl | (simp [y13,y14] <;> rfl) | (simp [*,y13,y14] <;> rfl),qb⟩
    ·replace c6 := Bool.eq_false_iff.mpr c6
     subst c6
     replace H := qF H
     obtain ⟨c8,H⟩ := qo H
     have c8b0 : decide (0 < (a0.size : Int)) = true := decide_eq_true c8
     have c8b1 : decide (0 < a0.size) = true := decide_eq_true (by omega)
     clear c8
     by_cases c10 : (bt a0 0) = 34
     ·rw [if_pos c10] at H
      have c10b0 : ((bt a0 0) == 34) = true := beq_iff_eq.mpr c10
      have c10b1 : ((bt a0 0) != 34) = false := bne_eq_false_iff_eq.mpr c10
      clear c10
      have HC11 := y0.mk H
      clear H
      go_upto_region 7 with (first | ((with_reducible refine y15 (f := 92) rfl ?_); refine y17 (some 19) rfl rfl Tryz.func92 (by kernel_rfl) rfl #[.string a0] rfl qy0 ?_; (with_reducible refine (z5_.calls kj1 a0 t182 false _ A5.out).mono ?_); rintro e w12 ⟨rfl,hb⟩; refine ⟨_,rfl, ?_⟩; replace HB := y0.mk (y6 qb hb); (try clear hb); (try clear hb2); (try clear hk); (try clear hi); have p9 : 0 ≤ (0 : Int) := (by omega); have q9 : 0 < a0.size := qy4; have hx9 : ∀ h : 0 < a0.size,((a0[0]'h).toNat : Int) = bt a0 0 := bt_at a0 0; clear p9; have qi9 : (0 < (a0.size : Int)) = True := eq_true (of_decide_eq_true qy1); replace q9 := eq_true q9))
      (try simp only [Act.put,qS_,qZ_,qC_])
      go_cut [37] (fun v37 wc => ∃ (kq : Nat) (x37_10 : Bool),v37 = .bool x37_10 ∧ y0 (z3_.j1 kq a0 x37_10 = some r) ∧ y0 (kq ≤ kj1) ∧ y0 (Below w.heap.size w wc))
      case first =>
       have H := HC11.out
       clear HC11
       obtain ⟨t184,A13,H⟩ := qB H
       by_cases c14 : t184 = true
       ·subst c14
        replace H := qT H
        obtain ⟨ji15,hji15⟩ : ∃ j_ : Int,(wrap64 ((a0.size : Int) - 1)) = j_ := ⟨_,rfl⟩
        replace H : (if 0 ≤ (ji15) then (if (ji15) < (a0.size : Int) then (z3_.j1 kj1 a0 ((bt a0 (ji15)) != 34)) else (none)) else (none)) = some r := by first | (rw [hji15] at H; exact H) | (simp only [hji15] at H ⊢; exact H)
        (try rw [hji15] at A13)
        have hji15w : (IntKind.i64.wrap ((a0.size : Int) - 1)) = ji15 := (y19 _).trans hji15
        obtain ⟨c16,H⟩ := qo H
        have c16b0 : decide (0 ≤ (ji15)) = true := decide_eq_true c16
        clear c16
        (first | rw [c16b0] | (simp only [y19,y18]; rw [c16b0]) | skip)
        obtain ⟨c17,H⟩ := qo H
        have c17b0 : decide ((ji15) < (a0.size : Int)) = true := decide_eq_true c17
        clear c17
        have H' := y0.mk H
        clear H
        go_wp2_with (first | ((with_reducible refine y15 (f := 56) rfl ?_); refine y17 (some 28) rfl rfl Tryz.func56 (by kernel_rfl) rfl #[.int .i64 (a0.size : Int),.int .i64 2,.int .i64 22] rfl qy0 ?_; (with_reducible refine (spec_l01Between.calls (a0.size : Int) 2 22 true _ A13.out).mono ?_); rintro e w' ⟨rfl,⟨nd,rfl⟩⟩; refine ⟨_,rfl, ?_⟩; have p18 : 0 ≤ ((ji15) : Int) := of_decide_eq_true qy1; have q18 : (ji15) < (a0.size : Int) := of_decide_eq_true qy1; have hx18 := bt_at a0 (ji15); replace p18 := eq_true p18; replace q18 := eq_true q18))
        go_meet
        exact ⟨_,(((bt a0 (ji15)) != 34)),(by first | rfl | (simp; done) | (simp only [← hji15] <;> (first | rfl | simp)) | (simp [*]; done)),H',⟨by have := HJ1.out; first | omega | exact Nat.le_refl _⟩,⟨qb⟩⟩
       ·replace c14 := Bool.eq_false_iff.mpr c14
        subst c14
        replace H := qF H
        have H' := y0.mk H
        clear H
        go_wp2_with (first | ((with_reducible refine y15 (f := 56) rfl ?_); refine y17 (some 28) rfl rfl Tryz.func56 (by kernel_rfl) rfl #[.int .i64 (a0.size : Int),.int .i64 2,.int .i64 22] rfl qy0 ?_; (with_reducible refine (spec_l01Between.calls (a0.size : Int) 2 22 false _ A13.out).mono ?_); rintro e w' ⟨rfl,⟨nd,rfl⟩⟩; refine ⟨_,rfl, ?_⟩))
        go_meet
        exact ⟨_,(true),qy2,H',⟨by have := HJ1.out; first | omega | exact Nat.le_refl _⟩,⟨qb⟩⟩
      case rest =>
       clear HC11
       (try clear c4 c6 c8b0 c8b1 p9 q9 hx9 qi9 c10b0 c10b1 p9 q9)
       obtain ⟨kq,x37_10,rfl,HA,HJ10,HB⟩ := hcut
       cases kq with
       | zero => exact absurd HA.out (by simp [z3_.j1])
       | succ kj10 =>
        have H := HA.out
        clear HA
        simp only [z3_.j1] at H
        by_cases c19 : x37_10 = true
        ·subst c19
         replace H := qT H
         obtain rfl := Option.some.inj H
         go_wp2
         go_ret
         exact ⟨by first | rfl | (simp [y13,y14] <;> rfl) | (simp [*,y13,y14] <;> rfl),qb⟩
        ·replace c19 := Bool.eq_false_iff.mpr c19
         subst c19
         replace H := qF H
         have H' := y0.mk H
         clear H
         go_wp2
         go_loopg [5] kj10 (fun kq v5 w' => ∃ (x5_3 : Int),v5 = .int .i64 x5_3 ∧ y0 (z3_.l0 kq a0 x5_3 = some r) ∧ y0 (kq ≤ kj10) ∧ y0 (Below w.heap.size w w'))
         case atStart => exact ⟨(1),qy2,H',⟨Nat.le_refl _⟩,⟨qb⟩⟩
         case round =>
          clear H'
          (try clear c19)
          obtain ⟨x5_3,rfl,HA,HK3,HB⟩ := hrel
          cases gk with
          | zero => exact absurd HA.out (by simp [z3_.l0])
          | succ k3 =>
           have H := HA.out
           clear HA
           simp only [z3_.l0] at H
           by_cases c20 : (wrap64 (x5_3 + 1)) < (a0.size : Int)
           ·rw [if_pos c20] at H
            have c20b0 := decide_eq_true c20
            clear c20
            obtain ⟨c21,H⟩ := qo H
            have c21b0 : decide (0 ≤ x5_3) = true := decide_eq_true c21
            clear c21
            obtain ⟨c22,H⟩ := qo H
            have c22b0 : decide (x5_3 < (a0.size : Int)) = true := decide_eq_true c22
            clear c22
            obtain ⟨t185,A24,H⟩ := qB H
            by_cases c25 : t185 = true
            ·subst c25
             replace H := qT H
             by_cases c27 : (bt a0 x5_3) = 34
             ·rw [if_pos c27] at H
              have c27b0 : ((bt a0 x5_3) == 34) = true := beq_iff_eq.mpr c27
              have c27b1 : ((bt a0 x5_3) != 34) = false := bne_eq_false_iff_eq.mpr c27
              clear c27
              obtain rfl := Option.some.inj H
              have p23 : 0 ≤ (x5_3 : Int) := of_decide_eq_true qy1
              have q23 : x5_3 < (a0.size : Int) := of_decide_eq_true qy1
              have hx23 := bt_at a0 x5_3
              replace p23 := eq_true p23
              replace q23 := eq_true q23
              go_wp2_with (first | ((with_reducible refine y15 (f := 56) rfl ?_); refine y17 (some 49) rfl rfl Tryz.func56 (by kernel_rfl) rfl #[.int .i64 (wrap64 (bt a0 x5_3)),.int .i64 32,.int .i64 126] rfl qy0 ?_; (with_reducible refine (spec_l01Between.calls (wrap64 (bt a0 x5_3)) 32 126 true _ A24.out).mono ?_); rintro e w' ⟨rfl,⟨nd,rfl⟩⟩; refine ⟨_,rfl, ?_⟩; have p26 : 0 ≤ (x5_3 : Int) := of_decide_eq_true qy1; have q26 : x5_3 < (a0.size : Int) := of_decide_eq_true qy1; have hx26 := bt_at a0 x5_3; replace p26 := eq_true p26; replace q26 := eq_true q26))
              go_ret
              exact ⟨by first | rfl | (simp [y13,y14] <;> rfl) | (simp [*,y13,y14] <;> rfl),qb⟩
             ·rw [if_neg c27] at H
              have c27b0 : ((bt a0 x5_3) == 34) = false := beq_eq_false_iff_ne.mpr c27
              have c27b1 : ((bt a0 x5_3) != 34) = true := bne_iff_ne.mpr c27
              by_cases c29 : (bt a0 x5_3) = 92
              ·rw [if_pos c29] at H
               have c29b0 : ((bt a0 x5_3) == 92) = true := beq_iff_eq.mpr c29
               have c29b1 : ((bt a0 x5_3) != 92) = false := bne_eq_false_iff_eq.mpr c29
               clear c29
               obtain rfl := Option.some.inj H
               have p23 : 0 ≤ (x5_3 : Int) := of_decide_eq_true qy1
               have q23 : x5_3 < (a0.size : Int) := of_decide_eq_true qy1
               have hx23 := bt_at a0 x5_3
               replace p23 := eq_true p23
               replace q23 := eq_true q23
               go_wp2_with (first | ((with_reducible refine y15 (f := 56) rfl ?_); refine y17 (some 49) rfl rfl Tryz.func56 (by kernel_rfl) rfl #[.int .i64 (wrap64 (bt a0 x5_3)),.int .i64 32,.int .i64 126] rfl qy0 ?_; (with_reducible refine (spec_l01Between.calls (wrap64 (bt a0 x5_3)) 32 126 true _ A24.out).mono ?_); rintro e w' ⟨rfl,⟨nd,rfl⟩⟩; refine ⟨_,rfl, ?_⟩; have p26 : 0 ≤ (x5_3 : Int) := of_decide_eq_true qy1; have q26 : x5_3 < (a0.size : Int) := of_decide_eq_true qy1; have hx26 := bt_at a0 x5_3; replace p26 := eq_true p26; replace q26 := eq_true q26; have p28 : 0 ≤ (x5_3 : Int) := of_decide_eq_true qy1; have q28 : x5_3 < (a0.size : Int) := of_decide_eq_true qy1; have hx28 := bt_at a0 x5_3; replace p28 := eq_true p28; replace q28 := eq_true q28))
               go_ret
               exact ⟨by first | rfl | (simp [y13,y14] <;> rfl) | (simp [*,y13,y14] <;> rfl),qb⟩
              ·rw [if_neg c29] at H
               have c29b0 : ((bt a0 x5_3) == 92) = false := beq_eq_false_iff_ne.mpr c29
               have c29b1 : ((bt a0 x5_3) != 92) = true := bne_iff_ne.mpr c29
               have H' := y0.mk H
               clear H
               have p23 : 0 ≤ (x5_3 : Int) := of_decide_eq_true qy1
               have q23 : x5_3 < (a0.size : Int) := of_decide_eq_true qy1
               have hx23 := bt_at a0 x5_3
               replace p23 := eq_true p23
               replace q23 := eq_true q23
               go_wp2_with (first | ((with_reducible refine y15 (f := 56) rfl ?_); refine y17 (some 49) rfl rfl Tryz.func56 (by kernel_rfl) rfl #[.int .i64 (wrap64 (bt a0 x5_3)),.int .i64 32,.int .i64 126] rfl qy0 ?_; (with_reducible refine (spec_l01Between.calls (wrap64 (bt a0 x5_3)) 32 126 true _ A24.out).mono ?_); rintro e w' ⟨rfl,⟨nd,rfl⟩⟩; refine ⟨_,rfl, ?_⟩; have p26 : 0 ≤ (x5_3 : Int) := of_decide_eq_true qy1; have q26 : x5_3 < (a0.size : Int) := of_decide_eq_true qy1; have hx26 := bt_at a0 x5_3; replace p26 := eq_true p26; replace q26 := eq_true q26; have p28 : 0 ≤ (x5_3 : Int) := of_decide_eq_true qy1; have q28 : x5_3 < (a0.size : Int) := of_decide_eq_true qy1; have hx28 := bt_at a0 x5_3; replace p28 := eq_true p28; replace q28 := eq_true q28))
               go_roundg k3
               case measure => have := HJ1.out; have := HJ10.out; have := HK3.out; omega
               exact ⟨(wrap64 (x5_3 + 1)),qy2,H',⟨by have := HJ1.out; have := HJ10.out; have := HK3.out; omega⟩,⟨qb⟩⟩
            ·replace c25 := Bool.eq_false_iff.mpr c25
             subst c25
             replace H := qF H
             obtain rfl := Option.some.inj H
             have p23 : 0 ≤ (x5_3 : Int) := of_decide_eq_true qy1
             have q23 : x5_3 < (a0.size : Int) := of_decide_eq_true qy1
             have hx23 := bt_at a0 x5_3
             replace p23 := eq_true p23
             replace q23 := eq_true q23
             go_wp2_with (first | ((with_reducible refine y15 (f := 56) rfl ?_); refine y17 (some 49) rfl rfl Tryz.func56 (by kernel_rfl) rfl #[.int .i64 (wrap64 (bt a0 x5_3)),.int .i64 32,.int .i64 126] rfl qy0 ?_; (with_reducible refine (spec_l01Between.calls (wrap64 (bt a0 x5_3)) 32 126 false _ A24.out).mono ?_); rintro e w' ⟨rfl,⟨nd,rfl⟩⟩; refine ⟨_,rfl, ?_⟩))
             go_ret
             exact ⟨by first | rfl | (simp [y13,y14] <;> rfl) | (simp [*,y13,y14] <;> rfl),qb⟩
           ·rw [if_neg c20] at H
            have c20b0 := decide_eq_false c20
            clear c20
            obtain rfl := Option.some.inj H
            go_wp2
            go_ret
            exact ⟨by first | rfl | (simp [y13,y14] <;> rfl) | (simp [*,y13,y14] <;> rfl),qb⟩
     ·rw [if_neg c10] at H
      have c10b0 : ((bt a0 0) == 34) = false := beq_eq_false_iff_ne.mpr c10
      have c10b1 : ((bt a0 0) != 34) = true := bne_iff_ne.mpr c10
      obtain ⟨⟨t186,t187,t188⟩,A30,H⟩ := qB H
      replace H : (if t188 = true then ((spec_l01Name.f kj1 t186 true).bind fun t191 => (z3_.j3 kj1 t187 (!t191))) else (z3_.j3 kj1 t187 true)) = some r := H
      have HC31 := y0.mk H
      clear H
      go_upto_region 16 with (first | ((with_reducible refine y15 (f := 92) rfl ?_); refine y17 (some 19) rfl rfl Tryz.func92 (by kernel_rfl) rfl #[.string a0] rfl qy0 ?_; (with_reducible refine (z5_.calls kj1 a0 t182 false _ A5.out).mono ?_); rintro e w32 ⟨rfl,hb⟩; refine ⟨_,rfl, ?_⟩; replace HB := y0.mk (y6 qb hb); (try clear hb); (try clear hb2); (try clear hk); (try clear hi); have p9 : 0 ≤ (0 : Int) := (by omega); have q9 : 0 < a0.size := qy4; have hx9 : ∀ h : 0 < a0.size,((a0[0]'h).toNat : Int) = bt a0 0 := bt_at a0 0; clear p9; have qi9 : (0 < (a0.size : Int)) = True := eq_true (of_decide_eq_true qy1); replace q9 := eq_true q9) | ((with_reducible refine y15 (f := 93) rfl ?_); refine y17 (some 65) rfl rfl Tryz.func93 (by kernel_rfl) rfl #[.string a0] rfl qy0 ?_; (with_reducible refine (z4_.calls kj1 a0 t186 t187 t188 _ A30.out).mono ?_); rintro e w33 ⟨v189,rfl,ho0,hb⟩; refine ⟨_,rfl, ?_⟩; have HO190 := y0.mk (Kd.R_lower ho0 (y5 qb)); replace HB := y0.mk (y6 qb hb); (try clear hb); (try clear hb2); (try clear hk); (try clear hi); (try clear ho0)))
      (try simp only [Act.put,qS_,qZ_,qC_])
      go_cut [75] (fun v75 wc => ∃ (kq : Nat) (x75_30 : Bool),v75 = .bool x75_30 ∧ y0 (z3_.j3 kq t187 x75_30 = some r) ∧ y0 (kq ≤ kj1) ∧ y0 (Kd.R Kd.string 9 wc w.heap.size (fun _ => True) v189 t187) ∧ y0 (Below w.heap.size w wc))
      case first =>
       have H := HC31.out
       clear HC31
       by_cases c34 : t188 = true
       ·subst c34
        replace H := qT H
        obtain ⟨t191,A35,H⟩ := qB H
        have H' := y0.mk H
        clear H
        go_wp2_with (first | (go_at_call 94; (with_reducible refine (spec_l01Name.calls kj1 t186 true t191 _ A35.out).mono ?_); rintro e w' ⟨rfl,⟨nd,rfl⟩⟩))
        go_meet
        exact ⟨_,(!t191),qy2,H',⟨by have := HJ1.out; first | omega | exact Nat.le_refl _⟩,⟨qR HO190.out⟩,⟨qb⟩⟩
       ·replace c34 := Bool.eq_false_iff.mpr c34
        subst c34
        replace H := qF H
        have H' := y0.mk H
        clear H
        go_wp2
        go_meet
        exact ⟨_,(true),qy2,H',⟨by have := HJ1.out; first | omega | exact Nat.le_refl _⟩,⟨qR HO190.out⟩,⟨qb⟩⟩
      case rest =>
       clear HC31
       (try clear p9 q9 hx9 qi9 c10b0 c10b1 p9 q9)
       obtain ⟨kq,x75_30,rfl,HA,HJ30,HO_7,HB⟩ := hcut
       cases kq with
       | zero => exact absurd HA.out (by simp [z3_.j3])
       | succ kj30 =>
        have H := HA.out
        clear HA
        simp only [z3_.j3] at H
        by_cases c36 : x75_30 = true
        ·subst c36
         replace H := qT H
         obtain rfl := Option.some.inj H
         go_wp2
         go_ret
         exact ⟨by first | rfl | (simp [y13,y14] <;> rfl) | (simp [*,y13,y14] <;> rfl),qb⟩
        ·replace c36 := Bool.eq_false_iff.mpr c36
         subst c36
         replace H := qF H
         have H' := y0.mk H
         clear H
         go_wp2
         go_loopg [9] kj30 (fun kq v9 w' => ∃ (x9_3 : Int),v9 = .int .i64 x9_3 ∧ y0 (z3_.l1 kq t187 x9_3 = some r) ∧ y0 (kq ≤ kj30) ∧ y0 (Kd.R Kd.string 9 w' w.heap.size (fun _ => True) v189 t187) ∧ y0 (Below w.heap.size w w'))
         case atStart => exact ⟨(0),qy2,H',⟨Nat.le_refl _⟩,⟨qR HO_7.out⟩,⟨qb⟩⟩
         case round =>
          clear H'
          (try clear c36)
          obtain ⟨x9_3,rfl,HA,HK3,HO_7,HB⟩ := hrel
          cases gk with
          | zero => exact absurd HA.out (by simp [z3_.l1])
          | succ k3 =>
           have H := HA.out
           clear HA
           simp only [z3_.l1] at H
           by_cases c37 : x9_3 < (t187.length : Int)
           ·rw [if_pos c37] at H
            have c37b0 := decide_eq_true c37
            clear c37
            obtain ⟨c38,H⟩ := qo H
            have c38b0 : decide (0 ≤ x9_3) = true := decide_eq_true c38
            clear c38
            obtain ⟨t193,A39,H⟩ := qB H
            by_cases c40 : t193 = 0
            ·rw [if_pos c40] at H
             have c40b0 : (t193 == 0) = true := beq_iff_eq.mpr c40
             have c40b1 : (t193 != 0) = false := bne_eq_false_iff_eq.mpr c40
             clear c40
             obtain rfl := Option.some.inj H
             obtain ⟨Ao41,co41,eo41⟩ := Kd.R_slice HO_7.out
             subst eo41
             have p192 : 0 ≤ (x9_3 : Int) := of_decide_eq_true qy1
             have q192 : x9_3 < (t187.length : Int) := of_decide_eq_true qy1
             obtain ⟨ad192,e192,hx192_0⟩ := Kd.at_string (Kd.R_reads' HO_7.out).2.2 x9_3 p192 q192
             cases e192
             replace p192 := eq_true p192
             replace q192 := eq_true q192
             go_wp2_with (first | ((with_reducible refine y15 (f := 68) rfl ?_); refine y17 (some 86) rfl rfl Tryz.func68 (by kernel_rfl) rfl #[.string (rdOf ByteArray.empty t187 x9_3)] rfl qy0 ?_; (with_reducible refine (ih k3 (by have := HJ1.out; have := HJ30.out; have := HK3.out; omega) (rdOf ByteArray.empty t187 x9_3) t193 _ A39.out).mono ?_); rintro e w42 ⟨rfl,hb⟩; refine ⟨_,rfl, ?_⟩; replace HO_7 := y0.mk (Kd.R_below (qR HO_7.out) hb); replace HB := y0.mk (y6 qb hb); (try clear hb); (try clear hb2); (try clear hk); (try clear hi)))
             go_ret
             exact ⟨by first | rfl | (simp [y13,y14] <;> rfl) | (simp [*,y13,y14] <;> rfl),qb⟩
            ·rw [if_neg c40] at H
             have c40b0 : (t193 == 0) = false := beq_eq_false_iff_ne.mpr c40
             have c40b1 : (t193 != 0) = true := bne_iff_ne.mpr c40
             have H' := y0.mk H
             clear H
             obtain ⟨Ao43,co43,eo43⟩ := Kd.R_slice HO_7.out
             subst eo43
             have p192 : 0 ≤ (x9_3 : Int) := of_decide_eq_true qy1
             have q192 : x9_3 < (t187.length : Int) := of_decide_eq_true qy1
             obtain ⟨ad192,e192,hx192_0⟩ := Kd.at_string (Kd.R_reads' HO_7.out).2.2 x9_3 p192 q192
             cases e192
             replace p192 := eq_true p192
             replace q192 := eq_true q192
             go_wp2_with (first | ((with_reducible refine y15 (f := 68) rfl ?_); refine y17 (some 86) rfl rfl Tryz.func68 (by kernel_rfl) rfl #[.string (rdOf ByteArray.empty t187 x9_3)] rfl qy0 ?_; (with_reducible refine (ih k3 (by have := HJ1.out; have := HJ30.out; have := HK3.out; omega) (rdOf ByteArray.empty t187 x9_3) t193 _ A39.out).mono ?_); rintro e w44 ⟨rfl,hb⟩; refine ⟨_,rfl, ?_⟩; replace HO_7 := y0.mk (Kd.R_below (qR HO_7.out) hb); replace HB := y0.mk (y6 qb hb); (try clear hb); (try clear hb2); (try clear hk); (try clear hi)))
             go_roundg k3
             case measure => have := HJ1.out; have := HJ30.out; have := HK3.out; omega
             exact ⟨(wrap64 (x9_3 + 1)),qy2,H',⟨by have := HJ1.out; have := HJ30.out; have := HK3.out; omega⟩,⟨qR HO_7.out⟩,⟨qb⟩⟩
           ·rw [if_neg c37] at H
            have c37b0 := decide_eq_false c37
            clear c37
            obtain rfl := Option.some.inj H
            obtain ⟨Ao45,co45,eo45⟩ := Kd.R_slice HO_7.out
            subst eo45
            go_wp2
            go_ret
            exact ⟨by first | rfl | (simp [y13,y14] <;> rfl) | (simp [*,y13,y14] <;> rfl),qb⟩
end Go.Proofs.YtkajecadkkgfmaaGreatDoor.Pe
end
section
namespace Go.Proofs.YtkajecadkkgfmaaGreatDoor.Pe
open Go.RowKit Go.Proofs.YtkajecadkkgfmaaGreatDoorW.PrintWords Go.Proofs.YtkajecadkkgfmaaGreatDoorW.PrintLast Go.Proofs.YtkajecadkkgfmaaGreatDoorW.PrintMore
attribute [local go_sem] max2_int min2_int max_two min_two max_three min_three max_four min_four   -- for this text's walks alone
set_option linter.unusedVariables false
set_option linter.unusedSimpArgs false
def spec_TupleOk.l0 : Nat → Int → List ByteArray → Option (Bool)
 | 0,_,_ => none
 | k + 1,x3,x195000 => if x3 < (x195000.length : Int) then (if 0 ≤ x3 then ((z3_.f k (rdOf ByteArray.empty x195000 x3)).bind fun t196 => (if t196 = 0 then (some false) else (spec_TupleOk.l0 k (wrap64 (x3 + 1)) x195000))) else (none)) else (some true)
def spec_TupleOk.f (k : Nat) (l0_0 : List ByteArray) : Option (Bool) := if (l0_0.length : Int) > 6 then (some false) else (spec_TupleOk.l0 k 0 l0_0)
set_option maxHeartbeats 8000000 in
set_option maxRecDepth 100000 in
theorem spec_TupleOk.calls (k : Nat) (A0_0 : Option Addr) (c0_0 : Nat) (l0_0 : List ByteArray) (r : Bool) (w : World) (hr0_0 : Kd.C Kd.string w A0_0 l0_0.length l0_0) (hc0_0 : l0_0.length ≤ c0_0) (h : spec_TupleOk.f k l0_0 = some r) :
  Calls Tryz.prog 35 #[.agg #[.slice A0_0 l0_0.length c0_0]] w fun e w' => e = .returned (.bool r) ∧ Below w.heap.size w w' := by
 have hu36 := Tryz.underlying36
 have HR0_0 := y0.mk hr0_0
 have HC0_0 := y0.mk hc0_0
 clear hr0_0 hc0_0
 have HB := y0.mk (Below.refl w.heap.size w)
 have H : (if (l0_0.length : Int) > 6 then (some false) else (spec_TupleOk.l0 k 0 l0_0)) = some r := h
 clear h
 by_cases c2 : (l0_0.length : Int) > 6
 ·rw [if_pos c2] at H
  have c2b0 : decide (6 < (l0_0.length : Int)) = true := decide_eq_true c2
  have c2b1 : decide (6 < l0_0.length) = true := decide_eq_true (by omega)
  clear c2
  obtain rfl := Option.some.inj H
  go_enter Tryz.func35,Tryz.ntmps35
  go_wp2_with (first | ((with_reducible refine y16 (N := 1) rfl ?_); refine qe 1 #[.slice A0_0 l0_0.length c0_0] 36 ?_; intro gb194 hg w3 hbox hb; have BK194 := y0.mk (hbox); have GW194 := y0.mk (qg (w := w) hg); have GE194 := y0.mk (qg (w := w) hg); replace HB := y0.mk (y6 qb hb); clear hb hbox hg; obtain ⟨hcz4_0,hfz4_0⟩ := qz1 BK194.out))
  go_ret
  exact ⟨by first | rfl | (simp [y13,y14] <;> rfl) | (simp [*,y13,y14] <;> rfl),qb⟩
 ·rw [if_neg c2] at H
  have c2b0 : decide (6 < (l0_0.length : Int)) = false := decide_eq_false c2
  have c2b1 : decide (6 < l0_0.length) = false := decide_eq_false (by omega)
  clear c2
  have H' := y0.mk H
  clear H
  go_enter Tryz.func35,Tryz.ntmps35
  go_wp2_with (first | ((with_reducible refine y16 (N := 1) rfl ?_); refine qe 1 #[.slice A0_0 l0_0.length c0_0] 36 ?_; intro gb194 hg w5 hbox hb; have BK194 := y0.mk (hbox); have GW194 := y0.mk (qg (w := w) hg); have GE194 := y0.mk (qg (w := w) hg); replace HB := y0.mk (y6 qb hb); clear hb hbox hg; obtain ⟨hcz6_0,hfz6_0⟩ := qz1 BK194.out))
  go_loopg [3] k (fun kq v3 w' => ∃ (x3_1 : Int),v3 = .int .i64 x3_1 ∧ y0 (spec_TupleOk.l0 kq x3_1 l0_0 = some r) ∧ y0 (kq ≤ k) ∧ y0 (w'.heap[gb194]? = some (.cells #[(.slice A0_0 l0_0.length c0_0)] 36 (0,0))) ∧ y0 (Below w.heap.size w w'))
  case atStart => exact ⟨(0),qy2,H',⟨Nat.le_refl _⟩,⟨qk BK194.out⟩,⟨qb⟩⟩
  case round =>
   clear H'
   (try clear c2b0 c2b1 hcz6_0 hfz6_0)
   obtain ⟨x3_1,rfl,HA,HK1,BK194,HB⟩ := hrel
   cases gk with
   | zero => exact absurd HA.out (by simp [spec_TupleOk.l0])
   | succ k1 =>
    have H := HA.out
    clear HA
    simp only [spec_TupleOk.l0] at H
    by_cases c7 : x3_1 < (l0_0.length : Int)
    ·rw [if_pos c7] at H
     have c7b0 := decide_eq_true c7
     clear c7
     obtain ⟨c8,H⟩ := qo H
     have c8b0 : decide (0 ≤ x3_1) = true := decide_eq_true c8
     clear c8
     obtain ⟨t196,A9,H⟩ := qB H
     by_cases c10 : t196 = 0
     ·rw [if_pos c10] at H
      have c10b0 : (t196 == 0) = true := beq_iff_eq.mpr c10
      have c10b1 : (t196 != 0) = false := bne_eq_false_iff_eq.mpr c10
      clear c10
      obtain rfl := Option.some.inj H
      obtain ⟨hcz11_0,hfz11_0⟩ := qz1 BK194.out
      have p195 : 0 ≤ (x3_1 : Int) := of_decide_eq_true qy1
      have q195 : x3_1 < (l0_0.length : Int) := of_decide_eq_true qy1
      obtain ⟨ad195,e195,hx195_0⟩ := Kd.at_string HR0_0.out x3_1 p195 q195
      cases e195
      replace hx195_0 := (HB.out.cell (World.block_lt_of_cell? w _ hx195_0)).trans hx195_0
      replace p195 := eq_true p195
      replace q195 := eq_true q195
      go_wp2_with (first | ((with_reducible refine y15 (f := 68) rfl ?_); refine y17 (some 20) rfl rfl Tryz.func68 (by kernel_rfl) rfl #[.string (rdOf ByteArray.empty l0_0 x3_1)] rfl qy0 ?_; (with_reducible refine (z3_.calls k1 (rdOf ByteArray.empty l0_0 x3_1) t196 _ A9.out).mono ?_); rintro e w12 ⟨rfl,hb⟩; refine ⟨_,rfl, ?_⟩; replace BK194 := y0.mk (qK BK194.out hb); replace HB := y0.mk (y6 qb hb); (try clear hb); (try clear hb2); (try clear hk); (try clear hi)))
      go_ret
      exact ⟨by first | rfl | (simp [y13,y14] <;> rfl) | (simp [*,y13,y14] <;> rfl),qb⟩
     ·rw [if_neg c10] at H
      have c10b0 : (t196 == 0) = false := beq_eq_false_iff_ne.mpr c10
      have c10b1 : (t196 != 0) = true := bne_iff_ne.mpr c10
      have H' := y0.mk H
      clear H
      obtain ⟨hcz13_0,hfz13_0⟩ := qz1 BK194.out
      have p195 : 0 ≤ (x3_1 : Int) := of_decide_eq_true qy1
      have q195 : x3_1 < (l0_0.length : Int) := of_decide_eq_true qy1
      obtain ⟨ad195,e195,hx195_0⟩ := Kd.at_string HR0_0.out x3_1 p195 q195
      cases e195
      replace hx195_0 := (HB.out.cell (World.block_lt_of_cell? w _ hx195_0)).trans hx195_0
      replace p195 := eq_true p195
      replace q195 := eq_true q195
      go_wp2_with (first | ((with_reducible refine y15 (f := 68) rfl ?_); refine y17 (some 20) rfl rfl Tryz.func68 (by kernel_rfl) rfl #[.string (rdOf ByteArray.empty l0_0 x3_1)] rfl qy0 ?_; (with_reducible refine (z3_.calls k1 (rdOf ByteArray.empty l0_0 x3_1) t196 _ A9.out).mono ?_); rintro e w14 ⟨rfl,hb⟩; refine ⟨_,rfl, ?_⟩; replace BK194 := y0.mk (qK BK194.out hb); replace HB := y0.mk (y6 qb hb); (try clear hb); (try clear hb2); (try clear hk); (try clear hi)))
      go_roundg k1
      case measure => have := HK1.out; omega
      exact ⟨(wrap64 (x3_1 + 1)),qy2,H',⟨by have := HK1.out; omega⟩,⟨qk BK194.out⟩,⟨qb⟩⟩
    ·rw [if_neg c7] at H
     have c7b0 := decide_eq_false c7
     clear c7
     obtain rfl := Option.some.inj H
     obtain ⟨hcz15_0,hfz15_0⟩ := qz1 BK194.out
     go_wp2
     go_ret
     exact ⟨by first | rfl | (simp [y13,y14] <;> rfl) | (simp [*,y13,y14] <;> rfl),qb⟩
def spec_l01Sign.f (a0 : Int) : Option (Int) := if a0 < 0 then (some (-1)) else (if a0 > 0 then (some 1) else (some 0))
set_option maxHeartbeats 8000000 in
set_option maxRecDepth 100000 in
theorem spec_l01Sign.calls (a0 : Int) (r : Int) (w : World) (h : spec_l01Sign.f a0 = some r) :
  Calls Tryz.prog 83 #[.int .i64 a0] w fun e w' => e = .returned (.int .i64 r) ∧ y1 w w' := by
 have H : (if a0 < 0 then (some (-1)) else (if a0 > 0 then (some 1) else (some 0))) = some r := h
 clear h
 by_cases c2 : a0 < 0
 ·rw [if_pos c2] at H
  have c2b0 := decide_eq_true c2
  clear c2
  obtain rfl := Option.some.inj H
  go_enter Tryz.func83,Tryz.ntmps83
  go_wp2
  go_ret
  exact ⟨by first | rfl | (simp; done) | (simp [*]; done),by repeat (first | exact y1.refl _ | apply y1.step)⟩
 ·rw [if_neg c2] at H
  have c2b0 := decide_eq_false c2
  clear c2
  by_cases c3 : a0 > 0
  ·rw [if_pos c3] at H
   have c3b0 : decide (0 < a0) = true := decide_eq_true c3
   clear c3
   obtain rfl := Option.some.inj H
   go_enter Tryz.func83,Tryz.ntmps83
   go_wp2
   go_ret
   exact ⟨by first | rfl | (simp; done) | (simp [*]; done),by repeat (first | exact y1.refl _ | apply y1.step)⟩
  ·rw [if_neg c3] at H
   have c3b0 : decide (0 < a0) = false := decide_eq_false c3
   clear c3
   obtain rfl := Option.some.inj H
   go_enter Tryz.func83,Tryz.ntmps83
   go_wp2
   go_ret
   exact ⟨by first | rfl | (simp; done) | (simp [*]; done),by repeat (first | exact y1.refl _ | apply y1.step)⟩
def spec_l01Texts.f (a0 : ByteArray) (a1 : ByteArray) : Option (Int) := if (Op.bytesLess a0.toList a1.toList) = true then (some (-1)) else (if (Op.bytesLess a1.toList a0.toList) = true then (some 1) else (some 0))
theorem spec_l01Texts.bl : ∀ x y : List UInt8,(!(Op.bytesLess x y || x == y)) = Op.bytesLess y x
 | [],[] => rfl
 | [],b :: y => rfl
 | a :: x,[] => rfl
 | a :: x,b :: y => by
  have ih := spec_l01Texts.bl x y
  have e1 : (decide (a < b)) = (decide (a.toNat < b.toNat)) := rfl
  have e2 : (decide (b < a)) = (decide (b.toNat < a.toNat)) := rfl
  rw [Op.bytesLess,Op.bytesLess,e1,e2,← ih]
  by_cases h : a = b
  ·subst h
   simp
  ·have hn : a.toNat ≠ b.toNat := fun h' => h (UInt8.toNat_inj.1 h')
   have h1 : (a == b) = false := by simpa using h
   have h2 : (b == a) = false := by simpa using fun h' => h (Eq.symm h')
   have h3 : ((a :: x) == (b :: y)) = false := by simp [h]
   rw [h1,h2,h3]
   by_cases hl : a.toNat < b.toNat
   ·have : ¬ b.toNat < a.toNat := by omega
    simp [hl,this]
   ·have : b.toNat < a.toNat := by omega
    simp [hl,this]
theorem spec_l01Texts.gtr (t : TypeId) (a b : ByteArray) : binOp .gtr t (.string a) (.string b) = pure (.bool (Op.bytesLess b.toList a.toList)) := by
 rw [← spec_l01Texts.bl]
 simp [binOp,Op.stringOp]
attribute [local go_sem] spec_l01Texts.gtr
set_option maxHeartbeats 8000000 in
set_option maxRecDepth 100000 in
theorem spec_l01Texts.calls (a0 : ByteArray) (a1 : ByteArray) (r : Int) (w : World) (h : spec_l01Texts.f a0 a1 = some r) :
  Calls Tryz.prog 102 #[.string a0,.string a1] w fun e w' => e = .returned (.int .i64 r) ∧ y1 w w' := by
 have H : (if (Op.bytesLess a0.toList a1.toList) = true then (some (-1)) else (if (Op.bytesLess a1.toList a0.toList) = true then (some 1) else (some 0))) = some r := h
 clear h
 by_cases c3 : (Op.bytesLess a0.toList a1.toList) = true
 ·rw [if_pos c3] at H
  have c3b0 : (Op.bytesLess a0.toList a1.toList) = true := c3
  clear c3
  obtain rfl := Option.some.inj H
  go_enter Tryz.func102,Tryz.ntmps102
  go_wp2
  go_ret
  exact ⟨by first | rfl | (simp; done) | (simp [*]; done),by repeat (first | exact y1.refl _ | apply y1.step)⟩
 ·rw [if_neg c3] at H
  have c3b0 : (Op.bytesLess a0.toList a1.toList) = false := by simpa using c3
  clear c3
  by_cases c4 : (Op.bytesLess a1.toList a0.toList) = true
  ·rw [if_pos c4] at H
   have c4b0 : (Op.bytesLess a1.toList a0.toList) = true := c4
   clear c4
   obtain rfl := Option.some.inj H
   go_enter Tryz.func102,Tryz.ntmps102
   go_wp2
   go_ret
   exact ⟨by first | rfl | (simp; done) | (simp [*]; done),by repeat (first | exact y1.refl _ | apply y1.step)⟩
  ·rw [if_neg c4] at H
   have c4b0 : (Op.bytesLess a1.toList a0.toList) = false := by simpa using c4
   clear c4
   obtain rfl := Option.some.inj H
   go_enter Tryz.func102,Tryz.ntmps102
   go_wp2
   go_ret
   exact ⟨by first | rfl | (simp; done) | (simp [*]; done),by repeat (first | exact y1.refl _ | apply y1.step)⟩
def spec_TermParts.f (k : Nat) (a0 : ByteArray) : Option (ByteArray × List ByteArray) := (z3_.f k a0).bind fun t197 => (if t197 = 0 then (some ((⟨#[]⟩ : ByteArray),(([] : List ByteArray)))) else (if t197 = 3 then ((z4_.f k a0).bind fun bt201 => (some (bt201.1,bt201.2.1))) else (some (a0,(([] : List ByteArray))))))
set_option maxHeartbeats 8000000 in
set_option maxRecDepth 100000 in
theorem spec_TermParts.calls (k : Nat) (a0 : ByteArray) (r1 : ByteArray) (r2 : List ByteArray) (w : World) (h : spec_TermParts.f k a0 = some (r1,r2)) :
  Calls Tryz.prog 103 #[.string a0] w fun e w' => ∃ v1_ : Value,e = .returned (.tuple #[.string r1,v1_]) ∧ Kd.R Kd.string 9 w' w.heap.size (fun _ => True) v1_ r2 ∧ Below w.heap.size w w' := by
 have HB := y0.mk (Below.refl w.heap.size w)
 have H : ((z3_.f k a0).bind fun t197 => (if t197 = 0 then (some ((⟨#[]⟩ : ByteArray),(([] : List ByteArray)))) else (if t197 = 3 then ((z4_.f k a0).bind fun bt201 => (some (bt201.1,bt201.2.1))) else (some (a0,(([] : List ByteArray))))))) = some (r1,r2) := h
 clear h
 obtain ⟨t197,A2,H⟩ := qB H
 by_cases c3 : t197 = 0
 ·rw [if_pos c3] at H
  have c3b0 : (t197 == 0) = true := beq_iff_eq.mpr c3
  have c3b1 : (t197 != 0) = false := bne_eq_false_iff_eq.mpr c3
  clear c3
  obtain ⟨y198,hy198⟩ : ∃ y_ : List ByteArray,y_ = (([] : List ByteArray)) := ⟨_,rfl⟩
  replace H : (some ((⟨#[]⟩ : ByteArray),y198)) = some (r1,r2) := by first | (rw [hy198]; with_reducible exact H) | (have H2_ := (Option.bind_some _ _).symm.trans H; rw [hy198]; with_reducible exact H2_) | (have H2_ := (Option.bind_some _ _).symm.trans H; with_reducible exact H2_) | with_reducible exact H | (rw [hy198]; exact H) | exact H
  have Ny198 := y0.mk hy198
  clear hy198
  simp only [Option.some.injEq,Prod.mk.injEq] at H
  obtain ⟨rfl,rfl⟩ := H
  go_enter Tryz.func103,Tryz.ntmps103
  go_wp2_with (first | ((with_reducible refine y15 (f := 68) rfl ?_); refine y17 (some 8) rfl rfl Tryz.func68 (by kernel_rfl) rfl #[.string a0] rfl qy0 ?_; (with_reducible refine (z3_.calls k a0 t197 _ A2.out).mono ?_); rintro e w4 ⟨rfl,hb⟩; refine ⟨_,rfl, ?_⟩; replace HB := y0.mk (y6 qb hb); (try clear hb); (try clear hb2); (try clear hk); (try clear hi)) | ((with_reducible refine y16 (N := 11) rfl ?_); refine Kd.R_lit Kd.string _ 9 ?hg (N := 11) ?hd (xs := ([] : List ByteArray)) (inner := []) (ok := fun _ => True) (okp := fun _ => True) ?hr ?hp (fun _ hk => hk) trivial (Below.refl _ _) (Nat.le_refl _) (by simp) ?_; (case hd => rfl); (case hg => rfl); (case hr => first | (go_simp; done) | (go_simp; rfl)); (case hp => exact (Reps.none _ _)); intro v199 w5 ho6 hb hg_ hnew_; clear hg_ hnew_; (first | rw [← Ny198.out] at ho6 | (simp only [Int.reduceToNat] at ho6; rw [← Ny198.out] at ho6)); have HO200 := y0.mk (Kd.R_lower ho6 (y5 qb)); replace HB := y0.mk (y6 qb hb); clear hb ho6))
  go_ret2
  exact ⟨_,by first | rfl | (simp [y13,y14] <;> rfl) | (simp [*,y13,y14] <;> rfl),by (with_reducible repeat (first | apply Kd.R_alloc | apply Kd.R_drewN | apply Kd.R_drew)); exact HO200.out,qb⟩
 ·rw [if_neg c3] at H
  have c3b0 : (t197 == 0) = false := beq_eq_false_iff_ne.mpr c3
  have c3b1 : (t197 != 0) = true := bne_iff_ne.mpr c3
  by_cases c7 : t197 = 3
  ·rw [if_pos c7] at H
   have c7b0 : (t197 == 3) = true := beq_iff_eq.mpr c7
   have c7b1 : (t197 != 3) = false := bne_eq_false_iff_eq.mpr c7
   clear c7
   obtain ⟨⟨t201,t202,t203⟩,A8,H⟩ := qB H
   replace H : (some (t201,t202)) = some (r1,r2) := H
   simp only [Option.some.injEq,Prod.mk.injEq] at H
   obtain ⟨rfl,rfl⟩ := H
   go_enter Tryz.func103,Tryz.ntmps103
   go_wp2_with (first | ((with_reducible refine y15 (f := 68) rfl ?_); refine y17 (some 8) rfl rfl Tryz.func68 (by kernel_rfl) rfl #[.string a0] rfl qy0 ?_; (with_reducible refine (z3_.calls k a0 t197 _ A2.out).mono ?_); rintro e w9 ⟨rfl,hb⟩; refine ⟨_,rfl, ?_⟩; replace HB := y0.mk (y6 qb hb); (try clear hb); (try clear hb2); (try clear hk); (try clear hi)) | ((with_reducible refine y15 (f := 93) rfl ?_); refine y17 (some 16) rfl rfl Tryz.func93 (by kernel_rfl) rfl #[.string a0] rfl qy0 ?_; (with_reducible refine (z4_.calls k a0 t201 t202 t203 _ A8.out).mono ?_); rintro e w10 ⟨v204,rfl,ho0,hb⟩; refine ⟨_,rfl, ?_⟩; have HO205 := y0.mk (Kd.R_lower ho0 (y5 qb)); replace HB := y0.mk (y6 qb hb); (try clear hb); (try clear hb2); (try clear hk); (try clear hi); (try clear ho0)))
   go_ret2
   exact ⟨_,by first | rfl | (simp [y13,y14] <;> rfl) | (simp [*,y13,y14] <;> rfl),by (with_reducible repeat (first | apply Kd.R_alloc | apply Kd.R_drewN | apply Kd.R_drew)); exact HO205.out,qb⟩
  ·rw [if_neg c7] at H
   have c7b0 : (t197 == 3) = false := beq_eq_false_iff_ne.mpr c7
   have c7b1 : (t197 != 3) = true := bne_iff_ne.mpr c7
   obtain ⟨y206,hy206⟩ : ∃ y_ : List ByteArray,y_ = (([] : List ByteArray)) := ⟨_,rfl⟩
   replace H : (some (a0,y206)) = some (r1,r2) := by first | (rw [hy206]; with_reducible exact H) | (have H2_ := (Option.bind_some _ _).symm.trans H; rw [hy206]; with_reducible exact H2_) | (have H2_ := (Option.bind_some _ _).symm.trans H; with_reducible exact H2_) | with_reducible exact H | (rw [hy206]; exact H) | exact H
   have Ny206 := y0.mk hy206
   clear hy206
   simp only [Option.some.injEq,Prod.mk.injEq] at H
   obtain ⟨rfl,rfl⟩ := H
   go_enter Tryz.func103,Tryz.ntmps103
   go_wp2_with (first | ((with_reducible refine y15 (f := 68) rfl ?_); refine y17 (some 8) rfl rfl Tryz.func68 (by kernel_rfl) rfl #[.string a0] rfl qy0 ?_; (with_reducible refine (z3_.calls k a0 t197 _ A2.out).mono ?_); rintro e w11 ⟨rfl,hb⟩; refine ⟨_,rfl, ?_⟩; replace HB := y0.mk (y6 qb hb); (try clear hb); (try clear hb2); (try clear hk); (try clear hi)) | ((with_reducible refine y16 (N := 23) rfl ?_); refine Kd.R_lit Kd.string _ 9 ?hg (N := 23) ?hd (xs := ([] : List ByteArray)) (inner := []) (ok := fun _ => True) (okp := fun _ => True) ?hr ?hp (fun _ hk => hk) trivial (Below.refl _ _) (Nat.le_refl _) (by simp) ?_; (case hd => rfl); (case hg => rfl); (case hr => first | (go_simp; done) | (go_simp; rfl)); (case hp => exact (Reps.none _ _)); intro v207 w12 ho13 hb hg_ hnew_; clear hg_ hnew_; (first | rw [← Ny206.out] at ho13 | (simp only [Int.reduceToNat] at ho13; rw [← Ny206.out] at ho13)); have HO208 := y0.mk (Kd.R_lower ho13 (y5 qb)); replace HB := y0.mk (y6 qb hb); clear hb ho13))
   go_ret2
   exact ⟨_,by first | rfl | (simp [y13,y14] <;> rfl) | (simp [*,y13,y14] <;> rfl),by (with_reducible repeat (first | apply Kd.R_alloc | apply Kd.R_drewN | apply Kd.R_drew)); exact HO208.out,qb⟩
end Go.Proofs.YtkajecadkkgfmaaGreatDoor.Pe
end
section
namespace Go.Proofs.YtkajecadkkgfmaaGreatDoor.Pe
open Go.RowKit Go.Proofs.YtkajecadkkgfmaaGreatDoorW.PrintWords Go.Proofs.YtkajecadkkgfmaaGreatDoorW.PrintLast Go.Proofs.YtkajecadkkgfmaaGreatDoorW.PrintMore
attribute [local go_sem] max2_int min2_int max_two min_two max_three min_three max_four min_four   -- for this text's walks alone
set_option linter.unusedVariables false
set_option linter.unusedSimpArgs false
mutual
def spec_l01Cmp.l0 : Nat → List ByteArray → List ByteArray → Int → Option (Int)
 | 0,_,_,_ => none
 | k + 1,x12,x14,x15 => if x15 < (x12.length : Int) then (if 0 ≤ x15 then (if x15 < (x14.length : Int) then ((spec_l01Cmp.f k (rdOf ByteArray.empty x12 x15) (rdOf ByteArray.empty x14 x15)).bind fun t230 => (if t230 = 0 then (spec_l01Cmp.l0 k x12 x14 (wrap64 (x15 + 1))) else (some t230))) else (none)) else (none)) else (some 0)
def spec_l01Cmp.f : Nat → ByteArray → ByteArray → Option (Int)
 | 0,_,_ => none
 | k + 1,a0,a1 => (z3_.f k a0).bind fun t209 => ((z3_.f k a1).bind fun t210 => (if t209 = t210 then (if t209 = 1 then ((z5_.f k a0).bind fun bt212 => ((z5_.f k a1).bind fun bt214 => ((spec_l01Sign.f (wrap64 (bt212.1 - bt214.1))).bind fun t216 => (some t216)))) else (if t209 = 2 then (if 1 ≤ (wrap64 ((a0.size : Int) - 1)) then (if (wrap64 ((a0.size : Int) - 1)) ≤ (a0.size : Int) then (if 1 ≤ (wrap64 ((a1.size : Int) - 1)) then (if (wrap64 ((a1.size : Int) - 1)) ≤ (a1.size : Int) then ((spec_l01Texts.f (a0.extract 1 ((wrap64 ((a0.size : Int) - 1)) : Int).toNat) (a1.extract 1 ((wrap64 ((a1.size : Int) - 1)) : Int).toNat)).bind fun t217 => (some t217)) else (none)) else (none)) else (none)) else (none)) else ((spec_TermParts.f k a0).bind fun bt218 => ((spec_TermParts.f k a1).bind fun bt222 => (if bt218.1.toList = bt222.1.toList then (if (bt218.2.length : Int) = (bt222.2.length : Int) then (spec_l01Cmp.l0 k bt218.2 bt222.2 0) else ((spec_l01Sign.f (wrap64 ((bt218.2.length : Int) - (bt222.2.length : Int)))).bind fun t227 => (some t227))) else ((spec_l01Texts.f bt218.1 bt222.1).bind fun t226 => (some t226))))))) else ((spec_l01Sign.f (wrap64 (t209 - t210))).bind fun t211 => (some t211))))
end
def spec_l01Cmp.T10 : Bool × List (List Nat × List Nat) := (true,[([],[]),([],[]),([1],[1]),([2],[2]),([0,3],[0,3]),([],[]),([],[]),([6],[6]),([7],[7]),([5,8],[5,8]),([4,9],[4,9]),([10,10,0,1,2,3,4,5,6,7,8,9,10],[10])])
def spec_l01Cmp.B10 : List Nat := [0,0,2,6,15,0,0,64,192,480,1023,2047]
theorem spec_l01Cmp.tab10 : rtab .any (opsOf Tryz.f82 10) = spec_l01Cmp.T10 := by kernel_rfl
theorem spec_l01Cmp.bits10 : waitsOk spec_l01Cmp.T10.2 spec_l01Cmp.B10 = true := by kernel_rfl
def spec_l01Cmp.T20 : Bool × List (List Nat × List Nat) := (true,[([],[]),([],[]),([0,1],[0,1]),([2],[2]),([],[]),([],[]),([4,5],[4,5]),([6],[6]),([3,7],[3,7]),([8,8,0,1,2,3,4,5,6,7,8],[8])])
def spec_l01Cmp.B20 : List Nat := [0,0,3,7,0,0,48,112,255,511]
theorem spec_l01Cmp.tab20 : rtab .any (opsOf Tryz.f82 20) = spec_l01Cmp.T20 := by kernel_rfl
theorem spec_l01Cmp.bits20 : waitsOk spec_l01Cmp.T20.2 spec_l01Cmp.B20 = true := by kernel_rfl
set_option maxHeartbeats 8000000 in
set_option maxRecDepth 100000 in
theorem spec_l01Cmp.calls (k : Nat) : ∀ (a0 : ByteArray) (a1 : ByteArray) (r : Int) (w : World) (h : spec_l01Cmp.f k a0 a1 = some r),
  Calls Tryz.prog 82 #[.string a0,.string a1] w fun e w' => e = .returned (.int .i64 r) ∧ Below w.heap.size w w' := by
 induction k using Nat.strongRecOn with
 | _ k ih =>
 intro a0 a1 r w h
 cases k with
 | zero => exact absurd h (by simp [spec_l01Cmp.f])
 | succ k =>
 simp only [spec_l01Cmp.f] at h
 have HB := y0.mk (Below.refl w.heap.size w)
 have H : ((z3_.f k a0).bind fun t209 => ((z3_.f k a1).bind fun t210 => (if t209 = t210 then (if t209 = 1 then ((z5_.f k a0).bind fun bt212 => ((z5_.f k a1).bind fun bt214 => ((spec_l01Sign.f (wrap64 (bt212.1 - bt214.1))).bind fun t216 => (some t216)))) else (if t209 = 2 then (if 1 ≤ (wrap64 ((a0.size : Int) - 1)) then (if (wrap64 ((a0.size : Int) - 1)) ≤ (a0.size : Int) then (if 1 ≤ (wrap64 ((a1.size : Int) - 1)) then (if (wrap64 ((a1.size : Int) - 1)) ≤ (a1.size : Int) then ((spec_l01Texts.f (a0.extract 1 ((wrap64 ((a0.size : Int) - 1)) : Int).toNat) (a1.extract 1 ((wrap64 ((a1.size : Int) - 1)) : Int).toNat)).bind fun t217 => (some t217)) else (none)) else (none)) else (none)) else (none)) else ((spec_TermParts.f k a0).bind fun bt218 => ((spec_TermParts.f k a1).bind fun bt222 => (if bt218.1.toList = bt222.1.toList then (if (bt218.2.length : Int) = (bt222.2.length : Int) then (spec_l01Cmp.l0 k bt218.2 bt222.2 0) else ((spec_l01Sign.f (wrap64 ((bt218.2.length : Int) - (bt222.2.length : Int)))).bind fun t227 => (some t227))) else ((spec_l01Texts.f bt218.1 bt222.1).bind fun t226 => (some t226))))))) else ((spec_l01Sign.f (wrap64 (t209 - t210))).bind fun t211 => (some t211))))) = some r := h
 clear h
 obtain ⟨t209,A3,H⟩ := qB H
 obtain ⟨t210,A4,H⟩ := qB H
 by_cases c5 : t209 = t210
 ·rw [if_pos c5] at H
  have c5b0 : (t209 == t210) = true := beq_iff_eq.mpr c5
  have c5b1 : (t209 != t210) = false := bne_eq_false_iff_eq.mpr c5
  clear c5
  by_cases c6 : t209 = 1
  ·rw [if_pos c6] at H
   have c6b0 : (t209 == 1) = true := beq_iff_eq.mpr c6
   have c6b1 : (t209 != 1) = false := bne_eq_false_iff_eq.mpr c6
   clear c6
   obtain ⟨⟨t212,t213⟩,A7,H⟩ := qB H
   replace H : ((z5_.f k a1).bind fun bt214 => ((spec_l01Sign.f (wrap64 (t212 - bt214.1))).bind fun t216 => (some t216))) = some r := H
   obtain ⟨⟨t214,t215⟩,A8,H⟩ := qB H
   replace H : ((spec_l01Sign.f (wrap64 (t212 - t214))).bind fun t216 => (some t216)) = some r := H
   obtain ⟨t216,A9,H⟩ := qB H
   obtain rfl := Option.some.inj H
   go_enter Tryz.func82,Tryz.ntmps82
   go_wp2_with (first | ((with_reducible refine y15 (f := 68) rfl ?_); refine y17 (some 18) rfl rfl Tryz.func68 (by kernel_rfl) rfl #[.string a0] rfl qy0 ?_; (with_reducible refine (z3_.calls k a0 t209 _ A3.out).mono ?_); rintro e w10 ⟨rfl,hb⟩; refine ⟨_,rfl, ?_⟩; replace HB := y0.mk (y6 qb hb); (try clear hb); (try clear hb2); (try clear hk); (try clear hi)) | ((with_reducible refine y15 (f := 68) rfl ?_); refine y17 (some 20) rfl rfl Tryz.func68 (by kernel_rfl) rfl #[.string a1] rfl qy0 ?_; (with_reducible refine (z3_.calls k a1 t210 _ A4.out).mono ?_); rintro e w11 ⟨rfl,hb⟩; refine ⟨_,rfl, ?_⟩; replace HB := y0.mk (y6 qb hb); (try clear hb); (try clear hb2); (try clear hk); (try clear hi)) | ((with_reducible refine y15 (f := 92) rfl ?_); refine y17 (some 33) rfl rfl Tryz.func92 (by kernel_rfl) rfl #[.string a0] rfl qy0 ?_; (with_reducible refine (z5_.calls k a0 t212 t213 _ A7.out).mono ?_); rintro e w12 ⟨rfl,hb⟩; refine ⟨_,rfl, ?_⟩; replace HB := y0.mk (y6 qb hb); (try clear hb); (try clear hb2); (try clear hk); (try clear hi)) | ((with_reducible refine y15 (f := 92) rfl ?_); refine y17 (some 38) rfl rfl Tryz.func92 (by kernel_rfl) rfl #[.string a1] rfl qy0 ?_; (with_reducible refine (z5_.calls k a1 t214 t215 _ A8.out).mono ?_); rintro e w13 ⟨rfl,hb⟩; refine ⟨_,rfl, ?_⟩; replace HB := y0.mk (y6 qb hb); (try clear hb); (try clear hb2); (try clear hk); (try clear hi)) | ((with_reducible refine y15 (f := 83) rfl ?_); refine y17 (some 44) rfl rfl Tryz.func83 (by kernel_rfl) rfl #[.int .i64 (wrap64 (t212 - t214))] rfl qy0 ?_; (with_reducible refine (spec_l01Sign.calls (wrap64 (t212 - t214)) t216 _ A9.out).mono ?_); rintro e w' ⟨rfl,⟨nd,rfl⟩⟩; refine ⟨_,rfl, ?_⟩))
   go_ret
   exact ⟨by first | rfl | (simp [y13,y14] <;> rfl) | (simp [*,y13,y14] <;> rfl),qb⟩
  ·rw [if_neg c6] at H
   have c6b0 : (t209 == 1) = false := beq_eq_false_iff_ne.mpr c6
   have c6b1 : (t209 != 1) = true := bne_iff_ne.mpr c6
   by_cases c14 : t209 = 2
   ·rw [if_pos c14] at H
    have c14b0 : (t209 == 2) = true := beq_iff_eq.mpr c14
    have c14b1 : (t209 != 2) = false := bne_eq_false_iff_eq.mpr c14
    clear c14
    obtain ⟨c15,H⟩ := qo H
    have c15b0 := eq_true c15
    have c15b1 := decide_eq_true c15
    clear c15
    obtain ⟨c16,H⟩ := qo H
    have c16b0 := eq_true c16
    have c16b1 := decide_eq_true c16
    clear c16
    obtain ⟨c17,H⟩ := qo H
    have c17b0 := eq_true c17
    have c17b1 := decide_eq_true c17
    clear c17
    obtain ⟨c18,H⟩ := qo H
    have c18b0 := eq_true c18
    have c18b1 := decide_eq_true c18
    clear c18
    obtain ⟨t217,A19,H⟩ := qB H
    obtain rfl := Option.some.inj H
    go_enter Tryz.func82,Tryz.ntmps82
    try go_wp2_with (first | ((with_reducible refine y15 (f := 68) rfl ?_); refine y17 (some 18) rfl rfl Tryz.func68 (by kernel_rfl) rfl #[.string a0] rfl qy0 ?_; (with_reducible refine (z3_.calls k a0 t209 _ A3.out).mono ?_); rintro e w20 ⟨rfl,hb⟩; refine ⟨_,rfl, ?_⟩; replace HB := y0.mk (y6 qb hb); (try clear hb); (try clear hb2); (try clear hk); (try clear hi)) | ((with_reducible refine y15 (f := 68) rfl ?_); refine y17 (some 20) rfl rfl Tryz.func68 (by kernel_rfl) rfl #[.string a1] rfl qy0 ?_; (with_reducible refine (z3_.calls k a1 t210 _ A4.out).mono ?_); rintro e w21 ⟨rfl,hb⟩; refine ⟨_,rfl, ?_⟩; replace HB := y0.mk (y6 qb hb); (try clear hb); (try clear hb2); (try clear hk); (try clear hi)))
    replace HB := y0.mk (y4 HB.out)
    refine start_ (n := 12) (S := fun w' => True) (ds := []) (fl_ 12 0) (by kernel_rfl) rfl rfl trivial (fun hHeld => ?_); refine with_tabW spec_l01Cmp.tab10 spec_l01Cmp.bits10 (fun HT_ HW_ => ?_)
    generalize w21.drew = w22 at HB hHeld ⊢
    refine qp 0 47 (fl_ 12 1) ?_
    refine qp 1 48 (fl_ 12 3) ?_
    refine qp 2 49 (fl_ 12 7) ?_
    refine qp 3 50 (fl_ 12 15) ?_
    refine qp 4 51 (fl_ 12 31) ?_
    refine qp 5 52 (fl_ 12 63) ?_
    refine qp 6 53 (fl_ 12 127) ?_
    refine qp 7 54 (fl_ 12 255) ?_
    refine qp 8 55 (fl_ 12 511) ?_
    refine qp 9 56 (fl_ 12 1023) ?_
    refine one_ (i := 10) (N := some 57) (fl_ 12 2047) rfl rfl (one_of HT_.out (by kernel_rfl)) (by decide) (fun K hK => ?_)
    refine goes_ Tryz.func102 (by kernel_rfl) rfl #[.string (a0.extract 1 ((wrap64 ((a0.size : Int) - 1)) : Int).toNat),.string (a1.extract 1 ((wrap64 ((a1.size : Int) - 1)) : Int).toNat)] (by rfl) rfl rfl qy0 ?_
    with_reducible refine (spec_l01Texts.calls (a0.extract 1 ((wrap64 ((a0.size : Int) - 1)) : Int).toNat) (a1.extract 1 ((wrap64 ((a1.size : Int) - 1)) : Int).toNat) t217 _ A19.out).mono ?_
    rintro e w' ⟨rfl,⟨nd,rfl⟩⟩
    refine ⟨_,rfl, ?_⟩
    refine hK.out _ _ trivial (fun hHeld => ?_)
    clear hK K
    refine norm_ (a' := ?_) ?_ ?_
    rotate_left
    ·show Act.put _ (some 57) _ = _
     simp only [Act.put,qS_,qZ_,qC_,y19,y18]
     rfl
    refine qp 11 4 (fl_ 12 4095) ?_
    refine done_ (done_of HT_.out (by kernel_rfl)) ?_
    try go_wp2
    go_ret
    exact ⟨by first | rfl | (simp [y13,y14] <;> rfl) | (simp [*,y13,y14] <;> rfl),qb⟩
   ·rw [if_neg c14] at H
    have c14b0 : (t209 == 2) = false := beq_eq_false_iff_ne.mpr c14
    have c14b1 : (t209 != 2) = true := bne_iff_ne.mpr c14
    obtain ⟨⟨t218,t219⟩,A23,H⟩ := qB H
    replace H : ((spec_TermParts.f k a1).bind fun bt222 => (if t218.toList = bt222.1.toList then (if (t219.length : Int) = (bt222.2.length : Int) then (spec_l01Cmp.l0 k t219 bt222.2 0) else ((spec_l01Sign.f (wrap64 ((t219.length : Int) - (bt222.2.length : Int)))).bind fun t227 => (some t227))) else ((spec_l01Texts.f t218 bt222.1).bind fun t226 => (some t226)))) = some r := H
    obtain ⟨⟨t222,t223⟩,A24,H⟩ := qB H
    replace H : (if t218.toList = t222.toList then (if (t219.length : Int) = (t223.length : Int) then (spec_l01Cmp.l0 k t219 t223 0) else ((spec_l01Sign.f (wrap64 ((t219.length : Int) - (t223.length : Int)))).bind fun t227 => (some t227))) else ((spec_l01Texts.f t218 t222).bind fun t226 => (some t226))) = some r := H
    by_cases c25 : t218.toList = t222.toList
    ·rw [if_pos c25] at H
     have c25b0 : (t218.toList == t222.toList) = true := beq_iff_eq.mpr c25
     have c25b1 : (t218.toList != t222.toList) = false := bne_eq_false_iff_eq.mpr c25
     clear c25
     by_cases c26 : (t219.length : Int) = (t223.length : Int)
     ·rw [if_pos c26] at H
      have c26b0 : ((t219.length : Int) == (t223.length : Int)) = true := beq_iff_eq.mpr c26
      have c26b1 : ((t219.length : Int) != (t223.length : Int)) = false := bne_eq_false_iff_eq.mpr c26
      have c26b2 : (t219.length == t223.length) = true := by first | simpa using c26 | (simp at c26 ⊢; omega)
      clear c26
      have H' := y0.mk H
      clear H
      go_enter Tryz.func82,Tryz.ntmps82
      go_wp2_with (first | ((with_reducible refine y15 (f := 68) rfl ?_); refine y17 (some 18) rfl rfl Tryz.func68 (by kernel_rfl) rfl #[.string a0] rfl qy0 ?_; (with_reducible refine (z3_.calls k a0 t209 _ A3.out).mono ?_); rintro e w27 ⟨rfl,hb⟩; refine ⟨_,rfl, ?_⟩; replace HB := y0.mk (y6 qb hb); (try clear hb); (try clear hb2); (try clear hk); (try clear hi)) | ((with_reducible refine y15 (f := 68) rfl ?_); refine y17 (some 20) rfl rfl Tryz.func68 (by kernel_rfl) rfl #[.string a1] rfl qy0 ?_; (with_reducible refine (z3_.calls k a1 t210 _ A4.out).mono ?_); rintro e w28 ⟨rfl,hb⟩; refine ⟨_,rfl, ?_⟩; replace HB := y0.mk (y6 qb hb); (try clear hb); (try clear hb2); (try clear hk); (try clear hi)) | ((with_reducible refine y15 (f := 103) rfl ?_); refine y17 (some 60) rfl rfl Tryz.func103 (by kernel_rfl) rfl #[.string a0] rfl qy0 ?_; (with_reducible refine (spec_TermParts.calls k a0 t218 t219 _ A23.out).mono ?_); rintro e w29 ⟨v220,rfl,ho0,hb⟩; refine ⟨_,rfl, ?_⟩; have HO221 := y0.mk (Kd.R_lower ho0 (y5 qb)); replace HB := y0.mk (y6 qb hb); (try clear hb); (try clear hb2); (try clear hk); (try clear hi); (try clear ho0)) | ((with_reducible refine y15 (f := 103) rfl ?_); refine y17 (some 65) rfl rfl Tryz.func103 (by kernel_rfl) rfl #[.string a1] rfl qy0 ?_; (with_reducible refine (spec_TermParts.calls k a1 t222 t223 _ A24.out).mono ?_); rintro e w30 ⟨v224,rfl,ho0,hb⟩; refine ⟨_,rfl, ?_⟩; have HO225 := y0.mk (Kd.R_lower (Kd.R_new' ho0 (Kd.R_lt (qR HO221.out))) (y5 qb)); replace HO221 := y0.mk (Kd.R_elder' (qR HO221.out) (Kd.R_base ho0) hb); replace HB := y0.mk (y6 qb hb); (try clear hb); (try clear hb2); (try clear hk); (try clear hi); (try clear ho0); obtain ⟨Ao31,co31,eo31⟩ := Kd.R_slice HO221.out; subst eo31; obtain ⟨Ao32,co32,eo32⟩ := Kd.R_slice HO225.out; subst eo32))
      go_loopg [15] k (fun kq v15 w' => ∃ (x15_1 : Int),v15 = .int .i64 x15_1 ∧ y0 (spec_l01Cmp.l0 kq t219 t223 x15_1 = some r) ∧ y0 (kq ≤ k) ∧ y0 (Kd.R Kd.string 9 w' w.heap.size (fun k_ => some k_ ≠ ((.slice Ao32 t223.length co32) : Value).ownBlock) (.slice Ao31 t219.length co31) t219) ∧ y0 (Kd.R Kd.string 9 w' w.heap.size (fun k_ => some k_ ≠ ((.slice Ao31 t219.length co31) : Value).ownBlock) (.slice Ao32 t223.length co32) t223) ∧ y0 (Below w.heap.size w w'))
      case atStart => exact ⟨(0),qy2,H',⟨Nat.le_refl _⟩,⟨qR (Kd.R_mono HO221.out (fun _ hk => hk.2))⟩,⟨qR (Kd.R_mono HO225.out (fun _ hk => hk.2))⟩,⟨qb⟩⟩
      case round =>
       clear H'
       (try clear c5b0 c5b1 c6b0 c6b1 c14b0 c14b1 c25b0 c25b1 c26b0 c26b1 c26b2)
       obtain ⟨x15_1,rfl,HA,HK1,HO_12,HO_14,HB⟩ := hrel
       cases gk with
       | zero => exact absurd HA.out (by simp [spec_l01Cmp.l0])
       | succ k1 =>
        have H := HA.out
        clear HA
        simp only [spec_l01Cmp.l0] at H
        by_cases c33 : x15_1 < (t219.length : Int)
        ·rw [if_pos c33] at H
         have c33b0 := decide_eq_true c33
         clear c33
         obtain ⟨c34,H⟩ := qo H
         have c34b0 : decide (0 ≤ x15_1) = true := decide_eq_true c34
         clear c34
         obtain ⟨c35,H⟩ := qo H
         have c35b0 : decide (x15_1 < (t223.length : Int)) = true := decide_eq_true c35
         clear c35
         obtain ⟨t230,A36,H⟩ := qB H
         by_cases c37 : t230 = 0
         ·rw [if_pos c37] at H
          have c37b0 : (t230 == 0) = true := beq_iff_eq.mpr c37
          have c37b1 : (t230 != 0) = false := bne_eq_false_iff_eq.mpr c37
          clear c37
          have H' := y0.mk H
          clear H
          try go_wp2
          replace HO_12 := y0.mk (Kd.R_drew HO_12.out)
          replace HO_14 := y0.mk (Kd.R_drew HO_14.out)
          replace HB := y0.mk (y4 HB.out)
          have p228 : 0 ≤ (x15_1 : Int) := of_decide_eq_true qy1
          have q228 : x15_1 < (t219.length : Int) := of_decide_eq_true qy1
          obtain ⟨ad228,e228,hx228_0⟩ := Kd.at_string (Kd.R_reads' HO_12.out).2.2 x15_1 p228 q228
          cases e228
          replace p228 := eq_true p228
          replace q228 := eq_true q228
          have p229 : 0 ≤ (x15_1 : Int) := of_decide_eq_true qy1
          have q229 : x15_1 < (t223.length : Int) := of_decide_eq_true qy1
          obtain ⟨ad229,e229,hx229_0⟩ := Kd.at_string (Kd.R_reads' HO_14.out).2.2 x15_1 p229 q229
          cases e229
          replace p229 := eq_true p229
          replace q229 := eq_true q229
          refine start_ (n := 10) (S := fun w' => w'.cell? (ad228.add (x15_1).toNat) = some (.string (rdOf ByteArray.empty t219 x15_1)) ∧ w'.cell? (ad229.add (x15_1).toNat) = some (.string (rdOf ByteArray.empty t223 x15_1))) (ds := []) (fl_ 10 0) (by kernel_rfl) rfl rfl ⟨hx228_0,hx229_0⟩ (fun hHeld => ?_); refine with_tabW spec_l01Cmp.tab20 spec_l01Cmp.bits20 (fun HT_ HW_ => ?_)
          generalize wr.drew = w38 at HO_12 HO_14 HB hx228_0 hx229_0 hHeld ⊢
          refine qp 0 91 (fl_ 10 1) ?_
          refine qp 1 92 (fl_ 10 3) ?_
          refine qp 2 93 (fl_ 10 7) ?_
          refine qp 4 95 (fl_ 10 23) ?_
          refine qp 5 96 (fl_ 10 55) ?_
          refine qp 6 97 (fl_ 10 119) ?_
          refine qt 3 94 (fl_ 10 127) hHeld ?_
          refine qt 7 98 (fl_ 10 255) hHeld ?_
          refine one_ (i := 8) (N := some 99) (fl_ 10 511) rfl rfl (one_of HT_.out (by kernel_rfl)) (by decide) (fun K hK => ?_)
          refine goes_ Tryz.func82 (by kernel_rfl) rfl #[.string (rdOf ByteArray.empty t219 x15_1),.string (rdOf ByteArray.empty t223 x15_1)] (by rfl) rfl rfl qy0 ?_
          with_reducible refine (ih k1 (by have := HK1.out; omega) (rdOf ByteArray.empty t219 x15_1) (rdOf ByteArray.empty t223 x15_1) t230 _ A36.out).mono ?_
          rintro e w39 ⟨rfl,hb⟩
          have HS0_ := (hb.cell (World.block_lt_of_cell? _ _ (hHeld.1))).trans (hHeld.1)
          have HS1_ := (hb.cell (World.block_lt_of_cell? _ _ (hHeld.2))).trans (hHeld.2)
          refine ⟨_,rfl, ?_⟩
          replace HO_12 := y0.mk (Kd.R_below (qR HO_12.out) hb)
          replace HO_14 := y0.mk (Kd.R_below (qR HO_14.out) hb)
          replace HB := y0.mk (y6 qb hb)
          (try clear hb)
          (try clear hb2)
          (try clear hk)
          (try clear hi)
          refine hK.out _ _ ⟨HS0_,HS1_⟩ (fun hHeld => ?_)
          clear hK K
          refine norm_ (a' := ?_) ?_ ?_
          rotate_left
          ·show Act.put _ (some 99) _ = _
           simp only [Act.put,qS_,qZ_,qC_,y19,y18]
           rfl
          refine qp 9 16 (fl_ 10 1023) ?_
          refine done_ (done_of HT_.out (by kernel_rfl)) ?_
          try go_wp2
          go_roundg k1
          case measure => have := HK1.out; omega
          exact ⟨(wrap64 (x15_1 + 1)),qy2,H',⟨by have := HK1.out; omega⟩,⟨qR HO_12.out⟩,⟨qR HO_14.out⟩,⟨qb⟩⟩
         ·rw [if_neg c37] at H
          have c37b0 : (t230 == 0) = false := beq_eq_false_iff_ne.mpr c37
          have c37b1 : (t230 != 0) = true := bne_iff_ne.mpr c37
          obtain rfl := Option.some.inj H
          try go_wp2
          replace HO_12 := y0.mk (Kd.R_drew HO_12.out)
          replace HO_14 := y0.mk (Kd.R_drew HO_14.out)
          replace HB := y0.mk (y4 HB.out)
          have p228 : 0 ≤ (x15_1 : Int) := of_decide_eq_true qy1
          have q228 : x15_1 < (t219.length : Int) := of_decide_eq_true qy1
          obtain ⟨ad228,e228,hx228_0⟩ := Kd.at_string (Kd.R_reads' HO_12.out).2.2 x15_1 p228 q228
          cases e228
          replace p228 := eq_true p228
          replace q228 := eq_true q228
          have p229 : 0 ≤ (x15_1 : Int) := of_decide_eq_true qy1
          have q229 : x15_1 < (t223.length : Int) := of_decide_eq_true qy1
          obtain ⟨ad229,e229,hx229_0⟩ := Kd.at_string (Kd.R_reads' HO_14.out).2.2 x15_1 p229 q229
          cases e229
          replace p229 := eq_true p229
          replace q229 := eq_true q229
          refine start_ (n := 10) (S := fun w' => w'.cell? (ad228.add (x15_1).toNat) = some (.string (rdOf ByteArray.empty t219 x15_1)) ∧ w'.cell? (ad229.add (x15_1).toNat) = some (.string (rdOf ByteArray.empty t223 x15_1))) (ds := []) (fl_ 10 0) (by kernel_rfl) rfl rfl ⟨hx228_0,hx229_0⟩ (fun hHeld => ?_); refine with_tabW spec_l01Cmp.tab20 spec_l01Cmp.bits20 (fun HT_ HW_ => ?_)
          generalize wr.drew = w40 at HO_12 HO_14 HB hx228_0 hx229_0 hHeld ⊢
          refine qp 0 91 (fl_ 10 1) ?_
          refine qp 1 92 (fl_ 10 3) ?_
          refine qp 2 93 (fl_ 10 7) ?_
          refine qp 4 95 (fl_ 10 23) ?_
          refine qp 5 96 (fl_ 10 55) ?_
          refine qp 6 97 (fl_ 10 119) ?_
          refine qt 3 94 (fl_ 10 127) hHeld ?_
          refine qt 7 98 (fl_ 10 255) hHeld ?_
          refine one_ (i := 8) (N := some 99) (fl_ 10 511) rfl rfl (one_of HT_.out (by kernel_rfl)) (by decide) (fun K hK => ?_)
          refine goes_ Tryz.func82 (by kernel_rfl) rfl #[.string (rdOf ByteArray.empty t219 x15_1),.string (rdOf ByteArray.empty t223 x15_1)] (by rfl) rfl rfl qy0 ?_
          with_reducible refine (ih k1 (by have := HK1.out; omega) (rdOf ByteArray.empty t219 x15_1) (rdOf ByteArray.empty t223 x15_1) t230 _ A36.out).mono ?_
          rintro e w41 ⟨rfl,hb⟩
          have HS0_ := (hb.cell (World.block_lt_of_cell? _ _ (hHeld.1))).trans (hHeld.1)
          have HS1_ := (hb.cell (World.block_lt_of_cell? _ _ (hHeld.2))).trans (hHeld.2)
          refine ⟨_,rfl, ?_⟩
          replace HO_12 := y0.mk (Kd.R_below (qR HO_12.out) hb)
          replace HO_14 := y0.mk (Kd.R_below (qR HO_14.out) hb)
          replace HB := y0.mk (y6 qb hb)
          (try clear hb)
          (try clear hb2)
          (try clear hk)
          (try clear hi)
          refine hK.out _ _ ⟨HS0_,HS1_⟩ (fun hHeld => ?_)
          clear hK K
          refine norm_ (a' := ?_) ?_ ?_
          rotate_left
          ·show Act.put _ (some 99) _ = _
           simp only [Act.put,qS_,qZ_,qC_,y19,y18]
           rfl
          refine qp 9 16 (fl_ 10 1023) ?_
          refine done_ (done_of HT_.out (by kernel_rfl)) ?_
          try go_wp2
          go_ret
          exact ⟨by first | rfl | (simp [y13,y14] <;> rfl) | (simp [*,y13,y14] <;> rfl),qb⟩
        ·rw [if_neg c33] at H
         have c33b0 := decide_eq_false c33
         clear c33
         obtain rfl := Option.some.inj H
         go_wp2
         go_ret
         exact ⟨by first | rfl | (simp [y13,y14] <;> rfl) | (simp [*,y13,y14] <;> rfl),qb⟩
     ·rw [if_neg c26] at H
      have c26b0 : ((t219.length : Int) == (t223.length : Int)) = false := beq_eq_false_iff_ne.mpr c26
      have c26b1 : ((t219.length : Int) != (t223.length : Int)) = true := bne_iff_ne.mpr c26
      have c26b2 : (t219.length == t223.length) = false := by first | simpa using c26 | (simp at c26 ⊢; omega)
      obtain ⟨t227,A42,H⟩ := qB H
      obtain rfl := Option.some.inj H
      go_enter Tryz.func82,Tryz.ntmps82
      go_wp2_with (first | ((with_reducible refine y15 (f := 68) rfl ?_); refine y17 (some 18) rfl rfl Tryz.func68 (by kernel_rfl) rfl #[.string a0] rfl qy0 ?_; (with_reducible refine (z3_.calls k a0 t209 _ A3.out).mono ?_); rintro e w43 ⟨rfl,hb⟩; refine ⟨_,rfl, ?_⟩; replace HB := y0.mk (y6 qb hb); (try clear hb); (try clear hb2); (try clear hk); (try clear hi)) | ((with_reducible refine y15 (f := 68) rfl ?_); refine y17 (some 20) rfl rfl Tryz.func68 (by kernel_rfl) rfl #[.string a1] rfl qy0 ?_; (with_reducible refine (z3_.calls k a1 t210 _ A4.out).mono ?_); rintro e w44 ⟨rfl,hb⟩; refine ⟨_,rfl, ?_⟩; replace HB := y0.mk (y6 qb hb); (try clear hb); (try clear hb2); (try clear hk); (try clear hi)) | ((with_reducible refine y15 (f := 103) rfl ?_); refine y17 (some 60) rfl rfl Tryz.func103 (by kernel_rfl) rfl #[.string a0] rfl qy0 ?_; (with_reducible refine (spec_TermParts.calls k a0 t218 t219 _ A23.out).mono ?_); rintro e w45 ⟨v220,rfl,ho0,hb⟩; refine ⟨_,rfl, ?_⟩; have HO221 := y0.mk (Kd.R_lower ho0 (y5 qb)); replace HB := y0.mk (y6 qb hb); (try clear hb); (try clear hb2); (try clear hk); (try clear hi); (try clear ho0)) | ((with_reducible refine y15 (f := 103) rfl ?_); refine y17 (some 65) rfl rfl Tryz.func103 (by kernel_rfl) rfl #[.string a1] rfl qy0 ?_; (with_reducible refine (spec_TermParts.calls k a1 t222 t223 _ A24.out).mono ?_); rintro e w46 ⟨v224,rfl,ho0,hb⟩; refine ⟨_,rfl, ?_⟩; have HO225 := y0.mk (Kd.R_lower (Kd.R_new' ho0 (Kd.R_lt (qR HO221.out))) (y5 qb)); replace HO221 := y0.mk (Kd.R_elder' (qR HO221.out) (Kd.R_base ho0) hb); replace HB := y0.mk (y6 qb hb); (try clear hb); (try clear hb2); (try clear hk); (try clear hi); (try clear ho0); obtain ⟨Ao47,co47,eo47⟩ := Kd.R_slice HO221.out; subst eo47; obtain ⟨Ao48,co48,eo48⟩ := Kd.R_slice HO225.out; subst eo48) | ((with_reducible refine y15 (f := 83) rfl ?_); refine y17 (some 84) rfl rfl Tryz.func83 (by kernel_rfl) rfl #[.int .i64 (wrap64 ((t219.length : Int) - (t223.length : Int)))] rfl qy0 ?_; (with_reducible refine (spec_l01Sign.calls (wrap64 ((t219.length : Int) - (t223.length : Int))) t227 _ A42.out).mono ?_); rintro e w' ⟨rfl,⟨nd,rfl⟩⟩; refine ⟨_,rfl, ?_⟩))
      go_ret
      exact ⟨by first | rfl | (simp [y13,y14] <;> rfl) | (simp [*,y13,y14] <;> rfl),qb⟩
    ·rw [if_neg c25] at H
     have c25b0 : (t218.toList == t222.toList) = false := beq_eq_false_iff_ne.mpr c25
     have c25b1 : (t218.toList != t222.toList) = true := bne_iff_ne.mpr c25
     obtain ⟨t226,A49,H⟩ := qB H
     obtain rfl := Option.some.inj H
     go_enter Tryz.func82,Tryz.ntmps82
     go_wp2_with (first | ((with_reducible refine y15 (f := 68) rfl ?_); refine y17 (some 18) rfl rfl Tryz.func68 (by kernel_rfl) rfl #[.string a0] rfl qy0 ?_; (with_reducible refine (z3_.calls k a0 t209 _ A3.out).mono ?_); rintro e w50 ⟨rfl,hb⟩; refine ⟨_,rfl, ?_⟩; replace HB := y0.mk (y6 qb hb); (try clear hb); (try clear hb2); (try clear hk); (try clear hi)) | ((with_reducible refine y15 (f := 68) rfl ?_); refine y17 (some 20) rfl rfl Tryz.func68 (by kernel_rfl) rfl #[.string a1] rfl qy0 ?_; (with_reducible refine (z3_.calls k a1 t210 _ A4.out).mono ?_); rintro e w51 ⟨rfl,hb⟩; refine ⟨_,rfl, ?_⟩; replace HB := y0.mk (y6 qb hb); (try clear hb); (try clear hb2); (try clear hk); (try clear hi)) | ((with_reducible refine y15 (f := 103) rfl ?_); refine y17 (some 60) rfl rfl Tryz.func103 (by kernel_rfl) rfl #[.string a0] rfl qy0 ?_; (with_reducible refine (spec_TermParts.calls k a0 t218 t219 _ A23.out).mono ?_); rintro e w52 ⟨v220,rfl,ho0,hb⟩; refine ⟨_,rfl, ?_⟩; have HO221 := y0.mk (Kd.R_lower ho0 (y5 qb)); replace HB := y0.mk (y6 qb hb); (try clear hb); (try clear hb2); (try clear hk); (try clear hi); (try clear ho0)) | ((with_reducible refine y15 (f := 103) rfl ?_); refine y17 (some 65) rfl rfl Tryz.func103 (by kernel_rfl) rfl #[.string a1] rfl qy0 ?_; (with_reducible refine (spec_TermParts.calls k a1 t222 t223 _ A24.out).mono ?_); rintro e w53 ⟨v224,rfl,ho0,hb⟩; refine ⟨_,rfl, ?_⟩; have HO225 := y0.mk (Kd.R_lower (Kd.R_new' ho0 (Kd.R_lt (qR HO221.out))) (y5 qb)); replace HO221 := y0.mk (Kd.R_elder' (qR HO221.out) (Kd.R_base ho0) hb); replace HB := y0.mk (y6 qb hb); (try clear hb); (try clear hb2); (try clear hk); (try clear hi); (try clear ho0)) | ((with_reducible refine y15 (f := 102) rfl ?_); refine y17 (some 73) rfl rfl Tryz.func102 (by kernel_rfl) rfl #[.string t218,.string t222] rfl qy0 ?_; (with_reducible refine (spec_l01Texts.calls t218 t222 t226 _ A49.out).mono ?_); rintro e w' ⟨rfl,⟨nd,rfl⟩⟩; refine ⟨_,rfl, ?_⟩))
     go_ret
     exact ⟨by first | rfl | (simp [y13,y14] <;> rfl) | (simp [*,y13,y14] <;> rfl),qb⟩
 ·rw [if_neg c5] at H
  have c5b0 : (t209 == t210) = false := beq_eq_false_iff_ne.mpr c5
  have c5b1 : (t209 != t210) = true := bne_iff_ne.mpr c5
  obtain ⟨t211,A54,H⟩ := qB H
  obtain rfl := Option.some.inj H
  go_enter Tryz.func82,Tryz.ntmps82
  go_wp2_with (first | ((with_reducible refine y15 (f := 68) rfl ?_); refine y17 (some 18) rfl rfl Tryz.func68 (by kernel_rfl) rfl #[.string a0] rfl qy0 ?_; (with_reducible refine (z3_.calls k a0 t209 _ A3.out).mono ?_); rintro e w55 ⟨rfl,hb⟩; refine ⟨_,rfl, ?_⟩; replace HB := y0.mk (y6 qb hb); (try clear hb); (try clear hb2); (try clear hk); (try clear hi)) | ((with_reducible refine y15 (f := 68) rfl ?_); refine y17 (some 20) rfl rfl Tryz.func68 (by kernel_rfl) rfl #[.string a1] rfl qy0 ?_; (with_reducible refine (z3_.calls k a1 t210 _ A4.out).mono ?_); rintro e w56 ⟨rfl,hb⟩; refine ⟨_,rfl, ?_⟩; replace HB := y0.mk (y6 qb hb); (try clear hb); (try clear hb2); (try clear hk); (try clear hi)) | ((with_reducible refine y15 (f := 83) rfl ?_); refine y17 (some 27) rfl rfl Tryz.func83 (by kernel_rfl) rfl #[.int .i64 (wrap64 (t209 - t210))] rfl qy0 ?_; (with_reducible refine (spec_l01Sign.calls (wrap64 (t209 - t210)) t211 _ A54.out).mono ?_); rintro e w' ⟨rfl,⟨nd,rfl⟩⟩; refine ⟨_,rfl, ?_⟩))
  go_ret
  exact ⟨by first | rfl | (simp [y13,y14] <;> rfl) | (simp [*,y13,y14] <;> rfl),qb⟩
end Go.Proofs.YtkajecadkkgfmaaGreatDoor.Pe
end
section
namespace Go.Proofs.YtkajecadkkgfmaaGreatDoor.Pe
open Go.RowKit Go.Proofs.YtkajecadkkgfmaaGreatDoorW.PrintWords Go.Proofs.YtkajecadkkgfmaaGreatDoorW.PrintLast Go.Proofs.YtkajecadkkgfmaaGreatDoorW.PrintMore
attribute [local go_sem] max2_int min2_int max_two min_two max_three min_three max_four min_four   -- for this text's walks alone
set_option linter.unusedVariables false
set_option linter.unusedSimpArgs false
mutual
def spec_l02Cmp.l0 : Nat → Int → List ByteArray → List ByteArray → Option (Int)
 | 0,_,_,_ => none
 | k + 1,x5,x232000,x233000 => if x5 < (x232000.length : Int) then (spec_l02Cmp.j1 k x5 (decide (x5 < (x233000.length : Int))) x232000 x233000) else (spec_l02Cmp.j1 k x5 false x232000 x233000)
def spec_l02Cmp.j1 : Nat → Int → Bool → List ByteArray → List ByteArray → Option (Int)
 | 0,_,_,_,_ => none
 | k + 1,x5,x18,x232000,x233000 => if x18 = true then (if 0 ≤ x5 then (if x5 < (x232000.length : Int) then (if x5 < (x233000.length : Int) then ((spec_l01Cmp.f k (rdOf ByteArray.empty x232000 x5) (rdOf ByteArray.empty x233000 x5)).bind fun t235 => (if t235 = 0 then (spec_l02Cmp.l0 k (wrap64 (x5 + 1)) x232000 x233000) else (some t235))) else (none)) else (none)) else (none)) else ((spec_l01Sign.f (wrap64 ((x232000.length : Int) - (x233000.length : Int)))).bind fun t236 => (some t236))
end
def spec_l02Cmp.f (k : Nat) (l0_0 : List ByteArray) (l1_0 : List ByteArray) : Option (Int) := spec_l02Cmp.l0 k 0 l0_0 l1_0
def spec_l02Cmp.T4 : Bool × List (List Nat × List Nat) := (true,[([],[]),([0],[0]),([],[]),([1,2],[1,2]),([3],[3]),([],[]),([5],[5]),([],[]),([6,7],[6,7]),([8],[8]),([4,9],[4,9]),([10,10,0,1,2,3,4,5,6,7,8,9,10],[10])])
def spec_l02Cmp.B4 : List Nat := [0,1,0,7,15,0,32,0,224,480,1023,2047]
theorem spec_l02Cmp.tab4 : rtab .any (opsOf Tryz.f57 4) = spec_l02Cmp.T4 := by kernel_rfl
theorem spec_l02Cmp.bits4 : waitsOk spec_l02Cmp.T4.2 spec_l02Cmp.B4 = true := by kernel_rfl
set_option maxHeartbeats 8000000 in
set_option maxRecDepth 100000 in
theorem spec_l02Cmp.calls (k : Nat) (A0_0 : Option Addr) (c0_0 : Nat) (l0_0 : List ByteArray) (A1_0 : Option Addr) (c1_0 : Nat) (l1_0 : List ByteArray) (r : Int) (w : World) (hr0_0 : Kd.C Kd.string w A0_0 l0_0.length l0_0) (hc0_0 : l0_0.length ≤ c0_0) (hr1_0 : Kd.C Kd.string w A1_0 l1_0.length l1_0) (hc1_0 : l1_0.length ≤ c1_0) (h : spec_l02Cmp.f k l0_0 l1_0 = some r) :
  Calls Tryz.prog 57 #[.agg #[.slice A0_0 l0_0.length c0_0],.agg #[.slice A1_0 l1_0.length c1_0]] w fun e w' => e = .returned (.int .i64 r) ∧ Below w.heap.size w w' := by
 have hu36 := Tryz.underlying36
 have HR0_0 := y0.mk hr0_0
 have HC0_0 := y0.mk hc0_0
 clear hr0_0 hc0_0
 have HR1_0 := y0.mk hr1_0
 have HC1_0 := y0.mk hc1_0
 clear hr1_0 hc1_0
 have HB := y0.mk (Below.refl w.heap.size w)
 have H : (spec_l02Cmp.l0 k 0 l0_0 l1_0) = some r := h
 clear h
 have H' := y0.mk H
 clear H
 go_enter Tryz.func57,Tryz.ntmps57
 go_wp2_with (first | ((with_reducible refine y16 (N := 2) rfl ?_); (try (refine gate_guard (by rfl) ?_; dsimp only)); refine qe 2 #[.slice A0_0 l0_0.length c0_0] 36 ?_; intro gb231 hg w3 hbox hb; have BK231 := y0.mk (hbox); have GW231 := y0.mk (qg (w := w) hg); have GE231 := y0.mk (qg (w := w) hg); replace HB := y0.mk (y6 qb hb); clear hb hbox hg) | ((with_reducible refine y16 (N := 3) rfl ?_); (try (refine gate_guard (by rfl) ?_; dsimp only)); refine qe 3 #[.slice A1_0 l1_0.length c1_0] 36 ?_; intro gb232 hg w4 hbox hb; have BK232 := y0.mk (hbox); have GW232 := y0.mk (qg (w := w) hg); have GE232 := y0.mk (qg (w := w) hg); replace HB := y0.mk (y6 qb hb); have NB231_232 := y0.mk (qn BK231.out hg); have NB232_231 := y0.mk (qm BK231.out hg); replace BK231 := y0.mk (qK BK231.out hb); clear hb hbox hg))
 go_loopg [5] k (fun kq v5 w' => ∃ (x5_1 : Int),v5 = .int .i64 x5_1 ∧ y0 (spec_l02Cmp.l0 kq x5_1 l0_0 l1_0 = some r) ∧ y0 (kq ≤ k) ∧ y0 (w'.heap[gb231]? = some (.cells #[(.slice A0_0 l0_0.length c0_0)] 36 (0,0))) ∧ y0 (w'.heap[gb232]? = some (.cells #[(.slice A1_0 l1_0.length c1_0)] 36 (0,0))) ∧ y0 (Below w.heap.size w w'))
 case atStart => exact ⟨(0),qy2,H',⟨Nat.le_refl _⟩,⟨qk BK231.out⟩,⟨qk BK232.out⟩,⟨qb⟩⟩
 case round =>
  clear H'
  obtain ⟨x5_1,rfl,HA,HK1,BK231,BK232,HB⟩ := hrel
  cases gk with
  | zero => exact absurd HA.out (by simp [spec_l02Cmp.l0])
  | succ k1 =>
   have H := HA.out
   clear HA
   simp only [spec_l02Cmp.l0] at H
   have HC5 := y0.mk H
   clear H
   go_upto_region 2 with (fail)
   go_cut [18] (fun v18 wc => ∃ (kq : Nat) (x18_4 : Bool),v18 = .bool x18_4 ∧ y0 (spec_l02Cmp.j1 kq x5_1 x18_4 l0_0 l1_0 = some r) ∧ y0 (kq ≤ k1) ∧ y0 (wc.heap[gb231]? = some (.cells #[(.slice A0_0 l0_0.length c0_0)] 36 (0,0))) ∧ y0 (wc.heap[gb232]? = some (.cells #[(.slice A1_0 l1_0.length c1_0)] 36 (0,0))) ∧ y0 (Below w.heap.size w wc))
   case first =>
    have H := HC5.out
    clear HC5
    by_cases c6 : x5_1 < (l0_0.length : Int)
    ·rw [if_pos c6] at H
     have c6b0 := decide_eq_true c6
     clear c6
     (first | rw [c6b0] | (simp only [y19,y18]; rw [c6b0]) | skip)
     have H' := y0.mk H
     clear H
     have hnb7 := NB231_232.out
     have hnc7 := NB232_231.out
     obtain ⟨hcz8_0,hfz8_0⟩ := qz1 BK231.out
     obtain ⟨hcz9_0,hfz9_0⟩ := qz1 BK232.out
     go_wp2
     go_meet
     exact ⟨_,(decide (x5_1 < (l1_0.length : Int))),qy2,H',⟨by have := HK1.out; first | omega | exact Nat.le_refl _⟩,⟨qk BK231.out⟩,⟨qk BK232.out⟩,⟨qb⟩⟩
    ·rw [if_neg c6] at H
     have c6b0 := decide_eq_false c6
     clear c6
     (first | rw [c6b0] | (simp only [y19,y18]; rw [c6b0]) | skip)
     have H' := y0.mk H
     clear H
     have hnb10 := NB231_232.out
     have hnc10 := NB232_231.out
     obtain ⟨hcz11_0,hfz11_0⟩ := qz1 BK231.out
     go_wp2
     go_meet
     exact ⟨_,(false),qy2,H',⟨by have := HK1.out; first | omega | exact Nat.le_refl _⟩,⟨qk BK231.out⟩,⟨qk BK232.out⟩,⟨qb⟩⟩
   case rest =>
    clear HC5
    obtain ⟨kq,x18_4,rfl,HA,HJ4,BK231,BK232,HB⟩ := hcut
    cases kq with
    | zero => exact absurd HA.out (by simp [spec_l02Cmp.j1])
    | succ kj4 =>
     have H := HA.out
     clear HA
     simp only [spec_l02Cmp.j1] at H
     by_cases c12 : x18_4 = true
     ·subst c12
      replace H := qT H
      obtain ⟨c13,H⟩ := qo H
      have c13b0 : decide (0 ≤ x5_1) = true := decide_eq_true c13
      clear c13
      obtain ⟨c14,H⟩ := qo H
      have c14b0 : decide (x5_1 < (l0_0.length : Int)) = true := decide_eq_true c14
      clear c14
      obtain ⟨c15,H⟩ := qo H
      have c15b0 := decide_eq_true c15
      clear c15
      obtain ⟨t235,A16,H⟩ := qB H
      by_cases c17 : t235 = 0
      ·rw [if_pos c17] at H
       have c17b0 : (t235 == 0) = true := beq_iff_eq.mpr c17
       have c17b1 : (t235 != 0) = false := bne_eq_false_iff_eq.mpr c17
       clear c17
       have H' := y0.mk H
       clear H
       try go_wp2
       replace BK231 := y0.mk (y10 BK231.out)
       replace BK232 := y0.mk (y10 BK232.out)
       replace HB := y0.mk (y4 HB.out)
       have p233 : 0 ≤ (x5_1 : Int) := of_decide_eq_true qy1
       have q233 : x5_1 < (l0_0.length : Int) := of_decide_eq_true qy1
       obtain ⟨ad233,e233,hx233_0⟩ := Kd.at_string HR0_0.out x5_1 p233 q233
       have hw233_0 := hx233_0
       cases e233
       replace hx233_0 := (HB.out.cell (World.block_lt_of_cell? w _ hx233_0)).trans hx233_0
       replace p233 := eq_true p233
       replace q233 := eq_true q233
       have p234 : 0 ≤ (x5_1 : Int) := of_decide_eq_true qy1
       have q234 : x5_1 < (l1_0.length : Int) := of_decide_eq_true qy1
       obtain ⟨ad234,e234,hx234_0⟩ := Kd.at_string HR1_0.out x5_1 p234 q234
       have hw234_0 := hx234_0
       cases e234
       replace hx234_0 := (HB.out.cell (World.block_lt_of_cell? w _ hx234_0)).trans hx234_0
       replace p234 := eq_true p234
       replace q234 := eq_true q234
       refine start_ (n := 12) (S := fun w' => w'.cell? ⟨gb231,0,none⟩ = some (.slice (some ad233) l0_0.length c0_0) ∧ w'.cell? ⟨gb232,0,none⟩ = some (.slice (some ad234) l1_0.length c1_0) ∧ w'.cell? (ad233.add (x5_1).toNat) = some (.string (rdOf ByteArray.empty l0_0 x5_1)) ∧ w'.cell? (ad234.add (x5_1).toNat) = some (.string (rdOf ByteArray.empty l1_0 x5_1))) (ds := []) (fl_ 12 0) (by kernel_rfl) rfl rfl ⟨(y9 BK231.out 0).trans rfl,(y9 BK232.out 0).trans rfl,((HB.out.cell (World.block_lt_of_cell? w _ hw233_0)).trans hw233_0),((HB.out.cell (World.block_lt_of_cell? w _ hw234_0)).trans hw234_0)⟩ (fun hHeld => ?_); refine with_tabW spec_l02Cmp.tab4 spec_l02Cmp.bits4 (fun HT_ HW_ => ?_)
       generalize wc.drew = w18 at BK231 BK232 HB hx233_0 hx234_0 hHeld ⊢
       refine qp 0 21 (fl_ 12 1) ?_
       refine qp 2 23 (fl_ 12 5) ?_
       refine qp 5 26 (fl_ 12 37) ?_
       refine qp 7 28 (fl_ 12 165) ?_
       refine qt 1 22 (fl_ 12 167) hHeld ?_
       refine qp 3 24 (fl_ 12 175) ?_
       refine qt 4 25 (fl_ 12 191) hHeld ?_
       refine qt 6 27 (fl_ 12 255) hHeld ?_
       refine qp 8 29 (fl_ 12 511) ?_
       refine qt 9 30 (fl_ 12 1023) hHeld ?_
       refine one_ (i := 10) (N := some 31) (fl_ 12 2047) rfl rfl (one_of HT_.out (by kernel_rfl)) (by decide) (fun K hK => ?_)
       refine goes_ Tryz.func82 (by kernel_rfl) rfl #[.string (rdOf ByteArray.empty l0_0 x5_1),.string (rdOf ByteArray.empty l1_0 x5_1)] (by rfl) rfl rfl qy0 ?_
       with_reducible refine (spec_l01Cmp.calls kj4 (rdOf ByteArray.empty l0_0 x5_1) (rdOf ByteArray.empty l1_0 x5_1) t235 _ A16.out).mono ?_
       rintro e w19 ⟨rfl,hb⟩
       refine ⟨_,rfl, ?_⟩
       replace BK231 := y0.mk (qK BK231.out hb)
       replace BK232 := y0.mk (qK BK232.out hb)
       replace HB := y0.mk (y6 qb hb)
       (try clear hb)
       (try clear hb2)
       (try clear hk)
       (try clear hi)
       refine hK.out _ _ ⟨(y9 BK231.out 0).trans rfl,(y9 BK232.out 0).trans rfl,((HB.out.cell (World.block_lt_of_cell? w _ hw233_0)).trans hw233_0),((HB.out.cell (World.block_lt_of_cell? w _ hw234_0)).trans hw234_0)⟩ (fun hHeld => ?_)
       clear hK K
       refine norm_ (a' := ?_) ?_ ?_
       rotate_left
       ·show Act.put _ (some 31) _ = _
        simp only [Act.put,qS_,qZ_,qC_,y19,y18]
        rfl
       refine qp 11 6 (fl_ 12 4095) ?_
       refine done_ (done_of HT_.out (by kernel_rfl)) ?_
       try go_wp2
       go_roundg kj4
       case measure => have := HK1.out; have := HJ4.out; omega
       exact ⟨(wrap64 (x5_1 + 1)),qy2,H',⟨by have := HK1.out; have := HJ4.out; omega⟩,⟨qk BK231.out⟩,⟨qk BK232.out⟩,⟨qb⟩⟩
      ·rw [if_neg c17] at H
       have c17b0 : (t235 == 0) = false := beq_eq_false_iff_ne.mpr c17
       have c17b1 : (t235 != 0) = true := bne_iff_ne.mpr c17
       obtain rfl := Option.some.inj H
       try go_wp2
       replace BK231 := y0.mk (y10 BK231.out)
       replace BK232 := y0.mk (y10 BK232.out)
       replace HB := y0.mk (y4 HB.out)
       have p233 : 0 ≤ (x5_1 : Int) := of_decide_eq_true qy1
       have q233 : x5_1 < (l0_0.length : Int) := of_decide_eq_true qy1
       obtain ⟨ad233,e233,hx233_0⟩ := Kd.at_string HR0_0.out x5_1 p233 q233
       have hw233_0 := hx233_0
       cases e233
       replace hx233_0 := (HB.out.cell (World.block_lt_of_cell? w _ hx233_0)).trans hx233_0
       replace p233 := eq_true p233
       replace q233 := eq_true q233
       have p234 : 0 ≤ (x5_1 : Int) := of_decide_eq_true qy1
       have q234 : x5_1 < (l1_0.length : Int) := of_decide_eq_true qy1
       obtain ⟨ad234,e234,hx234_0⟩ := Kd.at_string HR1_0.out x5_1 p234 q234
       have hw234_0 := hx234_0
       cases e234
       replace hx234_0 := (HB.out.cell (World.block_lt_of_cell? w _ hx234_0)).trans hx234_0
       replace p234 := eq_true p234
       replace q234 := eq_true q234
       refine start_ (n := 12) (S := fun w' => w'.cell? ⟨gb231,0,none⟩ = some (.slice (some ad233) l0_0.length c0_0) ∧ w'.cell? ⟨gb232,0,none⟩ = some (.slice (some ad234) l1_0.length c1_0) ∧ w'.cell? (ad233.add (x5_1).toNat) = some (.string (rdOf ByteArray.empty l0_0 x5_1)) ∧ w'.cell? (ad234.add (x5_1).toNat) = some (.string (rdOf ByteArray.empty l1_0 x5_1))) (ds := []) (fl_ 12 0) (by kernel_rfl) rfl rfl ⟨(y9 BK231.out 0).trans rfl,(y9 BK232.out 0).trans rfl,((HB.out.cell (World.block_lt_of_cell? w _ hw233_0)).trans hw233_0),((HB.out.cell (World.block_lt_of_cell? w _ hw234_0)).trans hw234_0)⟩ (fun hHeld => ?_); refine with_tabW spec_l02Cmp.tab4 spec_l02Cmp.bits4 (fun HT_ HW_ => ?_)
       generalize wc.drew = w20 at BK231 BK232 HB hx233_0 hx234_0 hHeld ⊢
       refine qp 0 21 (fl_ 12 1) ?_
       refine qp 2 23 (fl_ 12 5) ?_
       refine qp 5 26 (fl_ 12 37) ?_
       refine qp 7 28 (fl_ 12 165) ?_
       refine qt 1 22 (fl_ 12 167) hHeld ?_
       refine qp 3 24 (fl_ 12 175) ?_
       refine qt 4 25 (fl_ 12 191) hHeld ?_
       refine qt 6 27 (fl_ 12 255) hHeld ?_
       refine qp 8 29 (fl_ 12 511) ?_
       refine qt 9 30 (fl_ 12 1023) hHeld ?_
       refine one_ (i := 10) (N := some 31) (fl_ 12 2047) rfl rfl (one_of HT_.out (by kernel_rfl)) (by decide) (fun K hK => ?_)
       refine goes_ Tryz.func82 (by kernel_rfl) rfl #[.string (rdOf ByteArray.empty l0_0 x5_1),.string (rdOf ByteArray.empty l1_0 x5_1)] (by rfl) rfl rfl qy0 ?_
       with_reducible refine (spec_l01Cmp.calls kj4 (rdOf ByteArray.empty l0_0 x5_1) (rdOf ByteArray.empty l1_0 x5_1) t235 _ A16.out).mono ?_
       rintro e w21 ⟨rfl,hb⟩
       refine ⟨_,rfl, ?_⟩
       replace BK231 := y0.mk (qK BK231.out hb)
       replace BK232 := y0.mk (qK BK232.out hb)
       replace HB := y0.mk (y6 qb hb)
       (try clear hb)
       (try clear hb2)
       (try clear hk)
       (try clear hi)
       refine hK.out _ _ ⟨(y9 BK231.out 0).trans rfl,(y9 BK232.out 0).trans rfl,((HB.out.cell (World.block_lt_of_cell? w _ hw233_0)).trans hw233_0),((HB.out.cell (World.block_lt_of_cell? w _ hw234_0)).trans hw234_0)⟩ (fun hHeld => ?_)
       clear hK K
       refine norm_ (a' := ?_) ?_ ?_
       rotate_left
       ·show Act.put _ (some 31) _ = _
        simp only [Act.put,qS_,qZ_,qC_,y19,y18]
        rfl
       refine qp 11 6 (fl_ 12 4095) ?_
       refine done_ (done_of HT_.out (by kernel_rfl)) ?_
       try go_wp2
       go_ret
       exact ⟨by first | rfl | (simp [y13,y14] <;> rfl) | (simp [*,y13,y14] <;> rfl),qb⟩
     ·replace c12 := Bool.eq_false_iff.mpr c12
      subst c12
      replace H := qF H
      obtain ⟨t236,A22,H⟩ := qB H
      obtain rfl := Option.some.inj H
      have hnb23 := NB231_232.out
      have hnc23 := NB232_231.out
      obtain ⟨hcz24_0,hfz24_0⟩ := qz1 BK231.out
      obtain ⟨hcz25_0,hfz25_0⟩ := qz1 BK232.out
      go_wp2_with (first | ((with_reducible refine y15 (f := 83) rfl ?_); refine y17 (some 42) rfl rfl Tryz.func83 (by kernel_rfl) rfl #[.int .i64 (wrap64 ((l0_0.length : Int) - (l1_0.length : Int)))] rfl qy0 ?_; (with_reducible refine (spec_l01Sign.calls (wrap64 ((l0_0.length : Int) - (l1_0.length : Int))) t236 _ A22.out).mono ?_); rintro e w' ⟨rfl,⟨nd,rfl⟩⟩; refine ⟨_,rfl, ?_⟩))
      go_ret
      exact ⟨by first | rfl | (simp [y13,y14] <;> rfl) | (simp [*,y13,y14] <;> rfl),qb⟩
end Go.Proofs.YtkajecadkkgfmaaGreatDoor.Pe
end

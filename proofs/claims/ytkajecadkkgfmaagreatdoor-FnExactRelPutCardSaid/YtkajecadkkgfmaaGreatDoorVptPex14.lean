-- Cut by prune.py, a program of this session, out of the texts of this claim: Lean checks it.
import Derived.Test.YtkajecadkkgfmaaGreatDoorVptPex0
import Derived.Test.YtkajecadkkgfmaaGreatDoorVptPex11
section
namespace Go.Proofs.YtkajecadkkgfmaaGreatDoor.Pe
open Go.RowKit Go.Proofs.YtkajecadkkgfmaaGreatDoorW.PrintWords Go.Proofs.YtkajecadkkgfmaaGreatDoorW.PrintLast Go.Proofs.YtkajecadkkgfmaaGreatDoorW.PrintMore
attribute [local go_sem] max2_int min2_int max_two min_two max_three min_three max_four min_four   -- for this text's walks alone
set_option linter.unusedVariables false
set_option linter.unusedSimpArgs false
mutual
def impl_termAt.j0 : Nat → ByteArray → Bool → Option (Int × Int)
 | 0,_,_ => none
 | k + 1,x0,x23 => if x23 = true then (impl_termAt.l0 k x0 1) else (if 0 < (x0.size : Int) then (if (bt x0 0) ≥ 65 then (impl_termAt.j3 k x0 (decide ((bt x0 0) ≤ 90))) else (impl_termAt.j3 k x0 false)) else (none))
def impl_termAt.j2 : Nat → ByteArray → Int → Option (Int × Int)
 | 0,_,_ => none
 | k + 1,x0,x5 => if 0 ≤ x5 then (if x5 ≤ (x0.size : Int) then ((strconv_Atoi.f (x0.extract 0 (x5 : Int).toNat)).bind fun bt339 => (if bt339.2.isNone = true then ((impl_in.f bt339.1 (-1000000) 1000000).bind fun t342 => (if t342 = true then ((strconv_Itoa.f bt339.1).bind fun t343 => (if t343.toList = (x0.extract 0 (x5 : Int).toNat).toList then (some (1,x5)) else (some (0,0)))) else (some (0,0)))) else (some (0,0)))) else (none)) else (none)
def impl_termAt.l0 : Nat → ByteArray → Int → Option (Int × Int)
 | 0,_,_ => none
 | k + 1,x0,x5 => if x5 < (x0.size : Int) then (if 0 ≤ x5 then ((impl_isDigit.f (bt x0 x5)).bind fun t338 => (if t338 = true then (impl_termAt.l0 k x0 (wrap64 (x5 + 1))) else (impl_termAt.j2 k x0 x5))) else (none)) else (impl_termAt.j2 k x0 x5)
def impl_termAt.j3 : Nat → ByteArray → Bool → Option (Int × Int)
 | 0,_,_ => none
 | k + 1,x0,x66 => if x66 = true then ((impl_nameLong.f k x0).bind fun t344 => (if t344 > 20 then (some (0,0)) else (if t344 = (x0.size : Int) then (impl_termAt.j4 k x0 t344 true) else (if 0 ≤ t344 then (if t344 < (x0.size : Int) then (impl_termAt.j4 k x0 t344 ((bt x0 t344) != 40)) else (none)) else (none))))) else (some (0,0))
def impl_termAt.j4 : Nat → ByteArray → Int → Bool → Option (Int × Int)
 | 0,_,_,_ => none
 | k + 1,x0,x8,x88 => if x88 = true then (some (3,x8)) else (impl_termAt.l1 k x0 x8 true)
def impl_termAt.l1 : Nat → ByteArray → Int → Bool → Option (Int × Int)
 | 0,_,_,_ => none
 | k + 1,x0,x8,x9 => if x9 = true then (if 0 ≤ (wrap64 (x8 + 1)) then (if (wrap64 (x8 + 1)) ≤ (x0.size : Int) then ((impl_termAt.f k (x0.extract ((wrap64 (x8 + 1)) : Int).toNat x0.size)).bind fun bt345 => (if bt345.1 = 0 then (some (0,0)) else (if (wrap64 (x8 + (wrap64 (1 + bt345.2)))) < (x0.size : Int) then (if 0 ≤ (wrap64 (x8 + (wrap64 (1 + bt345.2)))) then (impl_termAt.l1 k x0 (wrap64 (x8 + (wrap64 (1 + bt345.2)))) ((bt x0 (wrap64 (x8 + (wrap64 (1 + bt345.2))))) == 44)) else (none)) else (impl_termAt.l1 k x0 (wrap64 (x8 + (wrap64 (1 + bt345.2)))) false)))) else (none)) else (none)) else (if x8 < (x0.size : Int) then (if 0 ≤ x8 then (if (bt x0 x8) = 41 then (some (3,wrap64 (x8 + 1))) else (some (0,0))) else (none)) else (some (0,0)))
def impl_termAt.f : Nat → ByteArray → Option (Int × Int)
 | 0,_ => none
 | k + 1,a0 => if a0.toList = ([] : List UInt8) then (some (0,0)) else (if 0 < (a0.size : Int) then (if (bt a0 0) = 34 then ((impl_symbolLong.f k a0).bind fun t336 => (if t336 > 0 then (some (2,t336)) else (some (0,0)))) else (if (bt a0 0) = 45 then (impl_termAt.j0 k a0 true) else ((impl_isDigit.f (bt a0 0)).bind fun t337 => (impl_termAt.j0 k a0 t337)))) else (none))
end
def impl_termAt.T12 : Bool × List (List Nat × List Nat) := (true,[([],[]),([0],[0]),([1],[1]),([2],[2]),([3,2,2],[2,3]),([2,4],[2,4]),([5,4],[5]),([6],[6]),([7,6,6],[6,7]),([6],[6]),([6],[6]),([9,10,6],[6,9,10]),([8,11,6],[6,8,11]),([6,12],[6,12])])
def impl_termAt.B12 : List Nat := [0,1,3,7,15,31,63,127,255,127,127,1663,4095,8191]
theorem impl_termAt.tab12 : rtab .any (opsOf Tryz.f96 12) = impl_termAt.T12 := by kernel_rfl
theorem impl_termAt.bits12 : waitsOk impl_termAt.T12.2 impl_termAt.B12 = true := by kernel_rfl
set_option maxHeartbeats 8000000 in
set_option maxRecDepth 100000 in
theorem impl_termAt.calls (k : Nat) : ∀ (a0 : ByteArray) (r1 : Int) (r2 : Int) (w : World) (hT : Tb w) (h : impl_termAt.f k a0 = some (r1,r2)),
  Calls Tryz.prog 96 #[.string a0] w fun e w' => e = .returned (.tuple #[.int .i64 r1,.int .i64 r2]) ∧ Below w.heap.size w w' := by
 induction k using Nat.strongRecOn with
 | _ k ih =>
 intro a0 r1 r2 w hT h
 cases k with
 | zero => exact absurd h (by simp [impl_termAt.f])
 | succ k =>
 simp only [impl_termAt.f] at h
 have hu124 := Tryz.underlying124
 have HT := y0.mk hT
 clear hT
 have HB := y0.mk (Below.refl w.heap.size w)
 have H : (if a0.toList = ([] : List UInt8) then (some (0,0)) else (if 0 < (a0.size : Int) then (if (bt a0 0) = 34 then ((impl_symbolLong.f k a0).bind fun t336 => (if t336 > 0 then (some (2,t336)) else (some (0,0)))) else (if (bt a0 0) = 45 then (impl_termAt.j0 k a0 true) else ((impl_isDigit.f (bt a0 0)).bind fun t337 => (impl_termAt.j0 k a0 t337)))) else (none))) = some (r1,r2) := h
 clear h
 by_cases c2 : a0.toList = ([] : List UInt8)
 ·rw [if_pos c2] at H
  have c2b0 : (a0.toList == ([] : List UInt8)) = true := beq_iff_eq.mpr c2
  have c2b1 : (a0.toList != ([] : List UInt8)) = false := bne_eq_false_iff_eq.mpr c2
  clear c2
  simp only [Option.some.injEq,Prod.mk.injEq] at H
  obtain ⟨rfl,rfl⟩ := H
  go_enter Tryz.func96,Tryz.ntmps96
  go_wp2
  go_ret2
  exact ⟨by first | rfl | (simp [y13,y14] <;> rfl) | (simp [*,y13,y14] <;> rfl),qb⟩
 ·rw [if_neg c2] at H
  have c2b0 : (a0.toList == ([] : List UInt8)) = false := beq_eq_false_iff_ne.mpr c2
  have c2b1 : (a0.toList != ([] : List UInt8)) = true := bne_iff_ne.mpr c2
  obtain ⟨c3,H⟩ := qo H
  have c3b0 : decide (0 < (a0.size : Int)) = true := decide_eq_true c3
  have c3b1 : decide (0 < a0.size) = true := decide_eq_true (by omega)
  clear c3
  by_cases c5 : (bt a0 0) = 34
  ·rw [if_pos c5] at H
   have c5b0 : ((bt a0 0) == 34) = true := beq_iff_eq.mpr c5
   have c5b1 : ((bt a0 0) != 34) = false := bne_eq_false_iff_eq.mpr c5
   clear c5
   obtain ⟨t336,A6,H⟩ := qB H
   by_cases c7 : t336 > 0
   ·rw [if_pos c7] at H
    have c7b0 : decide (0 < t336) = true := decide_eq_true c7
    clear c7
    simp only [Option.some.injEq,Prod.mk.injEq] at H
    obtain ⟨rfl,rfl⟩ := H
    have p4 : 0 ≤ (0 : Int) := (by omega)
    have q4 : 0 < a0.size := qy4
    have hx4 : ∀ h : 0 < a0.size,((a0[0]'h).toNat : Int) = bt a0 0 := bt_at a0 0
    clear p4
    have qi4 : (0 < (a0.size : Int)) = True := eq_true (of_decide_eq_true qy1)
    replace q4 := eq_true q4
    go_enter Tryz.func96,Tryz.ntmps96
    go_wp2_with (first | ((with_reducible refine y15 (f := 118) rfl ?_); refine y17 (some 19) rfl rfl Tryz.func118 (by kernel_rfl) rfl #[.string a0] rfl qy0 ?_; (with_reducible refine (impl_symbolLong.calls k a0 t336 _ A6.out).mono ?_); rintro e w' ⟨rfl,⟨nd,rfl⟩⟩; refine ⟨_,rfl, ?_⟩))
    go_ret2
    exact ⟨by first | rfl | (simp [y13,y14] <;> rfl) | (simp [*,y13,y14] <;> rfl),qb⟩
   ·rw [if_neg c7] at H
    have c7b0 : decide (0 < t336) = false := decide_eq_false c7
    clear c7
    simp only [Option.some.injEq,Prod.mk.injEq] at H
    obtain ⟨rfl,rfl⟩ := H
    have p4 : 0 ≤ (0 : Int) := (by omega)
    have q4 : 0 < a0.size := qy4
    have hx4 : ∀ h : 0 < a0.size,((a0[0]'h).toNat : Int) = bt a0 0 := bt_at a0 0
    clear p4
    have qi4 : (0 < (a0.size : Int)) = True := eq_true (of_decide_eq_true qy1)
    replace q4 := eq_true q4
    go_enter Tryz.func96,Tryz.ntmps96
    go_wp2_with (first | ((with_reducible refine y15 (f := 118) rfl ?_); refine y17 (some 19) rfl rfl Tryz.func118 (by kernel_rfl) rfl #[.string a0] rfl qy0 ?_; (with_reducible refine (impl_symbolLong.calls k a0 t336 _ A6.out).mono ?_); rintro e w' ⟨rfl,⟨nd,rfl⟩⟩; refine ⟨_,rfl, ?_⟩))
    go_ret2
    exact ⟨by first | rfl | (simp [y13,y14] <;> rfl) | (simp [*,y13,y14] <;> rfl),qb⟩
  ·rw [if_neg c5] at H
   have c5b0 : ((bt a0 0) == 34) = false := beq_eq_false_iff_ne.mpr c5
   have c5b1 : ((bt a0 0) != 34) = true := bne_iff_ne.mpr c5
   have HC8 := y0.mk H
   clear H
   have p4 : 0 ≤ (0 : Int) := (by omega)
   have q4 : 0 < a0.size := qy4
   have hx4 : ∀ h : 0 < a0.size,((a0[0]'h).toNat : Int) = bt a0 0 := bt_at a0 0
   clear p4
   have qi4 : (0 < (a0.size : Int)) = True := eq_true (of_decide_eq_true qy1)
   replace q4 := eq_true q4
   go_enter Tryz.func96,Tryz.ntmps96
   go_upto_region 7 with (fail)
   go_cut [23] (fun v23 wc => ∃ (kq : Nat) (x23_7 : Bool),v23 = .bool x23_7 ∧ y0 (impl_termAt.j0 kq a0 x23_7 = some (r1,r2)) ∧ y0 (kq ≤ k) ∧ y0 (Below w.heap.size w wc))
   case first =>
    have H := HC8.out
    clear HC8
    by_cases c10 : (bt a0 0) = 45
    ·rw [if_pos c10] at H
     have c10b0 : ((bt a0 0) == 45) = true := beq_iff_eq.mpr c10
     have c10b1 : ((bt a0 0) != 45) = false := bne_eq_false_iff_eq.mpr c10
     clear c10
     (first | rw [c10b0] | (simp only [y19,y18]; rw [c10b0]) | skip)
     have H' := y0.mk H
     clear H
     have p9 : 0 ≤ (0 : Int) := (by omega)
     have q9 : 0 < a0.size := qy4
     have hx9 : ∀ h : 0 < a0.size,((a0[0]'h).toNat : Int) = bt a0 0 := bt_at a0 0
     clear p9
     have qi9 : (0 < (a0.size : Int)) = True := eq_true (of_decide_eq_true qy1)
     replace q9 := eq_true q9
     go_wp2
     go_meet
     exact ⟨_,(true),qy2,H',⟨by first | omega | exact Nat.le_refl _⟩,⟨qb⟩⟩
    ·rw [if_neg c10] at H
     have c10b0 : ((bt a0 0) == 45) = false := beq_eq_false_iff_ne.mpr c10
     have c10b1 : ((bt a0 0) != 45) = true := bne_iff_ne.mpr c10
     (first | rw [c10b0] | (simp only [y19,y18]; rw [c10b0]) | skip)
     obtain ⟨t337,A12,H⟩ := qB H
     have H' := y0.mk H
     clear H
     have p9 : 0 ≤ (0 : Int) := (by omega)
     have q9 : 0 < a0.size := qy4
     have hx9 : ∀ h : 0 < a0.size,((a0[0]'h).toNat : Int) = bt a0 0 := bt_at a0 0
     clear p9
     have qi9 : (0 < (a0.size : Int)) = True := eq_true (of_decide_eq_true qy1)
     replace q9 := eq_true q9
     have p11 : 0 ≤ (0 : Int) := (by omega)
     have q11 : 0 < a0.size := qy4
     have hx11 : ∀ h : 0 < a0.size,((a0[0]'h).toNat : Int) = bt a0 0 := bt_at a0 0
     clear p11
     have qi11 : (0 < (a0.size : Int)) = True := eq_true (of_decide_eq_true qy1)
     replace q11 := eq_true q11
     go_wp2_with (first | (go_at_call 119; (with_reducible refine (impl_isDigit.calls (bt a0 0) t337 _ A12.out).mono ?_); rintro e w' ⟨rfl,⟨nd,rfl⟩⟩))
     go_meet
     exact ⟨_,(t337),qy2,H',⟨by first | omega | exact Nat.le_refl _⟩,⟨qb⟩⟩
   case rest =>
    clear HC8
    (try clear c2b0 c2b1 c3b0 c3b1 q4 hx4 qi4 c5b0 c5b1 q4)
    obtain ⟨kq,x23_7,rfl,HA,HJ7,HB⟩ := hcut
    cases kq with
    | zero => exact absurd HA.out (by simp [impl_termAt.j0])
    | succ kj7 =>
     have H := HA.out
     clear HA
     simp only [impl_termAt.j0] at H
     by_cases c13 : x23_7 = true
     ·subst c13
      replace H := qT H
      have HC14 := y0.mk H
      clear H
      go_upto_block 1 with (fail)
      go_cut [5] (fun v5 wc => ∃ (kq : Nat) (x5_13 : Int),v5 = .int .i64 x5_13 ∧ y0 (impl_termAt.j2 kq a0 x5_13 = some (r1,r2)) ∧ y0 (kq ≤ kj7) ∧ y0 (Below w.heap.size w wc))
      case first =>
       have H := HC14.out
       clear HC14
       have H' := y0.mk H
       clear H
       go_wp2
       go_loopg [5] kj7 (fun kq v5 w' => ∃ (x5_2 : Int),v5 = .int .i64 x5_2 ∧ y0 (impl_termAt.l0 kq a0 x5_2 = some (r1,r2)) ∧ y0 (kq ≤ kj7) ∧ y0 (Below w.heap.size w w'))
       case atStart => exact ⟨(1),qy2,H',⟨Nat.le_refl _⟩,⟨qb⟩⟩
       case round =>
        clear H'
        (try clear c13)
        obtain ⟨x5_2,rfl,HA,HK2,HB⟩ := hrel
        cases gk with
        | zero => exact absurd HA.out (by simp [impl_termAt.l0])
        | succ k2 =>
         have H := HA.out
         clear HA
         simp only [impl_termAt.l0] at H
         by_cases c15 : x5_2 < (a0.size : Int)
         ·rw [if_pos c15] at H
          have c15b0 := decide_eq_true c15
          clear c15
          (first | rw [c15b0] | (simp only [y19,y18]; rw [c15b0]) | skip)
          obtain ⟨c16,H⟩ := qo H
          have c16b0 : decide (0 ≤ x5_2) = true := decide_eq_true c16
          clear c16
          obtain ⟨t338,A18,H⟩ := qB H
          by_cases c19 : t338 = true
          ·subst c19
           replace H := qT H
           have H' := y0.mk H
           clear H
           have p17 : 0 ≤ (x5_2 : Int) := of_decide_eq_true qy1
           have q17 : x5_2 < (a0.size : Int) := of_decide_eq_true qy1
           have hx17 := bt_at a0 x5_2
           replace p17 := eq_true p17
           replace q17 := eq_true q17
           go_wp2_with (first | (go_at_call 119; (with_reducible refine (impl_isDigit.calls (bt a0 x5_2) true _ A18.out).mono ?_); rintro e w' ⟨rfl,⟨nd,rfl⟩⟩))
           go_roundg k2
           case measure => have := HJ7.out; have := HK2.out; omega
           exact ⟨(wrap64 (x5_2 + 1)),qy2,H',⟨by have := HJ7.out; have := HK2.out; omega⟩,⟨qb⟩⟩
          ·replace c19 := Bool.eq_false_iff.mpr c19
           subst c19
           replace H := qF H
           have H' := y0.mk H
           clear H
           have p17 : 0 ≤ (x5_2 : Int) := of_decide_eq_true qy1
           have q17 : x5_2 < (a0.size : Int) := of_decide_eq_true qy1
           have hx17 := bt_at a0 x5_2
           replace p17 := eq_true p17
           replace q17 := eq_true q17
           go_wp2_with (first | (go_at_call 119; (with_reducible refine (impl_isDigit.calls (bt a0 x5_2) false _ A18.out).mono ?_); rintro e w' ⟨rfl,⟨nd,rfl⟩⟩))
           go_meet
           exact ⟨_,(x5_2),qy2,H',⟨by have := HJ7.out; have := HK2.out; first | omega | exact Nat.le_refl _⟩,⟨qb⟩⟩
         ·rw [if_neg c15] at H
          have c15b0 := decide_eq_false c15
          clear c15
          (first | rw [c15b0] | (simp only [y19,y18]; rw [c15b0]) | skip)
          have H' := y0.mk H
          clear H
          go_wp2
          go_meet
          exact ⟨_,(x5_2),qy2,H',⟨by have := HJ7.out; have := HK2.out; first | omega | exact Nat.le_refl _⟩,⟨qb⟩⟩
      case rest =>
       clear HC14
       obtain ⟨kq,x5_13,rfl,HA,HJ13,HB⟩ := hcut
       cases kq with
       | zero => exact absurd HA.out (by simp [impl_termAt.j2])
       | succ kj13 =>
        have H := HA.out
        clear HA
        simp only [impl_termAt.j2] at H
        obtain ⟨c20,H⟩ := qo H
        have c20b0 := eq_true c20
        have c20b1 := decide_eq_true c20
        clear c20
        obtain ⟨c21,H⟩ := qo H
        have c21b0 := eq_true c21
        have c21b1 := decide_eq_true c21
        clear c21
        obtain ⟨⟨t339,t340⟩,A22,H⟩ := qB H
        replace H : (if t340.isNone = true then ((impl_in.f t339 (-1000000) 1000000).bind fun t342 => (if t342 = true then ((strconv_Itoa.f t339).bind fun t343 => (if t343.toList = (a0.extract 0 (x5_13 : Int).toNat).toList then (some (1,x5_13)) else (some (0,0)))) else (some (0,0)))) else (some (0,0))) = some (r1,r2) := H
        rcases t340 with _ | q341
        ·have H1 : ((impl_in.f t339 (-1000000) 1000000).bind fun t342 => (if t342 = true then ((strconv_Itoa.f t339).bind fun t343 => (if t343.toList = (a0.extract 0 (x5_13 : Int).toNat).toList then (some (1,x5_13)) else (some (0,0)))) else (some (0,0)))) = some (r1,r2) := by rw [if_pos (show (none : Option Int).isNone = true by rfl)] at H; exact H
         clear H
         have H := H1
         clear H1
         try simp only [y13,y14]
         obtain ⟨t342,A23,H⟩ := qB H
         by_cases c24 : t342 = true
         ·subst c24
          replace H := qT H
          obtain ⟨t343,A25,H⟩ := qB H
          have c26b0 := eq_true (of_decide_eq_true qy1 : 0 ≤ x5_13)
          have c27b0 := eq_true (of_decide_eq_true qy1 : x5_13 ≤ (a0.size : Int))
          by_cases c28 : t343.toList = (a0.extract 0 (x5_13 : Int).toNat).toList
          ·rw [if_pos c28] at H
           have c28b0 : (t343.toList == (a0.extract 0 (x5_13 : Int).toNat).toList) = true := beq_iff_eq.mpr c28
           have c28b1 : (t343.toList != (a0.extract 0 (x5_13 : Int).toNat).toList) = false := bne_eq_false_iff_eq.mpr c28
           clear c28
           simp only [Option.some.injEq,Prod.mk.injEq] at H
           obtain ⟨rfl,rfl⟩ := H
           try go_wp2_with (first | ((with_reducible refine y15 (f := 120) rfl ?_); refine y17 (some 48) rfl rfl Tryz.func120 (by kernel_rfl) rfl #[.string (a0.extract 0 (x5_13 : Int).toNat)] rfl qy0 ?_; (with_reducible refine (strconv_Atoi.calls (a0.extract 0 (x5_13 : Int).toNat) t339 none _ (by exact Tb.below HT.out qb) A22.out).mono ?_); rintro e w29 ⟨ev_,rfl,hev_,hb⟩; obtain rfl := errIs_none hev_; refine ⟨_,rfl, ?_⟩; replace HB := y0.mk (y6 qb hb); (try clear hb); (try clear hb2); (try clear hk); (try clear hi); (try simp only [y13,y14])))
           replace HB := y0.mk (y4 HB.out)
           refine start_ (n := 14) (S := fun w' => True) (ds := []) (fl_ 14 0) (by kernel_rfl) rfl rfl trivial (fun hHeld => ?_); refine with_tabW impl_termAt.tab12 impl_termAt.bits12 (fun HT_ HW_ => ?_)
           generalize w29.drew = w30 at HB hHeld ⊢
           refine qp 0 51 (fl_ 14 1) ?_
           refine qp 1 52 (fl_ 14 3) ?_
           refine qp 2 53 (fl_ 14 7) ?_
           refine qp 3 54 (fl_ 14 15) ?_
           refine one_ (i := 4) (N := some 55) (fl_ 14 31) rfl rfl (one_of HT_.out (by kernel_rfl)) (by decide) (fun K hK => ?_)
           refine goes_ Tryz.func69 (by kernel_rfl) rfl #[.int .i64 t339,.int .i64 (-1000000),.int .i64 1000000] (by rfl) rfl rfl qy0 ?_
           with_reducible refine (impl_in.calls t339 (-1000000) 1000000 true _ A23.out).mono ?_
           rintro e w' ⟨rfl,⟨nd,rfl⟩⟩
           refine ⟨_,rfl, ?_⟩
           refine hK.out _ _ trivial (fun hHeld => ?_)
           clear hK K
           refine norm_ (a' := ?_) ?_ ?_
           rotate_left
           ·show Act.put _ (some 55) _ = _
            simp only [Act.put,qS_,qZ_,qC_,y19,y18]
            rfl
           refine qp 5 56 (fl_ 14 63) ?_
           refine qp 6 57 (fl_ 14 127) ?_
           refine qp 7 58 (fl_ 14 255) ?_
           refine qp 9 60 (fl_ 14 767) ?_
           refine qp 10 61 (fl_ 14 1791) ?_
           refine qp 11 62 (fl_ 14 3839) ?_
           refine one_ (i := 8) (N := some 59) (fl_ 14 4095) rfl rfl (one_of HT_.out (by kernel_rfl)) (by decide) (fun K hK => ?_)
           refine goes_ Tryz.func121 (by kernel_rfl) rfl #[.int .i64 t339] (by rfl) rfl rfl qy0 ?_
           with_reducible refine (strconv_Itoa.calls t339 t343 _ (by exact Tb.below HT.out qb) A25.out).mono ?_
           rintro e w31 ⟨rfl,hb⟩
           refine ⟨_,rfl, ?_⟩
           replace HB := y0.mk (y6 qb hb)
           (try clear hb)
           (try clear hb2)
           (try clear hk)
           (try clear hi)
           refine hK.out _ _ trivial (fun hHeld => ?_)
           clear hK K
           refine norm_ (a' := ?_) ?_ ?_
           rotate_left
           ·show Act.put _ (some 59) _ = _
            simp only [Act.put,qS_,qZ_,qC_,y19,y18]
            rfl
           refine qp 12 63 (fl_ 14 8191) ?_
           refine qp 13 64 (fl_ 14 16383) ?_
           refine done_ (done_of HT_.out (by kernel_rfl)) ?_
           try go_wp2
           go_ret2
           exact ⟨by first | rfl | (simp [y13,y14] <;> rfl) | (simp [*,y13,y14] <;> rfl),qb⟩
          ·rw [if_neg c28] at H
           have c28b0 : (t343.toList == (a0.extract 0 (x5_13 : Int).toNat).toList) = false := beq_eq_false_iff_ne.mpr c28
           have c28b1 : (t343.toList != (a0.extract 0 (x5_13 : Int).toNat).toList) = true := bne_iff_ne.mpr c28
           simp only [Option.some.injEq,Prod.mk.injEq] at H
           obtain ⟨rfl,rfl⟩ := H
           try go_wp2_with (first | ((with_reducible refine y15 (f := 120) rfl ?_); refine y17 (some 48) rfl rfl Tryz.func120 (by kernel_rfl) rfl #[.string (a0.extract 0 (x5_13 : Int).toNat)] rfl qy0 ?_; (with_reducible refine (strconv_Atoi.calls (a0.extract 0 (x5_13 : Int).toNat) t339 none _ (by exact Tb.below HT.out qb) A22.out).mono ?_); rintro e w32 ⟨ev_,rfl,hev_,hb⟩; obtain rfl := errIs_none hev_; refine ⟨_,rfl, ?_⟩; replace HB := y0.mk (y6 qb hb); (try clear hb); (try clear hb2); (try clear hk); (try clear hi); (try simp only [y13,y14])))
           replace HB := y0.mk (y4 HB.out)
           refine start_ (n := 14) (S := fun w' => True) (ds := []) (fl_ 14 0) (by kernel_rfl) rfl rfl trivial (fun hHeld => ?_); refine with_tabW impl_termAt.tab12 impl_termAt.bits12 (fun HT_ HW_ => ?_)
           generalize w32.drew = w33 at HB hHeld ⊢
           refine qp 0 51 (fl_ 14 1) ?_
           refine qp 1 52 (fl_ 14 3) ?_
           refine qp 2 53 (fl_ 14 7) ?_
           refine qp 3 54 (fl_ 14 15) ?_
           refine one_ (i := 4) (N := some 55) (fl_ 14 31) rfl rfl (one_of HT_.out (by kernel_rfl)) (by decide) (fun K hK => ?_)
           refine goes_ Tryz.func69 (by kernel_rfl) rfl #[.int .i64 t339,.int .i64 (-1000000),.int .i64 1000000] (by rfl) rfl rfl qy0 ?_
           with_reducible refine (impl_in.calls t339 (-1000000) 1000000 true _ A23.out).mono ?_
           rintro e w' ⟨rfl,⟨nd,rfl⟩⟩
           refine ⟨_,rfl, ?_⟩
           refine hK.out _ _ trivial (fun hHeld => ?_)
           clear hK K
           refine norm_ (a' := ?_) ?_ ?_
           rotate_left
           ·show Act.put _ (some 55) _ = _
            simp only [Act.put,qS_,qZ_,qC_,y19,y18]
            rfl
           refine qp 5 56 (fl_ 14 63) ?_
           refine qp 6 57 (fl_ 14 127) ?_
           refine qp 7 58 (fl_ 14 255) ?_
           refine qp 9 60 (fl_ 14 767) ?_
           refine qp 10 61 (fl_ 14 1791) ?_
           refine qp 11 62 (fl_ 14 3839) ?_
           refine one_ (i := 8) (N := some 59) (fl_ 14 4095) rfl rfl (one_of HT_.out (by kernel_rfl)) (by decide) (fun K hK => ?_)
           refine goes_ Tryz.func121 (by kernel_rfl) rfl #[.int .i64 t339] (by rfl) rfl rfl qy0 ?_
           with_reducible refine (strconv_Itoa.calls t339 t343 _ (by exact Tb.below HT.out qb) A25.out).mono ?_
           rintro e w34 ⟨rfl,hb⟩
           refine ⟨_,rfl, ?_⟩
           replace HB := y0.mk (y6 qb hb)
           (try clear hb)
           (try clear hb2)
           (try clear hk)
           (try clear hi)
           refine hK.out _ _ trivial (fun hHeld => ?_)
           clear hK K
           refine norm_ (a' := ?_) ?_ ?_
           rotate_left
           ·show Act.put _ (some 59) _ = _
            simp only [Act.put,qS_,qZ_,qC_,y19,y18]
            rfl
           refine qp 12 63 (fl_ 14 8191) ?_
           refine qp 13 64 (fl_ 14 16383) ?_
           refine done_ (done_of HT_.out (by kernel_rfl)) ?_
           try go_wp2
           go_ret2
           exact ⟨by first | rfl | (simp [y13,y14] <;> rfl) | (simp [*,y13,y14] <;> rfl),qb⟩
         ·replace c24 := Bool.eq_false_iff.mpr c24
          subst c24
          replace H := qF H
          simp only [Option.some.injEq,Prod.mk.injEq] at H
          obtain ⟨rfl,rfl⟩ := H
          try go_wp2_with (first | ((with_reducible refine y15 (f := 120) rfl ?_); refine y17 (some 48) rfl rfl Tryz.func120 (by kernel_rfl) rfl #[.string (a0.extract 0 (x5_13 : Int).toNat)] rfl qy0 ?_; (with_reducible refine (strconv_Atoi.calls (a0.extract 0 (x5_13 : Int).toNat) t339 none _ (by exact Tb.below HT.out qb) A22.out).mono ?_); rintro e w35 ⟨ev_,rfl,hev_,hb⟩; obtain rfl := errIs_none hev_; refine ⟨_,rfl, ?_⟩; replace HB := y0.mk (y6 qb hb); (try clear hb); (try clear hb2); (try clear hk); (try clear hi); (try simp only [y13,y14])))
          replace HB := y0.mk (y4 HB.out)
          refine start_ (n := 14) (S := fun w' => True) (ds := []) (fl_ 14 0) (by kernel_rfl) rfl rfl trivial (fun hHeld => ?_); refine with_tabW impl_termAt.tab12 impl_termAt.bits12 (fun HT_ HW_ => ?_)
          generalize w35.drew = w36 at HB hHeld ⊢
          refine qp 0 51 (fl_ 14 1) ?_
          refine qp 1 52 (fl_ 14 3) ?_
          refine qp 2 53 (fl_ 14 7) ?_
          refine qp 3 54 (fl_ 14 15) ?_
          refine one_ (i := 4) (N := some 55) (fl_ 14 31) rfl rfl (one_of HT_.out (by kernel_rfl)) (by decide) (fun K hK => ?_)
          refine goes_ Tryz.func69 (by kernel_rfl) rfl #[.int .i64 t339,.int .i64 (-1000000),.int .i64 1000000] (by rfl) rfl rfl qy0 ?_
          with_reducible refine (impl_in.calls t339 (-1000000) 1000000 false _ A23.out).mono ?_
          rintro e w' ⟨rfl,⟨nd,rfl⟩⟩
          refine ⟨_,rfl, ?_⟩
          refine hK.out _ _ trivial (fun hHeld => ?_)
          clear hK K
          refine norm_ (a' := ?_) ?_ ?_
          rotate_left
          ·show Act.put _ (some 55) _ = _
           simp only [Act.put,qS_,qZ_,qC_,y19,y18]
           rfl
          refine qp 5 56 (fl_ 14 63) ?_
          refine qp 6 57 (fl_ 14 127) ?_
          refine y20 (i := 7) (N := some 58) (v := undef) (a' := ?_) (fl_ 14 255) rfl rfl (y2 HT_.out (by kernel_rfl)) (fun _ _ _ h => h) (Or.inr ⟨by rfl,rfl⟩) ?_ ?_
          rotate_left
          ·simp only [Act.put,qS_,qZ_,qC_,y19,y18]
           rfl
          refine y20 (i := 8) (N := some 59) (v := undef) (a' := ?_) (fl_ 14 511) rfl rfl (y2 HT_.out (by kernel_rfl)) (fun _ _ _ h => h) (Or.inr ⟨by rfl,rfl⟩) ?_ ?_
          rotate_left
          ·simp only [Act.put,qS_,qZ_,qC_,y19,y18]
           rfl
          refine y20 (i := 9) (N := some 60) (v := undef) (a' := ?_) (fl_ 14 1023) rfl rfl (y2 HT_.out (by kernel_rfl)) (fun _ _ _ h => h) (Or.inr ⟨by rfl,rfl⟩) ?_ ?_
          rotate_left
          ·simp only [Act.put,qS_,qZ_,qC_,y19,y18]
           rfl
          refine y20 (i := 10) (N := some 61) (v := undef) (a' := ?_) (fl_ 14 2047) rfl rfl (y2 HT_.out (by kernel_rfl)) (fun _ _ _ h => h) (Or.inr ⟨by rfl,rfl⟩) ?_ ?_
          rotate_left
          ·simp only [Act.put,qS_,qZ_,qC_,y19,y18]
           rfl
          refine y20 (i := 11) (N := some 62) (v := undef) (a' := ?_) (fl_ 14 4095) rfl rfl (y2 HT_.out (by kernel_rfl)) (fun _ _ _ h => h) (Or.inr ⟨by rfl,rfl⟩) ?_ ?_
          rotate_left
          ·simp only [Act.put,qS_,qZ_,qC_,y19,y18]
           rfl
          refine y20 (i := 12) (N := some 63) (v := undef) (a' := ?_) (fl_ 14 8191) rfl rfl (y2 HT_.out (by kernel_rfl)) (fun _ _ _ h => h) (Or.inr ⟨by rfl,rfl⟩) ?_ ?_
          rotate_left
          ·simp only [Act.put,qS_,qZ_,qC_,y19,y18]
           rfl
          refine qp 13 64 (fl_ 14 16383) ?_
          refine done_ (done_of HT_.out (by kernel_rfl)) ?_
          try go_wp2
          go_ret2
          exact ⟨by first | rfl | (simp [y13,y14] <;> rfl) | (simp [*,y13,y14] <;> rfl),qb⟩
        ·have H1 : (some (0,0)) = some (r1,r2) := by rw [if_neg (show ¬ (some q341).isNone = true by simp)] at H; exact H
         clear H
         have H := H1
         clear H1
         try simp only [y13,y14]
         simp only [Option.some.injEq,Prod.mk.injEq] at H
         obtain ⟨rfl,rfl⟩ := H
         try go_wp2_with (first | ((with_reducible refine y15 (f := 120) rfl ?_); refine y17 (some 48) rfl rfl Tryz.func120 (by kernel_rfl) rfl #[.string (a0.extract 0 (x5_13 : Int).toNat)] rfl qy0 ?_; (with_reducible refine (strconv_Atoi.calls (a0.extract 0 (x5_13 : Int).toNat) t339 (some q341) _ (by exact Tb.below HT.out qb) A22.out).mono ?_); rintro e w37 ⟨ev_,rfl,hev_,hb⟩; obtain ⟨te_,pe_,rfl⟩ := errIs_some hev_; refine ⟨_,rfl, ?_⟩; replace HB := y0.mk (y6 qb hb); (try clear hb); (try clear hb2); (try clear hk); (try clear hi); (try simp only [y13,y14])))
         replace HB := y0.mk (y4 HB.out)
         refine start_ (n := 14) (S := fun w' => True) (ds := []) (fl_ 14 0) (by kernel_rfl) rfl rfl trivial (fun hHeld => ?_); refine with_tabW impl_termAt.tab12 impl_termAt.bits12 (fun HT_ HW_ => ?_)
         generalize w37.drew = w38 at HB hHeld ⊢
         refine qp 0 51 (fl_ 14 1) ?_
         refine qp 1 52 (fl_ 14 3) ?_
         refine qp 2 53 (fl_ 14 7) ?_
         refine y20 (i := 3) (N := some 54) (v := undef) (a' := ?_) (fl_ 14 15) rfl rfl (y2 HT_.out (by kernel_rfl)) (fun _ _ _ h => h) (Or.inr ⟨by rfl,rfl⟩) ?_ ?_
         rotate_left
         ·simp only [Act.put,qS_,qZ_,qC_,y19,y18]
          rfl
         refine y20 (i := 4) (N := some 55) (v := undef) (a' := ?_) (fl_ 14 31) rfl rfl (y2 HT_.out (by kernel_rfl)) (fun _ _ _ h => h) (Or.inr ⟨by rfl,rfl⟩) ?_ ?_
         rotate_left
         ·simp only [Act.put,qS_,qZ_,qC_,y19,y18]
          rfl
         refine qp 5 56 (fl_ 14 63) ?_
         refine qp 6 57 (fl_ 14 127) ?_
         refine y20 (i := 7) (N := some 58) (v := undef) (a' := ?_) (fl_ 14 255) rfl rfl (y2 HT_.out (by kernel_rfl)) (fun _ _ _ h => h) (Or.inr ⟨by rfl,rfl⟩) ?_ ?_
         rotate_left
         ·simp only [Act.put,qS_,qZ_,qC_,y19,y18]
          rfl
         refine y20 (i := 8) (N := some 59) (v := undef) (a' := ?_) (fl_ 14 511) rfl rfl (y2 HT_.out (by kernel_rfl)) (fun _ _ _ h => h) (Or.inr ⟨by rfl,rfl⟩) ?_ ?_
         rotate_left
         ·simp only [Act.put,qS_,qZ_,qC_,y19,y18]
          rfl
         refine y20 (i := 9) (N := some 60) (v := undef) (a' := ?_) (fl_ 14 1023) rfl rfl (y2 HT_.out (by kernel_rfl)) (fun _ _ _ h => h) (Or.inr ⟨by rfl,rfl⟩) ?_ ?_
         rotate_left
         ·simp only [Act.put,qS_,qZ_,qC_,y19,y18]
          rfl
         refine y20 (i := 10) (N := some 61) (v := undef) (a' := ?_) (fl_ 14 2047) rfl rfl (y2 HT_.out (by kernel_rfl)) (fun _ _ _ h => h) (Or.inr ⟨by rfl,rfl⟩) ?_ ?_
         rotate_left
         ·simp only [Act.put,qS_,qZ_,qC_,y19,y18]
          rfl
         refine y20 (i := 11) (N := some 62) (v := undef) (a' := ?_) (fl_ 14 4095) rfl rfl (y2 HT_.out (by kernel_rfl)) (fun _ _ _ h => h) (Or.inr ⟨by rfl,rfl⟩) ?_ ?_
         rotate_left
         ·simp only [Act.put,qS_,qZ_,qC_,y19,y18]
          rfl
         refine y20 (i := 12) (N := some 63) (v := undef) (a' := ?_) (fl_ 14 8191) rfl rfl (y2 HT_.out (by kernel_rfl)) (fun _ _ _ h => h) (Or.inr ⟨by rfl,rfl⟩) ?_ ?_
         rotate_left
         ·simp only [Act.put,qS_,qZ_,qC_,y19,y18]
          rfl
         refine qp 13 64 (fl_ 14 16383) ?_
         refine done_ (done_of HT_.out (by kernel_rfl)) ?_
         try go_wp2
         go_ret2
         exact ⟨by first | rfl | (simp [y13,y14] <;> rfl) | (simp [*,y13,y14] <;> rfl),qb⟩
     ·replace c13 := Bool.eq_false_iff.mpr c13
      subst c13
      replace H := qF H
      have HC39 := y0.mk H
      clear H
      go_upto_region 14 with (fail)
      go_cut [66] (fun v66 wc => ∃ (kq : Nat) (x66_38 : Bool),v66 = .bool x66_38 ∧ y0 (impl_termAt.j3 kq a0 x66_38 = some (r1,r2)) ∧ y0 (kq ≤ kj7) ∧ y0 (Below w.heap.size w wc))
      case first =>
       have H := HC39.out
       clear HC39
       obtain ⟨c40,H⟩ := qo H
       have c40b0 : decide (0 < (a0.size : Int)) = true := decide_eq_true c40
       have c40b1 : decide (0 < a0.size) = true := decide_eq_true (by omega)
       clear c40
       (first | rw [c40b0] | (simp only [y19,y18]; rw [c40b0]) | skip)
       by_cases c42 : (bt a0 0) ≥ 65
       ·rw [if_pos c42] at H
        have c42b0 : decide (65 ≤ (bt a0 0)) = true := decide_eq_true c42
        clear c42
        have H' := y0.mk H
        clear H
        have p41 : 0 ≤ (0 : Int) := (by omega)
        have q41 : 0 < a0.size := qy4
        have hx41 : ∀ h : 0 < a0.size,((a0[0]'h).toNat : Int) = bt a0 0 := bt_at a0 0
        clear p41
        have qi41 : (0 < (a0.size : Int)) = True := eq_true (of_decide_eq_true qy1)
        replace q41 := eq_true q41
        have p43 : 0 ≤ (0 : Int) := (by omega)
        have q43 : 0 < a0.size := qy4
        have hx43 : ∀ h : 0 < a0.size,((a0[0]'h).toNat : Int) = bt a0 0 := bt_at a0 0
        clear p43
        have qi43 : (0 < (a0.size : Int)) = True := eq_true (of_decide_eq_true qy1)
        replace q43 := eq_true q43
        go_wp2
        go_meet
        exact ⟨_,(decide ((bt a0 0) ≤ 90)),qy2,H',⟨by have := HJ7.out; first | omega | exact Nat.le_refl _⟩,⟨qb⟩⟩
       ·rw [if_neg c42] at H
        have c42b0 : decide (65 ≤ (bt a0 0)) = false := decide_eq_false c42
        clear c42
        have H' := y0.mk H
        clear H
        have p41 : 0 ≤ (0 : Int) := (by omega)
        have q41 : 0 < a0.size := qy4
        have hx41 : ∀ h : 0 < a0.size,((a0[0]'h).toNat : Int) = bt a0 0 := bt_at a0 0
        clear p41
        have qi41 : (0 < (a0.size : Int)) = True := eq_true (of_decide_eq_true qy1)
        replace q41 := eq_true q41
        go_wp2
        go_meet
        exact ⟨_,(false),qy2,H',⟨by have := HJ7.out; first | omega | exact Nat.le_refl _⟩,⟨qb⟩⟩
      case rest =>
       clear HC39
       (try clear c13)
       obtain ⟨kq,x66_38,rfl,HA,HJ38,HB⟩ := hcut
       cases kq with
       | zero => exact absurd HA.out (by simp [impl_termAt.j3])
       | succ kj38 =>
        have H := HA.out
        clear HA
        simp only [impl_termAt.j3] at H
        by_cases c44 : x66_38 = true
        ·subst c44
         replace H := qT H
         obtain ⟨t344,A45,H⟩ := qB H
         by_cases c46 : t344 > 20
         ·rw [if_pos c46] at H
          have c46b0 : decide (20 < t344) = true := decide_eq_true c46
          clear c46
          simp only [Option.some.injEq,Prod.mk.injEq] at H
          obtain ⟨rfl,rfl⟩ := H
          go_wp2_with (first | ((with_reducible refine y15 (f := 122) rfl ?_); refine y17 (some 76) rfl rfl Tryz.func122 (by kernel_rfl) rfl #[.string a0] rfl qy0 ?_; (with_reducible refine (impl_nameLong.calls kj38 a0 t344 _ A45.out).mono ?_); rintro e w' ⟨rfl,⟨nd,rfl⟩⟩; refine ⟨_,rfl, ?_⟩))
          go_ret2
          exact ⟨by first | rfl | (simp [y13,y14] <;> rfl) | (simp [*,y13,y14] <;> rfl),qb⟩
         ·rw [if_neg c46] at H
          have c46b0 : decide (20 < t344) = false := decide_eq_false c46
          clear c46
          have HC47 := y0.mk H
          clear H
          go_upto_region 18 with (first | ((with_reducible refine y15 (f := 122) rfl ?_); refine y17 (some 76) rfl rfl Tryz.func122 (by kernel_rfl) rfl #[.string a0] rfl qy0 ?_; (with_reducible refine (impl_nameLong.calls kj38 a0 t344 _ A45.out).mono ?_); rintro e w' ⟨rfl,⟨nd,rfl⟩⟩; refine ⟨_,rfl, ?_⟩))
          (try simp only [Act.put,qS_,qZ_,qC_])
          go_cut [88] (fun v88 wc => ∃ (kq : Nat) (x88_46 : Bool),v88 = .bool x88_46 ∧ y0 (impl_termAt.j4 kq a0 t344 x88_46 = some (r1,r2)) ∧ y0 (kq ≤ kj38) ∧ y0 (Below w.heap.size w wc))
          case first =>
           have H := HC47.out
           clear HC47
           by_cases c48 : t344 = (a0.size : Int)
           ·rw [if_pos c48] at H
            have c48b0 : (t344 == (a0.size : Int)) = true := beq_iff_eq.mpr c48
            have c48b1 : (t344 != (a0.size : Int)) = false := bne_eq_false_iff_eq.mpr c48
            clear c48
            (first | rw [c48b0] | (simp only [y19,y18]; rw [c48b0]) | skip)
            have H' := y0.mk H
            clear H
            go_wp2
            go_meet
            exact ⟨_,(true),qy2,H',⟨by have := HJ7.out; have := HJ38.out; first | omega | exact Nat.le_refl _⟩,⟨qb⟩⟩
           ·rw [if_neg c48] at H
            have c48b0 : (t344 == (a0.size : Int)) = false := beq_eq_false_iff_ne.mpr c48
            have c48b1 : (t344 != (a0.size : Int)) = true := bne_iff_ne.mpr c48
            (first | rw [c48b0] | (simp only [y19,y18]; rw [c48b0]) | skip)
            obtain ⟨c49,H⟩ := qo H
            have c49b0 : decide (0 ≤ t344) = true := decide_eq_true c49
            clear c49
            obtain ⟨c50,H⟩ := qo H
            have c50b0 : decide (t344 < (a0.size : Int)) = true := decide_eq_true c50
            clear c50
            have H' := y0.mk H
            clear H
            have p51 : 0 ≤ (t344 : Int) := of_decide_eq_true qy1
            have q51 : t344 < (a0.size : Int) := of_decide_eq_true qy1
            have hx51 := bt_at a0 t344
            replace p51 := eq_true p51
            replace q51 := eq_true q51
            go_wp2
            go_meet
            exact ⟨_,(((bt a0 t344) != 40)),qy2,H',⟨by have := HJ7.out; have := HJ38.out; first | omega | exact Nat.le_refl _⟩,⟨qb⟩⟩
          case rest =>
           clear HC47
           (try clear c44 c46b0)
           obtain ⟨kq,x88_46,rfl,HA,HJ46,HB⟩ := hcut
           cases kq with
           | zero => exact absurd HA.out (by simp [impl_termAt.j4])
           | succ kj46 =>
            have H := HA.out
            clear HA
            simp only [impl_termAt.j4] at H
            by_cases c52 : x88_46 = true
            ·subst c52
             replace H := qT H
             simp only [Option.some.injEq,Prod.mk.injEq] at H
             obtain ⟨rfl,rfl⟩ := H
             go_wp2
             go_ret2
             exact ⟨by first | rfl | (simp [y13,y14] <;> rfl) | (simp [*,y13,y14] <;> rfl),qb⟩
            ·replace c52 := Bool.eq_false_iff.mpr c52
             subst c52
             replace H := qF H
             have H' := y0.mk H
             clear H
             go_wp2
             go_loopg [8,9] kj46 (fun kq v8 v9 w' => ∃ (x8_4 : Int) (x9_4 : Bool),v8 = .int .i64 x8_4 ∧ v9 = .bool x9_4 ∧ y0 (impl_termAt.l1 kq a0 x8_4 x9_4 = some (r1,r2)) ∧ y0 (kq ≤ kj46) ∧ y0 (Below w.heap.size w w'))
             case atStart => exact ⟨(t344),(true),qy2,qy2,H',⟨Nat.le_refl _⟩,⟨qb⟩⟩
             case round =>
              clear H'
              (try clear c52)
              obtain ⟨x8_4,x9_4,rfl,rfl,HA,HK4,HB⟩ := hrel
              cases gk with
              | zero => exact absurd HA.out (by simp [impl_termAt.l1])
              | succ k4 =>
               have H := HA.out
               clear HA
               simp only [impl_termAt.l1] at H
               by_cases c53 : x9_4 = true
               ·subst c53
                replace H := qT H
                obtain ⟨ji54,hji54⟩ : ∃ j_ : Int,(wrap64 (x8_4 + 1)) = j_ := ⟨_,rfl⟩
                replace H : (if 0 ≤ (ji54) then (if (ji54) ≤ (a0.size : Int) then ((impl_termAt.f k4 (a0.extract ((ji54) : Int).toNat a0.size)).bind fun bt345 => (if bt345.1 = 0 then (some (0,0)) else (if (wrap64 (x8_4 + (wrap64 (1 + bt345.2)))) < (a0.size : Int) then (if 0 ≤ (wrap64 (x8_4 + (wrap64 (1 + bt345.2)))) then (impl_termAt.l1 k4 a0 (wrap64 (x8_4 + (wrap64 (1 + bt345.2)))) ((bt a0 (wrap64 (x8_4 + (wrap64 (1 + bt345.2))))) == 44)) else (none)) else (impl_termAt.l1 k4 a0 (wrap64 (x8_4 + (wrap64 (1 + bt345.2)))) false)))) else (none)) else (none)) = some (r1,r2) := by first | (rw [hji54] at H; exact H) | (simp only [hji54] at H ⊢; exact H)
                have hji54w : (IntKind.i64.wrap (x8_4 + 1)) = ji54 := (y19 _).trans hji54
                obtain ⟨c55,H⟩ := qo H
                have c55b0 := eq_true c55
                have c55b1 := decide_eq_true c55
                clear c55
                obtain ⟨c56,H⟩ := qo H
                have c56b0 := eq_true c56
                have c56b1 := decide_eq_true c56
                clear c56
                obtain ⟨⟨t345,t346⟩,A57,H⟩ := qB H
                replace H : (if t345 = 0 then (some (0,0)) else (if (wrap64 (x8_4 + (wrap64 (1 + t346)))) < (a0.size : Int) then (if 0 ≤ (wrap64 (x8_4 + (wrap64 (1 + t346)))) then (impl_termAt.l1 k4 a0 (wrap64 (x8_4 + (wrap64 (1 + t346)))) ((bt a0 (wrap64 (x8_4 + (wrap64 (1 + t346))))) == 44)) else (none)) else (impl_termAt.l1 k4 a0 (wrap64 (x8_4 + (wrap64 (1 + t346)))) false))) = some (r1,r2) := H
                by_cases c58 : t345 = 0
                ·rw [if_pos c58] at H
                 have c58b0 : (t345 == 0) = true := beq_iff_eq.mpr c58
                 have c58b1 : (t345 != 0) = false := bne_eq_false_iff_eq.mpr c58
                 clear c58
                 simp only [Option.some.injEq,Prod.mk.injEq] at H
                 obtain ⟨rfl,rfl⟩ := H
                 go_wp2_with (first | ((with_reducible refine y15 (f := 96) rfl ?_); refine y17 (some 106) rfl rfl Tryz.func96 (by kernel_rfl) rfl #[.string (a0.extract ((ji54) : Int).toNat a0.size)] rfl (by (try simp only [qM_,List.map_cons,List.map_nil]); first | done | (simp only [hji54]; rfl) | rfl | (simp only [qD_,qT_]; rfl)) ?_; (with_reducible refine (ih k4 (by have := HJ7.out; have := HJ38.out; have := HJ46.out; have := HK4.out; omega) (a0.extract ((ji54) : Int).toNat a0.size) t345 t346 _ (by exact Tb.below HT.out qb) A57.out).mono ?_); rintro e w59 ⟨rfl,hb⟩; refine ⟨_,rfl, ?_⟩; replace HB := y0.mk (y6 qb hb); (try clear hb); (try clear hb2); (try clear hk); (try clear hi)))
                 go_ret2
                 exact ⟨by first | rfl | (simp [y13,y14] <;> rfl) | (simp only [← hji54]; first | rfl | (simp [y13,y14] <;> rfl)) | (simp [*,y13,y14] <;> rfl),qb⟩
                ·rw [if_neg c58] at H
                 have c58b0 : (t345 == 0) = false := beq_eq_false_iff_ne.mpr c58
                 have c58b1 : (t345 != 0) = true := bne_iff_ne.mpr c58
                 by_cases c60 : (wrap64 (x8_4 + (wrap64 (1 + t346)))) < (a0.size : Int)
                 ·rw [if_pos c60] at H
                  have c60b0 := decide_eq_true c60
                  clear c60
                  obtain ⟨ji61,hji61⟩ : ∃ j_ : Int,(wrap64 (x8_4 + (wrap64 (1 + t346)))) = j_ := ⟨_,rfl⟩
                  replace H : (if 0 ≤ (ji61) then (impl_termAt.l1 k4 a0 ji61 ((bt a0 (ji61)) == 44)) else (none)) = some (r1,r2) := by first | (rw [hji61] at H; exact H) | (simp only [hji61] at H ⊢; exact H)
                  (try rw [hji61] at c60b0)
                  (try rw [hji61] at A57)
                  have hji61w : (IntKind.i64.wrap (x8_4 + (wrap64 (1 + t346)))) = ji61 := (y19 _).trans hji61
                  obtain ⟨c62,H⟩ := qo H
                  have c62b0 : decide (0 ≤ (ji61)) = true := decide_eq_true c62
                  clear c62
                  have H' := y0.mk H
                  clear H
                  go_wp2_with (first | ((with_reducible refine y15 (f := 96) rfl ?_); refine y17 (some 106) rfl rfl Tryz.func96 (by kernel_rfl) rfl #[.string (a0.extract ((ji54) : Int).toNat a0.size)] rfl (by (try simp only [qM_,List.map_cons,List.map_nil]); first | done | (simp only [hji54]; rfl) | rfl | (simp only [qD_,qT_]; rfl)) ?_; (with_reducible refine (ih k4 (by have := HJ7.out; have := HJ38.out; have := HJ46.out; have := HK4.out; omega) (a0.extract ((ji54) : Int).toNat a0.size) t345 t346 _ (by exact Tb.below HT.out qb) A57.out).mono ?_); rintro e w64 ⟨rfl,hb⟩; refine ⟨_,rfl, ?_⟩; replace HB := y0.mk (y6 qb hb); (try clear hb); (try clear hb2); (try clear hk); (try clear hi); have p63 : 0 ≤ ((ji61) : Int) := of_decide_eq_true qy1; have q63 : (ji61) < (a0.size : Int) := of_decide_eq_true qy1; have hx63 := bt_at a0 (ji61); replace p63 := eq_true p63; replace q63 := eq_true q63))
                  go_roundg k4
                  case measure => have := HJ7.out; have := HJ38.out; have := HJ46.out; have := HK4.out; omega
                  exact ⟨(ji61),(((bt a0 (ji61)) == 44)),(by first | rfl | (simp; done) | (simp only [← hji61] <;> (first | rfl | simp)) | (simp [*]; done)),(by first | rfl | (simp; done) | (simp only [← hji61] <;> (first | rfl | simp)) | (simp [*]; done)),H',⟨by have := HJ7.out; have := HJ38.out; have := HJ46.out; have := HK4.out; omega⟩,⟨qb⟩⟩
                 ·rw [if_neg c60] at H
                  have c60b0 := decide_eq_false c60
                  clear c60
                  have H' := y0.mk H
                  clear H
                  go_wp2_with (first | ((with_reducible refine y15 (f := 96) rfl ?_); refine y17 (some 106) rfl rfl Tryz.func96 (by kernel_rfl) rfl #[.string (a0.extract ((ji54) : Int).toNat a0.size)] rfl (by (try simp only [qM_,List.map_cons,List.map_nil]); first | done | (simp only [hji54]; rfl) | rfl | (simp only [qD_,qT_]; rfl)) ?_; (with_reducible refine (ih k4 (by have := HJ7.out; have := HJ38.out; have := HJ46.out; have := HK4.out; omega) (a0.extract ((ji54) : Int).toNat a0.size) t345 t346 _ (by exact Tb.below HT.out qb) A57.out).mono ?_); rintro e w65 ⟨rfl,hb⟩; refine ⟨_,rfl, ?_⟩; replace HB := y0.mk (y6 qb hb); (try clear hb); (try clear hb2); (try clear hk); (try clear hi)))
                  go_roundg k4
                  case measure => have := HJ7.out; have := HJ38.out; have := HJ46.out; have := HK4.out; omega
                  exact ⟨(wrap64 (x8_4 + (wrap64 (1 + t346)))),(false),qy2,qy2,H',⟨by have := HJ7.out; have := HJ38.out; have := HJ46.out; have := HK4.out; omega⟩,⟨qb⟩⟩
               ·replace c53 := Bool.eq_false_iff.mpr c53
                subst c53
                replace H := qF H
                by_cases c66 : x8_4 < (a0.size : Int)
                ·rw [if_pos c66] at H
                 have c66b0 := decide_eq_true c66
                 clear c66
                 obtain ⟨c67,H⟩ := qo H
                 have c67b0 : decide (0 ≤ x8_4) = true := decide_eq_true c67
                 clear c67
                 by_cases c69 : (bt a0 x8_4) = 41
                 ·rw [if_pos c69] at H
                  have c69b0 : ((bt a0 x8_4) == 41) = true := beq_iff_eq.mpr c69
                  have c69b1 : ((bt a0 x8_4) != 41) = false := bne_eq_false_iff_eq.mpr c69
                  clear c69
                  simp only [Option.some.injEq,Prod.mk.injEq] at H
                  obtain ⟨rfl,rfl⟩ := H
                  have p68 : 0 ≤ (x8_4 : Int) := of_decide_eq_true qy1
                  have q68 : x8_4 < (a0.size : Int) := of_decide_eq_true qy1
                  have hx68 := bt_at a0 x8_4
                  replace p68 := eq_true p68
                  replace q68 := eq_true q68
                  go_wp2
                  go_ret2
                  exact ⟨by first | rfl | (simp [y13,y14] <;> rfl) | (simp [*,y13,y14] <;> rfl),qb⟩
                 ·rw [if_neg c69] at H
                  have c69b0 : ((bt a0 x8_4) == 41) = false := beq_eq_false_iff_ne.mpr c69
                  have c69b1 : ((bt a0 x8_4) != 41) = true := bne_iff_ne.mpr c69
                  simp only [Option.some.injEq,Prod.mk.injEq] at H
                  obtain ⟨rfl,rfl⟩ := H
                  have p68 : 0 ≤ (x8_4 : Int) := of_decide_eq_true qy1
                  have q68 : x8_4 < (a0.size : Int) := of_decide_eq_true qy1
                  have hx68 := bt_at a0 x8_4
                  replace p68 := eq_true p68
                  replace q68 := eq_true q68
                  go_wp2
                  go_ret2
                  exact ⟨by first | rfl | (simp [y13,y14] <;> rfl) | (simp [*,y13,y14] <;> rfl),qb⟩
                ·rw [if_neg c66] at H
                 have c66b0 := decide_eq_false c66
                 clear c66
                 simp only [Option.some.injEq,Prod.mk.injEq] at H
                 obtain ⟨rfl,rfl⟩ := H
                 go_wp2
                 go_ret2
                 exact ⟨by first | rfl | (simp [y13,y14] <;> rfl) | (simp [*,y13,y14] <;> rfl),qb⟩
        ·replace c44 := Bool.eq_false_iff.mpr c44
         subst c44
         replace H := qF H
         simp only [Option.some.injEq,Prod.mk.injEq] at H
         obtain ⟨rfl,rfl⟩ := H
         go_wp2
         go_ret2
         exact ⟨by first | rfl | (simp [y13,y14] <;> rfl) | (simp [*,y13,y14] <;> rfl),qb⟩
end Go.Proofs.YtkajecadkkgfmaaGreatDoor.Pe
end
section
namespace Go.Proofs.YtkajecadkkgfmaaGreatDoor.Pe
open Go.RowKit Go.Proofs.YtkajecadkkgfmaaGreatDoorW.PrintWords Go.Proofs.YtkajecadkkgfmaaGreatDoorW.PrintLast Go.Proofs.YtkajecadkkgfmaaGreatDoorW.PrintMore
attribute [local go_sem] max2_int min2_int max_two min_two max_three min_three max_four min_four   -- for this text's walks alone
set_option linter.unusedVariables false
set_option linter.unusedSimpArgs false
def impl_kindOf.f (k : Nat) (a0 : ByteArray) : Option (Int) := (impl_termAt.f k a0).bind fun bt347 => (if (a0.size : Int) > 200 then (some 0) else (if bt347.2 = (a0.size : Int) then (some bt347.1) else (some 0)))
set_option maxHeartbeats 8000000 in
set_option maxRecDepth 100000 in
theorem impl_kindOf.calls (k : Nat) (a0 : ByteArray) (r : Int) (w : World) (hT : Tb w) (h : impl_kindOf.f k a0 = some r) :
  Calls Tryz.prog 72 #[.string a0] w fun e w' => e = .returned (.int .i64 r) ∧ Below w.heap.size w w' := by
 have HT := y0.mk hT
 clear hT
 have HB := y0.mk (Below.refl w.heap.size w)
 have H : ((impl_termAt.f k a0).bind fun bt347 => (if (a0.size : Int) > 200 then (some 0) else (if bt347.2 = (a0.size : Int) then (some bt347.1) else (some 0)))) = some r := h
 clear h
 obtain ⟨⟨t347,t348⟩,A2,H⟩ := qB H
 replace H : (if (a0.size : Int) > 200 then (some 0) else (if t348 = (a0.size : Int) then (some t347) else (some 0))) = some r := H
 by_cases c3 : (a0.size : Int) > 200
 ·rw [if_pos c3] at H
  have c3b0 : decide (200 < (a0.size : Int)) = true := decide_eq_true c3
  have c3b1 : decide (200 < a0.size) = true := decide_eq_true (by omega)
  clear c3
  obtain rfl := Option.some.inj H
  go_enter Tryz.func72,Tryz.ntmps72
  go_wp2_with (first | ((with_reducible refine y15 (f := 96) rfl ?_); refine y17 (some 7) rfl rfl Tryz.func96 (by kernel_rfl) rfl #[.string a0] rfl qy0 ?_; (with_reducible refine (impl_termAt.calls k a0 t347 t348 _ (by exact Tb.below HT.out qb) A2.out).mono ?_); rintro e w4 ⟨rfl,hb⟩; refine ⟨_,rfl, ?_⟩; replace HB := y0.mk (y6 qb hb); (try clear hb); (try clear hb2); (try clear hk); (try clear hi)))
  go_ret
  exact ⟨by first | rfl | (simp [y13,y14] <;> rfl) | (simp [*,y13,y14] <;> rfl),qb⟩
 ·rw [if_neg c3] at H
  have c3b0 : decide (200 < (a0.size : Int)) = false := decide_eq_false c3
  have c3b1 : decide (200 < a0.size) = false := decide_eq_false (by omega)
  clear c3
  by_cases c5 : t348 = (a0.size : Int)
  ·rw [if_pos c5] at H
   have c5b0 : (t348 == (a0.size : Int)) = true := beq_iff_eq.mpr c5
   have c5b1 : (t348 != (a0.size : Int)) = false := bne_eq_false_iff_eq.mpr c5
   clear c5
   obtain rfl := Option.some.inj H
   go_enter Tryz.func72,Tryz.ntmps72
   go_wp2_with (first | ((with_reducible refine y15 (f := 96) rfl ?_); refine y17 (some 7) rfl rfl Tryz.func96 (by kernel_rfl) rfl #[.string a0] rfl qy0 ?_; (with_reducible refine (impl_termAt.calls k a0 t347 t348 _ (by exact Tb.below HT.out qb) A2.out).mono ?_); rintro e w6 ⟨rfl,hb⟩; refine ⟨_,rfl, ?_⟩; replace HB := y0.mk (y6 qb hb); (try clear hb); (try clear hb2); (try clear hk); (try clear hi)))
   go_ret
   exact ⟨by first | rfl | (simp [y13,y14] <;> rfl) | (simp [*,y13,y14] <;> rfl),qb⟩
  ·rw [if_neg c5] at H
   have c5b0 : (t348 == (a0.size : Int)) = false := beq_eq_false_iff_ne.mpr c5
   have c5b1 : (t348 != (a0.size : Int)) = true := bne_iff_ne.mpr c5
   obtain rfl := Option.some.inj H
   go_enter Tryz.func72,Tryz.ntmps72
   go_wp2_with (first | ((with_reducible refine y15 (f := 96) rfl ?_); refine y17 (some 7) rfl rfl Tryz.func96 (by kernel_rfl) rfl #[.string a0] rfl qy0 ?_; (with_reducible refine (impl_termAt.calls k a0 t347 t348 _ (by exact Tb.below HT.out qb) A2.out).mono ?_); rintro e w7 ⟨rfl,hb⟩; refine ⟨_,rfl, ?_⟩; replace HB := y0.mk (y6 qb hb); (try clear hb); (try clear hb2); (try clear hk); (try clear hi)))
   go_ret
   exact ⟨by first | rfl | (simp [y13,y14] <;> rfl) | (simp [*,y13,y14] <;> rfl),qb⟩
def impl_isTuple_1.f (k : Nat) (a0 : ByteArray) : Option (Bool) := (impl_kindOf.f k a0).bind fun t349 => (some (t349 == 0))
set_option maxHeartbeats 8000000 in
set_option maxRecDepth 100000 in
theorem impl_isTuple_1.calls (k : Nat) (a0 : ByteArray) (r : Bool) (w : World) (hT : Tb w) (h : impl_isTuple_1.f k a0 = some r) :
  Calls Tryz.prog 71 #[.string a0] w fun e w' => e = .returned (.bool r) ∧ Below w.heap.size w w' := by
 have HT := y0.mk hT
 clear hT
 have HB := y0.mk (Below.refl w.heap.size w)
 have H : ((impl_kindOf.f k a0).bind fun t349 => (some (t349 == 0))) = some r := h
 clear h
 obtain ⟨t349,A2,H⟩ := qB H
 obtain rfl := Option.some.inj H
 go_enter Tryz.func71,Tryz.ntmps71
 go_wp2_with (first | ((with_reducible refine y15 (f := 72) rfl ?_); refine y17 (some 4) rfl rfl Tryz.func72 (by kernel_rfl) rfl #[.string a0] rfl qy0 ?_; (with_reducible refine (impl_kindOf.calls k a0 t349 _ (by exact Tb.below HT.out qb) A2.out).mono ?_); rintro e w3 ⟨rfl,hb⟩; refine ⟨_,rfl, ?_⟩; replace HB := y0.mk (y6 qb hb); (try clear hb); (try clear hb2); (try clear hk); (try clear hi)))
 go_ret
 exact ⟨by first | rfl | (simp [y13,y14] <;> rfl) | (simp [*,y13,y14] <;> rfl),qb⟩
def z2_.l0 : Nat → List ByteArray → Int → Int → Option (Int)
 | 0,_,_,_ => none
 | k + 1,x0,x7,x8 => if x8 < x7 then (if 0 ≤ x8 then (if x8 < (x0.length : Int) then ((impl_isTuple_1.f k (rdOf ByteArray.empty x0 x8)).bind fun t351 => (if t351 = true then (some x8) else (z2_.l0 k x0 x7 (wrap64 (x8 + 1))))) else (none)) else (none)) else (some (-1))
def z2_.f (k : Nat) (l0 : List ByteArray)  : Option (Int) := z2_.l0 k l0 (l0.length : Int) 0
set_option maxHeartbeats 8000000 in
set_option maxRecDepth 100000 in
theorem z2_.calls (k : Nat) (A0 : Option Addr) (c0 : Nat) (l0 : List ByteArray)  (r : Int) (w : World) (hr0 : Kd.C Kd.string w A0 l0.length l0) (hc0 : l0.length ≤ c0) (hT : Tb w) (h : z2_.f k l0 = some r) :
  Calls Tryz.prog 95 #[.slice A0 l0.length c0,.func (.func 71) #[] #[]] w fun e w' => e = .returned (.int .i64 r) ∧ Below w.heap.size w w' := by
 have HT := y0.mk hT
 clear hT
 have HR0 := y0.mk hr0
 have HC0 := y0.mk hc0
 clear hr0 hc0
 have HB := y0.mk (Below.refl w.heap.size w)
 have H : (z2_.l0 k l0 (l0.length : Int) 0) = some r := h
 clear h
 have H' := y0.mk H
 clear H
 go_enter Tryz.func95,Tryz.ntmps95
 go_wp2
 go_loopg [8] k (fun kq v8 w' => ∃ (x8_1 : Int),v8 = .int .i64 x8_1 ∧ y0 (z2_.l0 kq l0 (l0.length : Int) x8_1 = some r) ∧ y0 (kq ≤ k) ∧ y0 (Below w.heap.size w w'))
 case atStart => exact ⟨(0),qy2,H',⟨Nat.le_refl _⟩,⟨qb⟩⟩
 case round =>
  clear H'
  obtain ⟨x8_1,rfl,HA,HK1,HB⟩ := hrel
  cases gk with
  | zero => exact absurd HA.out (by simp [z2_.l0])
  | succ k1 =>
   have H := HA.out
   clear HA
   simp only [z2_.l0] at H
   by_cases c3 : x8_1 < (l0.length : Int)
   ·rw [if_pos c3] at H
    have c3b0 := decide_eq_true c3
    clear c3
    obtain ⟨c4,H⟩ := qo H
    have c4b0 : decide (0 ≤ x8_1) = true := decide_eq_true c4
    clear c4
    obtain ⟨c5,H⟩ := qo H
    have c5b0 : decide (x8_1 < (l0.length : Int)) = true := decide_eq_true c5
    clear c5
    obtain ⟨t351,A6,H⟩ := qB H
    by_cases c7 : t351 = true
    ·subst c7
     replace H := qT H
     obtain rfl := Option.some.inj H
     have p350 : 0 ≤ (x8_1 : Int) := of_decide_eq_true qy1
     have q350 : x8_1 < (l0.length : Int) := of_decide_eq_true qy1
     obtain ⟨ad350,e350,hx350_0⟩ := Kd.at_string HR0.out x8_1 p350 q350
     cases e350
     replace hx350_0 := (HB.out.cell (World.block_lt_of_cell? w _ hx350_0)).trans hx350_0
     replace p350 := eq_true p350
     replace q350 := eq_true q350
     go_wp2_with (first | (go_at_call 71; (with_reducible refine (impl_isTuple_1.calls k1 (rdOf ByteArray.empty l0 x8_1) true _ (by exact Tb.below HT.out qb) A6.out).mono ?_); rintro e w8 ⟨rfl,hb⟩; replace HB := y0.mk (y6 qb hb); (try clear hb); (try clear hb2); (try clear hk); (try clear hi)))
     go_ret
     exact ⟨by first | rfl | (simp [y13,y14] <;> rfl) | (simp [*,y13,y14] <;> rfl),qb⟩
    ·replace c7 := Bool.eq_false_iff.mpr c7
     subst c7
     replace H := qF H
     have H' := y0.mk H
     clear H
     have p350 : 0 ≤ (x8_1 : Int) := of_decide_eq_true qy1
     have q350 : x8_1 < (l0.length : Int) := of_decide_eq_true qy1
     obtain ⟨ad350,e350,hx350_0⟩ := Kd.at_string HR0.out x8_1 p350 q350
     cases e350
     replace hx350_0 := (HB.out.cell (World.block_lt_of_cell? w _ hx350_0)).trans hx350_0
     replace p350 := eq_true p350
     replace q350 := eq_true q350
     go_wp2_with (first | (go_at_call 71; (with_reducible refine (impl_isTuple_1.calls k1 (rdOf ByteArray.empty l0 x8_1) false _ (by exact Tb.below HT.out qb) A6.out).mono ?_); rintro e w9 ⟨rfl,hb⟩; replace HB := y0.mk (y6 qb hb); (try clear hb); (try clear hb2); (try clear hk); (try clear hi)))
     go_roundg k1
     case measure => have := HK1.out; omega
     exact ⟨(wrap64 (x8_1 + 1)),qy2,H',⟨by have := HK1.out; omega⟩,⟨qb⟩⟩
   ·rw [if_neg c3] at H
    have c3b0 := decide_eq_false c3
    clear c3
    obtain rfl := Option.some.inj H
    go_wp2
    go_ret
    exact ⟨by first | rfl | (simp [y13,y14] <;> rfl) | (simp [*,y13,y14] <;> rfl),qb⟩
def slices_ContainsFunc_string_string_impl_isTuple_1.f (k : Nat) (l0 : List ByteArray)  : Option (Bool) := (z2_.f k l0).bind fun t352 => (some (decide (t352 ≥ 0)))
set_option maxHeartbeats 8000000 in
set_option maxRecDepth 100000 in
theorem slices_ContainsFunc_string_string_impl_isTuple_1.calls (k : Nat) (A0 : Option Addr) (c0 : Nat) (l0 : List ByteArray)  (r : Bool) (w : World) (hr0 : Kd.C Kd.string w A0 l0.length l0) (hc0 : l0.length ≤ c0) (hT : Tb w) (h : slices_ContainsFunc_string_string_impl_isTuple_1.f k l0 = some r) :
  Calls Tryz.prog 70 #[.slice A0 l0.length c0,.func (.func 71) #[] #[]] w fun e w' => e = .returned (.bool r) ∧ Below w.heap.size w w' := by
 have HT := y0.mk hT
 clear hT
 have HR0 := y0.mk hr0
 have HC0 := y0.mk hc0
 clear hr0 hc0
 have HB := y0.mk (Below.refl w.heap.size w)
 have H : ((z2_.f k l0).bind fun t352 => (some (decide (t352 ≥ 0)))) = some r := h
 clear h
 obtain ⟨t352,A3,H⟩ := qB H
 obtain rfl := Option.some.inj H
 go_enter Tryz.func70,Tryz.ntmps70
 go_wp2_with (first | ((with_reducible refine y15 (f := 95) rfl ?_); refine y17 (some 7) rfl rfl Tryz.func95 (by kernel_rfl) rfl #[.slice A0 l0.length c0,.func (.func 71) #[] #[]] rfl qy0 ?_; (with_reducible refine (z2_.calls k _ _ l0  t352 _ (qc HR0.out) HC0.out (by exact Tb.below HT.out qb) A3.out).mono ?_); rintro e w4 ⟨rfl,hb⟩; refine ⟨_,rfl, ?_⟩; replace HB := y0.mk (y6 qb hb); (try clear hb); (try clear hb2); (try clear hk); (try clear hi)))
 go_ret
 exact ⟨by first | rfl | (simp [y13,y14] <;> rfl) | (simp [*,y13,y14] <;> rfl),qb⟩
def impl_isTuple.f (k : Nat) (l0_0 : List ByteArray) : Option (Bool) := if (l0_0.length : Int) ≤ 6 then ((slices_ContainsFunc_string_string_impl_isTuple_1.f k l0_0).bind fun t354 => (some (!t354))) else (some false)
set_option maxHeartbeats 8000000 in
set_option maxRecDepth 100000 in
theorem impl_isTuple.calls (k : Nat) (A0_0 : Option Addr) (c0_0 : Nat) (l0_0 : List ByteArray) (r : Bool) (w : World) (hr0_0 : Kd.C Kd.string w A0_0 l0_0.length l0_0) (hc0_0 : l0_0.length ≤ c0_0) (hT : Tb w) (h : impl_isTuple.f k l0_0 = some r) :
  Calls Tryz.prog 41 #[.agg #[.slice A0_0 l0_0.length c0_0]] w fun e w' => e = .returned (.bool r) ∧ Below w.heap.size w w' := by
 have hu36 := Tryz.underlying36
 have HT := y0.mk hT
 clear hT
 have HR0_0 := y0.mk hr0_0
 have HC0_0 := y0.mk hc0_0
 clear hr0_0 hc0_0
 have HB := y0.mk (Below.refl w.heap.size w)
 have H : (if (l0_0.length : Int) ≤ 6 then ((slices_ContainsFunc_string_string_impl_isTuple_1.f k l0_0).bind fun t354 => (some (!t354))) else (some false)) = some r := h
 clear h
 by_cases c2 : (l0_0.length : Int) ≤ 6
 ·rw [if_pos c2] at H
  have c2b0 := decide_eq_true c2
  have c2b1 : decide (l0_0.length ≤ 6) = true := decide_eq_true (by omega)
  clear c2
  obtain ⟨t354,A3,H⟩ := qB H
  obtain rfl := Option.some.inj H
  go_enter Tryz.func41,Tryz.ntmps41
  go_wp2_with (first | ((with_reducible refine y16 (N := 1) rfl ?_); refine qe 1 #[.slice A0_0 l0_0.length c0_0] 36 ?_; intro gb353 hg w4 hbox hb; have BK353 := y0.mk (hbox); have GW353 := y0.mk (qg (w := w) hg); have GE353 := y0.mk (qg (w := w) hg); replace HB := y0.mk (y6 qb hb); clear hb hbox hg; obtain ⟨hcz5_0,hfz5_0⟩ := qz1 BK353.out) | (go_at_call 70; (with_reducible refine (slices_ContainsFunc_string_string_impl_isTuple_1.calls k _ _ l0_0  t354 _ (qc (Kd.C_below HR0_0.out HB.out)) HC0_0.out (by exact Tb.below HT.out qb) A3.out).mono ?_); rintro e w6 ⟨rfl,hb⟩; replace BK353 := y0.mk (qK BK353.out hb); replace HB := y0.mk (y6 qb hb); (try clear hb); (try clear hb2); (try clear hk); (try clear hi)))
  go_ret
  exact ⟨by first | rfl | (simp [y13,y14] <;> rfl) | (simp [*,y13,y14] <;> rfl),qb⟩
 ·rw [if_neg c2] at H
  have c2b0 := decide_eq_false c2
  have c2b1 : decide (l0_0.length ≤ 6) = false := decide_eq_false (by omega)
  clear c2
  obtain rfl := Option.some.inj H
  go_enter Tryz.func41,Tryz.ntmps41
  go_wp2_with (first | ((with_reducible refine y16 (N := 1) rfl ?_); refine qe 1 #[.slice A0_0 l0_0.length c0_0] 36 ?_; intro gb353 hg w7 hbox hb; have BK353 := y0.mk (hbox); have GW353 := y0.mk (qg (w := w) hg); have GE353 := y0.mk (qg (w := w) hg); replace HB := y0.mk (y6 qb hb); clear hb hbox hg; obtain ⟨hcz8_0,hfz8_0⟩ := qz1 BK353.out))
  go_ret
  exact ⟨by first | rfl | (simp [y13,y14] <;> rfl) | (simp [*,y13,y14] <;> rfl),qb⟩
def cmp_isNaN_int.f (a0 : Int) : Option (Bool) := some (a0 != a0)
set_option maxHeartbeats 8000000 in
set_option maxRecDepth 100000 in
theorem cmp_isNaN_int.calls (a0 : Int) (r : Bool) (w : World) (h : cmp_isNaN_int.f a0 = some r) :
  Calls Tryz.prog 123 #[.int .i64 a0] w fun e w' => e = .returned (.bool r) ∧ y1 w w' := by
 have H : (some (a0 != a0)) = some r := h
 clear h
 obtain rfl := Option.some.inj H
 go_enter Tryz.func123,Tryz.ntmps123
 go_wp2
 go_ret
 exact ⟨by first | rfl | (simp; done) | (simp [*]; done),by repeat (first | exact y1.refl _ | apply y1.step)⟩
def cmp_Compare_int.f (a0 : Int) (a1 : Int) : Option (Int) := (cmp_isNaN_int.f a0).bind fun t355 => ((cmp_isNaN_int.f a1).bind fun t356 => (if t355 = true then (if t356 = true then (some 0) else (some (-1))) else (if t356 = true then (some 1) else (if a0 < a1 then (some (-1)) else (if a0 > a1 then (some 1) else (some 0))))))
set_option maxHeartbeats 8000000 in
set_option maxRecDepth 100000 in
theorem cmp_Compare_int.calls (a0 : Int) (a1 : Int) (r : Int) (w : World) (h : cmp_Compare_int.f a0 a1 = some r) :
  Calls Tryz.prog 97 #[.int .i64 a0,.int .i64 a1] w fun e w' => e = .returned (.int .i64 r) ∧ y1 w w' := by
 have H : ((cmp_isNaN_int.f a0).bind fun t355 => ((cmp_isNaN_int.f a1).bind fun t356 => (if t355 = true then (if t356 = true then (some 0) else (some (-1))) else (if t356 = true then (some 1) else (if a0 < a1 then (some (-1)) else (if a0 > a1 then (some 1) else (some 0))))))) = some r := h
 clear h
 obtain ⟨t355,A3,H⟩ := qB H
 obtain ⟨t356,A4,H⟩ := qB H
 by_cases c5 : t355 = true
 ·subst c5
  replace H := qT H
  by_cases c6 : t356 = true
  ·subst c6
   replace H := qT H
   obtain rfl := Option.some.inj H
   go_enter Tryz.func97,Tryz.ntmps97
   go_wp2_with (first | ((with_reducible refine y15 (f := 123) rfl ?_); refine y17 (some 8) rfl rfl Tryz.func123 (by kernel_rfl) rfl #[.int .i64 a0] rfl qy0 ?_; (with_reducible refine (cmp_isNaN_int.calls a0 true _ A3.out).mono ?_); rintro e w' ⟨rfl,⟨nd,rfl⟩⟩; refine ⟨_,rfl, ?_⟩) | ((with_reducible refine y15 (f := 123) rfl ?_); refine y17 (some 10) rfl rfl Tryz.func123 (by kernel_rfl) rfl #[.int .i64 a1] rfl qy0 ?_; (with_reducible refine (cmp_isNaN_int.calls a1 true _ A4.out).mono ?_); rintro e w' ⟨rfl,⟨nd,rfl⟩⟩; refine ⟨_,rfl, ?_⟩))
   go_ret
   exact ⟨by first | rfl | (simp; done) | (simp [*]; done),by repeat (first | exact y1.refl _ | apply y1.step)⟩
  ·replace c6 := Bool.eq_false_iff.mpr c6
   subst c6
   replace H := qF H
   obtain rfl := Option.some.inj H
   go_enter Tryz.func97,Tryz.ntmps97
   go_wp2_with (first | ((with_reducible refine y15 (f := 123) rfl ?_); refine y17 (some 8) rfl rfl Tryz.func123 (by kernel_rfl) rfl #[.int .i64 a0] rfl qy0 ?_; (with_reducible refine (cmp_isNaN_int.calls a0 true _ A3.out).mono ?_); rintro e w' ⟨rfl,⟨nd,rfl⟩⟩; refine ⟨_,rfl, ?_⟩) | ((with_reducible refine y15 (f := 123) rfl ?_); refine y17 (some 10) rfl rfl Tryz.func123 (by kernel_rfl) rfl #[.int .i64 a1] rfl qy0 ?_; (with_reducible refine (cmp_isNaN_int.calls a1 false _ A4.out).mono ?_); rintro e w' ⟨rfl,⟨nd,rfl⟩⟩; refine ⟨_,rfl, ?_⟩))
   go_ret
   exact ⟨by first | rfl | (simp; done) | (simp [*]; done),by repeat (first | exact y1.refl _ | apply y1.step)⟩
 ·replace c5 := Bool.eq_false_iff.mpr c5
  subst c5
  replace H := qF H
  by_cases c7 : t356 = true
  ·subst c7
   replace H := qT H
   obtain rfl := Option.some.inj H
   go_enter Tryz.func97,Tryz.ntmps97
   go_wp2_with (first | ((with_reducible refine y15 (f := 123) rfl ?_); refine y17 (some 8) rfl rfl Tryz.func123 (by kernel_rfl) rfl #[.int .i64 a0] rfl qy0 ?_; (with_reducible refine (cmp_isNaN_int.calls a0 false _ A3.out).mono ?_); rintro e w' ⟨rfl,⟨nd,rfl⟩⟩; refine ⟨_,rfl, ?_⟩) | ((with_reducible refine y15 (f := 123) rfl ?_); refine y17 (some 10) rfl rfl Tryz.func123 (by kernel_rfl) rfl #[.int .i64 a1] rfl qy0 ?_; (with_reducible refine (cmp_isNaN_int.calls a1 true _ A4.out).mono ?_); rintro e w' ⟨rfl,⟨nd,rfl⟩⟩; refine ⟨_,rfl, ?_⟩))
   go_ret
   exact ⟨by first | rfl | (simp; done) | (simp [*]; done),by repeat (first | exact y1.refl _ | apply y1.step)⟩
  ·replace c7 := Bool.eq_false_iff.mpr c7
   subst c7
   replace H := qF H
   by_cases c8 : a0 < a1
   ·rw [if_pos c8] at H
    have c8b0 := decide_eq_true c8
    clear c8
    obtain rfl := Option.some.inj H
    go_enter Tryz.func97,Tryz.ntmps97
    go_wp2_with (first | ((with_reducible refine y15 (f := 123) rfl ?_); refine y17 (some 8) rfl rfl Tryz.func123 (by kernel_rfl) rfl #[.int .i64 a0] rfl qy0 ?_; (with_reducible refine (cmp_isNaN_int.calls a0 false _ A3.out).mono ?_); rintro e w' ⟨rfl,⟨nd,rfl⟩⟩; refine ⟨_,rfl, ?_⟩) | ((with_reducible refine y15 (f := 123) rfl ?_); refine y17 (some 10) rfl rfl Tryz.func123 (by kernel_rfl) rfl #[.int .i64 a1] rfl qy0 ?_; (with_reducible refine (cmp_isNaN_int.calls a1 false _ A4.out).mono ?_); rintro e w' ⟨rfl,⟨nd,rfl⟩⟩; refine ⟨_,rfl, ?_⟩))
    go_ret
    exact ⟨by first | rfl | (simp; done) | (simp [*]; done),by repeat (first | exact y1.refl _ | apply y1.step)⟩
   ·rw [if_neg c8] at H
    have c8b0 := decide_eq_false c8
    clear c8
    by_cases c9 : a0 > a1
    ·rw [if_pos c9] at H
     have c9b0 : decide (a1 < a0) = true := decide_eq_true c9
     clear c9
     obtain rfl := Option.some.inj H
     go_enter Tryz.func97,Tryz.ntmps97
     go_wp2_with (first | ((with_reducible refine y15 (f := 123) rfl ?_); refine y17 (some 8) rfl rfl Tryz.func123 (by kernel_rfl) rfl #[.int .i64 a0] rfl qy0 ?_; (with_reducible refine (cmp_isNaN_int.calls a0 false _ A3.out).mono ?_); rintro e w' ⟨rfl,⟨nd,rfl⟩⟩; refine ⟨_,rfl, ?_⟩) | ((with_reducible refine y15 (f := 123) rfl ?_); refine y17 (some 10) rfl rfl Tryz.func123 (by kernel_rfl) rfl #[.int .i64 a1] rfl qy0 ?_; (with_reducible refine (cmp_isNaN_int.calls a1 false _ A4.out).mono ?_); rintro e w' ⟨rfl,⟨nd,rfl⟩⟩; refine ⟨_,rfl, ?_⟩))
     go_ret
     exact ⟨by first | rfl | (simp; done) | (simp [*]; done),by repeat (first | exact y1.refl _ | apply y1.step)⟩
    ·rw [if_neg c9] at H
     have c9b0 : decide (a1 < a0) = false := decide_eq_false c9
     clear c9
     obtain rfl := Option.some.inj H
     go_enter Tryz.func97,Tryz.ntmps97
     go_wp2_with (first | ((with_reducible refine y15 (f := 123) rfl ?_); refine y17 (some 8) rfl rfl Tryz.func123 (by kernel_rfl) rfl #[.int .i64 a0] rfl qy0 ?_; (with_reducible refine (cmp_isNaN_int.calls a0 false _ A3.out).mono ?_); rintro e w' ⟨rfl,⟨nd,rfl⟩⟩; refine ⟨_,rfl, ?_⟩) | ((with_reducible refine y15 (f := 123) rfl ?_); refine y17 (some 10) rfl rfl Tryz.func123 (by kernel_rfl) rfl #[.int .i64 a1] rfl qy0 ?_; (with_reducible refine (cmp_isNaN_int.calls a1 false _ A4.out).mono ?_); rintro e w' ⟨rfl,⟨nd,rfl⟩⟩; refine ⟨_,rfl, ?_⟩))
     go_ret
     exact ⟨by first | rfl | (simp; done) | (simp [*]; done),by repeat (first | exact y1.refl _ | apply y1.step)⟩
def impl_numOf.f (a0 : ByteArray) : Option (Int) := (strconv_Atoi.f a0).bind fun bt357 => (some bt357.1)
set_option maxHeartbeats 8000000 in
set_option maxRecDepth 100000 in
theorem impl_numOf.calls (a0 : ByteArray) (r : Int) (w : World) (hT : Tb w) (h : impl_numOf.f a0 = some r) :
  Calls Tryz.prog 98 #[.string a0] w fun e w' => e = .returned (.int .i64 r) ∧ Below w.heap.size w w' := by
 have HT := y0.mk hT
 clear hT
 have HB := y0.mk (Below.refl w.heap.size w)
 have H : ((strconv_Atoi.f a0).bind fun bt357 => (some bt357.1)) = some r := h
 clear h
 obtain ⟨⟨t357,t358⟩,A2,H⟩ := qB H
 replace H : (some t357) = some r := H
 obtain rfl := Option.some.inj H
 go_enter Tryz.func98,Tryz.ntmps98
 go_wp2_with (first | ((with_reducible refine y15 (f := 120) rfl ?_); refine y17 (some 7) rfl rfl Tryz.func120 (by kernel_rfl) rfl #[.string a0] rfl qy0 ?_; (with_reducible refine (strconv_Atoi.calls a0 t357 t358 _ (by exact Tb.below HT.out qb) A2.out).mono ?_); rintro e w3 ⟨ev_,rfl,hev_,hb⟩; refine ⟨_,rfl, ?_⟩; replace HB := y0.mk (y6 qb hb); (try clear hb); (try clear hb2); (try clear hk); (try clear hi); (try simp only [y13,y14])))
 go_ret
 exact ⟨by first | rfl | (simp [y13,y14] <;> rfl) | (simp [*,y13,y14] <;> rfl),qb⟩
def cmp_isNaN_string.f (a0 : ByteArray) : Option (Bool) := some (a0.toList != a0.toList)
set_option maxHeartbeats 8000000 in
set_option maxRecDepth 100000 in
theorem cmp_isNaN_string.calls (a0 : ByteArray) (r : Bool) (w : World) (h : cmp_isNaN_string.f a0 = some r) :
  Calls Tryz.prog 124 #[.string a0] w fun e w' => e = .returned (.bool r) ∧ y1 w w' := by
 have H : (some (a0.toList != a0.toList)) = some r := h
 clear h
 obtain rfl := Option.some.inj H
 go_enter Tryz.func124,Tryz.ntmps124
 go_wp2
 go_ret
 exact ⟨by first | rfl | (simp; done) | (simp [*]; done),by repeat (first | exact y1.refl _ | apply y1.step)⟩
def cmp_Compare_string.f (a0 : ByteArray) (a1 : ByteArray) : Option (Int) := (cmp_isNaN_string.f a0).bind fun t359 => ((cmp_isNaN_string.f a1).bind fun t360 => (if t359 = true then (if t360 = true then (some 0) else (some (-1))) else (if t360 = true then (some 1) else (if (Op.bytesLess a0.toList a1.toList) = true then (some (-1)) else (if (Op.bytesLess a1.toList a0.toList) = true then (some 1) else (some 0))))))
theorem cmp_Compare_string.bl : ∀ x y : List UInt8,(!(Op.bytesLess x y || x == y)) = Op.bytesLess y x
 | [],[] => rfl
 | [],b :: y => rfl
 | a :: x,[] => rfl
 | a :: x,b :: y => by
  have ih := cmp_Compare_string.bl x y
  have e1 : (decide (a < b)) = (decide (a.toNat < b.toNat)) := rfl
  have e2 : (decide (b < a)) = (decide (b.toNat < a.toNat)) := rfl
  rw [Op.bytesLess,Op.bytesLess,e1,e2,← ih]
  by_cases h : a = b
  ·subst h
   simp
  ·have hn : a.toNat ≠ b.toNat := fun h' => h (UInt8.toNat_inj.1 h')
   have h1 : (a == b) = false := by simpa using h
   have h2 : (b == a) = false := by simpa using fun h' => h (Eq.symm h')
   have h3 : ((a :: x) == (b :: y)) = false := by simp [h]
   rw [h1,h2,h3]
   by_cases hl : a.toNat < b.toNat
   ·have : ¬ b.toNat < a.toNat := by omega
    simp [hl,this]
   ·have : b.toNat < a.toNat := by omega
    simp [hl,this]
theorem cmp_Compare_string.gtr (t : TypeId) (a b : ByteArray) : binOp .gtr t (.string a) (.string b) = pure (.bool (Op.bytesLess b.toList a.toList)) := by
 rw [← cmp_Compare_string.bl]
 simp [binOp,Op.stringOp]
attribute [local go_sem] cmp_Compare_string.gtr
set_option maxHeartbeats 8000000 in
set_option maxRecDepth 100000 in
theorem cmp_Compare_string.calls (a0 : ByteArray) (a1 : ByteArray) (r : Int) (w : World) (h : cmp_Compare_string.f a0 a1 = some r) :
  Calls Tryz.prog 99 #[.string a0,.string a1] w fun e w' => e = .returned (.int .i64 r) ∧ y1 w w' := by
 have H : ((cmp_isNaN_string.f a0).bind fun t359 => ((cmp_isNaN_string.f a1).bind fun t360 => (if t359 = true then (if t360 = true then (some 0) else (some (-1))) else (if t360 = true then (some 1) else (if (Op.bytesLess a0.toList a1.toList) = true then (some (-1)) else (if (Op.bytesLess a1.toList a0.toList) = true then (some 1) else (some 0))))))) = some r := h
 clear h
 obtain ⟨t359,A3,H⟩ := qB H
 obtain ⟨t360,A4,H⟩ := qB H
 by_cases c5 : t359 = true
 ·subst c5
  replace H := qT H
  by_cases c6 : t360 = true
  ·subst c6
   replace H := qT H
   obtain rfl := Option.some.inj H
   go_enter Tryz.func99,Tryz.ntmps99
   go_wp2_with (first | ((with_reducible refine y15 (f := 124) rfl ?_); refine y17 (some 8) rfl rfl Tryz.func124 (by kernel_rfl) rfl #[.string a0] rfl qy0 ?_; (with_reducible refine (cmp_isNaN_string.calls a0 true _ A3.out).mono ?_); rintro e w' ⟨rfl,⟨nd,rfl⟩⟩; refine ⟨_,rfl, ?_⟩) | ((with_reducible refine y15 (f := 124) rfl ?_); refine y17 (some 10) rfl rfl Tryz.func124 (by kernel_rfl) rfl #[.string a1] rfl qy0 ?_; (with_reducible refine (cmp_isNaN_string.calls a1 true _ A4.out).mono ?_); rintro e w' ⟨rfl,⟨nd,rfl⟩⟩; refine ⟨_,rfl, ?_⟩))
   go_ret
   exact ⟨by first | rfl | (simp; done) | (simp [*]; done),by repeat (first | exact y1.refl _ | apply y1.step)⟩
  ·replace c6 := Bool.eq_false_iff.mpr c6
   subst c6
   replace H := qF H
   obtain rfl := Option.some.inj H
   go_enter Tryz.func99,Tryz.ntmps99
   go_wp2_with (first | ((with_reducible refine y15 (f := 124) rfl ?_); refine y17 (some 8) rfl rfl Tryz.func124 (by kernel_rfl) rfl #[.string a0] rfl qy0 ?_; (with_reducible refine (cmp_isNaN_string.calls a0 true _ A3.out).mono ?_); rintro e w' ⟨rfl,⟨nd,rfl⟩⟩; refine ⟨_,rfl, ?_⟩) | ((with_reducible refine y15 (f := 124) rfl ?_); refine y17 (some 10) rfl rfl Tryz.func124 (by kernel_rfl) rfl #[.string a1] rfl qy0 ?_; (with_reducible refine (cmp_isNaN_string.calls a1 false _ A4.out).mono ?_); rintro e w' ⟨rfl,⟨nd,rfl⟩⟩; refine ⟨_,rfl, ?_⟩))
   go_ret
   exact ⟨by first | rfl | (simp; done) | (simp [*]; done),by repeat (first | exact y1.refl _ | apply y1.step)⟩
 ·replace c5 := Bool.eq_false_iff.mpr c5
  subst c5
  replace H := qF H
  by_cases c7 : t360 = true
  ·subst c7
   replace H := qT H
   obtain rfl := Option.some.inj H
   go_enter Tryz.func99,Tryz.ntmps99
   go_wp2_with (first | ((with_reducible refine y15 (f := 124) rfl ?_); refine y17 (some 8) rfl rfl Tryz.func124 (by kernel_rfl) rfl #[.string a0] rfl qy0 ?_; (with_reducible refine (cmp_isNaN_string.calls a0 false _ A3.out).mono ?_); rintro e w' ⟨rfl,⟨nd,rfl⟩⟩; refine ⟨_,rfl, ?_⟩) | ((with_reducible refine y15 (f := 124) rfl ?_); refine y17 (some 10) rfl rfl Tryz.func124 (by kernel_rfl) rfl #[.string a1] rfl qy0 ?_; (with_reducible refine (cmp_isNaN_string.calls a1 true _ A4.out).mono ?_); rintro e w' ⟨rfl,⟨nd,rfl⟩⟩; refine ⟨_,rfl, ?_⟩))
   go_ret
   exact ⟨by first | rfl | (simp; done) | (simp [*]; done),by repeat (first | exact y1.refl _ | apply y1.step)⟩
  ·replace c7 := Bool.eq_false_iff.mpr c7
   subst c7
   replace H := qF H
   by_cases c8 : (Op.bytesLess a0.toList a1.toList) = true
   ·rw [if_pos c8] at H
    have c8b0 : (Op.bytesLess a0.toList a1.toList) = true := c8
    clear c8
    obtain rfl := Option.some.inj H
    go_enter Tryz.func99,Tryz.ntmps99
    go_wp2_with (first | ((with_reducible refine y15 (f := 124) rfl ?_); refine y17 (some 8) rfl rfl Tryz.func124 (by kernel_rfl) rfl #[.string a0] rfl qy0 ?_; (with_reducible refine (cmp_isNaN_string.calls a0 false _ A3.out).mono ?_); rintro e w' ⟨rfl,⟨nd,rfl⟩⟩; refine ⟨_,rfl, ?_⟩) | ((with_reducible refine y15 (f := 124) rfl ?_); refine y17 (some 10) rfl rfl Tryz.func124 (by kernel_rfl) rfl #[.string a1] rfl qy0 ?_; (with_reducible refine (cmp_isNaN_string.calls a1 false _ A4.out).mono ?_); rintro e w' ⟨rfl,⟨nd,rfl⟩⟩; refine ⟨_,rfl, ?_⟩))
    go_ret
    exact ⟨by first | rfl | (simp; done) | (simp [*]; done),by repeat (first | exact y1.refl _ | apply y1.step)⟩
   ·rw [if_neg c8] at H
    have c8b0 : (Op.bytesLess a0.toList a1.toList) = false := by simpa using c8
    clear c8
    by_cases c9 : (Op.bytesLess a1.toList a0.toList) = true
    ·rw [if_pos c9] at H
     have c9b0 : (Op.bytesLess a1.toList a0.toList) = true := c9
     clear c9
     obtain rfl := Option.some.inj H
     go_enter Tryz.func99,Tryz.ntmps99
     go_wp2_with (first | ((with_reducible refine y15 (f := 124) rfl ?_); refine y17 (some 8) rfl rfl Tryz.func124 (by kernel_rfl) rfl #[.string a0] rfl qy0 ?_; (with_reducible refine (cmp_isNaN_string.calls a0 false _ A3.out).mono ?_); rintro e w' ⟨rfl,⟨nd,rfl⟩⟩; refine ⟨_,rfl, ?_⟩) | ((with_reducible refine y15 (f := 124) rfl ?_); refine y17 (some 10) rfl rfl Tryz.func124 (by kernel_rfl) rfl #[.string a1] rfl qy0 ?_; (with_reducible refine (cmp_isNaN_string.calls a1 false _ A4.out).mono ?_); rintro e w' ⟨rfl,⟨nd,rfl⟩⟩; refine ⟨_,rfl, ?_⟩))
     go_ret
     exact ⟨by first | rfl | (simp; done) | (simp [*]; done),by repeat (first | exact y1.refl _ | apply y1.step)⟩
    ·rw [if_neg c9] at H
     have c9b0 : (Op.bytesLess a1.toList a0.toList) = false := by simpa using c9
     clear c9
     obtain rfl := Option.some.inj H
     go_enter Tryz.func99,Tryz.ntmps99
     go_wp2_with (first | ((with_reducible refine y15 (f := 124) rfl ?_); refine y17 (some 8) rfl rfl Tryz.func124 (by kernel_rfl) rfl #[.string a0] rfl qy0 ?_; (with_reducible refine (cmp_isNaN_string.calls a0 false _ A3.out).mono ?_); rintro e w' ⟨rfl,⟨nd,rfl⟩⟩; refine ⟨_,rfl, ?_⟩) | ((with_reducible refine y15 (f := 124) rfl ?_); refine y17 (some 10) rfl rfl Tryz.func124 (by kernel_rfl) rfl #[.string a1] rfl qy0 ?_; (with_reducible refine (cmp_isNaN_string.calls a1 false _ A4.out).mono ?_); rintro e w' ⟨rfl,⟨nd,rfl⟩⟩; refine ⟨_,rfl, ?_⟩))
     go_ret
     exact ⟨by first | rfl | (simp; done) | (simp [*]; done),by repeat (first | exact y1.refl _ | apply y1.step)⟩
def strings_Cut.f (a0 a1 : ByteArray) : Option (ByteArray × ByteArray × Bool) := if a0.size < 4294967281 then some (⟨(Lib.cut a0.data.toList a1.data.toList).1.toArray⟩,⟨(Lib.cut a0.data.toList a1.data.toList).2.1.toArray⟩,(Lib.cut a0.data.toList a1.data.toList).2.2) else none
theorem strings_Cut.calls (a0 a1 : ByteArray) (r1 r2 : ByteArray) (r3 : Bool) (w : World) (hT : Tb w) (h : strings_Cut.f a0 a1 = some (r1,r2,r3)) :
  Calls Tryz.prog 138 #[.string a0,.string a1] w fun e w' => e = .returned (.tuple #[.string r1,.string r2,.bool r3]) ∧ y1 w w' := by
 unfold strings_Cut.f at h
 by_cases h0 : a0.size < 4294967281
 ·rw [if_pos h0] at h
  simp only [Option.some.injEq,Prod.mk.injEq] at h
  obtain ⟨rfl,rfl,rfl⟩ := h
  obtain ⟨m,hm⟩ := hT.ml
  refine (Tryz.strings_Cut a0 a1 m w h0 hm).mono ?_
  rintro e w' ⟨rfl,n,rfl⟩
  exact ⟨rfl,⟨⟨n,rfl⟩⟩⟩
 ·rw [if_neg h0] at h
  cases h
def impl_isBigName.f (k : Nat) (a0 : ByteArray) : Option (Bool) := (impl_in.f (a0.size : Int) 1 20).bind fun t361 => (if t361 = true then ((impl_nameLong.f k a0).bind fun t362 => (if t362 = (a0.size : Int) then (if 0 < (a0.size : Int) then (some (decide ((bt a0 0) ≤ 90))) else (none)) else (some false))) else (some false))
set_option maxHeartbeats 8000000 in
set_option maxRecDepth 100000 in
theorem impl_isBigName.calls (k : Nat) (a0 : ByteArray) (r : Bool) (w : World) (h : impl_isBigName.f k a0 = some r) :
  Calls Tryz.prog 139 #[.string a0] w fun e w' => e = .returned (.bool r) ∧ y1 w w' := by
 have H : ((impl_in.f (a0.size : Int) 1 20).bind fun t361 => (if t361 = true then ((impl_nameLong.f k a0).bind fun t362 => (if t362 = (a0.size : Int) then (if 0 < (a0.size : Int) then (some (decide ((bt a0 0) ≤ 90))) else (none)) else (some false))) else (some false))) = some r := h
 clear h
 obtain ⟨t361,A2,H⟩ := qB H
 by_cases c3 : t361 = true
 ·subst c3
  replace H := qT H
  obtain ⟨t362,A4,H⟩ := qB H
  by_cases c5 : t362 = (a0.size : Int)
  ·rw [if_pos c5] at H
   have c5b0 : (t362 == (a0.size : Int)) = true := beq_iff_eq.mpr c5
   have c5b1 : (t362 != (a0.size : Int)) = false := bne_eq_false_iff_eq.mpr c5
   clear c5
   obtain ⟨c6,H⟩ := qo H
   have c6b0 : decide (0 < (a0.size : Int)) = true := decide_eq_true c6
   have c6b1 : decide (0 < a0.size) = true := decide_eq_true (by omega)
   clear c6
   obtain rfl := Option.some.inj H
   go_enter Tryz.func139,Tryz.ntmps139
   go_wp2_with (first | ((with_reducible refine y15 (f := 69) rfl ?_); refine y17 (some 5) rfl rfl Tryz.func69 (by kernel_rfl) rfl #[.int .i64 (a0.size : Int),.int .i64 1,.int .i64 20] rfl qy0 ?_; (with_reducible refine (impl_in.calls (a0.size : Int) 1 20 true _ A2.out).mono ?_); rintro e w' ⟨rfl,⟨nd,rfl⟩⟩; refine ⟨_,rfl, ?_⟩) | (go_at_call 122; (with_reducible refine (impl_nameLong.calls k a0 t362 _ A4.out).mono ?_); rintro e w' ⟨rfl,⟨nd,rfl⟩⟩; have p7 : 0 ≤ (0 : Int) := (by omega); have q7 : 0 < a0.size := qy4; have hx7 : ∀ h : 0 < a0.size,((a0[0]'h).toNat : Int) = bt a0 0 := bt_at a0 0; clear p7; have qi7 : (0 < (a0.size : Int)) = True := eq_true (of_decide_eq_true qy1); replace q7 := eq_true q7))
   go_ret
   exact ⟨by first | rfl | (simp; done) | (simp [*]; done),by repeat (first | exact y1.refl _ | apply y1.step)⟩
  ·rw [if_neg c5] at H
   have c5b0 : (t362 == (a0.size : Int)) = false := beq_eq_false_iff_ne.mpr c5
   have c5b1 : (t362 != (a0.size : Int)) = true := bne_iff_ne.mpr c5
   obtain rfl := Option.some.inj H
   go_enter Tryz.func139,Tryz.ntmps139
   go_wp2_with (first | ((with_reducible refine y15 (f := 69) rfl ?_); refine y17 (some 5) rfl rfl Tryz.func69 (by kernel_rfl) rfl #[.int .i64 (a0.size : Int),.int .i64 1,.int .i64 20] rfl qy0 ?_; (with_reducible refine (impl_in.calls (a0.size : Int) 1 20 true _ A2.out).mono ?_); rintro e w' ⟨rfl,⟨nd,rfl⟩⟩; refine ⟨_,rfl, ?_⟩) | (go_at_call 122; (with_reducible refine (impl_nameLong.calls k a0 t362 _ A4.out).mono ?_); rintro e w' ⟨rfl,⟨nd,rfl⟩⟩))
   go_ret
   exact ⟨by first | rfl | (simp; done) | (simp [*]; done),by repeat (first | exact y1.refl _ | apply y1.step)⟩
 ·replace c3 := Bool.eq_false_iff.mpr c3
  subst c3
  replace H := qF H
  obtain rfl := Option.some.inj H
  go_enter Tryz.func139,Tryz.ntmps139
  go_wp2_with (first | ((with_reducible refine y15 (f := 69) rfl ?_); refine y17 (some 5) rfl rfl Tryz.func69 (by kernel_rfl) rfl #[.int .i64 (a0.size : Int),.int .i64 1,.int .i64 20] rfl qy0 ?_; (with_reducible refine (impl_in.calls (a0.size : Int) 1 20 false _ A2.out).mono ?_); rintro e w' ⟨rfl,⟨nd,rfl⟩⟩; refine ⟨_,rfl, ?_⟩))
  go_ret
  exact ⟨by first | rfl | (simp; done) | (simp [*]; done),by repeat (first | exact y1.refl _ | apply y1.step)⟩
def strings_HasPrefix.f (a0 a1 : ByteArray) : Option Bool := some (Lib.hasPrefix a0.data.toList a1.data.toList)
theorem strings_HasPrefix.calls (a0 a1 : ByteArray) (r : Bool) (w : World) (h : strings_HasPrefix.f a0 a1 = some r) :
  Calls Tryz.prog 140 #[.string a0,.string a1] w fun e w' => e = .returned (.bool r) ∧ y1 w w' := by
 obtain rfl := Option.some.inj h
 refine (Tryz.strings_HasPrefix a0 a1 w).mono ?_
 rintro e w' ⟨rfl,rfl⟩
 exact ⟨rfl,y1.refl _⟩
end Go.Proofs.YtkajecadkkgfmaaGreatDoor.Pe
end
section
namespace Go.Proofs.YtkajecadkkgfmaaGreatDoor.Pe
open Go.RowKit Go.Proofs.YtkajecadkkgfmaaGreatDoorW.PrintWords Go.Proofs.YtkajecadkkgfmaaGreatDoorW.PrintLast Go.Proofs.YtkajecadkkgfmaaGreatDoorW.PrintMore
attribute [local go_sem] max2_int min2_int max_two min_two max_three min_three max_four min_four   -- for this text's walks alone
set_option linter.unusedVariables false
set_option linter.unusedSimpArgs false
mutual
def z0_.j0 : Nat → ByteArray → ByteArray → ByteArray → Bool → Option (ByteArray × List ByteArray)
 | 0,_,_,_,_ => none
 | k + 1,x0,x4,x5,x22 => if x22 = true then (some (x0,([] : List ByteArray))) else (z0_.l0 k x4 x5 (([] : List ByteArray)))
def z0_.l0 : Nat → ByteArray → ByteArray → List ByteArray → Option (ByteArray × List ByteArray)
 | 0,_,_,_ => none
 | k + 1,x4,x5,x7 => if x5.toList = ([] : List UInt8) then (z0_.j2 k x4 x5 x7 false) else (z0_.j2 k x4 x5 x7 (x5.toList != ([41] : List UInt8)))
def z0_.j2 : Nat → ByteArray → ByteArray → List ByteArray → Bool → Option (ByteArray × List ByteArray)
 | 0,_,_,_,_ => none
 | k + 1,x4,x5,x7,x30 => if x30 = true then ((impl_termAt.f k x5).bind fun bt370 => (if 0 ≤ bt370.2 then (if bt370.2 ≤ (x5.size : Int) then (if x7.length < 8796093022208 then ((some (x7 ++ [x5.extract 0 (bt370.2 : Int).toNat] : List ByteArray)).bind fun y372 => ((strings_HasPrefix.f (x5.extract (bt370.2 : Int).toNat x5.size) (⟨#[44]⟩ : ByteArray)).bind fun t375 => (if t375 = true then (if 1 ≤ ((x5.extract (bt370.2 : Int).toNat x5.size).size : Int) then (z0_.l0 k x4 ((x5.extract (bt370.2 : Int).toNat x5.size).extract 1 (x5.extract (bt370.2 : Int).toNat x5.size).size) y372) else (none)) else (z0_.l0 k x4 (x5.extract (bt370.2 : Int).toNat x5.size) y372)))) else (none)) else (none)) else (none))) else (some (x4,x7))
end
def z0_.f (k : Nat) (a0 : ByteArray) : Option (ByteArray × List ByteArray) := (strings_Cut.f a0 (⟨#[40]⟩ : ByteArray)).bind fun bt363 => ((impl_isBigName.f k bt363.1).bind fun t366 => (if t366 = true then (z0_.j0 k a0 bt363.1 bt363.2.1 (!bt363.2.2)) else (z0_.j0 k a0 bt363.1 bt363.2.1 true)))
set_option maxHeartbeats 8000000 in
set_option maxRecDepth 100000 in
theorem z0_.calls (k : Nat) (a0 : ByteArray) (r1 : ByteArray) (r2 : List ByteArray) (w : World) (hT : Tb w) (h : z0_.f k a0 = some (r1,r2)) :
  Calls Tryz.prog 125 #[.string a0] w fun e w' => ∃ v1_ : Value,e = .returned (.tuple #[.string r1,v1_]) ∧ Kd.R Kd.string 9 w' w.heap.size (fun _ => True) v1_ r2 ∧ Below w.heap.size w w' := by
 have HT := y0.mk hT
 clear hT
 have HB := y0.mk (Below.refl w.heap.size w)
 have H : ((strings_Cut.f a0 (⟨#[40]⟩ : ByteArray)).bind fun bt363 => ((impl_isBigName.f k bt363.1).bind fun t366 => (if t366 = true then (z0_.j0 k a0 bt363.1 bt363.2.1 (!bt363.2.2)) else (z0_.j0 k a0 bt363.1 bt363.2.1 true)))) = some (r1,r2) := h
 clear h
 obtain ⟨⟨t363,t364,t365⟩,A2,H⟩ := qB H
 replace H : ((impl_isBigName.f k t363).bind fun t366 => (if t366 = true then (z0_.j0 k a0 t363 t364 (!t365)) else (z0_.j0 k a0 t363 t364 true))) = some (r1,r2) := H
 have HC3 := y0.mk H
 clear H
 go_enter Tryz.func125,Tryz.ntmps125
 go_upto_region 2 with (first | ((with_reducible refine y15 (f := 138) rfl ?_); refine y17 (some 12) rfl rfl Tryz.func138 (by kernel_rfl) rfl #[.string a0,.string (⟨#[40]⟩ : ByteArray)] rfl qy0 ?_; (with_reducible refine (strings_Cut.calls a0 (⟨#[40]⟩ : ByteArray) t363 t364 t365 _ (by exact Tb.below HT.out qb) A2.out).mono ?_); rintro e w' ⟨rfl,⟨nd,rfl⟩⟩; refine ⟨_,rfl, ?_⟩))
 (try simp only [Act.put,qS_,qZ_,qC_])
 go_cut [22] (fun v22 wc => ∃ (kq : Nat) (x22_2 : Bool),v22 = .bool x22_2 ∧ y0 (z0_.j0 kq a0 t363 t364 x22_2 = some (r1,r2)) ∧ y0 (kq ≤ k) ∧ y0 (Below w.heap.size w wc))
 case first =>
  have H := HC3.out
  clear HC3
  obtain ⟨t366,A4,H⟩ := qB H
  by_cases c5 : t366 = true
  ·subst c5
   replace H := qT H
   have H' := y0.mk H
   clear H
   go_wp2_with (first | ((with_reducible refine y15 (f := 139) rfl ?_); refine y17 (some 17) rfl rfl Tryz.func139 (by kernel_rfl) rfl #[.string t363] rfl qy0 ?_; (with_reducible refine (impl_isBigName.calls k t363 true _ A4.out).mono ?_); rintro e w' ⟨rfl,⟨nd,rfl⟩⟩; refine ⟨_,rfl, ?_⟩))
   go_meet
   exact ⟨_,(!t365),qy2,H',⟨by first | omega | exact Nat.le_refl _⟩,⟨qb⟩⟩
  ·replace c5 := Bool.eq_false_iff.mpr c5
   subst c5
   replace H := qF H
   have H' := y0.mk H
   clear H
   go_wp2_with (first | ((with_reducible refine y15 (f := 139) rfl ?_); refine y17 (some 17) rfl rfl Tryz.func139 (by kernel_rfl) rfl #[.string t363] rfl qy0 ?_; (with_reducible refine (impl_isBigName.calls k t363 false _ A4.out).mono ?_); rintro e w' ⟨rfl,⟨nd,rfl⟩⟩; refine ⟨_,rfl, ?_⟩))
   go_meet
   exact ⟨_,(true),qy2,H',⟨by first | omega | exact Nat.le_refl _⟩,⟨qb⟩⟩
 case rest =>
  clear HC3
  obtain ⟨kq,x22_2,rfl,HA,HJ2,HB⟩ := hcut
  cases kq with
  | zero => exact absurd HA.out (by simp [z0_.j0])
  | succ kj2 =>
   have H := HA.out
   clear HA
   simp only [z0_.j0] at H
   by_cases c6 : x22_2 = true
   ·subst c6
    replace H := qT H
    simp only [Option.some.injEq,Prod.mk.injEq] at H
    obtain ⟨rfl,rfl⟩ := H
    go_wp2
    go_ret2
    exact ⟨_,by first | rfl | (simp [y13,y14] <;> rfl) | (simp [*,y13,y14] <;> rfl),by first | exact Kd.R_nil _ _ _ _ _ | exact Kd.N_nil _ _ _ _ _ | exact Kd.V_nil _ _ _ _ _ | exact Kd.Q_nil _ _ _ _ _ | exact Kd.S_nil _ _ _ _ _,qb⟩
   ·replace c6 := Bool.eq_false_iff.mpr c6
    subst c6
    replace H := qF H
    obtain ⟨y367,hy367⟩ : ∃ y_ : List ByteArray,y_ = (([] : List ByteArray)) := ⟨_,rfl⟩
    replace H : (z0_.l0 kj2 t363 t364 y367) = some (r1,r2) := by first | (rw [hy367]; with_reducible exact H) | (have H2_ := (Option.bind_some _ _).symm.trans H; rw [hy367]; with_reducible exact H2_) | (have H2_ := (Option.bind_some _ _).symm.trans H; with_reducible exact H2_) | with_reducible exact H | (rw [hy367]; exact H) | exact H
    have Ny367 := y0.mk hy367
    clear hy367
    have H' := y0.mk H
    clear H
    go_wp2_with (first | ((with_reducible refine y16 (N := 24) rfl ?_); refine Kd.R_lit Kd.string _ 9 ?hg (N := 24) ?hd (xs := ([] : List ByteArray)) (inner := []) (ok := fun _ => True) (okp := fun _ => True) ?hr ?hp (fun _ hk => hk) trivial (Below.refl _ _) (Nat.le_refl _) (by simp) ?_; (case hd => rfl); (case hg => rfl); (case hr => first | (go_simp; done) | (go_simp; rfl)); (case hp => exact (Reps.none _ _)); intro v368 w7 ho8 hb hg_ hnew_; clear hg_ hnew_; (first | rw [← Ny367.out] at ho8 | (simp only [Int.reduceToNat] at ho8; rw [← Ny367.out] at ho8)); have HO369 := y0.mk (Kd.R_lower ho8 (y5 qb)); replace HB := y0.mk (y6 qb hb); clear hb ho8))
    go_loopg [5,7] kj2 (fun kq v5 v7 w' => ∃ (x5_2 : ByteArray) (x7_2 : List ByteArray),v5 = .string x5_2 ∧ y0 (z0_.l0 kq t363 x5_2 x7_2 = some (r1,r2)) ∧ y0 (kq ≤ kj2) ∧ y0 (Kd.R Kd.string 9 w' w.heap.size (fun _ => True) v7 x7_2) ∧ y0 (Below w.heap.size w w'))
    case atStart => exact ⟨(t364),(y367),qy2,H',⟨Nat.le_refl _⟩,⟨qR HO369.out⟩,⟨qb⟩⟩
    case round =>
     clear H'
     (try clear c6)
     obtain ⟨x5_2,x7_2,rfl,HA,HK2,HO_7,HB⟩ := hrel
     cases gk with
     | zero => exact absurd HA.out (by simp [z0_.l0])
     | succ k2 =>
      have H := HA.out
      clear HA
      simp only [z0_.l0] at H
      have HC9 := y0.mk H
      clear H
      go_upto_region 5 with (fail)
      go_cut [30] (fun v30 wc => ∃ (kq : Nat) (x30_8 : Bool),v30 = .bool x30_8 ∧ y0 (z0_.j2 kq t363 x5_2 x7_2 x30_8 = some (r1,r2)) ∧ y0 (kq ≤ k2) ∧ y0 (Kd.R Kd.string 9 wc w.heap.size (fun _ => True) u7 x7_2) ∧ y0 (Below w.heap.size w wc))
      case first =>
       have H := HC9.out
       clear HC9
       by_cases c10 : x5_2.toList = ([] : List UInt8)
       ·rw [if_pos c10] at H
        have c10b0 : (x5_2.toList == ([] : List UInt8)) = true := beq_iff_eq.mpr c10
        have c10b1 : (x5_2.toList != ([] : List UInt8)) = false := bne_eq_false_iff_eq.mpr c10
        clear c10
        (first | rw [c10b0] | (simp only [y19,y18]; rw [c10b0]) | skip)
        have H' := y0.mk H
        clear H
        go_wp2
        go_meet
        exact ⟨_,(false),qy2,H',⟨by have := HJ2.out; have := HK2.out; first | omega | exact Nat.le_refl _⟩,⟨qR HO_7.out⟩,⟨qb⟩⟩
       ·rw [if_neg c10] at H
        have c10b0 : (x5_2.toList == ([] : List UInt8)) = false := beq_eq_false_iff_ne.mpr c10
        have c10b1 : (x5_2.toList != ([] : List UInt8)) = true := bne_iff_ne.mpr c10
        (first | rw [c10b0] | (simp only [y19,y18]; rw [c10b0]) | skip)
        have H' := y0.mk H
        clear H
        go_wp2
        go_meet
        exact ⟨_,((x5_2.toList != ([41] : List UInt8))),qy2,H',⟨by have := HJ2.out; have := HK2.out; first | omega | exact Nat.le_refl _⟩,⟨qR HO_7.out⟩,⟨qb⟩⟩
      case rest =>
       clear HC9
       obtain ⟨kq,x30_8,rfl,HA,HJ8,HO_7,HB⟩ := hcut
       cases kq with
       | zero => exact absurd HA.out (by simp [z0_.j2])
       | succ kj8 =>
        have H := HA.out
        clear HA
        simp only [z0_.j2] at H
        by_cases c11 : x30_8 = true
        ·subst c11
         replace H := qT H
         obtain ⟨⟨t370,t371⟩,A12,H⟩ := qB H
         replace H : (if 0 ≤ t371 then (if t371 ≤ (x5_2.size : Int) then (if x7_2.length < 8796093022208 then ((some (x7_2 ++ [x5_2.extract 0 (t371 : Int).toNat] : List ByteArray)).bind fun y372 => ((strings_HasPrefix.f (x5_2.extract (t371 : Int).toNat x5_2.size) (⟨#[44]⟩ : ByteArray)).bind fun t375 => (if t375 = true then (if 1 ≤ ((x5_2.extract (t371 : Int).toNat x5_2.size).size : Int) then (z0_.l0 kj8 t363 ((x5_2.extract (t371 : Int).toNat x5_2.size).extract 1 (x5_2.extract (t371 : Int).toNat x5_2.size).size) y372) else (none)) else (z0_.l0 kj8 t363 (x5_2.extract (t371 : Int).toNat x5_2.size) y372)))) else (none)) else (none)) else (none)) = some (r1,r2) := H
         obtain ⟨c13,H⟩ := qo H
         have c13b0 := eq_true c13
         have c13b1 := decide_eq_true c13
         clear c13
         obtain ⟨c14,H⟩ := qo H
         have c14b0 := eq_true c14
         have c14b1 := decide_eq_true c14
         clear c14
         obtain ⟨c15,H⟩ := qo H
         have LMc15 := y0.mk c15
         clear c15
         obtain ⟨y372,hy372⟩ : ∃ y_ : List ByteArray,y_ = (x7_2 ++ [x5_2.extract 0 (t371 : Int).toNat]) := ⟨_,rfl⟩
         replace H : ((strings_HasPrefix.f (x5_2.extract (t371 : Int).toNat x5_2.size) (⟨#[44]⟩ : ByteArray)).bind fun t375 => (if t375 = true then (if 1 ≤ ((x5_2.extract (t371 : Int).toNat x5_2.size).size : Int) then (z0_.l0 kj8 t363 ((x5_2.extract (t371 : Int).toNat x5_2.size).extract 1 (x5_2.extract (t371 : Int).toNat x5_2.size).size) y372) else (none)) else (z0_.l0 kj8 t363 (x5_2.extract (t371 : Int).toNat x5_2.size) y372))) = some (r1,r2) := by first | (rw [hy372]; with_reducible exact H) | (have H2_ := (Option.bind_some _ _).symm.trans H; rw [hy372]; with_reducible exact H2_) | (have H2_ := (Option.bind_some _ _).symm.trans H; with_reducible exact H2_) | with_reducible exact H | (rw [hy372]; exact H) | exact H
         have Ny372 := y0.mk hy372
         clear hy372
         have c16b0 := eq_true (of_decide_eq_true qy1 : 0 ≤ t371)
         have c17b0 := eq_true (of_decide_eq_true qy1 : t371 ≤ (x5_2.size : Int))
         obtain ⟨t375,A18,H⟩ := qB H
         by_cases c19 : t375 = true
         ·subst c19
          replace H := qT H
          obtain ⟨c20,H⟩ := qo H
          have c20b0 := eq_true c20
          have c20b1 := decide_eq_true c20
          have c20b4 : ((1 : Int) ≤ ((x5_2.size - (t371 : Int).toNat : Nat) : Int)) = True := eq_true (by have h_ := c20; simp only [ByteArray.size_extract] at h_; omega)
          have c20b5 : (((x5_2.size - (t371 : Int).toNat : Nat) : Int) < 1) = False := eq_false (by have h_ := c20; simp only [ByteArray.size_extract] at h_; omega)
          clear c20
          have H' := y0.mk H
          clear H
          go_wp2_with (first | ((with_reducible refine y15 (f := 96) rfl ?_); refine y17 (some 33) rfl rfl Tryz.func96 (by kernel_rfl) rfl #[.string x5_2] rfl qy0 ?_; (with_reducible refine (impl_termAt.calls kj8 x5_2 t370 t371 _ (by exact Tb.below HT.out qb) A12.out).mono ?_); rintro e w21 ⟨rfl,hb⟩; refine ⟨_,rfl, ?_⟩; replace HO_7 := y0.mk (Kd.R_below (qR HO_7.out) hb); replace HB := y0.mk (y6 qb hb); (try clear hb); (try clear hb2); (try clear hk); (try clear hi)) | ((with_reducible refine gate_builtin (b := .append) (xs := #[.tmp 36,.tmp 40]) rfl ?_); at_builtin; refine Kd.R_append Kd.string (w0 := w) w.heap.size rfl (.tmp 36) (.tmp 40) 25 9 (.string ⟨#[]⟩) 16 rfl Tryz.underlying25 info9 rfl (by decide) (by omega) u7 x7_2 (x5_2.extract 0 (t371 : Int).toNat) [.string (x5_2.extract 0 (t371 : Int).toNat)] (fun _ => True) (fun _ => False) rfl rfl ?aP (fun _ hk => hk.elim) ?aF ?aO ?aB ?aS ?aL ?_; (case aP => exact rfl); (case aB => exact qb); (case aF => exact (fun _ _ => trivial)); (case aO => exact (qR HO_7.out)); (case aS => exact (y5 qb)); (case aL => have := LMc15.out; omega); intro v373 w22 ho hb hg hat; rw [← Ny372.out] at ho; replace HB := y0.mk (hb); have HO374 := y0.mk (ho); clear HO_7; clear ho hb hg hat) | ((with_reducible refine y15 (f := 140) rfl ?_); refine y17 (some 46) rfl rfl Tryz.func140 (by kernel_rfl) rfl #[.string (x5_2.extract (t371 : Int).toNat x5_2.size),.string (⟨#[44]⟩ : ByteArray)] rfl qy0 ?_; (with_reducible refine (strings_HasPrefix.calls (x5_2.extract (t371 : Int).toNat x5_2.size) (⟨#[44]⟩ : ByteArray) true _ A18.out).mono ?_); rintro e w' ⟨rfl,⟨nd,rfl⟩⟩; refine ⟨_,rfl, ?_⟩))
          go_roundg kj8
          case measure => have := HJ2.out; have := HK2.out; have := HJ8.out; omega
          exact ⟨((x5_2.extract (t371 : Int).toNat x5_2.size).extract 1 (x5_2.extract (t371 : Int).toNat x5_2.size).size),(y372),qy2,H',⟨by have := HJ2.out; have := HK2.out; have := HJ8.out; omega⟩,⟨qR HO374.out⟩,⟨qb⟩⟩
         ·replace c19 := Bool.eq_false_iff.mpr c19
          subst c19
          replace H := qF H
          have H' := y0.mk H
          clear H
          go_wp2_with (first | ((with_reducible refine y15 (f := 96) rfl ?_); refine y17 (some 33) rfl rfl Tryz.func96 (by kernel_rfl) rfl #[.string x5_2] rfl qy0 ?_; (with_reducible refine (impl_termAt.calls kj8 x5_2 t370 t371 _ (by exact Tb.below HT.out qb) A12.out).mono ?_); rintro e w23 ⟨rfl,hb⟩; refine ⟨_,rfl, ?_⟩; replace HO_7 := y0.mk (Kd.R_below (qR HO_7.out) hb); replace HB := y0.mk (y6 qb hb); (try clear hb); (try clear hb2); (try clear hk); (try clear hi)) | ((with_reducible refine gate_builtin (b := .append) (xs := #[.tmp 36,.tmp 40]) rfl ?_); at_builtin; refine Kd.R_append Kd.string (w0 := w) w.heap.size rfl (.tmp 36) (.tmp 40) 25 9 (.string ⟨#[]⟩) 16 rfl Tryz.underlying25 info9 rfl (by decide) (by omega) u7 x7_2 (x5_2.extract 0 (t371 : Int).toNat) [.string (x5_2.extract 0 (t371 : Int).toNat)] (fun _ => True) (fun _ => False) rfl rfl ?aP (fun _ hk => hk.elim) ?aF ?aO ?aB ?aS ?aL ?_; (case aP => exact rfl); (case aB => exact qb); (case aF => exact (fun _ _ => trivial)); (case aO => exact (qR HO_7.out)); (case aS => exact (y5 qb)); (case aL => have := LMc15.out; omega); intro v373 w24 ho hb hg hat; rw [← Ny372.out] at ho; replace HB := y0.mk (hb); have HO374 := y0.mk (ho); clear HO_7; clear ho hb hg hat) | ((with_reducible refine y15 (f := 140) rfl ?_); refine y17 (some 46) rfl rfl Tryz.func140 (by kernel_rfl) rfl #[.string (x5_2.extract (t371 : Int).toNat x5_2.size),.string (⟨#[44]⟩ : ByteArray)] rfl qy0 ?_; (with_reducible refine (strings_HasPrefix.calls (x5_2.extract (t371 : Int).toNat x5_2.size) (⟨#[44]⟩ : ByteArray) false _ A18.out).mono ?_); rintro e w' ⟨rfl,⟨nd,rfl⟩⟩; refine ⟨_,rfl, ?_⟩))
          go_roundg kj8
          case measure => have := HJ2.out; have := HK2.out; have := HJ8.out; omega
          exact ⟨(x5_2.extract (t371 : Int).toNat x5_2.size),(y372),qy2,H',⟨by have := HJ2.out; have := HK2.out; have := HJ8.out; omega⟩,⟨qR HO374.out⟩,⟨qb⟩⟩
        ·replace c11 := Bool.eq_false_iff.mpr c11
         subst c11
         replace H := qF H
         simp only [Option.some.injEq,Prod.mk.injEq] at H
         obtain ⟨rfl,rfl⟩ := H
         go_wp2
         go_ret2
         exact ⟨_,by first | rfl | (simp [y13,y14] <;> rfl) | (simp [*,y13,y14] <;> rfl),by (with_reducible repeat (first | apply Kd.R_alloc | apply Kd.R_drewN | apply Kd.R_drew)); exact HO_7.out,qb⟩
def cmp_Or_int.l0 : Nat → Int → List Int → Int → Int → Option (Int)
 | 0,_,_,_,_ => none
 | k + 1,x3,x6,x7,x8 => if x8 < x7 then (if 0 ≤ x8 then (if x8 < (x6.length : Int) then (if (rd x6 x8) = x3 then (cmp_Or_int.l0 k x3 x6 x7 (wrap64 (x8 + 1))) else (some (rd x6 x8))) else (none)) else (none)) else (some x3)
def cmp_Or_int.f (k : Nat) (l0 : List Int) : Option (Int) := cmp_Or_int.l0 k 0 l0 (l0.length : Int) 0
set_option maxHeartbeats 8000000 in
set_option maxRecDepth 100000 in
theorem cmp_Or_int.calls (k : Nat) (A0 : Option Addr) (c0 : Nat) (l0 : List Int) (r : Int) (w : World) (hr0 : Kd.C (Kd.int .i64) w A0 l0.length l0) (hc0 : l0.length ≤ c0) (h : cmp_Or_int.f k l0 = some r) :
  Calls Tryz.prog 126 #[.slice A0 l0.length c0] w fun e w' => e = .returned (.int .i64 r) ∧ y1 w w' := by
 have HR0 := y0.mk hr0
 have HC0 := y0.mk hc0
 clear hr0 hc0
 have H : (cmp_Or_int.l0 k 0 l0 (l0.length : Int) 0) = some r := h
 clear h
 have H' := y0.mk H
 clear H
 go_enter Tryz.func126,Tryz.ntmps126
 go_wp2
 go_loopg [8] k (fun kq v8 w' => ∃ (x8_1 : Int),v8 = .int .i64 x8_1 ∧ y0 (cmp_Or_int.l0 kq 0 l0 (l0.length : Int) x8_1 = some r) ∧ y0 (kq ≤ k) ∧ y1 w w')
 case atStart => exact ⟨(0),qy2,H',⟨Nat.le_refl _⟩,by repeat (first | exact y1.refl _ | apply y1.step)⟩
 case round =>
  clear H'
  obtain ⟨x8_1,rfl,HA,HK1,⟨m1,rfl⟩⟩ := hrel
  cases gk with
  | zero => exact absurd HA.out (by simp [cmp_Or_int.l0])
  | succ k1 =>
   have H := HA.out
   clear HA
   simp only [cmp_Or_int.l0] at H
   by_cases c2 : x8_1 < (l0.length : Int)
   ·rw [if_pos c2] at H
    have c2b0 := decide_eq_true c2
    clear c2
    obtain ⟨c3,H⟩ := qo H
    have c3b0 : decide (0 ≤ x8_1) = true := decide_eq_true c3
    clear c3
    obtain ⟨c4,H⟩ := qo H
    have c4b0 : decide (x8_1 < (l0.length : Int)) = true := decide_eq_true c4
    clear c4
    by_cases c5 : (rd l0 x8_1) = 0
    ·rw [if_pos c5] at H
     have c5b0 : ((rd l0 x8_1) == 0) = true := beq_iff_eq.mpr c5
     have c5b1 : ((rd l0 x8_1) != 0) = false := bne_eq_false_iff_eq.mpr c5
     clear c5
     have H' := y0.mk H
     clear H
     have p376 : 0 ≤ (x8_1 : Int) := of_decide_eq_true qy1
     have q376 : x8_1 < (l0.length : Int) := of_decide_eq_true qy1
     obtain ⟨ad376,e376,hx376_0⟩ := Kd.at_int HR0.out x8_1 p376 q376
     cases e376
     replace p376 := eq_true p376
     replace q376 := eq_true q376
     go_wp2
     go_roundg k1
     case measure => have := HK1.out; omega
     exact ⟨(wrap64 (x8_1 + 1)),qy2,H',⟨by have := HK1.out; omega⟩,by repeat (first | exact y1.refl _ | apply y1.step)⟩
    ·rw [if_neg c5] at H
     have c5b0 : ((rd l0 x8_1) == 0) = false := beq_eq_false_iff_ne.mpr c5
     have c5b1 : ((rd l0 x8_1) != 0) = true := bne_iff_ne.mpr c5
     obtain rfl := Option.some.inj H
     have p376 : 0 ≤ (x8_1 : Int) := of_decide_eq_true qy1
     have q376 : x8_1 < (l0.length : Int) := of_decide_eq_true qy1
     obtain ⟨ad376,e376,hx376_0⟩ := Kd.at_int HR0.out x8_1 p376 q376
     cases e376
     replace p376 := eq_true p376
     replace q376 := eq_true q376
     go_wp2
     go_ret
     exact ⟨by first | rfl | (simp; done) | (simp [*]; done),by repeat (first | exact y1.refl _ | apply y1.step)⟩
   ·rw [if_neg c2] at H
    have c2b0 := decide_eq_false c2
    clear c2
    obtain rfl := Option.some.inj H
    go_wp2
    go_ret
    exact ⟨by first | rfl | (simp; done) | (simp [*]; done),by repeat (first | exact y1.refl _ | apply y1.step)⟩
end Go.Proofs.YtkajecadkkgfmaaGreatDoor.Pe
end

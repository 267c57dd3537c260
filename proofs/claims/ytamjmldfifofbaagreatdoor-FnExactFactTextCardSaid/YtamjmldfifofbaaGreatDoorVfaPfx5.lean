-- Cut by prune.py, a program of this session, out of the texts of this claim: Lean checks it.
import Derived.Test.YtamjmldfifofbaaGreatDoorVfaPfx0
section
namespace Go.Proofs.YtamjmldfifofbaaGreatDoor.Pf
open Go.RowKit Go.Proofs.YtamjmldfifofbaaGreatDoorW.PrintWords Go.Proofs.YtamjmldfifofbaaGreatDoorW.PrintLast Go.Proofs.YtamjmldfifofbaaGreatDoorW.PrintMore
attribute [local go_sem] max2_int min2_int max_two min_two max_three min_three max_four min_four   -- for this text's walks alone
set_option linter.unusedVariables false
set_option linter.unusedSimpArgs false
mutual
def z2_.j1 : Nat → ByteArray → Int → Option (ByteArray × List ByteArray × Bool)
 | 0,_,_ => none
 | k + 1,x0,x5 => if x5 = (x0.size : Int) then (some (x0,(([] : List ByteArray)),true)) else (z2_.l1 k x0 x5 (([] : List ByteArray)) 0 false (wrap64 (x5 + 1)) x5)
def z2_.l1 : Nat → ByteArray → Int → List ByteArray → Int → Bool → Int → Int → Option (ByteArray × List ByteArray × Bool)
 | 0,_,_,_,_,_,_,_ => none
 | k + 1,x0,x5,x6,x7,x8,x9,x10 => if x10 < (x0.size : Int) then (if 0 ≤ x10 then (if (bt x0 x10) = 34 then (z2_.l1 k x0 x5 x6 x7 (!x8) x9 (wrap64 (x10 + 1))) else (if x8 = true then (z2_.l1 k x0 x5 x6 x7 x8 x9 (wrap64 (x10 + 1))) else (if (bt x0 x10) = 40 then (z2_.l1 k x0 x5 x6 (wrap64 (x7 + 1)) x8 x9 (wrap64 (x10 + 1))) else (if (bt x0 x10) = 41 then (if (wrap64 (x7 - 1)) = 0 then (if 0 ≤ x5 then (if x5 ≤ (x0.size : Int) then (if 0 ≤ x9 then (if x9 ≤ x10 then (if x10 ≤ (x0.size : Int) then (if x6.length < 8796093022208 then (some (x0.extract 0 (x5 : Int).toNat,(x6 ++ [x0.extract (x9 : Int).toNat (x10 : Int).toNat]),(x10 == (wrap64 ((x0.size : Int) - 1))))) else (none)) else (none)) else (none)) else (none)) else (none)) else (none)) else (z2_.l1 k x0 x5 x6 (wrap64 (x7 - 1)) x8 x9 (wrap64 (x10 + 1)))) else (if (bt x0 x10) = 44 then (if x7 = 1 then (if 0 ≤ x9 then (if x9 ≤ x10 then (if x10 ≤ (x0.size : Int) then (if x6.length < 8796093022208 then (z2_.l1 k x0 x5 (x6 ++ [x0.extract (x9 : Int).toNat (x10 : Int).toNat]) x7 x8 (wrap64 (x10 + 1)) (wrap64 (x10 + 1))) else (none)) else (none)) else (none)) else (none)) else (z2_.l1 k x0 x5 x6 x7 x8 x9 (wrap64 (x10 + 1)))) else (z2_.l1 k x0 x5 x6 x7 x8 x9 (wrap64 (x10 + 1)))))))) else (none)) else (some ((⟨#[]⟩ : ByteArray),(([] : List ByteArray)),false))
def z2_.l0 : Nat → ByteArray → Int → Option (ByteArray × List ByteArray × Bool)
 | 0,_,_ => none
 | k + 1,x0,x5 => if x5 < (x0.size : Int) then (if 0 ≤ x5 then (if (bt x0 x5) = 40 then (z2_.j1 k x0 x5) else (z2_.l0 k x0 (wrap64 (x5 + 1)))) else (none)) else (z2_.j1 k x0 x5)
end
def z2_.f (k : Nat) (a0 : ByteArray) : Option (ByteArray × List ByteArray × Bool) := z2_.l0 k a0 0
def z2_.T21 : Bool × List (List Nat × List Nat) := (true,[([],[]),([],[]),([0,1],[0,1]),([],[]),([],[]),([],[]),([],[]),([4,5,6],[4,5,6]),([7],[7]),([3,8],[3,8]),([],[]),([],[]),([11],[11]),([12],[12]),([10,13],[10,13]),([2,9,0,1,2],[2]),([9,15,0,1,2,3,4,5,6,7,8,9,15],[9]),([14,16,0,1,2,3,4,5,6,7,8,9,10,11,12,13,14,15,16],[14])])
def z2_.B21 : List Nat := [0,0,3,0,0,0,0,112,240,504,0,0,2048,6144,15360,1023,33791,131071]
theorem z2_.tab21 : rtab .any (opsOf Tryz.f48 21) = z2_.T21 := by kernel_rfl
theorem z2_.bits21 : waitsOk z2_.T21.2 z2_.B21 = true := by kernel_rfl
set_option maxHeartbeats 8000000 in
set_option maxRecDepth 100000 in
theorem z2_.calls (k : Nat) (a0 : ByteArray) (r1 : ByteArray) (r2 : List ByteArray) (r3 : Bool) (w : World) (h : z2_.f k a0 = some (r1,r2,r3)) :
  Calls Tryz.prog 48 #[.string a0] w fun e w' => ∃ v1_ : Value,e = .returned (.tuple #[.string r1,v1_,.bool r3]) ∧ Kd.R Kd.string 9 w' w.heap.size (fun _ => True) v1_ r2 ∧ Below w.heap.size w w' := by
 have HB := y0.mk (Below.refl w.heap.size w)
 have H : (z2_.l0 k a0 0) = some (r1,r2,r3) := h
 clear h
 have HC2 := y0.mk H
 clear H
 go_enter Tryz.func48,Tryz.ntmps48
 go_upto_block 0 with (fail)
 go_cut [5] (fun v5 wc => ∃ (kq : Nat) (x5_1 : Int),v5 = .int .i64 x5_1 ∧ y0 (z2_.j1 kq a0 x5_1 = some (r1,r2,r3)) ∧ y0 (kq ≤ k) ∧ y0 (Below w.heap.size w wc))
 case first =>
  have H := HC2.out
  clear HC2
  have H' := y0.mk H
  clear H
  go_wp2
  go_loopg [5] k (fun kq v5 w' => ∃ (x5_1 : Int),v5 = .int .i64 x5_1 ∧ y0 (z2_.l0 kq a0 x5_1 = some (r1,r2,r3)) ∧ y0 (kq ≤ k) ∧ y0 (Below w.heap.size w w'))
  case atStart => exact ⟨(0),(by first | rfl | (simp; done) | (simp [*]; done)),H',⟨Nat.le_refl _⟩,⟨by repeat (first | (with_reducible first | exact HB.out | apply y3 | apply y23 | apply y4) | exact HB.out)⟩⟩
  case round =>
   clear H'
   try clear p2
   obtain ⟨x5_1,rfl,HA,HK1,HB⟩ := hrel
   cases gk with
   | zero => exact absurd HA.out (by simp [z2_.l0])
   | succ k1 =>
    have H := HA.out
    clear HA
    simp only [z2_.l0] at H
    by_cases c3 : x5_1 < (a0.size : Int)
    ·rw [if_pos c3] at H
     have c3b0 : decide (x5_1 < (a0.size : Int)) = true := decide_eq_true c3
     clear c3
     (first | rw [c3b0] | (simp only [y22,y21]; rw [c3b0]) | skip)
     by_cases c4 : 0 ≤ x5_1
     ·rw [if_pos c4] at H
      have c4b0 : decide (0 ≤ x5_1) = true := decide_eq_true c4
      clear c4
      by_cases c6 : (bt a0 x5_1) = 40
      ·rw [if_pos c6] at H
       have c6b0 : ((bt a0 x5_1) == 40) = true := beq_iff_eq.mpr c6
       have c6b1 : ((bt a0 x5_1) != 40) = false := bne_eq_false_iff_eq.mpr c6
       clear c6
       have H' := y0.mk H
       clear H
       have p5 : 0 ≤ (x5_1 : Int) := of_decide_eq_true (by first | (with_reducible assumption) | assumption)
       have q5 : x5_1 < (a0.size : Int) := of_decide_eq_true (by first | (with_reducible assumption) | assumption)
       have hx5 := bt_at a0 x5_1
       replace p5 := eq_true p5
       replace q5 := eq_true q5
       go_wp2
       go_meet
       case rel => exact ⟨_,(x5_1),(by first | rfl | (simp; done) | (simp [*]; done)),H',⟨by have := HK1.out; first | omega | exact Nat.le_refl _⟩,⟨by repeat (first | (with_reducible first | exact HB.out | apply y3 | apply y23 | apply y4) | exact HB.out)⟩⟩
      ·rw [if_neg c6] at H
       have c6b0 : ((bt a0 x5_1) == 40) = false := beq_eq_false_iff_ne.mpr c6
       have c6b1 : ((bt a0 x5_1) != 40) = true := bne_iff_ne.mpr c6
       have H' := y0.mk H
       clear H
       have p5 : 0 ≤ (x5_1 : Int) := of_decide_eq_true (by first | (with_reducible assumption) | assumption)
       have q5 : x5_1 < (a0.size : Int) := of_decide_eq_true (by first | (with_reducible assumption) | assumption)
       have hx5 := bt_at a0 x5_1
       replace p5 := eq_true p5
       replace q5 := eq_true q5
       go_wp2
       go_roundg k1
       case measure => have := HK1.out; omega
       case rel => exact ⟨(wrap64 (x5_1 + 1)),(by first | rfl | (simp; done) | (simp [*]; done)),H',⟨by have := HK1.out; omega⟩,⟨by repeat (first | (with_reducible first | exact HB.out | apply y3 | apply y23 | apply y4) | exact HB.out)⟩⟩
     ·rw [if_neg c4] at H
      exact absurd H (by simp)
    ·rw [if_neg c3] at H
     have c3b0 : decide (x5_1 < (a0.size : Int)) = false := decide_eq_false c3
     clear c3
     (first | rw [c3b0] | (simp only [y22,y21]; rw [c3b0]) | skip)
     have H' := y0.mk H
     clear H
     go_wp2
     go_meet
     case rel => exact ⟨_,(x5_1),(by first | rfl | (simp; done) | (simp [*]; done)),H',⟨by have := HK1.out; first | omega | exact Nat.le_refl _⟩,⟨by repeat (first | (with_reducible first | exact HB.out | apply y3 | apply y23 | apply y4) | exact HB.out)⟩⟩
 case rest =>
  clear HC2
  try clear p2
  try clear c3
  try clear c3b0
  try clear c4
  try clear c4b0
  try clear p5
  try clear q5
  try clear hx5
  try clear c6
  try clear c6b0
  try clear c6b1
  try clear p6
  try clear p2
  try clear p5
  try clear q5
  obtain ⟨kq,x5_1,rfl,HA,HJ1,HB⟩ := hcut
  cases kq with
  | zero => exact absurd HA.out (by simp [z2_.j1])
  | succ kj1 =>
   have H := HA.out
   clear HA
   simp only [z2_.j1] at H
   by_cases c7 : x5_1 = (a0.size : Int)
   ·rw [if_pos c7] at H
    have c7b0 : (x5_1 == (a0.size : Int)) = true := beq_iff_eq.mpr c7
    have c7b1 : (x5_1 != (a0.size : Int)) = false := bne_eq_false_iff_eq.mpr c7
    clear c7
    obtain ⟨y161,hy161⟩ : ∃ y_ : List ByteArray,y_ = (([] : List ByteArray)) := ⟨_,rfl⟩
    replace H : (some (a0,y161,true)) = some (r1,r2,r3) := by first | (rw [hy161]; with_reducible exact H) | (have H2_ := (Option.bind_some _ _).symm.trans H; rw [hy161]; with_reducible exact H2_) | (have H2_ := (Option.bind_some _ _).symm.trans H; with_reducible exact H2_) | with_reducible exact H | (rw [hy161]; exact H) | exact H
    have Ny161 := y0.mk hy161
    clear hy161
    simp only [Option.some.injEq,Prod.mk.injEq] at H
    obtain ⟨rfl,rfl,rfl⟩ := H
    go_wp2_with (first | ((with_reducible refine y19 (N := 28) rfl ?_); refine Kd.R_lit Kd.string _ 9 ?hg (N := 28) ?hd (xs := ([] : List ByteArray)) (inner := []) (ok := fun _ => True) (okp := fun _ => True) ?hr ?hp (fun _ hk => hk) trivial (Below.refl _ _) (Nat.le_refl _) (by simp) ?_; (case hd => rfl); (case hg => rfl); (case hr => first | (go_simp; done) | (go_simp; rfl)); (case hp => exact (Reps.none _ _)); intro v162 w8 ho9 hb hg_ hnew_; clear hg_ hnew_; (first | rw [← Ny161.out] at ho9 | (simp only [Int.reduceToNat] at ho9; rw [← Ny161.out] at ho9)); have n0_ := y0.mk (Kd.R_lower ho9 (y6 (by repeat (first | (with_reducible first | exact HB.out | apply y3 | apply y23 | apply y4) | exact HB.out)))); have n1_ := y0.mk (y7 (by repeat (first | (with_reducible first | exact HB.out | apply y3 | apply y23 | apply y4) | exact HB.out)) hb); clear HB; have HO163 := n0_; have HB := n1_; clear n0_ n1_; clear hb ho9))
    go_ret3
    exact ⟨_,by first | rfl | (simp [y16,y17] <;> rfl) | (simp [*,y16,y17] <;> rfl),by (with_reducible repeat (first | apply Kd.R_alloc | apply Kd.R_drewN | apply Kd.R_drew)); exact HO163.out,by repeat (first | (with_reducible first | exact HB.out | apply y3 | apply y23 | apply y4) | exact HB.out)⟩
   ·rw [if_neg c7] at H
    have c7b0 : (x5_1 == (a0.size : Int)) = false := beq_eq_false_iff_ne.mpr c7
    have c7b1 : (x5_1 != (a0.size : Int)) = true := bne_iff_ne.mpr c7
    obtain ⟨y164,hy164⟩ : ∃ y_ : List ByteArray,y_ = (([] : List ByteArray)) := ⟨_,rfl⟩
    replace H : (z2_.l1 kj1 a0 x5_1 y164 0 false (wrap64 (x5_1 + 1)) x5_1) = some (r1,r2,r3) := by first | (rw [hy164]; with_reducible exact H) | (have H2_ := (Option.bind_some _ _).symm.trans H; rw [hy164]; with_reducible exact H2_) | (have H2_ := (Option.bind_some _ _).symm.trans H; with_reducible exact H2_) | with_reducible exact H | (rw [hy164]; exact H) | exact H
    have Ny164 := y0.mk hy164
    clear hy164
    have H' := y0.mk H
    clear H
    go_wp2_with (first | ((with_reducible refine y19 (N := 29) rfl ?_); refine Kd.R_lit Kd.string _ 9 ?hg (N := 29) ?hd (xs := ([] : List ByteArray)) (inner := []) (ok := fun _ => True) (okp := fun _ => True) ?hr ?hp (fun _ hk => hk) trivial (Below.refl _ _) (Nat.le_refl _) (by simp) ?_; (case hd => rfl); (case hg => rfl); (case hr => first | (go_simp; done) | (go_simp; rfl)); (case hp => exact (Reps.none _ _)); intro v165 w10 ho11 hb hg_ hnew_; clear hg_ hnew_; (first | rw [← Ny164.out] at ho11 | (simp only [Int.reduceToNat] at ho11; rw [← Ny164.out] at ho11)); have n0_ := y0.mk (Kd.R_lower ho11 (y6 (by repeat (first | (with_reducible first | exact HB.out | apply y3 | apply y23 | apply y4) | exact HB.out)))); have n1_ := y0.mk (y7 (by repeat (first | (with_reducible first | exact HB.out | apply y3 | apply y23 | apply y4) | exact HB.out)) hb); clear HB; have HO166 := n0_; have HB := n1_; clear n0_ n1_; clear hb ho11))
    go_loopg [6,7,8,9,10] kj1 (fun kq v6 v7 v8 v9 v10 w' => ∃ (x6_2 : List ByteArray) (x7_2 : Int) (x8_2 : Bool) (x9_2 : Int) (x10_2 : Int),v7 = .int .i64 x7_2 ∧ v8 = .bool x8_2 ∧ v9 = .int .i64 x9_2 ∧ v10 = .int .i64 x10_2 ∧ y0 (z2_.l1 kq a0 x5_1 x6_2 x7_2 x8_2 x9_2 x10_2 = some (r1,r2,r3)) ∧ y0 (kq ≤ kj1) ∧ y0 (Kd.R Kd.string 9 w' w.heap.size (fun _ => True) v6 x6_2) ∧ y0 (Below w.heap.size w w'))
    case atStart => exact ⟨(y164),(0),(false),(wrap64 (x5_1 + 1)),(x5_1),(by first | rfl | (simp; done) | (simp [*]; done)),(by first | rfl | (simp; done) | (simp [*]; done)),(by first | rfl | (simp; done) | (simp [*]; done)),(by first | rfl | (simp; done) | (simp [*]; done)),H',⟨Nat.le_refl _⟩,⟨by (with_reducible repeat (first | apply Kd.R_alloc | apply Kd.R_drewN | apply Kd.R_drew)); exact HO166.out⟩,⟨by repeat (first | (with_reducible first | exact HB.out | apply y3 | apply y23 | apply y4) | exact HB.out)⟩⟩
    case round =>
     clear H'
     try clear p2
     try clear c3
     try clear c3b0
     try clear c4
     try clear c4b0
     try clear p5
     try clear q5
     try clear hx5
     try clear c6
     try clear c6b0
     try clear c6b1
     try clear p6
     try clear c7
     try clear c7b0
     try clear c7b1
     try clear p2
     try clear p5
     try clear p6
     try clear q5
     obtain ⟨x6_2,x7_2,x8_2,x9_2,x10_2,rfl,rfl,rfl,rfl,HA,HK2,HO_6,HB⟩ := hrel
     cases gk with
     | zero => exact absurd HA.out (by simp [z2_.l1])
     | succ k2 =>
      have H := HA.out
      clear HA
      simp only [z2_.l1] at H
      by_cases c12 : x10_2 < (a0.size : Int)
      ·rw [if_pos c12] at H
       have c12b0 : decide (x10_2 < (a0.size : Int)) = true := decide_eq_true c12
       clear c12
       by_cases c13 : 0 ≤ x10_2
       ·rw [if_pos c13] at H
        have c13b0 : decide (0 ≤ x10_2) = true := decide_eq_true c13
        clear c13
        by_cases c15 : (bt a0 x10_2) = 34
        ·rw [if_pos c15] at H
         have c15b0 : ((bt a0 x10_2) == 34) = true := beq_iff_eq.mpr c15
         have c15b1 : ((bt a0 x10_2) != 34) = false := bne_eq_false_iff_eq.mpr c15
         clear c15
         have H' := y0.mk H
         clear H
         have p14 : 0 ≤ (x10_2 : Int) := of_decide_eq_true (by first | (with_reducible assumption) | assumption)
         have q14 : x10_2 < (a0.size : Int) := of_decide_eq_true (by first | (with_reducible assumption) | assumption)
         have hx14 := bt_at a0 x10_2
         replace p14 := eq_true p14
         replace q14 := eq_true q14
         go_wp2
         go_roundg k2
         case measure => have := HJ1.out; have := HK2.out; omega
         case rel => exact ⟨(x6_2),(x7_2),(!x8_2),(x9_2),(wrap64 (x10_2 + 1)),(by first | rfl | (simp; done) | (simp [*]; done)),(by first | rfl | (simp; done) | (simp [*]; done)),(by first | rfl | (simp; done) | (simp [*]; done)),(by first | rfl | (simp; done) | (simp [*]; done)),H',⟨by have := HJ1.out; have := HK2.out; omega⟩,⟨by (with_reducible repeat (first | apply Kd.R_alloc | apply Kd.R_drewN | apply Kd.R_drew)); exact HO_6.out⟩,⟨by repeat (first | (with_reducible first | exact HB.out | apply y3 | apply y23 | apply y4) | exact HB.out)⟩⟩
        ·rw [if_neg c15] at H
         have c15b0 : ((bt a0 x10_2) == 34) = false := beq_eq_false_iff_ne.mpr c15
         have c15b1 : ((bt a0 x10_2) != 34) = true := bne_iff_ne.mpr c15
         by_cases c16 : x8_2 = true
         ·subst c16
          have H1 : (z2_.l1 k2 a0 x5_1 x6_2 x7_2 true x9_2 (wrap64 (x10_2 + 1))) = some (r1,r2,r3) := by rw [if_pos rfl] at H; exact H
          clear H
          have H := H1
          clear H1
          have H' := y0.mk H
          clear H
          have p14 : 0 ≤ (x10_2 : Int) := of_decide_eq_true (by first | (with_reducible assumption) | assumption)
          have q14 : x10_2 < (a0.size : Int) := of_decide_eq_true (by first | (with_reducible assumption) | assumption)
          have hx14 := bt_at a0 x10_2
          replace p14 := eq_true p14
          replace q14 := eq_true q14
          go_wp2
          go_roundg k2
          case measure => have := HJ1.out; have := HK2.out; omega
          case rel => exact ⟨(x6_2),(x7_2),(true),(x9_2),(wrap64 (x10_2 + 1)),(by first | rfl | (simp; done) | (simp [*]; done)),(by first | rfl | (simp; done) | (simp [*]; done)),(by first | rfl | (simp; done) | (simp [*]; done)),(by first | rfl | (simp; done) | (simp [*]; done)),H',⟨by have := HJ1.out; have := HK2.out; omega⟩,⟨by (with_reducible repeat (first | apply Kd.R_alloc | apply Kd.R_drewN | apply Kd.R_drew)); exact HO_6.out⟩,⟨by repeat (first | (with_reducible first | exact HB.out | apply y3 | apply y23 | apply y4) | exact HB.out)⟩⟩
         ·replace c16 := Bool.eq_false_iff.mpr c16
          subst c16
          have H1 : (if (bt a0 x10_2) = 40 then (z2_.l1 k2 a0 x5_1 x6_2 (wrap64 (x7_2 + 1)) false x9_2 (wrap64 (x10_2 + 1))) else (if (bt a0 x10_2) = 41 then (if (wrap64 (x7_2 - 1)) = 0 then (if 0 ≤ x5_1 then (if x5_1 ≤ (a0.size : Int) then (if 0 ≤ x9_2 then (if x9_2 ≤ x10_2 then (if x10_2 ≤ (a0.size : Int) then (if x6_2.length < 8796093022208 then (some (a0.extract 0 (x5_1 : Int).toNat,(x6_2 ++ [a0.extract (x9_2 : Int).toNat (x10_2 : Int).toNat]),(x10_2 == (wrap64 ((a0.size : Int) - 1))))) else (none)) else (none)) else (none)) else (none)) else (none)) else (none)) else (z2_.l1 k2 a0 x5_1 x6_2 (wrap64 (x7_2 - 1)) false x9_2 (wrap64 (x10_2 + 1)))) else (if (bt a0 x10_2) = 44 then (if x7_2 = 1 then (if 0 ≤ x9_2 then (if x9_2 ≤ x10_2 then (if x10_2 ≤ (a0.size : Int) then (if x6_2.length < 8796093022208 then (z2_.l1 k2 a0 x5_1 (x6_2 ++ [a0.extract (x9_2 : Int).toNat (x10_2 : Int).toNat]) x7_2 false (wrap64 (x10_2 + 1)) (wrap64 (x10_2 + 1))) else (none)) else (none)) else (none)) else (none)) else (z2_.l1 k2 a0 x5_1 x6_2 x7_2 false x9_2 (wrap64 (x10_2 + 1)))) else (z2_.l1 k2 a0 x5_1 x6_2 x7_2 false x9_2 (wrap64 (x10_2 + 1)))))) = some (r1,r2,r3) := by rw [if_neg (show ¬ (false = true) by decide)] at H; exact H
          clear H
          have H := H1
          clear H1
          by_cases c18 : (bt a0 x10_2) = 40
          ·rw [if_pos c18] at H
           have c18b0 : ((bt a0 x10_2) == 40) = true := beq_iff_eq.mpr c18
           have c18b1 : ((bt a0 x10_2) != 40) = false := bne_eq_false_iff_eq.mpr c18
           clear c18
           have H' := y0.mk H
           clear H
           have p14 : 0 ≤ (x10_2 : Int) := of_decide_eq_true (by first | (with_reducible assumption) | assumption)
           have q14 : x10_2 < (a0.size : Int) := of_decide_eq_true (by first | (with_reducible assumption) | assumption)
           have hx14 := bt_at a0 x10_2
           replace p14 := eq_true p14
           replace q14 := eq_true q14
           have p17 : 0 ≤ (x10_2 : Int) := of_decide_eq_true (by first | (with_reducible assumption) | assumption)
           have q17 : x10_2 < (a0.size : Int) := of_decide_eq_true (by first | (with_reducible assumption) | assumption)
           have hx17 := bt_at a0 x10_2
           replace p17 := eq_true p17
           replace q17 := eq_true q17
           go_wp2
           go_roundg k2
           case measure => have := HJ1.out; have := HK2.out; omega
           case rel => exact ⟨(x6_2),(wrap64 (x7_2 + 1)),(false),(x9_2),(wrap64 (x10_2 + 1)),(by first | rfl | (simp; done) | (simp [*]; done)),(by first | rfl | (simp; done) | (simp [*]; done)),(by first | rfl | (simp; done) | (simp [*]; done)),(by first | rfl | (simp; done) | (simp [*]; done)),H',⟨by have := HJ1.out; have := HK2.out; omega⟩,⟨by (with_reducible repeat (first | apply Kd.R_alloc | apply Kd.R_drewN | apply Kd.R_drew)); exact HO_6.out⟩,⟨by repeat (first | (with_reducible first | exact HB.out | apply y3 | apply y23 | apply y4) | exact HB.out)⟩⟩
          ·rw [if_neg c18] at H
           have c18b0 : ((bt a0 x10_2) == 40) = false := beq_eq_false_iff_ne.mpr c18
           have c18b1 : ((bt a0 x10_2) != 40) = true := bne_iff_ne.mpr c18
           by_cases c20 : (bt a0 x10_2) = 41
           ·rw [if_pos c20] at H
            have c20b0 : ((bt a0 x10_2) == 41) = true := beq_iff_eq.mpr c20
            have c20b1 : ((bt a0 x10_2) != 41) = false := bne_eq_false_iff_eq.mpr c20
            clear c20
            by_cases c21 : (wrap64 (x7_2 - 1)) = 0
            ·rw [if_pos c21] at H
             have c21b0 : ((wrap64 (x7_2 - 1)) == 0) = true := beq_iff_eq.mpr c21
             have c21b1 : ((wrap64 (x7_2 - 1)) != 0) = false := bne_eq_false_iff_eq.mpr c21
             clear c21
             by_cases c22 : 0 ≤ x5_1
             ·rw [if_pos c22] at H
              have c22b0 := eq_true c22
              have c22b1 : decide (0 ≤ x5_1) = true := decide_eq_true c22
              clear c22
              by_cases c23 : x5_1 ≤ (a0.size : Int)
              ·rw [if_pos c23] at H
               have c23b0 := eq_true c23
               have c23b1 : decide (x5_1 ≤ (a0.size : Int)) = true := decide_eq_true c23
               clear c23
               by_cases c24 : 0 ≤ x9_2
               ·rw [if_pos c24] at H
                have c24b0 := eq_true c24
                have c24b1 : decide (0 ≤ x9_2) = true := decide_eq_true c24
                clear c24
                by_cases c25 : x9_2 ≤ x10_2
                ·rw [if_pos c25] at H
                 have c25b0 := eq_true c25
                 have c25b1 : decide (x9_2 ≤ x10_2) = true := decide_eq_true c25
                 clear c25
                 by_cases c26 : x10_2 ≤ (a0.size : Int)
                 ·rw [if_pos c26] at H
                  have c26b0 := eq_true c26
                  have c26b1 : decide (x10_2 ≤ (a0.size : Int)) = true := decide_eq_true c26
                  clear c26
                  by_cases c27 : x6_2.length < 8796093022208
                  ·rw [if_pos c27] at H
                   have LMc27 := y0.mk c27
                   clear c27
                   obtain ⟨y170,hy170⟩ : ∃ y_ : List ByteArray,y_ = (x6_2 ++ [a0.extract (x9_2 : Int).toNat (x10_2 : Int).toNat]) := ⟨_,rfl⟩
                   replace H : (some (a0.extract 0 (x5_1 : Int).toNat,y170,(x10_2 == (wrap64 ((a0.size : Int) - 1))))) = some (r1,r2,r3) := by first | (rw [hy170]; with_reducible exact H) | (have H2_ := (Option.bind_some _ _).symm.trans H; rw [hy170]; with_reducible exact H2_) | (have H2_ := (Option.bind_some _ _).symm.trans H; with_reducible exact H2_) | with_reducible exact H | (rw [hy170]; exact H) | exact H
                   have Ny170 := y0.mk hy170
                   clear hy170
                   simp only [Option.some.injEq,Prod.mk.injEq] at H
                   obtain ⟨rfl,rfl,rfl⟩ := H
                   have p14 : 0 ≤ (x10_2 : Int) := of_decide_eq_true (by first | (with_reducible assumption) | assumption)
                   have q14 : x10_2 < (a0.size : Int) := of_decide_eq_true (by first | (with_reducible assumption) | assumption)
                   have hx14 := bt_at a0 x10_2
                   replace p14 := eq_true p14
                   replace q14 := eq_true q14
                   have p17 : 0 ≤ (x10_2 : Int) := of_decide_eq_true (by first | (with_reducible assumption) | assumption)
                   have q17 : x10_2 < (a0.size : Int) := of_decide_eq_true (by first | (with_reducible assumption) | assumption)
                   have hx17 := bt_at a0 x10_2
                   replace p17 := eq_true p17
                   replace q17 := eq_true q17
                   have p19 : 0 ≤ (x10_2 : Int) := of_decide_eq_true (by first | (with_reducible assumption) | assumption)
                   have q19 : x10_2 < (a0.size : Int) := of_decide_eq_true (by first | (with_reducible assumption) | assumption)
                   have hx19 := bt_at a0 x10_2
                   replace p19 := eq_true p19
                   replace q19 := eq_true q19
                   try go_wp2
                   have n0_ := y0.mk (Kd.R_drew HO_6.out)
                   have n1_ := y0.mk (y4 HB.out)
                   clear HO_6
                   clear HB
                   have HO_6 := n0_
                   have HB := n1_
                   clear n0_ n1_
                   refine start_ (n := 18) (S := fun w' => True) (ds := []) (fl_ 18 0) (by kernel_rfl) rfl rfl trivial (fun hHeld => ?_); refine with_tabW z2_.tab21 z2_.bits21 (fun HT_ HW_ => ?_)
                   generalize wr.drew = w28 at HO_6 HB hHeld ⊢
                   refine pure_ (i := 0) (N := some 64) (v := ?_) (a' := ?_) (fl_ 18 1) rfl rfl (y2 HT_.out (by kernel_rfl)) (fun _ _ _ h => h) (Or.inl ⟨by rfl, ?_⟩) ?_ ?_
                   rotate_left
                   ·intro w'
                    go_simp
                    with_reducible rfl
                   rotate_left
                   ·simp only [Act.put,qS_,qZ_,qC_,y22,y21]
                    rfl
                   refine pure_ (i := 1) (N := some 65) (v := ?_) (a' := ?_) (fl_ 18 3) rfl rfl (y2 HT_.out (by kernel_rfl)) (fun _ _ _ h => h) (Or.inl ⟨by rfl, ?_⟩) ?_ ?_
                   rotate_left
                   ·intro w'
                    go_simp
                    with_reducible rfl
                   rotate_left
                   ·simp only [Act.put,qS_,qZ_,qC_,y22,y21]
                    rfl
                   refine pure_ (i := 2) (N := some 66) (v := ?_) (a' := ?_) (fl_ 18 7) rfl rfl (y2 HT_.out (by kernel_rfl)) (fun _ _ _ h => h) (Or.inl ⟨by rfl, ?_⟩) ?_ ?_
                   rotate_left
                   ·intro w'
                    go_simp
                    with_reducible rfl
                   rotate_left
                   ·simp only [Act.put,qS_,qZ_,qC_,y22,y21]
                    rfl
                   refine pure_ (i := 3) (N := some 67) (v := ?_) (a' := ?_) (fl_ 18 15) rfl rfl (y2 HT_.out (by kernel_rfl)) (fun _ _ _ h => h) (Or.inl ⟨by rfl, ?_⟩) ?_ ?_
                   rotate_left
                   ·intro w'
                    go_simp
                    with_reducible rfl
                   rotate_left
                   ·simp only [Act.put,qS_,qZ_,qC_,y22,y21]
                    rfl
                   refine pure_ (i := 4) (N := some 68) (v := ?_) (a' := ?_) (fl_ 18 31) rfl rfl (y2 HT_.out (by kernel_rfl)) (fun _ _ _ h => h) (Or.inl ⟨by rfl, ?_⟩) ?_ ?_
                   rotate_left
                   ·intro w'
                    go_simp
                    with_reducible rfl
                   rotate_left
                   ·simp only [Act.put,qS_,qZ_,qC_,y22,y21]
                    rfl
                   refine pure_ (i := 5) (N := some 69) (v := ?_) (a' := ?_) (fl_ 18 63) rfl rfl (y2 HT_.out (by kernel_rfl)) (fun _ _ _ h => h) (Or.inl ⟨by rfl, ?_⟩) ?_ ?_
                   rotate_left
                   ·intro w'
                    go_simp
                    with_reducible rfl
                   rotate_left
                   ·simp only [Act.put,qS_,qZ_,qC_,y22,y21]
                    rfl
                   refine pure_ (i := 6) (N := some 70) (v := ?_) (a' := ?_) (fl_ 18 127) rfl rfl (y2 HT_.out (by kernel_rfl)) (fun _ _ _ h => h) (Or.inl ⟨by rfl, ?_⟩) ?_ ?_
                   rotate_left
                   ·intro w'
                    go_simp
                    with_reducible rfl
                   rotate_left
                   ·simp only [Act.put,qS_,qZ_,qC_,y22,y21]
                    rfl
                   refine pure_ (i := 7) (N := some 71) (v := ?_) (a' := ?_) (fl_ 18 255) rfl rfl (y2 HT_.out (by kernel_rfl)) (fun _ _ _ h => h) (Or.inl ⟨by rfl, ?_⟩) ?_ ?_
                   rotate_left
                   ·intro w'
                    go_simp
                    with_reducible rfl
                   rotate_left
                   ·simp only [Act.put,qS_,qZ_,qC_,y22,y21]
                    rfl
                   refine pure_ (i := 10) (N := some 74) (v := ?_) (a' := ?_) (fl_ 18 1279) rfl rfl (y2 HT_.out (by kernel_rfl)) (fun _ _ _ h => h) (Or.inl ⟨by rfl, ?_⟩) ?_ ?_
                   rotate_left
                   ·intro w'
                    go_simp
                    with_reducible rfl
                   rotate_left
                   ·simp only [Act.put,qS_,qZ_,qC_,y22,y21]
                    rfl
                   refine pure_ (i := 11) (N := some 75) (v := ?_) (a' := ?_) (fl_ 18 3327) rfl rfl (y2 HT_.out (by kernel_rfl)) (fun _ _ _ h => h) (Or.inl ⟨by rfl, ?_⟩) ?_ ?_
                   rotate_left
                   ·intro w'
                    go_simp
                    with_reducible rfl
                   rotate_left
                   ·simp only [Act.put,qS_,qZ_,qC_,y22,y21]
                    rfl
                   refine pure_ (i := 12) (N := some 76) (v := ?_) (a' := ?_) (fl_ 18 7423) rfl rfl (y2 HT_.out (by kernel_rfl)) (fun _ _ _ h => h) (Or.inl ⟨by rfl, ?_⟩) ?_ ?_
                   rotate_left
                   ·intro w'
                    go_simp
                    with_reducible rfl
                   rotate_left
                   ·simp only [Act.put,qS_,qZ_,qC_,y22,y21]
                    rfl
                   refine pure_ (i := 13) (N := some 77) (v := ?_) (a' := ?_) (fl_ 18 15615) rfl rfl (y2 HT_.out (by kernel_rfl)) (fun _ _ _ h => h) (Or.inl ⟨by rfl, ?_⟩) ?_ ?_
                   rotate_left
                   ·intro w'
                    go_simp
                    with_reducible rfl
                   rotate_left
                   ·simp only [Act.put,qS_,qZ_,qC_,y22,y21]
                    rfl
                   refine pure_ (i := 14) (N := some 78) (v := ?_) (a' := ?_) (fl_ 18 31999) rfl rfl (y2 HT_.out (by kernel_rfl)) (fun _ _ _ h => h) (Or.inl ⟨by rfl, ?_⟩) ?_ ?_
                   rotate_left
                   ·intro w'
                    go_simp
                    with_reducible rfl
                   rotate_left
                   ·simp only [Act.put,qS_,qZ_,qC_,y22,y21]
                    rfl
                   refine one_ (i := 8) (N := some 72) (fl_ 18 32255) rfl rfl (one_of HT_.out (by kernel_rfl)) (by decide) (fun K hK => ?_)
                   refine value_ (w1 := ?_) (v := ?_) (by rfl) rfl ?_ ?_
                   rotate_left 2
                   ·go_simp
                    constructor
                    ·rfl
                    ·rfl
                   refine hK.out _ _ trivial (fun hHeld => ?_)
                   clear hK K
                   refine norm_ (a' := ?_) ?_ ?_
                   rotate_left
                   ·show Act.put _ (some 72) _ = _
                    simp only [Act.put,qS_,qZ_,qC_,y22,y21]
                    rfl
                   refine one_ (i := 9) (N := some 73) (fl_ 18 32767) rfl rfl (one_of HT_.out (by kernel_rfl)) (by decide) (fun K hK => ?_)
                   refine Kd.R_append_step Kd.string (w0 := w) w.heap.size (by rfl) (.tmp 67) (.tmp 72) 27 9 (.string ⟨#[]⟩) 16 rfl Tryz.underlying27 info9 rfl (by decide) (by omega) u6 x6_2 (a0.extract (x9_2 : Int).toNat (x10_2 : Int).toNat) [.string (a0.extract (x9_2 : Int).toNat (x10_2 : Int).toNat)] (fun _ => True) (fun _ => False) rfl rfl ?aP (fun _ hk => hk.elim) ?aF ?aO ?aB ?aS ?aL ?_
                   (case aP => exact rfl)
                   (case aB => exact (by repeat (first | (with_reducible first | exact HB.out | apply y3 | apply y23 | apply y4) | exact HB.out)))
                   (case aF => exact (fun _ _ => trivial))
                   (case aO => exact (by (with_reducible repeat (first | apply Kd.R_alloc | apply Kd.R_drewN | apply Kd.R_drew)); exact HO_6.out))
                   (case aS => exact (y6 (by repeat (first | (with_reducible first | exact HB.out | apply y3 | apply y23 | apply y4) | exact HB.out))))
                   (case aL => have := LMc27.out; omega)
                   intro v171 w29 ho hb hg hat
                   rw [← Ny170.out] at ho
                   have n0_ := y0.mk (hb)
                   have n1_ := y0.mk (ho)
                   clear HB
                   clear HO_6
                   have HB := n0_
                   have HO172 := n1_
                   clear n0_ n1_
                   clear ho hb hg hat
                   refine hK.out _ _ trivial (fun hHeld => ?_)
                   clear hK K
                   refine norm_ (a' := ?_) ?_ ?_
                   rotate_left
                   ·show Act.put _ (some 73) _ = _
                    simp only [Act.put,qS_,qZ_,qC_,y22,y21]
                    rfl
                   refine pure_ (i := 15) (N := some 2) (v := ?_) (a' := ?_) (fl_ 18 65535) rfl rfl (y2 HT_.out (by kernel_rfl)) (fun _ _ _ h => h) (Or.inl ⟨by rfl, ?_⟩) ?_ ?_
                   rotate_left
                   ·intro w'
                    go_simp
                    with_reducible rfl
                   rotate_left
                   ·simp only [Act.put,qS_,qZ_,qC_,y22,y21]
                    rfl
                   refine pure_ (i := 16) (N := some 3) (v := ?_) (a' := ?_) (fl_ 18 131071) rfl rfl (y2 HT_.out (by kernel_rfl)) (fun _ _ _ h => h) (Or.inl ⟨by rfl, ?_⟩) ?_ ?_
                   rotate_left
                   ·intro w'
                    go_simp
                    with_reducible rfl
                   rotate_left
                   ·simp only [Act.put,qS_,qZ_,qC_,y22,y21]
                    rfl
                   refine pure_ (i := 17) (N := some 4) (v := ?_) (a' := ?_) (fl_ 18 262143) rfl rfl (y2 HT_.out (by kernel_rfl)) (fun _ _ _ h => h) (Or.inl ⟨by rfl, ?_⟩) ?_ ?_
                   rotate_left
                   ·intro w'
                    go_simp
                    with_reducible rfl
                   rotate_left
                   ·simp only [Act.put,qS_,qZ_,qC_,y22,y21]
                    rfl
                   refine done_ (done_of HT_.out (by kernel_rfl)) ?_
                   try go_wp2
                   go_ret3
                   exact ⟨_,by first | rfl | (simp [y16,y17] <;> rfl) | (simp [*,y16,y17] <;> rfl),by (with_reducible repeat (first | apply Kd.R_alloc | apply Kd.R_drewN | apply Kd.R_drew)); exact HO172.out,by repeat (first | (with_reducible first | exact HB.out | apply y3 | apply y23 | apply y4) | exact HB.out)⟩
                  ·rw [if_neg c27] at H
                   exact absurd H (by simp)
                 ·rw [if_neg c26] at H
                  exact absurd H (by simp)
                ·rw [if_neg c25] at H
                 exact absurd H (by simp)
               ·rw [if_neg c24] at H
                exact absurd H (by simp)
              ·rw [if_neg c23] at H
               exact absurd H (by simp)
             ·rw [if_neg c22] at H
              exact absurd H (by simp)
            ·rw [if_neg c21] at H
             have c21b0 : ((wrap64 (x7_2 - 1)) == 0) = false := beq_eq_false_iff_ne.mpr c21
             have c21b1 : ((wrap64 (x7_2 - 1)) != 0) = true := bne_iff_ne.mpr c21
             have H' := y0.mk H
             clear H
             have p14 : 0 ≤ (x10_2 : Int) := of_decide_eq_true (by first | (with_reducible assumption) | assumption)
             have q14 : x10_2 < (a0.size : Int) := of_decide_eq_true (by first | (with_reducible assumption) | assumption)
             have hx14 := bt_at a0 x10_2
             replace p14 := eq_true p14
             replace q14 := eq_true q14
             have p17 : 0 ≤ (x10_2 : Int) := of_decide_eq_true (by first | (with_reducible assumption) | assumption)
             have q17 : x10_2 < (a0.size : Int) := of_decide_eq_true (by first | (with_reducible assumption) | assumption)
             have hx17 := bt_at a0 x10_2
             replace p17 := eq_true p17
             replace q17 := eq_true q17
             have p19 : 0 ≤ (x10_2 : Int) := of_decide_eq_true (by first | (with_reducible assumption) | assumption)
             have q19 : x10_2 < (a0.size : Int) := of_decide_eq_true (by first | (with_reducible assumption) | assumption)
             have hx19 := bt_at a0 x10_2
             replace p19 := eq_true p19
             replace q19 := eq_true q19
             go_wp2
             go_roundg k2
             case measure => have := HJ1.out; have := HK2.out; omega
             case rel => exact ⟨(x6_2),(wrap64 (x7_2 - 1)),(false),(x9_2),(wrap64 (x10_2 + 1)),(by first | rfl | (simp; done) | (simp [*]; done)),(by first | rfl | (simp; done) | (simp [*]; done)),(by first | rfl | (simp; done) | (simp [*]; done)),(by first | rfl | (simp; done) | (simp [*]; done)),H',⟨by have := HJ1.out; have := HK2.out; omega⟩,⟨by (with_reducible repeat (first | apply Kd.R_alloc | apply Kd.R_drewN | apply Kd.R_drew)); exact HO_6.out⟩,⟨by repeat (first | (with_reducible first | exact HB.out | apply y3 | apply y23 | apply y4) | exact HB.out)⟩⟩
           ·rw [if_neg c20] at H
            have c20b0 : ((bt a0 x10_2) == 41) = false := beq_eq_false_iff_ne.mpr c20
            have c20b1 : ((bt a0 x10_2) != 41) = true := bne_iff_ne.mpr c20
            by_cases c31 : (bt a0 x10_2) = 44
            ·rw [if_pos c31] at H
             have c31b0 : ((bt a0 x10_2) == 44) = true := beq_iff_eq.mpr c31
             have c31b1 : ((bt a0 x10_2) != 44) = false := bne_eq_false_iff_eq.mpr c31
             clear c31
             by_cases c32 : x7_2 = 1
             ·rw [if_pos c32] at H
              have c32b0 : (x7_2 == 1) = true := beq_iff_eq.mpr c32
              have c32b1 : (x7_2 != 1) = false := bne_eq_false_iff_eq.mpr c32
              clear c32
              by_cases c33 : 0 ≤ x9_2
              ·rw [if_pos c33] at H
               have c33b0 := eq_true c33
               have c33b1 : decide (0 ≤ x9_2) = true := decide_eq_true c33
               clear c33
               by_cases c34 : x9_2 ≤ x10_2
               ·rw [if_pos c34] at H
                have c34b0 := eq_true c34
                have c34b1 : decide (x9_2 ≤ x10_2) = true := decide_eq_true c34
                clear c34
                by_cases c35 : x10_2 ≤ (a0.size : Int)
                ·rw [if_pos c35] at H
                 have c35b0 := eq_true c35
                 have c35b1 : decide (x10_2 ≤ (a0.size : Int)) = true := decide_eq_true c35
                 clear c35
                 by_cases c36 : x6_2.length < 8796093022208
                 ·rw [if_pos c36] at H
                  have LMc36 := y0.mk c36
                  clear c36
                  obtain ⟨y173,hy173⟩ : ∃ y_ : List ByteArray,y_ = (x6_2 ++ [a0.extract (x9_2 : Int).toNat (x10_2 : Int).toNat]) := ⟨_,rfl⟩
                  replace H : (z2_.l1 k2 a0 x5_1 y173 x7_2 false (wrap64 (x10_2 + 1)) (wrap64 (x10_2 + 1))) = some (r1,r2,r3) := by first | (rw [hy173]; with_reducible exact H) | (have H2_ := (Option.bind_some _ _).symm.trans H; rw [hy173]; with_reducible exact H2_) | (have H2_ := (Option.bind_some _ _).symm.trans H; with_reducible exact H2_) | with_reducible exact H | (rw [hy173]; exact H) | exact H
                  have Ny173 := y0.mk hy173
                  clear hy173
                  have H' := y0.mk H
                  clear H
                  have p14 : 0 ≤ (x10_2 : Int) := of_decide_eq_true (by first | (with_reducible assumption) | assumption)
                  have q14 : x10_2 < (a0.size : Int) := of_decide_eq_true (by first | (with_reducible assumption) | assumption)
                  have hx14 := bt_at a0 x10_2
                  replace p14 := eq_true p14
                  replace q14 := eq_true q14
                  have p17 : 0 ≤ (x10_2 : Int) := of_decide_eq_true (by first | (with_reducible assumption) | assumption)
                  have q17 : x10_2 < (a0.size : Int) := of_decide_eq_true (by first | (with_reducible assumption) | assumption)
                  have hx17 := bt_at a0 x10_2
                  replace p17 := eq_true p17
                  replace q17 := eq_true q17
                  have p19 : 0 ≤ (x10_2 : Int) := of_decide_eq_true (by first | (with_reducible assumption) | assumption)
                  have q19 : x10_2 < (a0.size : Int) := of_decide_eq_true (by first | (with_reducible assumption) | assumption)
                  have hx19 := bt_at a0 x10_2
                  replace p19 := eq_true p19
                  replace q19 := eq_true q19
                  have p30 : 0 ≤ (x10_2 : Int) := of_decide_eq_true (by first | (with_reducible assumption) | assumption)
                  have q30 : x10_2 < (a0.size : Int) := of_decide_eq_true (by first | (with_reducible assumption) | assumption)
                  have hx30 := bt_at a0 x10_2
                  replace p30 := eq_true p30
                  replace q30 := eq_true q30
                  go_wp2_with (first | ((with_reducible refine gate_builtin (b := .append) (xs := #[.tmp 88,.tmp 93]) rfl ?_); at_builtin; refine Kd.R_append Kd.string (w0 := w) w.heap.size rfl (.tmp 88) (.tmp 93) 27 9 (.string ⟨#[]⟩) 16 rfl Tryz.underlying27 info9 rfl (by decide) (by omega) u6 x6_2 (a0.extract (x9_2 : Int).toNat (x10_2 : Int).toNat) [.string (a0.extract (x9_2 : Int).toNat (x10_2 : Int).toNat)] (fun _ => True) (fun _ => False) rfl rfl ?aP (fun _ hk => hk.elim) ?aF ?aO ?aB ?aS ?aL ?_; (case aP => exact rfl); (case aB => exact (by repeat (first | (with_reducible first | exact HB.out | apply y3 | apply y23 | apply y4) | exact HB.out))); (case aF => exact (fun _ _ => trivial)); (case aO => exact (by (with_reducible repeat (first | apply Kd.R_alloc | apply Kd.R_drewN | apply Kd.R_drew)); exact HO_6.out)); (case aS => exact (y6 (by repeat (first | (with_reducible first | exact HB.out | apply y3 | apply y23 | apply y4) | exact HB.out)))); (case aL => have := LMc36.out; omega); intro v174 w37 ho hb hg hat; rw [← Ny173.out] at ho; have n0_ := y0.mk (hb); have n1_ := y0.mk (ho); clear HB; clear HO_6; have HB := n0_; have HO175 := n1_; clear n0_ n1_; clear ho hb hg hat))
                  go_roundg k2
                  case measure => have := HJ1.out; have := HK2.out; omega
                  case rel => exact ⟨(y173),(x7_2),(false),(wrap64 (x10_2 + 1)),(wrap64 (x10_2 + 1)),(by first | rfl | (simp; done) | (simp [*]; done)),(by first | rfl | (simp; done) | (simp [*]; done)),(by first | rfl | (simp; done) | (simp [*]; done)),(by first | rfl | (simp; done) | (simp [*]; done)),H',⟨by have := HJ1.out; have := HK2.out; omega⟩,⟨by (with_reducible repeat (first | apply Kd.R_alloc | apply Kd.R_drewN | apply Kd.R_drew)); exact HO175.out⟩,⟨by repeat (first | (with_reducible first | exact HB.out | apply y3 | apply y23 | apply y4) | exact HB.out)⟩⟩
                 ·rw [if_neg c36] at H
                  exact absurd H (by simp)
                ·rw [if_neg c35] at H
                 exact absurd H (by simp)
               ·rw [if_neg c34] at H
                exact absurd H (by simp)
              ·rw [if_neg c33] at H
               exact absurd H (by simp)
             ·rw [if_neg c32] at H
              have c32b0 : (x7_2 == 1) = false := beq_eq_false_iff_ne.mpr c32
              have c32b1 : (x7_2 != 1) = true := bne_iff_ne.mpr c32
              have H' := y0.mk H
              clear H
              have p14 : 0 ≤ (x10_2 : Int) := of_decide_eq_true (by first | (with_reducible assumption) | assumption)
              have q14 : x10_2 < (a0.size : Int) := of_decide_eq_true (by first | (with_reducible assumption) | assumption)
              have hx14 := bt_at a0 x10_2
              replace p14 := eq_true p14
              replace q14 := eq_true q14
              have p17 : 0 ≤ (x10_2 : Int) := of_decide_eq_true (by first | (with_reducible assumption) | assumption)
              have q17 : x10_2 < (a0.size : Int) := of_decide_eq_true (by first | (with_reducible assumption) | assumption)
              have hx17 := bt_at a0 x10_2
              replace p17 := eq_true p17
              replace q17 := eq_true q17
              have p19 : 0 ≤ (x10_2 : Int) := of_decide_eq_true (by first | (with_reducible assumption) | assumption)
              have q19 : x10_2 < (a0.size : Int) := of_decide_eq_true (by first | (with_reducible assumption) | assumption)
              have hx19 := bt_at a0 x10_2
              replace p19 := eq_true p19
              replace q19 := eq_true q19
              have p30 : 0 ≤ (x10_2 : Int) := of_decide_eq_true (by first | (with_reducible assumption) | assumption)
              have q30 : x10_2 < (a0.size : Int) := of_decide_eq_true (by first | (with_reducible assumption) | assumption)
              have hx30 := bt_at a0 x10_2
              replace p30 := eq_true p30
              replace q30 := eq_true q30
              go_wp2
              go_roundg k2
              case measure => have := HJ1.out; have := HK2.out; omega
              case rel => exact ⟨(x6_2),(x7_2),(false),(x9_2),(wrap64 (x10_2 + 1)),(by first | rfl | (simp; done) | (simp [*]; done)),(by first | rfl | (simp; done) | (simp [*]; done)),(by first | rfl | (simp; done) | (simp [*]; done)),(by first | rfl | (simp; done) | (simp [*]; done)),H',⟨by have := HJ1.out; have := HK2.out; omega⟩,⟨by (with_reducible repeat (first | apply Kd.R_alloc | apply Kd.R_drewN | apply Kd.R_drew)); exact HO_6.out⟩,⟨by repeat (first | (with_reducible first | exact HB.out | apply y3 | apply y23 | apply y4) | exact HB.out)⟩⟩
            ·rw [if_neg c31] at H
             have c31b0 : ((bt a0 x10_2) == 44) = false := beq_eq_false_iff_ne.mpr c31
             have c31b1 : ((bt a0 x10_2) != 44) = true := bne_iff_ne.mpr c31
             have H' := y0.mk H
             clear H
             have p14 : 0 ≤ (x10_2 : Int) := of_decide_eq_true (by first | (with_reducible assumption) | assumption)
             have q14 : x10_2 < (a0.size : Int) := of_decide_eq_true (by first | (with_reducible assumption) | assumption)
             have hx14 := bt_at a0 x10_2
             replace p14 := eq_true p14
             replace q14 := eq_true q14
             have p17 : 0 ≤ (x10_2 : Int) := of_decide_eq_true (by first | (with_reducible assumption) | assumption)
             have q17 : x10_2 < (a0.size : Int) := of_decide_eq_true (by first | (with_reducible assumption) | assumption)
             have hx17 := bt_at a0 x10_2
             replace p17 := eq_true p17
             replace q17 := eq_true q17
             have p19 : 0 ≤ (x10_2 : Int) := of_decide_eq_true (by first | (with_reducible assumption) | assumption)
             have q19 : x10_2 < (a0.size : Int) := of_decide_eq_true (by first | (with_reducible assumption) | assumption)
             have hx19 := bt_at a0 x10_2
             replace p19 := eq_true p19
             replace q19 := eq_true q19
             have p30 : 0 ≤ (x10_2 : Int) := of_decide_eq_true (by first | (with_reducible assumption) | assumption)
             have q30 : x10_2 < (a0.size : Int) := of_decide_eq_true (by first | (with_reducible assumption) | assumption)
             have hx30 := bt_at a0 x10_2
             replace p30 := eq_true p30
             replace q30 := eq_true q30
             go_wp2
             go_roundg k2
             case measure => have := HJ1.out; have := HK2.out; omega
             case rel => exact ⟨(x6_2),(x7_2),(false),(x9_2),(wrap64 (x10_2 + 1)),(by first | rfl | (simp; done) | (simp [*]; done)),(by first | rfl | (simp; done) | (simp [*]; done)),(by first | rfl | (simp; done) | (simp [*]; done)),(by first | rfl | (simp; done) | (simp [*]; done)),H',⟨by have := HJ1.out; have := HK2.out; omega⟩,⟨by (with_reducible repeat (first | apply Kd.R_alloc | apply Kd.R_drewN | apply Kd.R_drew)); exact HO_6.out⟩,⟨by repeat (first | (with_reducible first | exact HB.out | apply y3 | apply y23 | apply y4) | exact HB.out)⟩⟩
       ·rw [if_neg c13] at H
        exact absurd H (by simp)
      ·rw [if_neg c12] at H
       have c12b0 : decide (x10_2 < (a0.size : Int)) = false := decide_eq_false c12
       clear c12
       obtain ⟨y167,hy167⟩ : ∃ y_ : List ByteArray,y_ = (([] : List ByteArray)) := ⟨_,rfl⟩
       replace H : (some ((⟨#[]⟩ : ByteArray),y167,false)) = some (r1,r2,r3) := by first | (rw [hy167]; with_reducible exact H) | (have H2_ := (Option.bind_some _ _).symm.trans H; rw [hy167]; with_reducible exact H2_) | (have H2_ := (Option.bind_some _ _).symm.trans H; with_reducible exact H2_) | with_reducible exact H | (rw [hy167]; exact H) | exact H
       have Ny167 := y0.mk hy167
       clear hy167
       simp only [Option.some.injEq,Prod.mk.injEq] at H
       obtain ⟨rfl,rfl,rfl⟩ := H
       go_wp2_with (first | ((with_reducible refine y19 (N := 97) rfl ?_); refine Kd.R_lit Kd.string _ 9 ?hg (N := 97) ?hd (xs := ([] : List ByteArray)) (inner := []) (ok := fun _ => True) (okp := fun _ => True) ?hr ?hp (fun _ hk => hk) trivial (Below.refl _ _) (Nat.le_refl _) (by simp) ?_; (case hd => rfl); (case hg => rfl); (case hr => first | (go_simp; done) | (go_simp; rfl)); (case hp => exact (Reps.none _ _)); intro v168 w38 ho39 hb hg_ hnew_; clear hg_ hnew_; (first | rw [← Ny167.out] at ho39 | (simp only [Int.reduceToNat] at ho39; rw [← Ny167.out] at ho39)); have n0_ := y0.mk (Kd.R_elder' (by (with_reducible repeat (first | apply Kd.R_alloc | apply Kd.R_drewN | apply Kd.R_drew)); exact HO_6.out) (Kd.R_base ho39) hb); have n1_ := y0.mk (Kd.R_lower (Kd.R_new' ho39 (Kd.R_lt (by (with_reducible repeat (first | apply Kd.R_alloc | apply Kd.R_drewN | apply Kd.R_drew)); exact HO_6.out))) (y6 (by repeat (first | (with_reducible first | exact HB.out | apply y3 | apply y23 | apply y4) | exact HB.out)))); have n2_ := y0.mk (y7 (by repeat (first | (with_reducible first | exact HB.out | apply y3 | apply y23 | apply y4) | exact HB.out)) hb); clear HO_6; clear HB; have HO_6 := n0_; have HO169 := n1_; have HB := n2_; clear n0_ n1_ n2_; clear hb ho39))
       go_ret3
       exact ⟨_,by first | rfl | (simp [y16,y17] <;> rfl) | (simp [*,y16,y17] <;> rfl),by (with_reducible repeat (first | apply Kd.R_alloc | apply Kd.R_drewN | apply Kd.R_drew)); exact Kd.R_mono HO169.out (fun _ hk => trivial),by repeat (first | (with_reducible first | exact HB.out | apply y3 | apply y23 | apply y4) | exact HB.out)⟩
end Go.Proofs.YtamjmldfifofbaaGreatDoor.Pf
end
section
namespace Go.Proofs.YtamjmldfifofbaaGreatDoor.Pf
open Go.RowKit Go.Proofs.YtamjmldfifofbaaGreatDoorW.PrintWords Go.Proofs.YtamjmldfifofbaaGreatDoorW.PrintLast Go.Proofs.YtamjmldfifofbaaGreatDoorW.PrintMore
attribute [local go_sem] max2_int min2_int max_two min_two max_three min_three max_four min_four   -- for this text's walks alone
set_option linter.unusedVariables false
set_option linter.unusedSimpArgs false
def spec_l01Big.f (a0 : Int) : Option (Bool) := if a0 ≥ 65 then (some (decide (a0 ≤ 90))) else (some false)
set_option maxHeartbeats 8000000 in
set_option maxRecDepth 100000 in
theorem spec_l01Big.calls (a0 : Int) (r : Bool) (w : World) (h : spec_l01Big.f a0 = some r) :
  Calls Tryz.prog 68 #[.int .u8 a0] w fun e w' => e = .returned (.bool r) ∧ y1 w w' := by
 have H : (if a0 ≥ 65 then (some (decide (a0 ≤ 90))) else (some false)) = some r := h
 clear h
 by_cases c2 : a0 ≥ 65
 ·rw [if_pos c2] at H
  have c2b0 : decide (65 ≤ a0) = true := decide_eq_true c2
  clear c2
  obtain rfl := Option.some.inj H
  go_enter Tryz.func68,Tryz.ntmps68
  go_wp2
  go_ret
  exact ⟨by first | rfl | (simp; done) | (simp [*]; done),by repeat (first | exact y1.refl _ | apply y1.step)⟩
 ·rw [if_neg c2] at H
  have c2b0 : decide (65 ≤ a0) = false := decide_eq_false c2
  clear c2
  obtain rfl := Option.some.inj H
  go_enter Tryz.func68,Tryz.ntmps68
  go_wp2
  go_ret
  exact ⟨by first | rfl | (simp; done) | (simp [*]; done),by repeat (first | exact y1.refl _ | apply y1.step)⟩
def spec_l01Small.f (a0 : Int) : Option (Bool) := if a0 ≥ 97 then (some (decide (a0 ≤ 122))) else (some false)
set_option maxHeartbeats 8000000 in
set_option maxRecDepth 100000 in
theorem spec_l01Small.calls (a0 : Int) (r : Bool) (w : World) (h : spec_l01Small.f a0 = some r) :
  Calls Tryz.prog 69 #[.int .u8 a0] w fun e w' => e = .returned (.bool r) ∧ y1 w w' := by
 have H : (if a0 ≥ 97 then (some (decide (a0 ≤ 122))) else (some false)) = some r := h
 clear h
 by_cases c2 : a0 ≥ 97
 ·rw [if_pos c2] at H
  have c2b0 : decide (97 ≤ a0) = true := decide_eq_true c2
  clear c2
  obtain rfl := Option.some.inj H
  go_enter Tryz.func69,Tryz.ntmps69
  go_wp2
  go_ret
  exact ⟨by first | rfl | (simp; done) | (simp [*]; done),by repeat (first | exact y1.refl _ | apply y1.step)⟩
 ·rw [if_neg c2] at H
  have c2b0 : decide (97 ≤ a0) = false := decide_eq_false c2
  clear c2
  obtain rfl := Option.some.inj H
  go_enter Tryz.func69,Tryz.ntmps69
  go_wp2
  go_ret
  exact ⟨by first | rfl | (simp; done) | (simp [*]; done),by repeat (first | exact y1.refl _ | apply y1.step)⟩
def spec_l01Letter.f (a0 : Int) : Option (Bool) := (spec_l01Small.f a0).bind fun t176 => (if t176 = true then (some true) else ((spec_l01Big.f a0).bind fun t177 => (if t177 = true then (some true) else ((spec_l01Digit.f a0).bind fun t178 => (if t178 = true then (some true) else (some (a0 == 95)))))))
set_option maxHeartbeats 8000000 in
set_option maxRecDepth 100000 in
theorem spec_l01Letter.calls (a0 : Int) (r : Bool) (w : World) (h : spec_l01Letter.f a0 = some r) :
  Calls Tryz.prog 70 #[.int .u8 a0] w fun e w' => e = .returned (.bool r) ∧ y1 w w' := by
 have H : ((spec_l01Small.f a0).bind fun t176 => (if t176 = true then (some true) else ((spec_l01Big.f a0).bind fun t177 => (if t177 = true then (some true) else ((spec_l01Digit.f a0).bind fun t178 => (if t178 = true then (some true) else (some (a0 == 95)))))))) = some r := h
 clear h
 replace H := Option.bind_eq_some_iff.mp H
 obtain ⟨t176,A20,H⟩ := H
 replace H : (if t176 = true then (some true) else ((spec_l01Big.f a0).bind fun t177 => (if t177 = true then (some true) else ((spec_l01Digit.f a0).bind fun t178 => (if t178 = true then (some true) else (some (a0 == 95))))))) = some r := H
 have A2 := y0.mk A20
 clear A20
 by_cases c3 : t176 = true
 ·subst c3
  have H1 : (some true) = some r := by rw [if_pos rfl] at H; exact H
  clear H
  have H := H1
  clear H1
  obtain rfl := Option.some.inj H
  go_enter Tryz.func70,Tryz.ntmps70
  go_wp2_with (first | ((with_reducible refine y18 (f := 69) rfl ?_); refine y20 (some 4) rfl rfl Tryz.func69 (by kernel_rfl) rfl #[.int .u8 a0] rfl (by (try simp only [qM_,List.map_cons,List.map_nil]); first | done | rfl | (simp only [qD_,qT_]; rfl)) ?_; (with_reducible refine (spec_l01Small.calls a0 true _ A2.out).mono ?_); rintro e w' ⟨rfl,⟨nd,rfl⟩⟩; refine ⟨_,rfl, ?_⟩))
  go_ret
  exact ⟨by first | rfl | (simp; done) | (simp [*]; done),by repeat (first | exact y1.refl _ | apply y1.step)⟩
 ·replace c3 := Bool.eq_false_iff.mpr c3
  subst c3
  have H1 : ((spec_l01Big.f a0).bind fun t177 => (if t177 = true then (some true) else ((spec_l01Digit.f a0).bind fun t178 => (if t178 = true then (some true) else (some (a0 == 95)))))) = some r := by rw [if_neg (show ¬ (false = true) by decide)] at H; exact H
  clear H
  have H := H1
  clear H1
  replace H := Option.bind_eq_some_iff.mp H
  obtain ⟨t177,A40,H⟩ := H
  replace H : (if t177 = true then (some true) else ((spec_l01Digit.f a0).bind fun t178 => (if t178 = true then (some true) else (some (a0 == 95))))) = some r := H
  have A4 := y0.mk A40
  clear A40
  by_cases c5 : t177 = true
  ·subst c5
   have H1 : (some true) = some r := by rw [if_pos rfl] at H; exact H
   clear H
   have H := H1
   clear H1
   obtain rfl := Option.some.inj H
   go_enter Tryz.func70,Tryz.ntmps70
   go_wp2_with (first | ((with_reducible refine y18 (f := 69) rfl ?_); refine y20 (some 4) rfl rfl Tryz.func69 (by kernel_rfl) rfl #[.int .u8 a0] rfl (by (try simp only [qM_,List.map_cons,List.map_nil]); first | done | rfl | (simp only [qD_,qT_]; rfl)) ?_; (with_reducible refine (spec_l01Small.calls a0 false _ A2.out).mono ?_); rintro e w' ⟨rfl,⟨nd,rfl⟩⟩; refine ⟨_,rfl, ?_⟩) | (go_at_call 68; (with_reducible refine (spec_l01Big.calls a0 true _ A4.out).mono ?_); rintro e w' ⟨rfl,⟨nd,rfl⟩⟩))
   go_ret
   exact ⟨by first | rfl | (simp; done) | (simp [*]; done),by repeat (first | exact y1.refl _ | apply y1.step)⟩
  ·replace c5 := Bool.eq_false_iff.mpr c5
   subst c5
   have H1 : ((spec_l01Digit.f a0).bind fun t178 => (if t178 = true then (some true) else (some (a0 == 95)))) = some r := by rw [if_neg (show ¬ (false = true) by decide)] at H; exact H
   clear H
   have H := H1
   clear H1
   replace H := Option.bind_eq_some_iff.mp H
   obtain ⟨t178,A60,H⟩ := H
   replace H : (if t178 = true then (some true) else (some (a0 == 95))) = some r := H
   have A6 := y0.mk A60
   clear A60
   by_cases c7 : t178 = true
   ·subst c7
    have H1 : (some true) = some r := by rw [if_pos rfl] at H; exact H
    clear H
    have H := H1
    clear H1
    obtain rfl := Option.some.inj H
    go_enter Tryz.func70,Tryz.ntmps70
    go_wp2_with (first | ((with_reducible refine y18 (f := 69) rfl ?_); refine y20 (some 4) rfl rfl Tryz.func69 (by kernel_rfl) rfl #[.int .u8 a0] rfl (by (try simp only [qM_,List.map_cons,List.map_nil]); first | done | rfl | (simp only [qD_,qT_]; rfl)) ?_; (with_reducible refine (spec_l01Small.calls a0 false _ A2.out).mono ?_); rintro e w' ⟨rfl,⟨nd,rfl⟩⟩; refine ⟨_,rfl, ?_⟩) | (go_at_call 68; (with_reducible refine (spec_l01Big.calls a0 false _ A4.out).mono ?_); rintro e w' ⟨rfl,⟨nd,rfl⟩⟩) | (go_at_call 66; (with_reducible refine (spec_l01Digit.calls a0 true _ A6.out).mono ?_); rintro e w' ⟨rfl,⟨nd,rfl⟩⟩))
    go_ret
    exact ⟨by first | rfl | (simp; done) | (simp [*]; done),by repeat (first | exact y1.refl _ | apply y1.step)⟩
   ·replace c7 := Bool.eq_false_iff.mpr c7
    subst c7
    have H1 : (some (a0 == 95)) = some r := by rw [if_neg (show ¬ (false = true) by decide)] at H; exact H
    clear H
    have H := H1
    clear H1
    obtain rfl := Option.some.inj H
    go_enter Tryz.func70,Tryz.ntmps70
    go_wp2_with (first | ((with_reducible refine y18 (f := 69) rfl ?_); refine y20 (some 4) rfl rfl Tryz.func69 (by kernel_rfl) rfl #[.int .u8 a0] rfl (by (try simp only [qM_,List.map_cons,List.map_nil]); first | done | rfl | (simp only [qD_,qT_]; rfl)) ?_; (with_reducible refine (spec_l01Small.calls a0 false _ A2.out).mono ?_); rintro e w' ⟨rfl,⟨nd,rfl⟩⟩; refine ⟨_,rfl, ?_⟩) | (go_at_call 68; (with_reducible refine (spec_l01Big.calls a0 false _ A4.out).mono ?_); rintro e w' ⟨rfl,⟨nd,rfl⟩⟩) | (go_at_call 66; (with_reducible refine (spec_l01Digit.calls a0 false _ A6.out).mono ?_); rintro e w' ⟨rfl,⟨nd,rfl⟩⟩))
    go_ret
    exact ⟨by first | rfl | (simp; done) | (simp [*]; done),by repeat (first | exact y1.refl _ | apply y1.step)⟩
mutual
def z4_.j0 : Nat → ByteArray → Bool → Option (Bool)
 | 0,_,_ => none
 | k + 1,x0,x28 => if x28 = true then (some false) else (z4_.l0 k x0 0)
def z4_.l0 : Nat → ByteArray → Int → Option (Bool)
 | 0,_,_ => none
 | k + 1,x0,x5 => if x5 < (x0.size : Int) then (if 0 ≤ x5 then ((spec_l01Letter.f (bt x0 x5)).bind fun t182 => (if t182 = true then (z4_.l0 k x0 (wrap64 (x5 + 1))) else (some false))) else (none)) else (some true)
end
def z4_.f (k : Nat) (a0 : ByteArray) (a1 : Bool) : Option (Bool) := (z3_.f (a0.size : Int) 1 20).bind fun t179 => (if t179 = true then (if a1 = true then (if 0 < (a0.size : Int) then ((spec_l01Big.f (bt a0 0)).bind fun t180 => (if t180 = true then (z4_.j0 k a0 false) else (z4_.j0 k a0 true))) else (none)) else (if 0 < (a0.size : Int) then ((spec_l01Small.f (bt a0 0)).bind fun t181 => (z4_.j0 k a0 (!t181))) else (none))) else (z4_.j0 k a0 true))
set_option maxHeartbeats 8000000 in
set_option maxRecDepth 100000 in
theorem z4_.calls (k : Nat) (a0 : ByteArray) (a1 : Bool) (r : Bool) (w : World) (h : z4_.f k a0 a1 = some r) :
  Calls Tryz.prog 49 #[.string a0,.bool a1] w fun e w' => e = .returned (.bool r) ∧ y1 w w' := by
 have H : ((z3_.f (a0.size : Int) 1 20).bind fun t179 => (if t179 = true then (if a1 = true then (if 0 < (a0.size : Int) then ((spec_l01Big.f (bt a0 0)).bind fun t180 => (if t180 = true then (z4_.j0 k a0 false) else (z4_.j0 k a0 true))) else (none)) else (if 0 < (a0.size : Int) then ((spec_l01Small.f (bt a0 0)).bind fun t181 => (z4_.j0 k a0 (!t181))) else (none))) else (z4_.j0 k a0 true))) = some r := h
 clear h
 have HC3 := y0.mk H
 clear H
 go_enter Tryz.func49,Tryz.ntmps49
 go_upto_region 1 with (fail)
 go_cut [28] (fun v28 wc => ∃ (kq : Nat) (x28_2 : Bool),v28 = .bool x28_2 ∧ y0 (z4_.j0 kq a0 x28_2 = some r) ∧ y0 (kq ≤ k) ∧ y1 w wc)
 case first =>
  have H := HC3.out
  clear HC3
  replace H := Option.bind_eq_some_iff.mp H
  obtain ⟨t179,A40,H⟩ := H
  replace H : (if t179 = true then (if a1 = true then (if 0 < (a0.size : Int) then ((spec_l01Big.f (bt a0 0)).bind fun t180 => (if t180 = true then (z4_.j0 k a0 false) else (z4_.j0 k a0 true))) else (none)) else (if 0 < (a0.size : Int) then ((spec_l01Small.f (bt a0 0)).bind fun t181 => (z4_.j0 k a0 (!t181))) else (none))) else (z4_.j0 k a0 true)) = some r := H
  have A4 := y0.mk A40
  clear A40
  by_cases c5 : t179 = true
  ·subst c5
   have H1 : (if a1 = true then (if 0 < (a0.size : Int) then ((spec_l01Big.f (bt a0 0)).bind fun t180 => (if t180 = true then (z4_.j0 k a0 false) else (z4_.j0 k a0 true))) else (none)) else (if 0 < (a0.size : Int) then ((spec_l01Small.f (bt a0 0)).bind fun t181 => (z4_.j0 k a0 (!t181))) else (none))) = some r := by rw [if_pos rfl] at H; exact H
   clear H
   have H := H1
   clear H1
   by_cases c6 : a1 = true
   ·subst c6
    have H1 : (if 0 < (a0.size : Int) then ((spec_l01Big.f (bt a0 0)).bind fun t180 => (if t180 = true then (z4_.j0 k a0 false) else (z4_.j0 k a0 true))) else (none)) = some r := by rw [if_pos rfl] at H; exact H
    clear H
    have H := H1
    clear H1
    by_cases c7 : 0 < (a0.size : Int)
    ·rw [if_pos c7] at H
     have c7b0 : decide (0 < (a0.size : Int)) = true := decide_eq_true c7
     have c7b1 : decide (0 < a0.size) = true := decide_eq_true (by omega)
     clear c7
     (first | rw [c7b0] | (simp only [y22,y21]; rw [c7b0]) | skip)
     replace H := Option.bind_eq_some_iff.mp H
     obtain ⟨t180,A90,H⟩ := H
     replace H : (if t180 = true then (z4_.j0 k a0 false) else (z4_.j0 k a0 true)) = some r := H
     have A9 := y0.mk A90
     clear A90
     by_cases c10 : t180 = true
     ·subst c10
      have H1 : (z4_.j0 k a0 false) = some r := by rw [if_pos rfl] at H; exact H
      clear H
      have H := H1
      clear H1
      have H' := y0.mk H
      clear H
      go_wp2_with (first | ((with_reducible refine y18 (f := 16) rfl ?_); refine y20 (some 8) rfl rfl Tryz.func16 (by kernel_rfl) rfl #[.int .i64 (a0.size : Int),.int .i64 1,.int .i64 20] rfl (by (try simp only [qM_,List.map_cons,List.map_nil]); first | done | rfl | (simp only [qD_,qT_]; rfl)) ?_; (with_reducible refine (z3_.calls (a0.size : Int) 1 20 true _ A4.out).mono ?_); rintro e w' ⟨rfl,⟨nd,rfl⟩⟩; refine ⟨_,rfl, ?_⟩; have p8 : 0 ≤ (0 : Int) := (by omega); have q8 : 0 < a0.size := (by have : (0 : Int) < (a0.size : Int) := of_decide_eq_true (by first | (with_reducible assumption) | assumption); omega); have hx8 : ∀ h : 0 < a0.size,((a0[0]'h).toNat : Int) = bt a0 0 := bt_at a0 0; clear p8; have qi8 : (0 < (a0.size : Int)) = True := eq_true (of_decide_eq_true (by first | (with_reducible assumption) | assumption)); replace q8 := eq_true q8) | (go_at_call 68; (with_reducible refine (spec_l01Big.calls (bt a0 0) true _ A9.out).mono ?_); rintro e w' ⟨rfl,⟨nd,rfl⟩⟩))
      go_meet
      case rel => exact ⟨_,(false),(by first | rfl | (simp; done) | (simp [*]; done)),H',⟨by first | omega | exact Nat.le_refl _⟩,by repeat (first | exact y1.refl _ | apply y1.step)⟩
     ·replace c10 := Bool.eq_false_iff.mpr c10
      subst c10
      have H1 : (z4_.j0 k a0 true) = some r := by rw [if_neg (show ¬ (false = true) by decide)] at H; exact H
      clear H
      have H := H1
      clear H1
      have H' := y0.mk H
      clear H
      go_wp2_with (first | ((with_reducible refine y18 (f := 16) rfl ?_); refine y20 (some 8) rfl rfl Tryz.func16 (by kernel_rfl) rfl #[.int .i64 (a0.size : Int),.int .i64 1,.int .i64 20] rfl (by (try simp only [qM_,List.map_cons,List.map_nil]); first | done | rfl | (simp only [qD_,qT_]; rfl)) ?_; (with_reducible refine (z3_.calls (a0.size : Int) 1 20 true _ A4.out).mono ?_); rintro e w' ⟨rfl,⟨nd,rfl⟩⟩; refine ⟨_,rfl, ?_⟩; have p8 : 0 ≤ (0 : Int) := (by omega); have q8 : 0 < a0.size := (by have : (0 : Int) < (a0.size : Int) := of_decide_eq_true (by first | (with_reducible assumption) | assumption); omega); have hx8 : ∀ h : 0 < a0.size,((a0[0]'h).toNat : Int) = bt a0 0 := bt_at a0 0; clear p8; have qi8 : (0 < (a0.size : Int)) = True := eq_true (of_decide_eq_true (by first | (with_reducible assumption) | assumption)); replace q8 := eq_true q8) | (go_at_call 68; (with_reducible refine (spec_l01Big.calls (bt a0 0) false _ A9.out).mono ?_); rintro e w' ⟨rfl,⟨nd,rfl⟩⟩))
      go_meet
      case rel => exact ⟨_,(true),(by first | rfl | (simp; done) | (simp [*]; done)),H',⟨by first | omega | exact Nat.le_refl _⟩,by repeat (first | exact y1.refl _ | apply y1.step)⟩
    ·rw [if_neg c7] at H
     exact absurd H (by simp)
   ·replace c6 := Bool.eq_false_iff.mpr c6
    subst c6
    have H1 : (if 0 < (a0.size : Int) then ((spec_l01Small.f (bt a0 0)).bind fun t181 => (z4_.j0 k a0 (!t181))) else (none)) = some r := by rw [if_neg (show ¬ (false = true) by decide)] at H; exact H
    clear H
    have H := H1
    clear H1
    by_cases c11 : 0 < (a0.size : Int)
    ·rw [if_pos c11] at H
     have c11b0 : decide (0 < (a0.size : Int)) = true := decide_eq_true c11
     have c11b1 : decide (0 < a0.size) = true := decide_eq_true (by omega)
     clear c11
     replace H := Option.bind_eq_some_iff.mp H
     obtain ⟨t181,A130,H⟩ := H
     replace H : (z4_.j0 k a0 (!t181)) = some r := H
     have A13 := y0.mk A130
     clear A130
     have H' := y0.mk H
     clear H
     go_wp2_with (first | ((with_reducible refine y18 (f := 16) rfl ?_); refine y20 (some 8) rfl rfl Tryz.func16 (by kernel_rfl) rfl #[.int .i64 (a0.size : Int),.int .i64 1,.int .i64 20] rfl (by (try simp only [qM_,List.map_cons,List.map_nil]); first | done | rfl | (simp only [qD_,qT_]; rfl)) ?_; (with_reducible refine (z3_.calls (a0.size : Int) 1 20 true _ A4.out).mono ?_); rintro e w' ⟨rfl,⟨nd,rfl⟩⟩; refine ⟨_,rfl, ?_⟩; have p12 : 0 ≤ (0 : Int) := (by omega); have q12 : 0 < a0.size := (by have : (0 : Int) < (a0.size : Int) := of_decide_eq_true (by first | (with_reducible assumption) | assumption); omega); have hx12 : ∀ h : 0 < a0.size,((a0[0]'h).toNat : Int) = bt a0 0 := bt_at a0 0; clear p12; have qi12 : (0 < (a0.size : Int)) = True := eq_true (of_decide_eq_true (by first | (with_reducible assumption) | assumption)); replace q12 := eq_true q12) | (go_at_call 69; (with_reducible refine (spec_l01Small.calls (bt a0 0) t181 _ A13.out).mono ?_); rintro e w' ⟨rfl,⟨nd,rfl⟩⟩))
     go_meet
     case rel => exact ⟨_,(!t181),(by first | rfl | (simp; done) | (simp [*]; done)),H',⟨by first | omega | exact Nat.le_refl _⟩,by repeat (first | exact y1.refl _ | apply y1.step)⟩
    ·rw [if_neg c11] at H
     exact absurd H (by simp)
  ·replace c5 := Bool.eq_false_iff.mpr c5
   subst c5
   have H1 : (z4_.j0 k a0 true) = some r := by rw [if_neg (show ¬ (false = true) by decide)] at H; exact H
   clear H
   have H := H1
   clear H1
   have H' := y0.mk H
   clear H
   go_wp2_with (first | ((with_reducible refine y18 (f := 16) rfl ?_); refine y20 (some 8) rfl rfl Tryz.func16 (by kernel_rfl) rfl #[.int .i64 (a0.size : Int),.int .i64 1,.int .i64 20] rfl (by (try simp only [qM_,List.map_cons,List.map_nil]); first | done | rfl | (simp only [qD_,qT_]; rfl)) ?_; (with_reducible refine (z3_.calls (a0.size : Int) 1 20 false _ A4.out).mono ?_); rintro e w' ⟨rfl,⟨nd,rfl⟩⟩; refine ⟨_,rfl, ?_⟩))
   go_meet
   case rel => exact ⟨_,(true),(by first | rfl | (simp; done) | (simp [*]; done)),H',⟨by first | omega | exact Nat.le_refl _⟩,by repeat (first | exact y1.refl _ | apply y1.step)⟩
 case rest =>
  clear HC3
  try clear c1
  try clear p1
  try clear q1
  try clear hx1
  try clear qi1
  try clear p2
  try clear c4
  try clear c5
  try clear c6
  try clear c7
  try clear c7b0
  try clear c7b1
  try clear p8
  try clear q8
  try clear hx8
  try clear qi8
  try clear c10
  try clear c11
  try clear c11b0
  try clear c11b1
  try clear p12
  try clear q12
  try clear hx12
  try clear qi12
  try clear p12
  try clear p8
  try clear q12
  try clear q8
  obtain ⟨kq,x28_2,rfl,HA,HJ2,⟨mc2,rfl⟩⟩ := hcut
  cases kq with
  | zero => exact absurd HA.out (by simp [z4_.j0])
  | succ kj2 =>
   have H := HA.out
   clear HA
   simp only [z4_.j0] at H
   by_cases c14 : x28_2 = true
   ·subst c14
    have H1 : (some false) = some r := by rw [if_pos rfl] at H; exact H
    clear H
    have H := H1
    clear H1
    obtain rfl := Option.some.inj H
    go_wp2
    go_ret
    exact ⟨by first | rfl | (simp; done) | (simp [*]; done),by repeat (first | exact y1.refl _ | apply y1.step)⟩
   ·replace c14 := Bool.eq_false_iff.mpr c14
    subst c14
    have H1 : (z4_.l0 kj2 a0 0) = some r := by rw [if_neg (show ¬ (false = true) by decide)] at H; exact H
    clear H
    have H := H1
    clear H1
    have H' := y0.mk H
    clear H
    go_wp2
    go_loopg [5] kj2 (fun kq v5 w' => ∃ (x5_2 : Int),v5 = .int .i64 x5_2 ∧ y0 (z4_.l0 kq a0 x5_2 = some r) ∧ y0 (kq ≤ kj2) ∧ y1 w w')
    case atStart => exact ⟨(0),(by first | rfl | (simp; done) | (simp [*]; done)),H',⟨Nat.le_refl _⟩,by repeat (first | exact y1.refl _ | apply y1.step)⟩
    case round =>
     clear H'
     try clear c1
     try clear p1
     try clear q1
     try clear hx1
     try clear qi1
     try clear c2
     try clear p2
     try clear c4
     try clear c5
     try clear c6
     try clear c7
     try clear c7b0
     try clear c7b1
     try clear p8
     try clear q8
     try clear hx8
     try clear qi8
     try clear c10
     try clear c11
     try clear c11b0
     try clear c11b1
     try clear p12
     try clear q12
     try clear hx12
     try clear qi12
     try clear c14
     try clear p1
     try clear p12
     try clear p2
     try clear p8
     try clear q1
     try clear q12
     try clear q8
     obtain ⟨x5_2,rfl,HA,HK2,⟨m2,rfl⟩⟩ := hrel
     cases gk with
     | zero => exact absurd HA.out (by simp [z4_.l0])
     | succ k2 =>
      have H := HA.out
      clear HA
      simp only [z4_.l0] at H
      by_cases c15 : x5_2 < (a0.size : Int)
      ·rw [if_pos c15] at H
       have c15b0 : decide (x5_2 < (a0.size : Int)) = true := decide_eq_true c15
       clear c15
       by_cases c16 : 0 ≤ x5_2
       ·rw [if_pos c16] at H
        have c16b0 : decide (0 ≤ x5_2) = true := decide_eq_true c16
        clear c16
        replace H := Option.bind_eq_some_iff.mp H
        obtain ⟨t182,A180,H⟩ := H
        replace H : (if t182 = true then (z4_.l0 k2 a0 (wrap64 (x5_2 + 1))) else (some false)) = some r := H
        have A18 := y0.mk A180
        clear A180
        by_cases c19 : t182 = true
        ·subst c19
         have H1 : (z4_.l0 k2 a0 (wrap64 (x5_2 + 1))) = some r := by rw [if_pos rfl] at H; exact H
         clear H
         have H := H1
         clear H1
         have H' := y0.mk H
         clear H
         have p17 : 0 ≤ (x5_2 : Int) := of_decide_eq_true (by first | (with_reducible assumption) | assumption)
         have q17 : x5_2 < (a0.size : Int) := of_decide_eq_true (by first | (with_reducible assumption) | assumption)
         have hx17 := bt_at a0 x5_2
         replace p17 := eq_true p17
         replace q17 := eq_true q17
         go_wp2_with (first | ((with_reducible refine y18 (f := 70) rfl ?_); refine y20 (some 38) rfl rfl Tryz.func70 (by kernel_rfl) rfl #[.int .u8 (bt a0 x5_2)] rfl (by (try simp only [qM_,List.map_cons,List.map_nil]); first | done | rfl | (simp only [qD_,qT_]; rfl)) ?_; (with_reducible refine (spec_l01Letter.calls (bt a0 x5_2) true _ A18.out).mono ?_); rintro e w' ⟨rfl,⟨nd,rfl⟩⟩; refine ⟨_,rfl, ?_⟩))
         go_roundg k2
         case measure => have := HJ2.out; have := HK2.out; omega
         case rel => exact ⟨(wrap64 (x5_2 + 1)),(by first | rfl | (simp; done) | (simp [*]; done)),H',⟨by have := HJ2.out; have := HK2.out; omega⟩,by repeat (first | exact y1.refl _ | apply y1.step)⟩
        ·replace c19 := Bool.eq_false_iff.mpr c19
         subst c19
         have H1 : (some false) = some r := by rw [if_neg (show ¬ (false = true) by decide)] at H; exact H
         clear H
         have H := H1
         clear H1
         obtain rfl := Option.some.inj H
         have p17 : 0 ≤ (x5_2 : Int) := of_decide_eq_true (by first | (with_reducible assumption) | assumption)
         have q17 : x5_2 < (a0.size : Int) := of_decide_eq_true (by first | (with_reducible assumption) | assumption)
         have hx17 := bt_at a0 x5_2
         replace p17 := eq_true p17
         replace q17 := eq_true q17
         go_wp2_with (first | ((with_reducible refine y18 (f := 70) rfl ?_); refine y20 (some 38) rfl rfl Tryz.func70 (by kernel_rfl) rfl #[.int .u8 (bt a0 x5_2)] rfl (by (try simp only [qM_,List.map_cons,List.map_nil]); first | done | rfl | (simp only [qD_,qT_]; rfl)) ?_; (with_reducible refine (spec_l01Letter.calls (bt a0 x5_2) false _ A18.out).mono ?_); rintro e w' ⟨rfl,⟨nd,rfl⟩⟩; refine ⟨_,rfl, ?_⟩))
         go_ret
         exact ⟨by first | rfl | (simp; done) | (simp [*]; done),by repeat (first | exact y1.refl _ | apply y1.step)⟩
       ·rw [if_neg c16] at H
        exact absurd H (by simp)
      ·rw [if_neg c15] at H
       have c15b0 : decide (x5_2 < (a0.size : Int)) = false := decide_eq_false c15
       clear c15
       obtain rfl := Option.some.inj H
       go_wp2
       go_ret
       exact ⟨by first | rfl | (simp; done) | (simp [*]; done),by repeat (first | exact y1.refl _ | apply y1.step)⟩
end Go.Proofs.YtamjmldfifofbaaGreatDoor.Pf
end
section
namespace Go.Proofs.YtamjmldfifofbaaGreatDoor.Pf
open Go.RowKit Go.Proofs.YtamjmldfifofbaaGreatDoorW.PrintWords Go.Proofs.YtamjmldfifofbaaGreatDoorW.PrintLast Go.Proofs.YtamjmldfifofbaaGreatDoorW.PrintMore
attribute [local go_sem] max2_int min2_int max_two min_two max_three min_three max_four min_four   -- for this text's walks alone
set_option linter.unusedVariables false
set_option linter.unusedSimpArgs false
mutual
def z1_.j0 : Nat → ByteArray → Bool → Option (Int)
 | 0,_,_ => none
 | k + 1,x0,x16 => if x16 = true then (some 0) else ((z5_.f k x0).bind fun bt183 => (if bt183.2 = true then (some 1) else (if 0 < (x0.size : Int) then (if (bt x0 0) = 34 then ((z3_.f (x0.size : Int) 2 22).bind fun t185 => (if t185 = true then (if 0 ≤ (wrap64 ((x0.size : Int) - 1)) then (if (wrap64 ((x0.size : Int) - 1)) < (x0.size : Int) then (z1_.j1 k x0 ((bt x0 (wrap64 ((x0.size : Int) - 1))) != 34)) else (none)) else (none)) else (z1_.j1 k x0 true))) else ((z2_.f k x0).bind fun bt187 => (if bt187.2.2 = true then ((z4_.f k bt187.1 true).bind fun t192 => (z1_.j3 k bt187.2.1 (!t192))) else (z1_.j3 k bt187.2.1 true)))) else (none))))
def z1_.j1 : Nat → ByteArray → Bool → Option (Int)
 | 0,_,_ => none
 | k + 1,x0,x37 => if x37 = true then (some 0) else (z1_.l0 k x0 1)
def z1_.l0 : Nat → ByteArray → Int → Option (Int)
 | 0,_,_ => none
 | k + 1,x0,x5 => if (wrap64 (x5 + 1)) < (x0.size : Int) then (if 0 ≤ x5 then (if x5 < (x0.size : Int) then ((z3_.f (wrap64 (bt x0 x5)) 32 126).bind fun t186 => (if t186 = true then (if (bt x0 x5) = 34 then (some 0) else (if (bt x0 x5) = 92 then (some 0) else (z1_.l0 k x0 (wrap64 (x5 + 1))))) else (some 0))) else (none)) else (none)) else (some 2)
def z1_.j3 : Nat → List ByteArray → Bool → Option (Int)
 | 0,_,_ => none
 | k + 1,x7,x75 => if x75 = true then (some 0) else (z1_.l1 k x7 0)
def z1_.l1 : Nat → List ByteArray → Int → Option (Int)
 | 0,_,_ => none
 | k + 1,x7,x9 => if x9 < (x7.length : Int) then (if 0 ≤ x9 then ((z1_.f k (rdOf ByteArray.empty x7 x9)).bind fun t194 => (if t194 = 0 then (some 0) else (z1_.l1 k x7 (wrap64 (x9 + 1))))) else (none)) else (some 3)
def z1_.f : Nat → ByteArray → Option (Int)
 | 0,_ => none
 | k + 1,a0 => if a0.toList = ([] : List UInt8) then (z1_.j0 k a0 true) else (z1_.j0 k a0 (decide ((a0.size : Int) > 200)))
end
set_option maxHeartbeats 8000000 in
set_option maxRecDepth 100000 in
theorem z1_.calls (k : Nat) : ∀ (a0 : ByteArray) (r : Int) (w : World) (h : z1_.f k a0 = some r),
  Calls Tryz.prog 32 #[.string a0] w fun e w' => e = .returned (.int .i64 r) ∧ Below w.heap.size w w' := by
 induction k using Nat.strongRecOn with
 | _ k ih =>
 intro a0 r w h
 cases k with
 | zero => exact absurd h (by simp [z1_.f])
 | succ k =>
 simp only [z1_.f] at h
 have HB := y0.mk (Below.refl w.heap.size w)
 have H : (if a0.toList = ([] : List UInt8) then (z1_.j0 k a0 true) else (z1_.j0 k a0 (decide ((a0.size : Int) > 200)))) = some r := h
 clear h
 have HC2 := y0.mk H
 clear H
 go_enter Tryz.func32,Tryz.ntmps32
 go_upto_region 1 with (fail)
 go_cut [16] (fun v16 wc => ∃ (kq : Nat) (x16_1 : Bool),v16 = .bool x16_1 ∧ y0 (z1_.j0 kq a0 x16_1 = some r) ∧ y0 (kq ≤ k) ∧ y0 (Below w.heap.size w wc))
 case first =>
  have H := HC2.out
  clear HC2
  by_cases c3 : a0.toList = ([] : List UInt8)
  ·rw [if_pos c3] at H
   have c3b0 : (a0.toList == ([] : List UInt8)) = true := beq_iff_eq.mpr c3
   have c3b1 : (a0.toList != ([] : List UInt8)) = false := bne_eq_false_iff_eq.mpr c3
   clear c3
   (first | rw [c3b0] | (simp only [y22,y21]; rw [c3b0]) | skip)
   have H' := y0.mk H
   clear H
   go_wp2
   go_meet
   case rel => exact ⟨_,(true),(by first | rfl | (simp; done) | (simp [*]; done)),H',⟨by first | omega | exact Nat.le_refl _⟩,⟨by repeat (first | (with_reducible first | exact HB.out | apply y3 | apply y23 | apply y4) | exact HB.out)⟩⟩
  ·rw [if_neg c3] at H
   have c3b0 : (a0.toList == ([] : List UInt8)) = false := beq_eq_false_iff_ne.mpr c3
   have c3b1 : (a0.toList != ([] : List UInt8)) = true := bne_iff_ne.mpr c3
   (first | rw [c3b0] | (simp only [y22,y21]; rw [c3b0]) | skip)
   have H' := y0.mk H
   clear H
   go_wp2
   go_meet
   case rel => exact ⟨_,(decide ((a0.size : Int) > 200)),(by first | rfl | (simp; done) | (simp [*]; done)),H',⟨by first | omega | exact Nat.le_refl _⟩,⟨by repeat (first | (with_reducible first | exact HB.out | apply y3 | apply y23 | apply y4) | exact HB.out)⟩⟩
 case rest =>
  clear HC2
  try clear p2
  try clear c3
  try clear c3b0
  try clear c3b1
  obtain ⟨kq,x16_1,rfl,HA,HJ1,HB⟩ := hcut
  cases kq with
  | zero => exact absurd HA.out (by simp [z1_.j0])
  | succ kj1 =>
   have H := HA.out
   clear HA
   simp only [z1_.j0] at H
   by_cases c4 : x16_1 = true
   ·subst c4
    have H1 : (some 0) = some r := by rw [if_pos rfl] at H; exact H
    clear H
    have H := H1
    clear H1
    obtain rfl := Option.some.inj H
    go_wp2
    go_ret
    exact ⟨by first | rfl | (simp [y16,y17] <;> rfl) | (simp [*,y16,y17] <;> rfl),by repeat (first | (with_reducible first | exact HB.out | apply y3 | apply y23 | apply y4) | exact HB.out)⟩
   ·replace c4 := Bool.eq_false_iff.mpr c4
    subst c4
    have H1 : ((z5_.f kj1 a0).bind fun bt183 => (if bt183.2 = true then (some 1) else (if 0 < (a0.size : Int) then (if (bt a0 0) = 34 then ((z3_.f (a0.size : Int) 2 22).bind fun t185 => (if t185 = true then (if 0 ≤ (wrap64 ((a0.size : Int) - 1)) then (if (wrap64 ((a0.size : Int) - 1)) < (a0.size : Int) then (z1_.j1 kj1 a0 ((bt a0 (wrap64 ((a0.size : Int) - 1))) != 34)) else (none)) else (none)) else (z1_.j1 kj1 a0 true))) else ((z2_.f kj1 a0).bind fun bt187 => (if bt187.2.2 = true then ((z4_.f kj1 bt187.1 true).bind fun t192 => (z1_.j3 kj1 bt187.2.1 (!t192))) else (z1_.j3 kj1 bt187.2.1 true)))) else (none)))) = some r := by rw [if_neg (show ¬ (false = true) by decide)] at H; exact H
    clear H
    have H := H1
    clear H1
    replace H := Option.bind_eq_some_iff.mp H
    obtain ⟨⟨t183,t184⟩,A50,H⟩ := H
    replace H : (if t184 = true then (some 1) else (if 0 < (a0.size : Int) then (if (bt a0 0) = 34 then ((z3_.f (a0.size : Int) 2 22).bind fun t185 => (if t185 = true then (if 0 ≤ (wrap64 ((a0.size : Int) - 1)) then (if (wrap64 ((a0.size : Int) - 1)) < (a0.size : Int) then (z1_.j1 kj1 a0 ((bt a0 (wrap64 ((a0.size : Int) - 1))) != 34)) else (none)) else (none)) else (z1_.j1 kj1 a0 true))) else ((z2_.f kj1 a0).bind fun bt187 => (if bt187.2.2 = true then ((z4_.f kj1 bt187.1 true).bind fun t192 => (z1_.j3 kj1 bt187.2.1 (!t192))) else (z1_.j3 kj1 bt187.2.1 true)))) else (none))) = some r := H
    have A5 := y0.mk A50
    clear A50
    by_cases c6 : t184 = true
    ·subst c6
     have H1 : (some 1) = some r := by rw [if_pos rfl] at H; exact H
     clear H
     have H := H1
     clear H1
     obtain rfl := Option.some.inj H
     go_wp2_with (first | ((with_reducible refine y18 (f := 47) rfl ?_); refine y20 (some 19) rfl rfl Tryz.func47 (by kernel_rfl) rfl #[.string a0] rfl (by (try simp only [qM_,List.map_cons,List.map_nil]); first | done | rfl | (simp only [qD_,qT_]; rfl)) ?_; (with_reducible refine (z5_.calls kj1 a0 t183 true _ A5.out).mono ?_); rintro e w7 ⟨rfl,hb⟩; refine ⟨_,rfl, ?_⟩; have n0_ := y0.mk (y7 (by repeat (first | (with_reducible first | exact HB.out | apply y3 | apply y23 | apply y4) | exact HB.out)) hb); clear HB; have HB := n0_; clear n0_; (try clear hb); (try clear hb2); (try clear hk); (try clear hi)))
     go_ret
     exact ⟨by first | rfl | (simp [y16,y17] <;> rfl) | (simp [*,y16,y17] <;> rfl),by repeat (first | (with_reducible first | exact HB.out | apply y3 | apply y23 | apply y4) | exact HB.out)⟩
    ·replace c6 := Bool.eq_false_iff.mpr c6
     subst c6
     have H1 : (if 0 < (a0.size : Int) then (if (bt a0 0) = 34 then ((z3_.f (a0.size : Int) 2 22).bind fun t185 => (if t185 = true then (if 0 ≤ (wrap64 ((a0.size : Int) - 1)) then (if (wrap64 ((a0.size : Int) - 1)) < (a0.size : Int) then (z1_.j1 kj1 a0 ((bt a0 (wrap64 ((a0.size : Int) - 1))) != 34)) else (none)) else (none)) else (z1_.j1 kj1 a0 true))) else ((z2_.f kj1 a0).bind fun bt187 => (if bt187.2.2 = true then ((z4_.f kj1 bt187.1 true).bind fun t192 => (z1_.j3 kj1 bt187.2.1 (!t192))) else (z1_.j3 kj1 bt187.2.1 true)))) else (none)) = some r := by rw [if_neg (show ¬ (false = true) by decide)] at H; exact H
     clear H
     have H := H1
     clear H1
     by_cases c8 : 0 < (a0.size : Int)
     ·rw [if_pos c8] at H
      have c8b0 : decide (0 < (a0.size : Int)) = true := decide_eq_true c8
      have c8b1 : decide (0 < a0.size) = true := decide_eq_true (by omega)
      clear c8
      by_cases c10 : (bt a0 0) = 34
      ·rw [if_pos c10] at H
       have c10b0 : ((bt a0 0) == 34) = true := beq_iff_eq.mpr c10
       have c10b1 : ((bt a0 0) != 34) = false := bne_eq_false_iff_eq.mpr c10
       clear c10
       have HC11 := y0.mk H
       clear H
       go_upto_region 7 with (first | ((with_reducible refine y18 (f := 47) rfl ?_); refine y20 (some 19) rfl rfl Tryz.func47 (by kernel_rfl) rfl #[.string a0] rfl (by (try simp only [qM_,List.map_cons,List.map_nil]); first | done | rfl | (simp only [qD_,qT_]; rfl)) ?_; (with_reducible refine (z5_.calls kj1 a0 t183 false _ A5.out).mono ?_); rintro e w12 ⟨rfl,hb⟩; refine ⟨_,rfl, ?_⟩; have n0_ := y0.mk (y7 (by repeat (first | (with_reducible first | exact HB.out | apply y3 | apply y23 | apply y4) | exact HB.out)) hb); clear HB; have HB := n0_; clear n0_; (try clear hb); (try clear hb2); (try clear hk); (try clear hi); have p9 : 0 ≤ (0 : Int) := (by omega); have q9 : 0 < a0.size := (by have : (0 : Int) < (a0.size : Int) := of_decide_eq_true (by first | (with_reducible assumption) | assumption); omega); have hx9 : ∀ h : 0 < a0.size,((a0[0]'h).toNat : Int) = bt a0 0 := bt_at a0 0; clear p9; have qi9 : (0 < (a0.size : Int)) = True := eq_true (of_decide_eq_true (by first | (with_reducible assumption) | assumption)); replace q9 := eq_true q9))
       (try simp only [Act.put,qS_,qZ_,qC_])
       go_cut [37] (fun v37 wc => ∃ (kq : Nat) (x37_10 : Bool),v37 = .bool x37_10 ∧ y0 (z1_.j1 kq a0 x37_10 = some r) ∧ y0 (kq ≤ kj1) ∧ y0 (Below w.heap.size w wc))
       case first =>
        have H := HC11.out
        clear HC11
        replace H := Option.bind_eq_some_iff.mp H
        obtain ⟨t185,A130,H⟩ := H
        replace H : (if t185 = true then (if 0 ≤ (wrap64 ((a0.size : Int) - 1)) then (if (wrap64 ((a0.size : Int) - 1)) < (a0.size : Int) then (z1_.j1 kj1 a0 ((bt a0 (wrap64 ((a0.size : Int) - 1))) != 34)) else (none)) else (none)) else (z1_.j1 kj1 a0 true)) = some r := H
        have A13 := y0.mk A130
        clear A130
        by_cases c14 : t185 = true
        ·subst c14
         have H1 : (if 0 ≤ (wrap64 ((a0.size : Int) - 1)) then (if (wrap64 ((a0.size : Int) - 1)) < (a0.size : Int) then (z1_.j1 kj1 a0 ((bt a0 (wrap64 ((a0.size : Int) - 1))) != 34)) else (none)) else (none)) = some r := by rw [if_pos rfl] at H; exact H
         clear H
         have H := H1
         clear H1
         obtain ⟨ji15,hji15⟩ : ∃ j_ : Int,(wrap64 ((a0.size : Int) - 1)) = j_ := ⟨_,rfl⟩
         replace H : (if 0 ≤ (ji15) then (if (ji15) < (a0.size : Int) then (z1_.j1 kj1 a0 ((bt a0 (ji15)) != 34)) else (none)) else (none)) = some r := by first | (rw [hji15] at H; exact H) | (simp only [hji15] at H ⊢; exact H)
         (try rw [hji15] at A13)
         have hji15w : (IntKind.i64.wrap ((a0.size : Int) - 1)) = ji15 := (y22 _).trans hji15
         by_cases c16 : 0 ≤ (ji15)
         ·rw [if_pos c16] at H
          have c16b0 : decide (0 ≤ (ji15)) = true := decide_eq_true c16
          clear c16
          (first | rw [c16b0] | (simp only [y22,y21]; rw [c16b0]) | skip)
          by_cases c17 : (ji15) < (a0.size : Int)
          ·rw [if_pos c17] at H
           have c17b0 : decide ((ji15) < (a0.size : Int)) = true := decide_eq_true c17
           clear c17
           have H' := y0.mk H
           clear H
           go_wp2_with (first | ((with_reducible refine y18 (f := 16) rfl ?_); refine y20 (some 28) rfl rfl Tryz.func16 (by kernel_rfl) rfl #[.int .i64 (a0.size : Int),.int .i64 2,.int .i64 22] rfl (by (try simp only [qM_,List.map_cons,List.map_nil]); first | done | rfl | (simp only [qD_,qT_]; rfl)) ?_; (with_reducible refine (z3_.calls (a0.size : Int) 2 22 true _ A13.out).mono ?_); rintro e w' ⟨rfl,⟨nd,rfl⟩⟩; refine ⟨_,rfl, ?_⟩; have p18 : 0 ≤ ((ji15) : Int) := of_decide_eq_true (by first | (with_reducible assumption) | assumption); have q18 : (ji15) < (a0.size : Int) := of_decide_eq_true (by first | (with_reducible assumption) | assumption); have hx18 := bt_at a0 (ji15); replace p18 := eq_true p18; replace q18 := eq_true q18))
           go_meet
           case rel => exact ⟨_,(((bt a0 (ji15)) != 34)),(by first | rfl | (simp; done) | (simp only [← hji15] <;> (first | rfl | simp)) | (simp [*]; done)),H',⟨by have := HJ1.out; first | omega | exact Nat.le_refl _⟩,⟨by repeat (first | (with_reducible first | exact HB.out | apply y3 | apply y23 | apply y4) | exact HB.out)⟩⟩
          ·rw [if_neg c17] at H
           exact absurd H (by simp)
         ·rw [if_neg c16] at H
          exact absurd H (by simp)
        ·replace c14 := Bool.eq_false_iff.mpr c14
         subst c14
         have H1 : (z1_.j1 kj1 a0 true) = some r := by rw [if_neg (show ¬ (false = true) by decide)] at H; exact H
         clear H
         have H := H1
         clear H1
         have H' := y0.mk H
         clear H
         go_wp2_with (first | ((with_reducible refine y18 (f := 16) rfl ?_); refine y20 (some 28) rfl rfl Tryz.func16 (by kernel_rfl) rfl #[.int .i64 (a0.size : Int),.int .i64 2,.int .i64 22] rfl (by (try simp only [qM_,List.map_cons,List.map_nil]); first | done | rfl | (simp only [qD_,qT_]; rfl)) ?_; (with_reducible refine (z3_.calls (a0.size : Int) 2 22 false _ A13.out).mono ?_); rintro e w' ⟨rfl,⟨nd,rfl⟩⟩; refine ⟨_,rfl, ?_⟩))
         go_meet
         case rel => exact ⟨_,(true),(by first | rfl | (simp; done) | (simp [*]; done)),H',⟨by have := HJ1.out; first | omega | exact Nat.le_refl _⟩,⟨by repeat (first | (with_reducible first | exact HB.out | apply y3 | apply y23 | apply y4) | exact HB.out)⟩⟩
       case rest =>
        clear HC11
        try clear c1
        try clear p1
        try clear q1
        try clear hx1
        try clear p2
        try clear c3
        try clear c3b0
        try clear c3b1
        try clear c4
        try clear c6
        try clear p6
        try clear c8
        try clear c8b0
        try clear c8b1
        try clear p9
        try clear q9
        try clear hx9
        try clear qi9
        try clear c10
        try clear c10b0
        try clear c10b1
        try clear c14
        try clear c16
        try clear c16b0
        try clear c17
        try clear c17b0
        try clear p18
        try clear q18
        try clear hx18
        try clear p18
        try clear p2
        try clear p9
        try clear q18
        try clear q9
        obtain ⟨kq,x37_10,rfl,HA,HJ10,HB⟩ := hcut
        cases kq with
        | zero => exact absurd HA.out (by simp [z1_.j1])
        | succ kj10 =>
         have H := HA.out
         clear HA
         simp only [z1_.j1] at H
         by_cases c19 : x37_10 = true
         ·subst c19
          have H1 : (some 0) = some r := by rw [if_pos rfl] at H; exact H
          clear H
          have H := H1
          clear H1
          obtain rfl := Option.some.inj H
          go_wp2
          go_ret
          exact ⟨by first | rfl | (simp [y16,y17] <;> rfl) | (simp [*,y16,y17] <;> rfl),by repeat (first | (with_reducible first | exact HB.out | apply y3 | apply y23 | apply y4) | exact HB.out)⟩
         ·replace c19 := Bool.eq_false_iff.mpr c19
          subst c19
          have H1 : (z1_.l0 kj10 a0 1) = some r := by rw [if_neg (show ¬ (false = true) by decide)] at H; exact H
          clear H
          have H := H1
          clear H1
          have H' := y0.mk H
          clear H
          go_wp2
          go_loopg [5] kj10 (fun kq v5 w' => ∃ (x5_3 : Int),v5 = .int .i64 x5_3 ∧ y0 (z1_.l0 kq a0 x5_3 = some r) ∧ y0 (kq ≤ kj10) ∧ y0 (Below w.heap.size w w'))
          case atStart => exact ⟨(1),(by first | rfl | (simp; done) | (simp [*]; done)),H',⟨Nat.le_refl _⟩,⟨by repeat (first | (with_reducible first | exact HB.out | apply y3 | apply y23 | apply y4) | exact HB.out)⟩⟩
          case round =>
           clear H'
           try clear c1
           try clear p1
           try clear q1
           try clear hx1
           try clear p2
           try clear c3
           try clear c3b0
           try clear c3b1
           try clear c4
           try clear c6
           try clear p6
           try clear c8
           try clear c8b0
           try clear c8b1
           try clear p9
           try clear q9
           try clear hx9
           try clear qi9
           try clear c10
           try clear c10b0
           try clear c10b1
           try clear c14
           try clear c16
           try clear c16b0
           try clear c17
           try clear c17b0
           try clear p18
           try clear q18
           try clear hx18
           try clear c19
           try clear p1
           try clear p18
           try clear p2
           try clear p6
           try clear p9
           try clear q1
           try clear q18
           try clear q9
           obtain ⟨x5_3,rfl,HA,HK3,HB⟩ := hrel
           cases gk with
           | zero => exact absurd HA.out (by simp [z1_.l0])
           | succ k3 =>
            have H := HA.out
            clear HA
            simp only [z1_.l0] at H
            by_cases c20 : (wrap64 (x5_3 + 1)) < (a0.size : Int)
            ·rw [if_pos c20] at H
             have c20b0 : decide ((wrap64 (x5_3 + 1)) < (a0.size : Int)) = true := decide_eq_true c20
             clear c20
             by_cases c21 : 0 ≤ x5_3
             ·rw [if_pos c21] at H
              have c21b0 : decide (0 ≤ x5_3) = true := decide_eq_true c21
              clear c21
              by_cases c22 : x5_3 < (a0.size : Int)
              ·rw [if_pos c22] at H
               have c22b0 : decide (x5_3 < (a0.size : Int)) = true := decide_eq_true c22
               clear c22
               replace H := Option.bind_eq_some_iff.mp H
               obtain ⟨t186,A240,H⟩ := H
               replace H : (if t186 = true then (if (bt a0 x5_3) = 34 then (some 0) else (if (bt a0 x5_3) = 92 then (some 0) else (z1_.l0 k3 a0 (wrap64 (x5_3 + 1))))) else (some 0)) = some r := H
               have A24 := y0.mk A240
               clear A240
               by_cases c25 : t186 = true
               ·subst c25
                have H1 : (if (bt a0 x5_3) = 34 then (some 0) else (if (bt a0 x5_3) = 92 then (some 0) else (z1_.l0 k3 a0 (wrap64 (x5_3 + 1))))) = some r := by rw [if_pos rfl] at H; exact H
                clear H
                have H := H1
                clear H1
                by_cases c27 : (bt a0 x5_3) = 34
                ·rw [if_pos c27] at H
                 have c27b0 : ((bt a0 x5_3) == 34) = true := beq_iff_eq.mpr c27
                 have c27b1 : ((bt a0 x5_3) != 34) = false := bne_eq_false_iff_eq.mpr c27
                 clear c27
                 obtain rfl := Option.some.inj H
                 have p23 : 0 ≤ (x5_3 : Int) := of_decide_eq_true (by first | (with_reducible assumption) | assumption)
                 have q23 : x5_3 < (a0.size : Int) := of_decide_eq_true (by first | (with_reducible assumption) | assumption)
                 have hx23 := bt_at a0 x5_3
                 replace p23 := eq_true p23
                 replace q23 := eq_true q23
                 go_wp2_with (first | ((with_reducible refine y18 (f := 16) rfl ?_); refine y20 (some 49) rfl rfl Tryz.func16 (by kernel_rfl) rfl #[.int .i64 (wrap64 (bt a0 x5_3)),.int .i64 32,.int .i64 126] rfl (by (try simp only [qM_,List.map_cons,List.map_nil]); first | done | rfl | (simp only [qD_,qT_]; rfl)) ?_; (with_reducible refine (z3_.calls (wrap64 (bt a0 x5_3)) 32 126 true _ A24.out).mono ?_); rintro e w' ⟨rfl,⟨nd,rfl⟩⟩; refine ⟨_,rfl, ?_⟩; have p26 : 0 ≤ (x5_3 : Int) := of_decide_eq_true (by first | (with_reducible assumption) | assumption); have q26 : x5_3 < (a0.size : Int) := of_decide_eq_true (by first | (with_reducible assumption) | assumption); have hx26 := bt_at a0 x5_3; replace p26 := eq_true p26; replace q26 := eq_true q26))
                 go_ret
                 exact ⟨by first | rfl | (simp [y16,y17] <;> rfl) | (simp [*,y16,y17] <;> rfl),by repeat (first | (with_reducible first | exact HB.out | apply y3 | apply y23 | apply y4) | exact HB.out)⟩
                ·rw [if_neg c27] at H
                 have c27b0 : ((bt a0 x5_3) == 34) = false := beq_eq_false_iff_ne.mpr c27
                 have c27b1 : ((bt a0 x5_3) != 34) = true := bne_iff_ne.mpr c27
                 by_cases c29 : (bt a0 x5_3) = 92
                 ·rw [if_pos c29] at H
                  have c29b0 : ((bt a0 x5_3) == 92) = true := beq_iff_eq.mpr c29
                  have c29b1 : ((bt a0 x5_3) != 92) = false := bne_eq_false_iff_eq.mpr c29
                  clear c29
                  obtain rfl := Option.some.inj H
                  have p23 : 0 ≤ (x5_3 : Int) := of_decide_eq_true (by first | (with_reducible assumption) | assumption)
                  have q23 : x5_3 < (a0.size : Int) := of_decide_eq_true (by first | (with_reducible assumption) | assumption)
                  have hx23 := bt_at a0 x5_3
                  replace p23 := eq_true p23
                  replace q23 := eq_true q23
                  go_wp2_with (first | ((with_reducible refine y18 (f := 16) rfl ?_); refine y20 (some 49) rfl rfl Tryz.func16 (by kernel_rfl) rfl #[.int .i64 (wrap64 (bt a0 x5_3)),.int .i64 32,.int .i64 126] rfl (by (try simp only [qM_,List.map_cons,List.map_nil]); first | done | rfl | (simp only [qD_,qT_]; rfl)) ?_; (with_reducible refine (z3_.calls (wrap64 (bt a0 x5_3)) 32 126 true _ A24.out).mono ?_); rintro e w' ⟨rfl,⟨nd,rfl⟩⟩; refine ⟨_,rfl, ?_⟩; have p26 : 0 ≤ (x5_3 : Int) := of_decide_eq_true (by first | (with_reducible assumption) | assumption); have q26 : x5_3 < (a0.size : Int) := of_decide_eq_true (by first | (with_reducible assumption) | assumption); have hx26 := bt_at a0 x5_3; replace p26 := eq_true p26; replace q26 := eq_true q26; have p28 : 0 ≤ (x5_3 : Int) := of_decide_eq_true (by first | (with_reducible assumption) | assumption); have q28 : x5_3 < (a0.size : Int) := of_decide_eq_true (by first | (with_reducible assumption) | assumption); have hx28 := bt_at a0 x5_3; replace p28 := eq_true p28; replace q28 := eq_true q28))
                  go_ret
                  exact ⟨by first | rfl | (simp [y16,y17] <;> rfl) | (simp [*,y16,y17] <;> rfl),by repeat (first | (with_reducible first | exact HB.out | apply y3 | apply y23 | apply y4) | exact HB.out)⟩
                 ·rw [if_neg c29] at H
                  have c29b0 : ((bt a0 x5_3) == 92) = false := beq_eq_false_iff_ne.mpr c29
                  have c29b1 : ((bt a0 x5_3) != 92) = true := bne_iff_ne.mpr c29
                  have H' := y0.mk H
                  clear H
                  have p23 : 0 ≤ (x5_3 : Int) := of_decide_eq_true (by first | (with_reducible assumption) | assumption)
                  have q23 : x5_3 < (a0.size : Int) := of_decide_eq_true (by first | (with_reducible assumption) | assumption)
                  have hx23 := bt_at a0 x5_3
                  replace p23 := eq_true p23
                  replace q23 := eq_true q23
                  go_wp2_with (first | ((with_reducible refine y18 (f := 16) rfl ?_); refine y20 (some 49) rfl rfl Tryz.func16 (by kernel_rfl) rfl #[.int .i64 (wrap64 (bt a0 x5_3)),.int .i64 32,.int .i64 126] rfl (by (try simp only [qM_,List.map_cons,List.map_nil]); first | done | rfl | (simp only [qD_,qT_]; rfl)) ?_; (with_reducible refine (z3_.calls (wrap64 (bt a0 x5_3)) 32 126 true _ A24.out).mono ?_); rintro e w' ⟨rfl,⟨nd,rfl⟩⟩; refine ⟨_,rfl, ?_⟩; have p26 : 0 ≤ (x5_3 : Int) := of_decide_eq_true (by first | (with_reducible assumption) | assumption); have q26 : x5_3 < (a0.size : Int) := of_decide_eq_true (by first | (with_reducible assumption) | assumption); have hx26 := bt_at a0 x5_3; replace p26 := eq_true p26; replace q26 := eq_true q26; have p28 : 0 ≤ (x5_3 : Int) := of_decide_eq_true (by first | (with_reducible assumption) | assumption); have q28 : x5_3 < (a0.size : Int) := of_decide_eq_true (by first | (with_reducible assumption) | assumption); have hx28 := bt_at a0 x5_3; replace p28 := eq_true p28; replace q28 := eq_true q28))
                  go_roundg k3
                  case measure => have := HJ1.out; have := HJ10.out; have := HK3.out; omega
                  case rel => exact ⟨(wrap64 (x5_3 + 1)),(by first | rfl | (simp; done) | (simp [*]; done)),H',⟨by have := HJ1.out; have := HJ10.out; have := HK3.out; omega⟩,⟨by repeat (first | (with_reducible first | exact HB.out | apply y3 | apply y23 | apply y4) | exact HB.out)⟩⟩
               ·replace c25 := Bool.eq_false_iff.mpr c25
                subst c25
                have H1 : (some 0) = some r := by rw [if_neg (show ¬ (false = true) by decide)] at H; exact H
                clear H
                have H := H1
                clear H1
                obtain rfl := Option.some.inj H
                have p23 : 0 ≤ (x5_3 : Int) := of_decide_eq_true (by first | (with_reducible assumption) | assumption)
                have q23 : x5_3 < (a0.size : Int) := of_decide_eq_true (by first | (with_reducible assumption) | assumption)
                have hx23 := bt_at a0 x5_3
                replace p23 := eq_true p23
                replace q23 := eq_true q23
                go_wp2_with (first | ((with_reducible refine y18 (f := 16) rfl ?_); refine y20 (some 49) rfl rfl Tryz.func16 (by kernel_rfl) rfl #[.int .i64 (wrap64 (bt a0 x5_3)),.int .i64 32,.int .i64 126] rfl (by (try simp only [qM_,List.map_cons,List.map_nil]); first | done | rfl | (simp only [qD_,qT_]; rfl)) ?_; (with_reducible refine (z3_.calls (wrap64 (bt a0 x5_3)) 32 126 false _ A24.out).mono ?_); rintro e w' ⟨rfl,⟨nd,rfl⟩⟩; refine ⟨_,rfl, ?_⟩))
                go_ret
                exact ⟨by first | rfl | (simp [y16,y17] <;> rfl) | (simp [*,y16,y17] <;> rfl),by repeat (first | (with_reducible first | exact HB.out | apply y3 | apply y23 | apply y4) | exact HB.out)⟩
              ·rw [if_neg c22] at H
               exact absurd H (by simp)
             ·rw [if_neg c21] at H
              exact absurd H (by simp)
            ·rw [if_neg c20] at H
             have c20b0 : decide ((wrap64 (x5_3 + 1)) < (a0.size : Int)) = false := decide_eq_false c20
             clear c20
             obtain rfl := Option.some.inj H
             go_wp2
             go_ret
             exact ⟨by first | rfl | (simp [y16,y17] <;> rfl) | (simp [*,y16,y17] <;> rfl),by repeat (first | (with_reducible first | exact HB.out | apply y3 | apply y23 | apply y4) | exact HB.out)⟩
      ·rw [if_neg c10] at H
       have c10b0 : ((bt a0 0) == 34) = false := beq_eq_false_iff_ne.mpr c10
       have c10b1 : ((bt a0 0) != 34) = true := bne_iff_ne.mpr c10
       replace H := Option.bind_eq_some_iff.mp H
       obtain ⟨⟨t187,t188,t189⟩,A300,H⟩ := H
       replace H : (if t189 = true then ((z4_.f kj1 t187 true).bind fun t192 => (z1_.j3 kj1 t188 (!t192))) else (z1_.j3 kj1 t188 true)) = some r := H
       have A30 := y0.mk A300
       clear A300
       have HC31 := y0.mk H
       clear H
       go_upto_region 16 with (first | ((with_reducible refine y18 (f := 47) rfl ?_); refine y20 (some 19) rfl rfl Tryz.func47 (by kernel_rfl) rfl #[.string a0] rfl (by (try simp only [qM_,List.map_cons,List.map_nil]); first | done | rfl | (simp only [qD_,qT_]; rfl)) ?_; (with_reducible refine (z5_.calls kj1 a0 t183 false _ A5.out).mono ?_); rintro e w32 ⟨rfl,hb⟩; refine ⟨_,rfl, ?_⟩; have n0_ := y0.mk (y7 (by repeat (first | (with_reducible first | exact HB.out | apply y3 | apply y23 | apply y4) | exact HB.out)) hb); clear HB; have HB := n0_; clear n0_; (try clear hb); (try clear hb2); (try clear hk); (try clear hi); have p9 : 0 ≤ (0 : Int) := (by omega); have q9 : 0 < a0.size := (by have : (0 : Int) < (a0.size : Int) := of_decide_eq_true (by first | (with_reducible assumption) | assumption); omega); have hx9 : ∀ h : 0 < a0.size,((a0[0]'h).toNat : Int) = bt a0 0 := bt_at a0 0; clear p9; have qi9 : (0 < (a0.size : Int)) = True := eq_true (of_decide_eq_true (by first | (with_reducible assumption) | assumption)); replace q9 := eq_true q9) | ((with_reducible refine y18 (f := 48) rfl ?_); refine y20 (some 65) rfl rfl Tryz.func48 (by kernel_rfl) rfl #[.string a0] rfl (by (try simp only [qM_,List.map_cons,List.map_nil]); first | done | rfl | (simp only [qD_,qT_]; rfl)) ?_; (with_reducible refine (z2_.calls kj1 a0 t187 t188 t189 _ A30.out).mono ?_); rintro e w33 ⟨v190,rfl,ho0,hb⟩; refine ⟨_,rfl, ?_⟩; have n0_ := y0.mk (Kd.R_lower ho0 (y6 (by repeat (first | (with_reducible first | exact HB.out | apply y3 | apply y23 | apply y4) | exact HB.out)))); have n1_ := y0.mk (y7 (by repeat (first | (with_reducible first | exact HB.out | apply y3 | apply y23 | apply y4) | exact HB.out)) hb); clear HB; have HO191 := n0_; have HB := n1_; clear n0_ n1_; (try clear hb); (try clear hb2); (try clear hk); (try clear hi); (try clear ho0)))
       (try simp only [Act.put,qS_,qZ_,qC_])
       go_cut [75] (fun v75 wc => ∃ (kq : Nat) (x75_30 : Bool),v75 = .bool x75_30 ∧ y0 (z1_.j3 kq t188 x75_30 = some r) ∧ y0 (kq ≤ kj1) ∧ y0 (Kd.R Kd.string 9 wc w.heap.size (fun _ => True) v190 t188) ∧ y0 (Below w.heap.size w wc))
       case first =>
        have H := HC31.out
        clear HC31
        by_cases c34 : t189 = true
        ·subst c34
         have H1 : ((z4_.f kj1 t187 true).bind fun t192 => (z1_.j3 kj1 t188 (!t192))) = some r := by rw [if_pos rfl] at H; exact H
         clear H
         have H := H1
         clear H1
         replace H := Option.bind_eq_some_iff.mp H
         obtain ⟨t192,A350,H⟩ := H
         replace H : (z1_.j3 kj1 t188 (!t192)) = some r := H
         have A35 := y0.mk A350
         clear A350
         have H' := y0.mk H
         clear H
         go_wp2_with (first | (go_at_call 49; (with_reducible refine (z4_.calls kj1 t187 true t192 _ A35.out).mono ?_); rintro e w' ⟨rfl,⟨nd,rfl⟩⟩))
         go_meet
         case rel => exact ⟨_,(!t192),(by first | rfl | (simp; done) | (simp [*]; done)),H',⟨by have := HJ1.out; first | omega | exact Nat.le_refl _⟩,⟨by (with_reducible repeat (first | apply Kd.R_alloc | apply Kd.R_drewN | apply Kd.R_drew)); exact HO191.out⟩,⟨by repeat (first | (with_reducible first | exact HB.out | apply y3 | apply y23 | apply y4) | exact HB.out)⟩⟩
        ·replace c34 := Bool.eq_false_iff.mpr c34
         subst c34
         have H1 : (z1_.j3 kj1 t188 true) = some r := by rw [if_neg (show ¬ (false = true) by decide)] at H; exact H
         clear H
         have H := H1
         clear H1
         have H' := y0.mk H
         clear H
         go_wp2
         go_meet
         case rel => exact ⟨_,(true),(by first | rfl | (simp; done) | (simp [*]; done)),H',⟨by have := HJ1.out; first | omega | exact Nat.le_refl _⟩,⟨by (with_reducible repeat (first | apply Kd.R_alloc | apply Kd.R_drewN | apply Kd.R_drew)); exact HO191.out⟩,⟨by repeat (first | (with_reducible first | exact HB.out | apply y3 | apply y23 | apply y4) | exact HB.out)⟩⟩
       case rest =>
        clear HC31
        try clear c1
        try clear p1
        try clear q1
        try clear hx1
        try clear c2
        try clear p2
        try clear q2
        try clear hx2
        try clear c3
        try clear c3b0
        try clear c3b1
        try clear c4
        try clear c6
        try clear p6
        try clear c8
        try clear c8b0
        try clear c8b1
        try clear p9
        try clear q9
        try clear hx9
        try clear qi9
        try clear c10
        try clear c10b0
        try clear c10b1
        try clear c14
        try clear c16
        try clear c16b0
        try clear c17
        try clear c17b0
        try clear p18
        try clear q18
        try clear hx18
        try clear c19
        try clear c20
        try clear c20b0
        try clear c21
        try clear c21b0
        try clear c22
        try clear c22b0
        try clear p23
        try clear q23
        try clear hx23
        try clear c25
        try clear p26
        try clear q26
        try clear hx26
        try clear c27
        try clear c27b0
        try clear c27b1
        try clear p28
        try clear q28
        try clear hx28
        try clear c29
        try clear c29b0
        try clear c29b1
        try clear c32
        try clear c34
        try clear p1
        try clear p18
        try clear p2
        try clear p23
        try clear p26
        try clear p28
        try clear p6
        try clear p9
        try clear q1
        try clear q18
        try clear q23
        try clear q26
        try clear q28
        try clear q9
        obtain ⟨kq,x75_30,rfl,HA,HJ30,HO_7,HB⟩ := hcut
        cases kq with
        | zero => exact absurd HA.out (by simp [z1_.j3])
        | succ kj30 =>
         have H := HA.out
         clear HA
         simp only [z1_.j3] at H
         by_cases c36 : x75_30 = true
         ·subst c36
          have H1 : (some 0) = some r := by rw [if_pos rfl] at H; exact H
          clear H
          have H := H1
          clear H1
          obtain rfl := Option.some.inj H
          go_wp2
          go_ret
          exact ⟨by first | rfl | (simp [y16,y17] <;> rfl) | (simp [*,y16,y17] <;> rfl),by repeat (first | (with_reducible first | exact HB.out | apply y3 | apply y23 | apply y4) | exact HB.out)⟩
         ·replace c36 := Bool.eq_false_iff.mpr c36
          subst c36
          have H1 : (z1_.l1 kj30 t188 0) = some r := by rw [if_neg (show ¬ (false = true) by decide)] at H; exact H
          clear H
          have H := H1
          clear H1
          have H' := y0.mk H
          clear H
          go_wp2
          go_loopg [9] kj30 (fun kq v9 w' => ∃ (x9_3 : Int),v9 = .int .i64 x9_3 ∧ y0 (z1_.l1 kq t188 x9_3 = some r) ∧ y0 (kq ≤ kj30) ∧ y0 (Kd.R Kd.string 9 w' w.heap.size (fun _ => True) v190 t188) ∧ y0 (Below w.heap.size w w'))
          case atStart => exact ⟨(0),(by first | rfl | (simp; done) | (simp [*]; done)),H',⟨Nat.le_refl _⟩,⟨by (with_reducible repeat (first | apply Kd.R_alloc | apply Kd.R_drewN | apply Kd.R_drew)); exact HO_7.out⟩,⟨by repeat (first | (with_reducible first | exact HB.out | apply y3 | apply y23 | apply y4) | exact HB.out)⟩⟩
          case round =>
           clear H'
           try clear c1
           try clear p1
           try clear q1
           try clear hx1
           try clear c2
           try clear p2
           try clear q2
           try clear hx2
           try clear c3
           try clear c3b0
           try clear c3b1
           try clear c4
           try clear c6
           try clear p6
           try clear c8
           try clear c8b0
           try clear c8b1
           try clear p9
           try clear q9
           try clear hx9
           try clear qi9
           try clear c10
           try clear c10b0
           try clear c10b1
           try clear c14
           try clear c16
           try clear c16b0
           try clear c17
           try clear c17b0
           try clear p18
           try clear q18
           try clear hx18
           try clear c19
           try clear c20
           try clear c20b0
           try clear c21
           try clear c21b0
           try clear c22
           try clear c22b0
           try clear p23
           try clear q23
           try clear hx23
           try clear c25
           try clear p26
           try clear q26
           try clear hx26
           try clear c27
           try clear c27b0
           try clear c27b1
           try clear p28
           try clear q28
           try clear hx28
           try clear c29
           try clear c29b0
           try clear c29b1
           try clear c32
           try clear c34
           try clear c36
           try clear p1
           try clear p18
           try clear p2
           try clear p23
           try clear p26
           try clear p28
           try clear p6
           try clear p9
           try clear q1
           try clear q18
           try clear q2
           try clear q23
           try clear q26
           try clear q28
           try clear q9
           obtain ⟨x9_3,rfl,HA,HK3,HO_7,HB⟩ := hrel
           cases gk with
           | zero => exact absurd HA.out (by simp [z1_.l1])
           | succ k3 =>
            have H := HA.out
            clear HA
            simp only [z1_.l1] at H
            by_cases c37 : x9_3 < (t188.length : Int)
            ·rw [if_pos c37] at H
             have c37b0 : decide (x9_3 < (t188.length : Int)) = true := decide_eq_true c37
             clear c37
             by_cases c38 : 0 ≤ x9_3
             ·rw [if_pos c38] at H
              have c38b0 : decide (0 ≤ x9_3) = true := decide_eq_true c38
              clear c38
              replace H := Option.bind_eq_some_iff.mp H
              obtain ⟨t194,A390,H⟩ := H
              replace H : (if t194 = 0 then (some 0) else (z1_.l1 k3 t188 (wrap64 (x9_3 + 1)))) = some r := H
              have A39 := y0.mk A390
              clear A390
              by_cases c40 : t194 = 0
              ·rw [if_pos c40] at H
               have c40b0 : (t194 == 0) = true := beq_iff_eq.mpr c40
               have c40b1 : (t194 != 0) = false := bne_eq_false_iff_eq.mpr c40
               clear c40
               obtain rfl := Option.some.inj H
               obtain ⟨Ao41,co41,eo41⟩ := Kd.R_slice HO_7.out
               subst eo41
               have p193 : 0 ≤ (x9_3 : Int) := of_decide_eq_true (by first | (with_reducible assumption) | assumption)
               have q193 : x9_3 < (t188.length : Int) := of_decide_eq_true (by first | (with_reducible assumption) | assumption)
               obtain ⟨ad193,e193,hx193_0⟩ := Kd.at_string (Kd.R_reads' HO_7.out).2.2 x9_3 p193 q193
               cases e193
               replace p193 := eq_true p193
               replace q193 := eq_true q193
               go_wp2_with (first | ((with_reducible refine y18 (f := 32) rfl ?_); refine y20 (some 86) rfl rfl Tryz.func32 (by kernel_rfl) rfl #[.string (rdOf ByteArray.empty t188 x9_3)] rfl (by (try simp only [qM_,List.map_cons,List.map_nil]); first | done | rfl | (simp only [qD_,qT_]; rfl)) ?_; (with_reducible refine (ih k3 (by have := HJ1.out; have := HJ30.out; have := HK3.out; omega) (rdOf ByteArray.empty t188 x9_3) t194 _ A39.out).mono ?_); rintro e w42 ⟨rfl,hb⟩; refine ⟨_,rfl, ?_⟩; have n0_ := y0.mk (Kd.R_below (by (with_reducible repeat (first | apply Kd.R_alloc | apply Kd.R_drewN | apply Kd.R_drew)); exact HO_7.out) hb); have n1_ := y0.mk (y7 (by repeat (first | (with_reducible first | exact HB.out | apply y3 | apply y23 | apply y4) | exact HB.out)) hb); clear HO_7; clear HB; have HO_7 := n0_; have HB := n1_; clear n0_ n1_; (try clear hb); (try clear hb2); (try clear hk); (try clear hi)))
               go_ret
               exact ⟨by first | rfl | (simp [y16,y17] <;> rfl) | (simp [*,y16,y17] <;> rfl),by repeat (first | (with_reducible first | exact HB.out | apply y3 | apply y23 | apply y4) | exact HB.out)⟩
              ·rw [if_neg c40] at H
               have c40b0 : (t194 == 0) = false := beq_eq_false_iff_ne.mpr c40
               have c40b1 : (t194 != 0) = true := bne_iff_ne.mpr c40
               have H' := y0.mk H
               clear H
               obtain ⟨Ao43,co43,eo43⟩ := Kd.R_slice HO_7.out
               subst eo43
               have p193 : 0 ≤ (x9_3 : Int) := of_decide_eq_true (by first | (with_reducible assumption) | assumption)
               have q193 : x9_3 < (t188.length : Int) := of_decide_eq_true (by first | (with_reducible assumption) | assumption)
               obtain ⟨ad193,e193,hx193_0⟩ := Kd.at_string (Kd.R_reads' HO_7.out).2.2 x9_3 p193 q193
               cases e193
               replace p193 := eq_true p193
               replace q193 := eq_true q193
               go_wp2_with (first | ((with_reducible refine y18 (f := 32) rfl ?_); refine y20 (some 86) rfl rfl Tryz.func32 (by kernel_rfl) rfl #[.string (rdOf ByteArray.empty t188 x9_3)] rfl (by (try simp only [qM_,List.map_cons,List.map_nil]); first | done | rfl | (simp only [qD_,qT_]; rfl)) ?_; (with_reducible refine (ih k3 (by have := HJ1.out; have := HJ30.out; have := HK3.out; omega) (rdOf ByteArray.empty t188 x9_3) t194 _ A39.out).mono ?_); rintro e w44 ⟨rfl,hb⟩; refine ⟨_,rfl, ?_⟩; have n0_ := y0.mk (Kd.R_below (by (with_reducible repeat (first | apply Kd.R_alloc | apply Kd.R_drewN | apply Kd.R_drew)); exact HO_7.out) hb); have n1_ := y0.mk (y7 (by repeat (first | (with_reducible first | exact HB.out | apply y3 | apply y23 | apply y4) | exact HB.out)) hb); clear HO_7; clear HB; have HO_7 := n0_; have HB := n1_; clear n0_ n1_; (try clear hb); (try clear hb2); (try clear hk); (try clear hi)))
               go_roundg k3
               case measure => have := HJ1.out; have := HJ30.out; have := HK3.out; omega
               case rel => exact ⟨(wrap64 (x9_3 + 1)),(by first | rfl | (simp; done) | (simp [*]; done)),H',⟨by have := HJ1.out; have := HJ30.out; have := HK3.out; omega⟩,⟨by (with_reducible repeat (first | apply Kd.R_alloc | apply Kd.R_drewN | apply Kd.R_drew)); exact HO_7.out⟩,⟨by repeat (first | (with_reducible first | exact HB.out | apply y3 | apply y23 | apply y4) | exact HB.out)⟩⟩
             ·rw [if_neg c38] at H
              exact absurd H (by simp)
            ·rw [if_neg c37] at H
             have c37b0 : decide (x9_3 < (t188.length : Int)) = false := decide_eq_false c37
             clear c37
             obtain rfl := Option.some.inj H
             obtain ⟨Ao45,co45,eo45⟩ := Kd.R_slice HO_7.out
             subst eo45
             go_wp2
             go_ret
             exact ⟨by first | rfl | (simp [y16,y17] <;> rfl) | (simp [*,y16,y17] <;> rfl),by repeat (first | (with_reducible first | exact HB.out | apply y3 | apply y23 | apply y4) | exact HB.out)⟩
     ·rw [if_neg c8] at H
      exact absurd H (by simp)
end Go.Proofs.YtamjmldfifofbaaGreatDoor.Pf
end
section
namespace Go.Proofs.YtamjmldfifofbaaGreatDoor.Pf
open Go.RowKit Go.Proofs.YtamjmldfifofbaaGreatDoorW.PrintWords Go.Proofs.YtamjmldfifofbaaGreatDoorW.PrintLast Go.Proofs.YtamjmldfifofbaaGreatDoorW.PrintMore
attribute [local go_sem] max2_int min2_int max_two min_two max_three min_three max_four min_four   -- for this text's walks alone
set_option linter.unusedVariables false
set_option linter.unusedSimpArgs false
def spec_TupleOk.l0 : Nat → Int → List ByteArray → Option (Bool)
 | 0,_,_ => none
 | k + 1,x3,x196000 => if x3 < (x196000.length : Int) then (if 0 ≤ x3 then ((z1_.f k (rdOf ByteArray.empty x196000 x3)).bind fun t197 => (if t197 = 0 then (some false) else (spec_TupleOk.l0 k (wrap64 (x3 + 1)) x196000))) else (none)) else (some true)
def spec_TupleOk.f (k : Nat) (l0_0 : List ByteArray) : Option (Bool) := if (l0_0.length : Int) > 6 then (some false) else (spec_TupleOk.l0 k 0 l0_0)
set_option maxHeartbeats 8000000 in
set_option maxRecDepth 100000 in
theorem spec_TupleOk.calls (k : Nat) (A0_0 : Option Addr) (c0_0 : Nat) (l0_0 : List ByteArray) (r : Bool) (w : World) (hr0_0 : Kd.C Kd.string w A0_0 l0_0.length l0_0) (hc0_0 : l0_0.length ≤ c0_0) (h : spec_TupleOk.f k l0_0 = some r) :
  Calls Tryz.prog 17 #[.agg #[.slice A0_0 l0_0.length c0_0]] w fun e w' => e = .returned (.bool r) ∧ Below w.heap.size w w' := by
 have hu39 := Tryz.underlying39
 have HR0_0 := y0.mk hr0_0
 have HC0_0 := y0.mk hc0_0
 clear hr0_0 hc0_0
 have HB := y0.mk (Below.refl w.heap.size w)
 have H : (if (l0_0.length : Int) > 6 then (some false) else (spec_TupleOk.l0 k 0 l0_0)) = some r := h
 clear h
 by_cases c2 : (l0_0.length : Int) > 6
 ·rw [if_pos c2] at H
  have c2b0 : decide (6 < (l0_0.length : Int)) = true := decide_eq_true c2
  have c2b1 : decide (6 < l0_0.length) = true := decide_eq_true (by omega)
  clear c2
  obtain rfl := Option.some.inj H
  go_enter Tryz.func17,Tryz.ntmps17
  go_wp2_with (first | ((with_reducible refine y19 (N := 1) rfl ?_); refine y15 ?hg (N := 1) ?hd (cs := #[.slice A0_0 l0_0.length c0_0]) (t := 39) ?hr ?_; (case hd => rfl); (case hg => rfl); (case hr => first | (go_simp; done) | (go_simp; rfl)); intro gb195 hg w3 hbox hb; have n0_ := y0.mk (y7 (by repeat (first | (with_reducible first | exact HB.out | apply y3 | apply y23 | apply y4) | exact HB.out)) hb); have n1_ := y0.mk (hbox); have n2_ := y0.mk ((by rw [hg]; exact (y6 (by repeat (first | (with_reducible first | exact HB.out | apply y3 | apply y23 | apply y4) | exact HB.out))) : w.heap.size ≤ gb195)); have n3_ := y0.mk ((by rw [hg]; exact (y6 (by repeat (first | (with_reducible first | exact HB.out | apply y3 | apply y23 | apply y4) | exact HB.out))) : w.heap.size ≤ gb195)); clear HB; have HB := n0_; have BK195 := n1_; have GW195 := n2_; have GE195 := n3_; clear n0_ n1_ n2_ n3_; clear hb hbox hg; have hcz4_0 : w3.cell? ⟨gb195,0,none⟩ = some (.slice A0_0 l0_0.length c0_0) := (y10 BK195.out 0).trans rfl; have hfz4_0 := y13 BK195.out 0))
  go_ret
  exact ⟨by first | rfl | (simp [y16,y17] <;> rfl) | (simp [*,y16,y17] <;> rfl),by repeat (first | (with_reducible first | exact HB.out | apply y3 | apply y23 | apply y4 | refine y5 ?_ GE195.out) | exact HB.out)⟩
 ·rw [if_neg c2] at H
  have c2b0 : decide (6 < (l0_0.length : Int)) = false := decide_eq_false c2
  have c2b1 : decide (6 < l0_0.length) = false := decide_eq_false (by omega)
  clear c2
  have H' := y0.mk H
  clear H
  go_enter Tryz.func17,Tryz.ntmps17
  go_wp2_with (first | ((with_reducible refine y19 (N := 1) rfl ?_); refine y15 ?hg (N := 1) ?hd (cs := #[.slice A0_0 l0_0.length c0_0]) (t := 39) ?hr ?_; (case hd => rfl); (case hg => rfl); (case hr => first | (go_simp; done) | (go_simp; rfl)); intro gb195 hg w5 hbox hb; have n0_ := y0.mk (y7 (by repeat (first | (with_reducible first | exact HB.out | apply y3 | apply y23 | apply y4) | exact HB.out)) hb); have n1_ := y0.mk (hbox); have n2_ := y0.mk ((by rw [hg]; exact (y6 (by repeat (first | (with_reducible first | exact HB.out | apply y3 | apply y23 | apply y4) | exact HB.out))) : w.heap.size ≤ gb195)); have n3_ := y0.mk ((by rw [hg]; exact (y6 (by repeat (first | (with_reducible first | exact HB.out | apply y3 | apply y23 | apply y4) | exact HB.out))) : w.heap.size ≤ gb195)); clear HB; have HB := n0_; have BK195 := n1_; have GW195 := n2_; have GE195 := n3_; clear n0_ n1_ n2_ n3_; clear hb hbox hg; have hcz6_0 : w5.cell? ⟨gb195,0,none⟩ = some (.slice A0_0 l0_0.length c0_0) := (y10 BK195.out 0).trans rfl; have hfz6_0 := y13 BK195.out 0))
  go_loopg [3] k (fun kq v3 w' => ∃ (x3_1 : Int),v3 = .int .i64 x3_1 ∧ y0 (spec_TupleOk.l0 kq x3_1 l0_0 = some r) ∧ y0 (kq ≤ k) ∧ y0 (w'.heap[gb195]? = some (.cells #[(.slice A0_0 l0_0.length c0_0)] 39 (0,0))) ∧ y0 (Below w.heap.size w w'))
  case atStart => exact ⟨(0),(by first | rfl | (simp; done) | (simp [*]; done)),H',⟨Nat.le_refl _⟩,⟨by (with_reducible repeat (first | refine y12 ?_ _ | refine y11 ?_ | refine y8 ?_ _)); exact BK195.out⟩,⟨by repeat (first | (with_reducible first | exact HB.out | apply y3 | apply y23 | apply y4 | refine y5 ?_ GE195.out) | exact HB.out)⟩⟩
  case round =>
   clear H'
   try clear c1
   try clear c2
   try clear c2b0
   try clear c2b1
   try clear p2
   try clear hcz4_0
   try clear hcz6_0
   try clear hfz4_0
   try clear hfz6_0
   obtain ⟨x3_1,rfl,HA,HK1,BK195,HB⟩ := hrel
   cases gk with
   | zero => exact absurd HA.out (by simp [spec_TupleOk.l0])
   | succ k1 =>
    have H := HA.out
    clear HA
    simp only [spec_TupleOk.l0] at H
    by_cases c7 : x3_1 < (l0_0.length : Int)
    ·rw [if_pos c7] at H
     have c7b0 : decide (x3_1 < (l0_0.length : Int)) = true := decide_eq_true c7
     clear c7
     by_cases c8 : 0 ≤ x3_1
     ·rw [if_pos c8] at H
      have c8b0 : decide (0 ≤ x3_1) = true := decide_eq_true c8
      clear c8
      replace H := Option.bind_eq_some_iff.mp H
      obtain ⟨t197,A90,H⟩ := H
      replace H : (if t197 = 0 then (some false) else (spec_TupleOk.l0 k1 (wrap64 (x3_1 + 1)) l0_0)) = some r := H
      have A9 := y0.mk A90
      clear A90
      by_cases c10 : t197 = 0
      ·rw [if_pos c10] at H
       have c10b0 : (t197 == 0) = true := beq_iff_eq.mpr c10
       have c10b1 : (t197 != 0) = false := bne_eq_false_iff_eq.mpr c10
       clear c10
       obtain rfl := Option.some.inj H
       have hcz11_0 : wr.cell? ⟨gb195,0,none⟩ = some (.slice A0_0 l0_0.length c0_0) := (y10 BK195.out 0).trans rfl
       have hfz11_0 := y13 BK195.out 0
       have p196 : 0 ≤ (x3_1 : Int) := of_decide_eq_true (by first | (with_reducible assumption) | assumption)
       have q196 : x3_1 < (l0_0.length : Int) := of_decide_eq_true (by first | (with_reducible assumption) | assumption)
       obtain ⟨ad196,e196,hx196_0⟩ := Kd.at_string HR0_0.out x3_1 p196 q196
       cases e196
       replace hx196_0 := (HB.out.cell (World.block_lt_of_cell? w _ hx196_0)).trans hx196_0
       replace p196 := eq_true p196
       replace q196 := eq_true q196
       go_wp2_with (first | ((with_reducible refine y18 (f := 32) rfl ?_); refine y20 (some 20) rfl rfl Tryz.func32 (by kernel_rfl) rfl #[.string (rdOf ByteArray.empty l0_0 x3_1)] rfl (by (try simp only [qM_,List.map_cons,List.map_nil]); first | done | rfl | (simp only [qD_,qT_]; rfl)) ?_; (with_reducible refine (z1_.calls k1 (rdOf ByteArray.empty l0_0 x3_1) t197 _ A9.out).mono ?_); rintro e w12 ⟨rfl,hb⟩; refine ⟨_,rfl, ?_⟩; have n0_ := y0.mk (y9 (g := gb195) (o := .cells #[.slice (some ad196) l0_0.length c0_0] 39 (0,0)) (by (with_reducible repeat (first | refine y12 ?_ _ | refine y11 ?_ | refine y8 ?_ _)); exact BK195.out) hb); have n1_ := y0.mk (y7 (by repeat (first | (with_reducible first | exact HB.out | apply y3 | apply y23 | apply y4 | refine y5 ?_ GE195.out) | exact HB.out)) hb); clear BK195; clear HB; have BK195 := n0_; have HB := n1_; clear n0_ n1_; (try clear hb); (try clear hb2); (try clear hk); (try clear hi)))
       go_ret
       exact ⟨by first | rfl | (simp [y16,y17] <;> rfl) | (simp [*,y16,y17] <;> rfl),by repeat (first | (with_reducible first | exact HB.out | apply y3 | apply y23 | apply y4 | refine y5 ?_ GE195.out) | exact HB.out)⟩
      ·rw [if_neg c10] at H
       have c10b0 : (t197 == 0) = false := beq_eq_false_iff_ne.mpr c10
       have c10b1 : (t197 != 0) = true := bne_iff_ne.mpr c10
       have H' := y0.mk H
       clear H
       have hcz13_0 : wr.cell? ⟨gb195,0,none⟩ = some (.slice A0_0 l0_0.length c0_0) := (y10 BK195.out 0).trans rfl
       have hfz13_0 := y13 BK195.out 0
       have p196 : 0 ≤ (x3_1 : Int) := of_decide_eq_true (by first | (with_reducible assumption) | assumption)
       have q196 : x3_1 < (l0_0.length : Int) := of_decide_eq_true (by first | (with_reducible assumption) | assumption)
       obtain ⟨ad196,e196,hx196_0⟩ := Kd.at_string HR0_0.out x3_1 p196 q196
       cases e196
       replace hx196_0 := (HB.out.cell (World.block_lt_of_cell? w _ hx196_0)).trans hx196_0
       replace p196 := eq_true p196
       replace q196 := eq_true q196
       go_wp2_with (first | ((with_reducible refine y18 (f := 32) rfl ?_); refine y20 (some 20) rfl rfl Tryz.func32 (by kernel_rfl) rfl #[.string (rdOf ByteArray.empty l0_0 x3_1)] rfl (by (try simp only [qM_,List.map_cons,List.map_nil]); first | done | rfl | (simp only [qD_,qT_]; rfl)) ?_; (with_reducible refine (z1_.calls k1 (rdOf ByteArray.empty l0_0 x3_1) t197 _ A9.out).mono ?_); rintro e w14 ⟨rfl,hb⟩; refine ⟨_,rfl, ?_⟩; have n0_ := y0.mk (y9 (g := gb195) (o := .cells #[.slice (some ad196) l0_0.length c0_0] 39 (0,0)) (by (with_reducible repeat (first | refine y12 ?_ _ | refine y11 ?_ | refine y8 ?_ _)); exact BK195.out) hb); have n1_ := y0.mk (y7 (by repeat (first | (with_reducible first | exact HB.out | apply y3 | apply y23 | apply y4 | refine y5 ?_ GE195.out) | exact HB.out)) hb); clear BK195; clear HB; have BK195 := n0_; have HB := n1_; clear n0_ n1_; (try clear hb); (try clear hb2); (try clear hk); (try clear hi)))
       go_roundg k1
       case measure => have := HK1.out; omega
       case rel => exact ⟨(wrap64 (x3_1 + 1)),(by first | rfl | (simp; done) | (simp [*]; done)),H',⟨by have := HK1.out; omega⟩,⟨by (with_reducible repeat (first | refine y12 ?_ _ | refine y11 ?_ | refine y8 ?_ _)); exact BK195.out⟩,⟨by repeat (first | (with_reducible first | exact HB.out | apply y3 | apply y23 | apply y4 | refine y5 ?_ GE195.out) | exact HB.out)⟩⟩
     ·rw [if_neg c8] at H
      exact absurd H (by simp)
    ·rw [if_neg c7] at H
     have c7b0 : decide (x3_1 < (l0_0.length : Int)) = false := decide_eq_false c7
     clear c7
     obtain rfl := Option.some.inj H
     have hcz15_0 : wr.cell? ⟨gb195,0,none⟩ = some (.slice A0_0 l0_0.length c0_0) := (y10 BK195.out 0).trans rfl
     have hfz15_0 := y13 BK195.out 0
     go_wp2
     go_ret
     exact ⟨by first | rfl | (simp [y16,y17] <;> rfl) | (simp [*,y16,y17] <;> rfl),by repeat (first | (with_reducible first | exact HB.out | apply y3 | apply y23 | apply y4 | refine y5 ?_ GE195.out) | exact HB.out)⟩
mutual
def spec_FactText.j0 : Nat → Int → Bool → List (S77) → List (S51) → List (S84) → List ByteArray → Option (ByteArray)
 | 0,_,_,_,_,_,_ => none
 | k + 1,x1,x20,x199000,x199001,x199002,x200000 => if x20 = true then (some (⟨#[]⟩ : ByteArray)) else (if 0 ≤ x1 then (if x1 < (x199001.length : Int) then (if ((rd_T51 x199001 x1).f0).size + 1 ≤ 9223372036854775807 then (spec_FactText.l0 k (((rd_T51 x199001 x1).f0) ++ (⟨#[40]⟩ : ByteArray)) 0 x200000) else (none)) else (none)) else (none))
def spec_FactText.l0 : Nat → ByteArray → Int → List ByteArray → Option (ByteArray)
 | 0,_,_,_ => none
 | k + 1,x7,x8,x200000 => if x8 < (x200000.length : Int) then (if x8 > 0 then (if x7.size + 2 ≤ 9223372036854775807 then (if 0 ≤ x8 then (if (x7 ++ (⟨#[44,32]⟩ : ByteArray)).size + (rdOf ByteArray.empty x200000 x8).size ≤ 9223372036854775807 then (spec_FactText.l0 k ((x7 ++ (⟨#[44,32]⟩ : ByteArray)) ++ (rdOf ByteArray.empty x200000 x8)) (wrap64 (x8 + 1)) x200000) else (none)) else (none)) else (none)) else (if 0 ≤ x8 then (if x7.size + (rdOf ByteArray.empty x200000 x8).size ≤ 9223372036854775807 then (spec_FactText.l0 k (x7 ++ (rdOf ByteArray.empty x200000 x8)) (wrap64 (x8 + 1)) x200000) else (none)) else (none))) else (if x7.size + 2 ≤ 9223372036854775807 then (some (x7 ++ (⟨#[41,46]⟩ : ByteArray))) else (none))
end
def spec_FactText.f (k : Nat) (l0_0 : List (S77)) (l0_1 : List (S51)) (l0_2 : List (S84)) (a1 : Int) (l2_0 : List ByteArray) : Option (ByteArray) := (z3_.f a1 0 (wrap64 ((l0_1.length : Int) - 1))).bind fun t200 => (if t200 = true then ((spec_TupleOk.f k l2_0).bind fun t201 => (spec_FactText.j0 k a1 (!t201) l0_0 l0_1 l0_2 l2_0)) else (spec_FactText.j0 k a1 true l0_0 l0_1 l0_2 l2_0))
set_option maxHeartbeats 8000000 in
set_option maxRecDepth 100000 in
theorem spec_FactText.calls (k : Nat) (A0_0 : Option Addr) (c0_0 : Nat) (l0_0 : List (S77)) (A0_1 : Option Addr) (c0_1 : Nat) (l0_1 : List (S51)) (A0_2 : Option Addr) (c0_2 : Nat) (l0_2 : List (S84)) (a1 : Int) (A2_0 : Option Addr) (c2_0 : Nat) (l2_0 : List ByteArray) (r : ByteArray) (w : World) (hr0_0 : Kd.C k77 w A0_0 l0_0.length l0_0) (hc0_0 : l0_0.length ≤ c0_0) (hr0_1 : Kd.C k51 w A0_1 l0_1.length l0_1) (hc0_1 : l0_1.length ≤ c0_1) (hr0_2 : Kd.C k84 w A0_2 l0_2.length l0_2) (hc0_2 : l0_2.length ≤ c0_2) (hr2_0 : Kd.C Kd.string w A2_0 l2_0.length l2_0) (hc2_0 : l2_0.length ≤ c2_0) (h : spec_FactText.f k l0_0 l0_1 l0_2 a1 l2_0 = some r) :
  Calls Tryz.prog 6 #[.agg #[.slice A0_0 l0_0.length c0_0,.slice A0_1 l0_1.length c0_1,.slice A0_2 l0_2.length c0_2],.int .i64 a1,.agg #[.slice A2_0 l2_0.length c2_0]] w fun e w' => e = .returned (.string r) ∧ Below w.heap.size w w' := by
 have hu37 := Tryz.underlying37
 have hu39 := Tryz.underlying39
 have HR0_0 := y0.mk hr0_0
 have HC0_0 := y0.mk hc0_0
 clear hr0_0 hc0_0
 have HR0_1 := y0.mk hr0_1
 have HC0_1 := y0.mk hc0_1
 clear hr0_1 hc0_1
 have HR0_2 := y0.mk hr0_2
 have HC0_2 := y0.mk hc0_2
 clear hr0_2 hc0_2
 have HR2_0 := y0.mk hr2_0
 have HC2_0 := y0.mk hc2_0
 clear hr2_0 hc2_0
 have HB := y0.mk (Below.refl w.heap.size w)
 have H : ((z3_.f a1 0 (wrap64 ((l0_1.length : Int) - 1))).bind fun t200 => (if t200 = true then ((spec_TupleOk.f k l2_0).bind fun t201 => (spec_FactText.j0 k a1 (!t201) l0_0 l0_1 l0_2 l2_0)) else (spec_FactText.j0 k a1 true l0_0 l0_1 l0_2 l2_0))) = some r := h
 clear h
 have HC4 := y0.mk H
 clear H
 go_enter Tryz.func6,Tryz.ntmps6
 go_upto_region 1 with (first | ((with_reducible refine y19 (N := 3) rfl ?_); refine y15 ?hg (N := 3) ?hd (cs := #[.slice A0_0 l0_0.length c0_0,.slice A0_1 l0_1.length c0_1,.slice A0_2 l0_2.length c0_2]) (t := 37) ?hr ?_; (case hd => rfl); (case hg => rfl); (case hr => first | (go_simp; done) | (go_simp; rfl)); intro gb198 hg w5 hbox hb; have n0_ := y0.mk (y7 (by repeat (first | (with_reducible first | exact HB.out | apply y3 | apply y23 | apply y4) | exact HB.out)) hb); have n1_ := y0.mk (hbox); have n2_ := y0.mk ((by rw [hg]; exact (y6 (by repeat (first | (with_reducible first | exact HB.out | apply y3 | apply y23 | apply y4) | exact HB.out))) : w.heap.size ≤ gb198)); have n3_ := y0.mk ((by rw [hg]; exact (y6 (by repeat (first | (with_reducible first | exact HB.out | apply y3 | apply y23 | apply y4) | exact HB.out))) : w.heap.size ≤ gb198)); clear HB; have HB := n0_; have BK198 := n1_; have GW198 := n2_; have GE198 := n3_; clear n0_ n1_ n2_ n3_; clear hb hbox hg) | ((with_reducible refine y19 (N := 5) rfl ?_); refine y15 ?hg (N := 5) ?hd (cs := #[.slice A2_0 l2_0.length c2_0]) (t := 39) ?hr ?_; (case hd => rfl); (case hg => rfl); (case hr => first | (go_simp; done) | (go_simp; rfl)); intro gb199 hg w6 hbox hb; have n0_ := y0.mk (y9 (g := gb198) (o := .cells #[.slice A0_0 l0_0.length c0_0,.slice A0_1 l0_1.length c0_1,.slice A0_2 l0_2.length c0_2] 37 (0,0)) (by (with_reducible repeat (first | refine y12 ?_ _ | refine y11 ?_ | refine y8 ?_ _)); exact BK198.out) hb); have n1_ := y0.mk (y7 (by repeat (first | (with_reducible first | exact HB.out | apply y3 | apply y23 | apply y4 | refine y5 ?_ GE198.out) | exact HB.out)) hb); have n2_ := y0.mk (hbox); have n3_ := y0.mk ((by rw [hg]; exact (y6 (by repeat (first | (with_reducible first | exact HB.out | apply y3 | apply y23 | apply y4 | refine y5 ?_ GE198.out) | exact HB.out))) : w.heap.size ≤ gb199)); have n4_ := y0.mk ((by rw [hg]; exact (y6 (by repeat (first | (with_reducible first | exact HB.out | apply y3 | apply y23 | apply y4 | refine y5 ?_ GE198.out) | exact HB.out))) : w.heap.size ≤ gb199)); have n5_ := y0.mk ((by rw [hg]; exact Nat.ne_of_lt (y14 (g := gb198) (o := .cells #[.slice A0_0 l0_0.length c0_0,.slice A0_1 l0_1.length c0_1,.slice A0_2 l0_2.length c0_2] 37 (0,0)) (by (with_reducible repeat (first | refine y12 ?_ _ | refine y11 ?_ | refine y8 ?_ _)); exact BK198.out)) : gb198 ≠ gb199)); have n6_ := y0.mk ((by rw [hg]; exact Nat.ne_of_gt (y14 (g := gb198) (o := .cells #[.slice A0_0 l0_0.length c0_0,.slice A0_1 l0_1.length c0_1,.slice A0_2 l0_2.length c0_2] 37 (0,0)) (by (with_reducible repeat (first | refine y12 ?_ _ | refine y11 ?_ | refine y8 ?_ _)); exact BK198.out)) : gb199 ≠ gb198)); clear BK198; clear HB; have BK198 := n0_; have HB := n1_; have BK199 := n2_; have GW199 := n3_; have GE199 := n4_; have NB198_199 := n5_; have NB199_198 := n6_; clear n0_ n1_ n2_ n3_ n4_ n5_ n6_; clear hb hbox hg))
 (try simp only [Act.put,qS_,qZ_,qC_])
 go_cut [20] (fun v20 wc => ∃ (kq : Nat) (x20_3 : Bool),v20 = .bool x20_3 ∧ y0 (spec_FactText.j0 kq a1 x20_3 l0_0 l0_1 l0_2 l2_0 = some r) ∧ y0 (kq ≤ k) ∧ y0 (wc.heap[gb198]? = some (.cells #[(.slice A0_0 l0_0.length c0_0),(.slice A0_1 l0_1.length c0_1),(.slice A0_2 l0_2.length c0_2)] 37 (0,0))) ∧ y0 (wc.heap[gb199]? = some (.cells #[(.slice A2_0 l2_0.length c2_0)] 39 (0,0))) ∧ y0 (Below w.heap.size w wc))
 case first =>
  have H := HC4.out
  clear HC4
  replace H := Option.bind_eq_some_iff.mp H
  obtain ⟨t200,A70,H⟩ := H
  replace H : (if t200 = true then ((spec_TupleOk.f k l2_0).bind fun t201 => (spec_FactText.j0 k a1 (!t201) l0_0 l0_1 l0_2 l2_0)) else (spec_FactText.j0 k a1 true l0_0 l0_1 l0_2 l2_0)) = some r := H
  have A7 := y0.mk A70
  clear A70
  by_cases c8 : t200 = true
  ·subst c8
   have H1 : ((spec_TupleOk.f k l2_0).bind fun t201 => (spec_FactText.j0 k a1 (!t201) l0_0 l0_1 l0_2 l2_0)) = some r := by rw [if_pos rfl] at H; exact H
   clear H
   have H := H1
   clear H1
   replace H := Option.bind_eq_some_iff.mp H
   obtain ⟨t201,A90,H⟩ := H
   replace H : (spec_FactText.j0 k a1 (!t201) l0_0 l0_1 l0_2 l2_0) = some r := H
   have A9 := y0.mk A90
   clear A90
   have H' := y0.mk H
   clear H
   have hnb10 := NB198_199.out
   have hnc10 := NB199_198.out
   have hcz11_0 : w6.cell? ⟨gb198,0,none⟩ = some (.slice A0_0 l0_0.length c0_0) := (y10 BK198.out 0).trans rfl
   have hcz11_1 : w6.cell? ⟨gb198,1,none⟩ = some (.slice A0_1 l0_1.length c0_1) := (y10 BK198.out 1).trans rfl
   have hcz11_2 : w6.cell? ⟨gb198,2,none⟩ = some (.slice A0_2 l0_2.length c0_2) := (y10 BK198.out 2).trans rfl
   have hfz11_0 := y13 BK198.out 0
   have hfz11_1 := y13 BK198.out 1
   have hfz11_2 := y13 BK198.out 2
   go_wp2_with (first | ((with_reducible refine y18 (f := 16) rfl ?_); refine y20 (some 14) rfl rfl Tryz.func16 (by kernel_rfl) rfl #[.int .i64 a1,.int .i64 0,.int .i64 (wrap64 ((l0_1.length : Int) - 1))] rfl (by (try simp only [qM_,List.map_cons,List.map_nil]); first | done | rfl | (simp only [qD_,qT_]; rfl)) ?_; (with_reducible refine (z3_.calls a1 0 (wrap64 ((l0_1.length : Int) - 1)) true _ A7.out).mono ?_); rintro e w' ⟨rfl,⟨nd,rfl⟩⟩; refine ⟨_,rfl, ?_⟩; have hcz12_0 : w6.cell? ⟨gb199,0,none⟩ = some (.slice A2_0 l2_0.length c2_0) := (y10 BK199.out 0).trans rfl; have hfz12_0 := y13 BK199.out 0) | (go_at_call 17; (with_reducible refine (spec_TupleOk.calls k _ _ l2_0 t201 _ ?side1 ?side2 A9.out).mono ?_); (case side1 => repeat (first | exact (Kd.C_below HR2_0.out (by repeat (first | (with_reducible first | exact HB.out | apply y3 | apply y23 | apply y4 | refine y5 ?_ GE198.out | refine y5 ?_ GE199.out) | exact HB.out))) | (with_reducible refine Kd.C_alloc ?_ _) | (with_reducible refine Kd.C_drewN ?_ _) | (with_reducible refine Kd.C_drew ?_))); (case side2 => exact HC2_0.out); rintro e w13 ⟨rfl,hb⟩; have n0_ := y0.mk (y9 (g := gb198) (o := .cells #[.slice A0_0 l0_0.length c0_0,.slice A0_1 l0_1.length c0_1,.slice A0_2 l0_2.length c0_2] 37 (0,0)) (by (with_reducible repeat (first | refine y12 ?_ _ | refine y11 ?_ | refine y8 ?_ _)); exact BK198.out) hb); have n1_ := y0.mk (y9 (g := gb199) (o := .cells #[.slice A2_0 l2_0.length c2_0] 39 (0,0)) (by (with_reducible repeat (first | refine y12 ?_ _ | refine y11 ?_ | refine y8 ?_ _)); exact BK199.out) hb); have n2_ := y0.mk (y7 (by repeat (first | (with_reducible first | exact HB.out | apply y3 | apply y23 | apply y4 | refine y5 ?_ GE198.out | refine y5 ?_ GE199.out) | exact HB.out)) hb); clear BK198; clear BK199; clear HB; have BK198 := n0_; have BK199 := n1_; have HB := n2_; clear n0_ n1_ n2_; (try clear hb); (try clear hb2); (try clear hk); (try clear hi)))
   go_meet
   case rel => exact ⟨_,(!t201),(by first | rfl | (simp; done) | (simp [*]; done)),H',⟨by first | omega | exact Nat.le_refl _⟩,⟨by (with_reducible repeat (first | refine y12 ?_ _ | refine y11 ?_ | refine y8 ?_ _)); exact BK198.out⟩,⟨by (with_reducible repeat (first | refine y12 ?_ _ | refine y11 ?_ | refine y8 ?_ _)); exact BK199.out⟩,⟨by repeat (first | (with_reducible first | exact HB.out | apply y3 | apply y23 | apply y4 | refine y5 ?_ GE198.out | refine y5 ?_ GE199.out) | exact HB.out)⟩⟩
  ·replace c8 := Bool.eq_false_iff.mpr c8
   subst c8
   have H1 : (spec_FactText.j0 k a1 true l0_0 l0_1 l0_2 l2_0) = some r := by rw [if_neg (show ¬ (false = true) by decide)] at H; exact H
   clear H
   have H := H1
   clear H1
   have H' := y0.mk H
   clear H
   have hnb14 := NB198_199.out
   have hnc14 := NB199_198.out
   have hcz15_0 : w6.cell? ⟨gb198,0,none⟩ = some (.slice A0_0 l0_0.length c0_0) := (y10 BK198.out 0).trans rfl
   have hcz15_1 : w6.cell? ⟨gb198,1,none⟩ = some (.slice A0_1 l0_1.length c0_1) := (y10 BK198.out 1).trans rfl
   have hcz15_2 : w6.cell? ⟨gb198,2,none⟩ = some (.slice A0_2 l0_2.length c0_2) := (y10 BK198.out 2).trans rfl
   have hfz15_0 := y13 BK198.out 0
   have hfz15_1 := y13 BK198.out 1
   have hfz15_2 := y13 BK198.out 2
   go_wp2_with (first | ((with_reducible refine y18 (f := 16) rfl ?_); refine y20 (some 14) rfl rfl Tryz.func16 (by kernel_rfl) rfl #[.int .i64 a1,.int .i64 0,.int .i64 (wrap64 ((l0_1.length : Int) - 1))] rfl (by (try simp only [qM_,List.map_cons,List.map_nil]); first | done | rfl | (simp only [qD_,qT_]; rfl)) ?_; (with_reducible refine (z3_.calls a1 0 (wrap64 ((l0_1.length : Int) - 1)) false _ A7.out).mono ?_); rintro e w' ⟨rfl,⟨nd,rfl⟩⟩; refine ⟨_,rfl, ?_⟩))
   go_meet
   case rel => exact ⟨_,(true),(by first | rfl | (simp; done) | (simp [*]; done)),H',⟨by first | omega | exact Nat.le_refl _⟩,⟨by (with_reducible repeat (first | refine y12 ?_ _ | refine y11 ?_ | refine y8 ?_ _)); exact BK198.out⟩,⟨by (with_reducible repeat (first | refine y12 ?_ _ | refine y11 ?_ | refine y8 ?_ _)); exact BK199.out⟩,⟨by repeat (first | (with_reducible first | exact HB.out | apply y3 | apply y23 | apply y4 | refine y5 ?_ GE198.out | refine y5 ?_ GE199.out) | exact HB.out)⟩⟩
 case rest =>
  clear HC4
  try clear c1
  try clear c2
  try clear p2
  try clear c6
  try clear p6
  try clear c8
  try clear c10
  try clear c14
  try clear hcz11_0
  try clear hcz11_1
  try clear hcz11_2
  try clear hcz12_0
  try clear hcz15_0
  try clear hcz15_1
  try clear hcz15_2
  try clear hfz11_0
  try clear hfz11_1
  try clear hfz11_2
  try clear hfz12_0
  try clear hfz15_0
  try clear hfz15_1
  try clear hfz15_2
  obtain ⟨kq,x20_3,rfl,HA,HJ3,BK198,BK199,HB⟩ := hcut
  cases kq with
  | zero => exact absurd HA.out (by simp [spec_FactText.j0])
  | succ kj3 =>
   have H := HA.out
   clear HA
   simp only [spec_FactText.j0] at H
   by_cases c16 : x20_3 = true
   ·subst c16
    have H1 : (some (⟨#[]⟩ : ByteArray)) = some r := by rw [if_pos rfl] at H; exact H
    clear H
    have H := H1
    clear H1
    obtain rfl := Option.some.inj H
    go_wp2
    go_ret
    exact ⟨by first | rfl | (simp [y16,y17] <;> rfl) | (simp [*,y16,y17] <;> rfl),by repeat (first | (with_reducible first | exact HB.out | apply y3 | apply y23 | apply y4 | refine y5 ?_ GE198.out | refine y5 ?_ GE199.out) | exact HB.out)⟩
   ·replace c16 := Bool.eq_false_iff.mpr c16
    subst c16
    have H1 : (if 0 ≤ a1 then (if a1 < (l0_1.length : Int) then (if ((rd_T51 l0_1 a1).f0).size + 1 ≤ 9223372036854775807 then (spec_FactText.l0 kj3 (((rd_T51 l0_1 a1).f0) ++ (⟨#[40]⟩ : ByteArray)) 0 l2_0) else (none)) else (none)) else (none)) = some r := by rw [if_neg (show ¬ (false = true) by decide)] at H; exact H
    clear H
    have H := H1
    clear H1
    by_cases c17 : 0 ≤ a1
    ·rw [if_pos c17] at H
     have c17b0 : decide (0 ≤ a1) = true := decide_eq_true c17
     clear c17
     by_cases c18 : a1 < (l0_1.length : Int)
     ·rw [if_pos c18] at H
      have c18b0 : decide (a1 < (l0_1.length : Int)) = true := decide_eq_true c18
      clear c18
      by_cases c19 : ((rd_T51 l0_1 a1).f0).size + 1 ≤ 9223372036854775807
      ·rw [if_pos c19] at H
       have c19b0 := eq_true c19
       have c19b1 : decide (((rd_T51 l0_1 a1).f0).size + 1 ≤ 9223372036854775807) = true := decide_eq_true c19
       try have c19b2 : (9223372036854775807 < ((rd_T51 l0_1 a1).f0).size + 1) = False := eq_false (Nat.not_lt.2 c19)
       have H' := y0.mk H
       clear H
       have hnb20 := NB198_199.out
       have hnc20 := NB199_198.out
       have hcz21_0 : wc.cell? ⟨gb198,0,none⟩ = some (.slice A0_0 l0_0.length c0_0) := (y10 BK198.out 0).trans rfl
       have hcz21_1 : wc.cell? ⟨gb198,1,none⟩ = some (.slice A0_1 l0_1.length c0_1) := (y10 BK198.out 1).trans rfl
       have hcz21_2 : wc.cell? ⟨gb198,2,none⟩ = some (.slice A0_2 l0_2.length c0_2) := (y10 BK198.out 2).trans rfl
       have hfz21_0 := y13 BK198.out 0
       have hfz21_1 := y13 BK198.out 1
       have hfz21_2 := y13 BK198.out 2
       have p202 : 0 ≤ (a1 : Int) := of_decide_eq_true (by first | (with_reducible assumption) | assumption)
       have q202 : a1 < (l0_1.length : Int) := of_decide_eq_true (by first | (with_reducible assumption) | assumption)
       obtain ⟨ad202,A202_1,c202_1,e202,hx202_0,hx202_1,hx202_2,hl202_1,hi202_1⟩ := at_T51 HR0_1.out a1 p202 q202
       cases e202
       replace hx202_0 := (HB.out.cell (World.block_lt_of_cell? w _ hx202_0)).trans hx202_0
       replace hx202_1 := (HB.out.cell (World.block_lt_of_cell? w _ hx202_1)).trans hx202_1
       replace hx202_2 := (HB.out.cell (World.block_lt_of_cell? w _ hx202_2)).trans hx202_2
       have HR202_1 := y0.mk hi202_1
       have HC202_1 := y0.mk hl202_1
       clear hi202_1 hl202_1
       replace p202 := eq_true p202
       replace q202 := eq_true q202
       go_wp2
       go_loopg [7,8] kj3 (fun kq v7 v8 w' => ∃ (x7_2 : ByteArray) (x8_2 : Int),v7 = .string x7_2 ∧ v8 = .int .i64 x8_2 ∧ y0 (spec_FactText.l0 kq x7_2 x8_2 l2_0 = some r) ∧ y0 (kq ≤ kj3) ∧ y0 (w'.heap[gb198]? = some (.cells #[(.slice A0_0 l0_0.length c0_0),(.slice (some ad202) l0_1.length c0_1),(.slice A0_2 l0_2.length c0_2)] 37 (0,0))) ∧ y0 (w'.heap[gb199]? = some (.cells #[(.slice A2_0 l2_0.length c2_0)] 39 (0,0))) ∧ y0 (Below w.heap.size w w'))
       case atStart => exact ⟨(((rd_T51 l0_1 a1).f0) ++ (⟨#[40]⟩ : ByteArray)),(0),(by first | rfl | (simp; done) | (simp [*]; done)),(by first | rfl | (simp; done) | (simp [*]; done)),H',⟨Nat.le_refl _⟩,⟨by (with_reducible repeat (first | refine y12 ?_ _ | refine y11 ?_ | refine y8 ?_ _)); exact BK198.out⟩,⟨by (with_reducible repeat (first | refine y12 ?_ _ | refine y11 ?_ | refine y8 ?_ _)); exact BK199.out⟩,⟨by repeat (first | (with_reducible first | exact HB.out | apply y3 | apply y23 | apply y4 | refine y5 ?_ GE198.out | refine y5 ?_ GE199.out) | exact HB.out)⟩⟩
       case round =>
        clear H'
        try clear c1
        try clear c2
        try clear p2
        try clear q2
        try clear hx2
        try clear c6
        try clear p6
        try clear c8
        try clear c10
        try clear c14
        try clear c16
        try clear c17
        try clear c17b0
        try clear c18
        try clear c18b0
        try clear c19
        try clear c19b0
        try clear c19b1
        try clear c19b2
        try clear c20
        try clear p20
        try clear q20
        try clear hx20
        try clear hcz11_0
        try clear hcz11_1
        try clear hcz11_2
        try clear hcz12_0
        try clear hcz15_0
        try clear hcz15_1
        try clear hcz15_2
        try clear hcz21_0
        try clear hcz21_1
        try clear hcz21_2
        try clear hfz11_0
        try clear hfz11_1
        try clear hfz11_2
        try clear hfz12_0
        try clear hfz15_0
        try clear hfz15_1
        try clear hfz15_2
        try clear hfz21_0
        try clear hfz21_1
        try clear hfz21_2
        try clear hx202_0
        try clear hx202_1
        try clear hx202_2
        try clear p2
        try clear p202
        try clear p6
        try clear q202
        obtain ⟨x7_2,x8_2,rfl,rfl,HA,HK2,BK198,BK199,HB⟩ := hrel
        cases gk with
        | zero => exact absurd HA.out (by simp [spec_FactText.l0])
        | succ k2 =>
         have H := HA.out
         clear HA
         simp only [spec_FactText.l0] at H
         by_cases c22 : x8_2 < (l2_0.length : Int)
         ·rw [if_pos c22] at H
          have c22b0 : decide (x8_2 < (l2_0.length : Int)) = true := decide_eq_true c22
          clear c22
          by_cases c23 : x8_2 > 0
          ·rw [if_pos c23] at H
           have c23b0 : decide (0 < x8_2) = true := decide_eq_true c23
           clear c23
           by_cases c24 : x7_2.size + 2 ≤ 9223372036854775807
           ·rw [if_pos c24] at H
            have c24b0 := eq_true c24
            have c24b1 : decide (x7_2.size + 2 ≤ 9223372036854775807) = true := decide_eq_true c24
            try have c24b2 : (9223372036854775807 < x7_2.size + 2) = False := eq_false (Nat.not_lt.2 c24)
            by_cases c25 : 0 ≤ x8_2
            ·rw [if_pos c25] at H
             have c25b0 : decide (0 ≤ x8_2) = true := decide_eq_true c25
             clear c25
             by_cases c26 : (x7_2 ++ (⟨#[44,32]⟩ : ByteArray)).size + (rdOf ByteArray.empty l2_0 x8_2).size ≤ 9223372036854775807
             ·rw [if_pos c26] at H
              have c26b0 := eq_true c26
              have c26b1 : decide ((x7_2 ++ (⟨#[44,32]⟩ : ByteArray)).size + (rdOf ByteArray.empty l2_0 x8_2).size ≤ 9223372036854775807) = true := decide_eq_true c26
              try have c26b2 : (9223372036854775807 < (x7_2 ++ (⟨#[44,32]⟩ : ByteArray)).size + (rdOf ByteArray.empty l2_0 x8_2).size) = False := eq_false (Nat.not_lt.2 c26)
              try have c26b3 : (9223372036854775807 < x7_2.size + 2 + (rdOf ByteArray.empty l2_0 x8_2).size) = False := (congrArg (fun n_ => (9223372036854775807 < n_)) (show x7_2.size + 2 + (rdOf ByteArray.empty l2_0 x8_2).size = (x7_2 ++ (⟨#[44,32]⟩ : ByteArray)).size + (rdOf ByteArray.empty l2_0 x8_2).size by (simp only [ByteArray.size_append]; try rfl))).trans c26b2
              have H' := y0.mk H
              clear H
              have hnb27 := NB199_198.out
              have hnc27 := NB198_199.out
              have hcz28_0 : wr.cell? ⟨gb199,0,none⟩ = some (.slice A2_0 l2_0.length c2_0) := (y10 BK199.out 0).trans rfl
              have hfz28_0 := y13 BK199.out 0
              have p203 : 0 ≤ (x8_2 : Int) := of_decide_eq_true (by first | (with_reducible assumption) | assumption)
              have q203 : x8_2 < (l2_0.length : Int) := of_decide_eq_true (by first | (with_reducible assumption) | assumption)
              obtain ⟨ad203,e203,hx203_0⟩ := Kd.at_string HR2_0.out x8_2 p203 q203
              cases e203
              replace hx203_0 := (HB.out.cell (World.block_lt_of_cell? w _ hx203_0)).trans hx203_0
              replace p203 := eq_true p203
              replace q203 := eq_true q203
              go_wp2
              go_roundg k2
              case measure => have := HJ3.out; have := HK2.out; omega
              case rel => exact ⟨((x7_2 ++ (⟨#[44,32]⟩ : ByteArray)) ++ (rdOf ByteArray.empty l2_0 x8_2)),(wrap64 (x8_2 + 1)),(by first | rfl | (simp; done) | (simp [*]; done)),(by first | rfl | (simp; done) | (simp [*]; done)),H',⟨by have := HJ3.out; have := HK2.out; omega⟩,⟨by (with_reducible repeat (first | refine y12 ?_ _ | refine y11 ?_ | refine y8 ?_ _)); exact BK198.out⟩,⟨by (with_reducible repeat (first | refine y12 ?_ _ | refine y11 ?_ | refine y8 ?_ _)); exact BK199.out⟩,⟨by repeat (first | (with_reducible first | exact HB.out | apply y3 | apply y23 | apply y4 | refine y5 ?_ GE198.out | refine y5 ?_ GE199.out) | exact HB.out)⟩⟩
             ·rw [if_neg c26] at H
              exact absurd H (by simp)
            ·rw [if_neg c25] at H
             exact absurd H (by simp)
           ·rw [if_neg c24] at H
            exact absurd H (by simp)
          ·rw [if_neg c23] at H
           have c23b0 : decide (0 < x8_2) = false := decide_eq_false c23
           clear c23
           by_cases c29 : 0 ≤ x8_2
           ·rw [if_pos c29] at H
            have c29b0 : decide (0 ≤ x8_2) = true := decide_eq_true c29
            clear c29
            by_cases c30 : x7_2.size + (rdOf ByteArray.empty l2_0 x8_2).size ≤ 9223372036854775807
            ·rw [if_pos c30] at H
             have c30b0 := eq_true c30
             have c30b1 : decide (x7_2.size + (rdOf ByteArray.empty l2_0 x8_2).size ≤ 9223372036854775807) = true := decide_eq_true c30
             try have c30b2 : (9223372036854775807 < x7_2.size + (rdOf ByteArray.empty l2_0 x8_2).size) = False := eq_false (Nat.not_lt.2 c30)
             have H' := y0.mk H
             clear H
             have hnb31 := NB199_198.out
             have hnc31 := NB198_199.out
             have hcz32_0 : wr.cell? ⟨gb199,0,none⟩ = some (.slice A2_0 l2_0.length c2_0) := (y10 BK199.out 0).trans rfl
             have hfz32_0 := y13 BK199.out 0
             have p204 : 0 ≤ (x8_2 : Int) := of_decide_eq_true (by first | (with_reducible assumption) | assumption)
             have q204 : x8_2 < (l2_0.length : Int) := of_decide_eq_true (by first | (with_reducible assumption) | assumption)
             obtain ⟨ad204,e204,hx204_0⟩ := Kd.at_string HR2_0.out x8_2 p204 q204
             cases e204
             replace hx204_0 := (HB.out.cell (World.block_lt_of_cell? w _ hx204_0)).trans hx204_0
             replace p204 := eq_true p204
             replace q204 := eq_true q204
             go_wp2
             go_roundg k2
             case measure => have := HJ3.out; have := HK2.out; omega
             case rel => exact ⟨(x7_2 ++ (rdOf ByteArray.empty l2_0 x8_2)),(wrap64 (x8_2 + 1)),(by first | rfl | (simp; done) | (simp [*]; done)),(by first | rfl | (simp; done) | (simp [*]; done)),H',⟨by have := HJ3.out; have := HK2.out; omega⟩,⟨by (with_reducible repeat (first | refine y12 ?_ _ | refine y11 ?_ | refine y8 ?_ _)); exact BK198.out⟩,⟨by (with_reducible repeat (first | refine y12 ?_ _ | refine y11 ?_ | refine y8 ?_ _)); exact BK199.out⟩,⟨by repeat (first | (with_reducible first | exact HB.out | apply y3 | apply y23 | apply y4 | refine y5 ?_ GE198.out | refine y5 ?_ GE199.out) | exact HB.out)⟩⟩
            ·rw [if_neg c30] at H
             exact absurd H (by simp)
           ·rw [if_neg c29] at H
            exact absurd H (by simp)
         ·rw [if_neg c22] at H
          have c22b0 : decide (x8_2 < (l2_0.length : Int)) = false := decide_eq_false c22
          clear c22
          by_cases c33 : x7_2.size + 2 ≤ 9223372036854775807
          ·rw [if_pos c33] at H
           have c33b0 := eq_true c33
           have c33b1 : decide (x7_2.size + 2 ≤ 9223372036854775807) = true := decide_eq_true c33
           try have c33b2 : (9223372036854775807 < x7_2.size + 2) = False := eq_false (Nat.not_lt.2 c33)
           obtain rfl := Option.some.inj H
           have hnb34 := NB199_198.out
           have hnc34 := NB198_199.out
           have hcz35_0 : wr.cell? ⟨gb199,0,none⟩ = some (.slice A2_0 l2_0.length c2_0) := (y10 BK199.out 0).trans rfl
           have hfz35_0 := y13 BK199.out 0
           go_wp2
           go_ret
           exact ⟨by first | rfl | (simp [y16,y17] <;> rfl) | (simp [*,y16,y17] <;> rfl),by repeat (first | (with_reducible first | exact HB.out | apply y3 | apply y23 | apply y4 | refine y5 ?_ GE198.out | refine y5 ?_ GE199.out) | exact HB.out)⟩
          ·rw [if_neg c33] at H
           exact absurd H (by simp)
      ·rw [if_neg c19] at H
       exact absurd H (by simp)
     ·rw [if_neg c18] at H
      exact absurd H (by simp)
    ·rw [if_neg c17] at H
     exact absurd H (by simp)
def laws_toStringS.l0 : Nat → List ByteArray → List ByteArray → Int → Option (List ByteArray)
 | 0,_,_,_ => none
 | k + 1,x0,x3,x4 => if x4 < (x0.length : Int) then (if 0 ≤ x4 then (if x4 < (x3.length : Int) then (laws_toStringS.l0 k x0 (x3.set (x4 : Int).toNat (rdOf ByteArray.empty x0 x4)) (wrap64 (x4 + 1))) else (none)) else (none)) else (some x3)
def laws_toStringS.f (k : Nat) (l0 : List ByteArray) : Option (List ByteArray) := if 0 ≤ (l0.length : Int) then (if ((l0.length : Int) : Int).toNat ≤ 17592186044416 then (laws_toStringS.l0 k l0 (List.replicate ((l0.length : Int) : Int).toNat (⟨#[]⟩ : ByteArray)) 0) else (none)) else (none)
set_option maxHeartbeats 8000000 in
set_option maxRecDepth 100000 in
theorem laws_toStringS.calls (k : Nat) (A0 : Option Addr) (c0 : Nat) (l0 : List ByteArray) (r : List ByteArray) (w : World) (hr0 : Kd.C Kd.string w A0 l0.length l0) (hc0 : l0.length ≤ c0) (h : laws_toStringS.f k l0 = some r) :
  Calls Tryz.prog 21 #[.slice A0 l0.length c0] w fun e w' => ∃ v0_ : Value,e = .returned (v0_) ∧ Kd.R Kd.string 9 w' w.heap.size (fun _ => True) v0_ r ∧ Below w.heap.size w w' := by
 have HR0 := y0.mk hr0
 have HC0 := y0.mk hc0
 clear hr0 hc0
 have HB := y0.mk (Below.refl w.heap.size w)
 have H : (if 0 ≤ (l0.length : Int) then (if ((l0.length : Int) : Int).toNat ≤ 17592186044416 then (laws_toStringS.l0 k l0 (List.replicate ((l0.length : Int) : Int).toNat (⟨#[]⟩ : ByteArray)) 0) else (none)) else (none)) = some r := h
 clear h
 by_cases c2 : 0 ≤ (l0.length : Int)
 ·rw [if_pos c2] at H
  have c2b0 := eq_true c2
  have c2b1 : decide (0 ≤ (l0.length : Int)) = true := decide_eq_true c2
  clear c2
  by_cases c3 : ((l0.length : Int) : Int).toNat ≤ 17592186044416
  ·rw [if_pos c3] at H
   have c3b0 := eq_true c3
   have c3b1 : decide (((l0.length : Int) : Int).toNat ≤ 17592186044416) = true := decide_eq_true c3
   clear c3
   obtain ⟨y205,hy205⟩ : ∃ y_ : List ByteArray,y_ = (List.replicate ((l0.length : Int) : Int).toNat (⟨#[]⟩ : ByteArray)) := ⟨_,rfl⟩
   replace H : (laws_toStringS.l0 k l0 y205 0) = some r := by first | (rw [hy205]; with_reducible exact H) | (have H2_ := (Option.bind_some _ _).symm.trans H; rw [hy205]; with_reducible exact H2_) | (have H2_ := (Option.bind_some _ _).symm.trans H; with_reducible exact H2_) | with_reducible exact H | (rw [hy205]; exact H) | exact H
   have Ny205 := y0.mk hy205
   clear hy205
   have H' := y0.mk H
   clear H
   go_enter Tryz.func21,Tryz.ntmps21
   go_wp2_with (first | ((with_reducible refine y19 (N := 7) rfl ?_); refine Kd.R_make Kd.string _ 9 rfl (N := 7) rfl 27 _ _ rfl (l0.length : Int) rfl rfl Tryz.underlying27 (.string ⟨#[]⟩) 16 info9 rfl (by decide) (by omega) (⟨#[]⟩ : ByteArray) (ok := fun _ => True) (okp := fun _ => True) rfl (fun _ hk => hk) trivial (of_decide_eq_true (by first | (with_reducible assumption) | assumption)) (Nat.le_trans (Nat.mul_le_mul_right _ (of_decide_eq_true (by first | (with_reducible assumption) | assumption) : (l0.length : Int).toNat ≤ 17592186044416)) (by omega)) (Below.refl _ _) (Nat.le_refl _) ?_; intro v206 w4 ho5 hb hg_ hnew_; clear hg_ hnew_; (first | rw [← Ny205.out] at ho5 | (simp only [Int.reduceToNat] at ho5; rw [← Ny205.out] at ho5)); have n0_ := y0.mk (Kd.R_lower ho5 (y6 (by repeat (first | (with_reducible first | exact HB.out | apply y3 | apply y23 | apply y4) | exact HB.out)))); have n1_ := y0.mk (y7 (by repeat (first | (with_reducible first | exact HB.out | apply y3 | apply y23 | apply y4) | exact HB.out)) hb); clear HB; have HO207 := n0_; have HB := n1_; clear n0_ n1_; clear hb ho5))
   go_loopg [4] k (fun kq v4 w' => ∃ (x3_1 : List ByteArray) (x4_1 : Int),v4 = .int .i64 x4_1 ∧ y0 (laws_toStringS.l0 kq l0 x3_1 x4_1 = some r) ∧ y0 (kq ≤ k) ∧ y0 (Kd.R Kd.string 9 w' w.heap.size (fun _ => True) v206 x3_1) ∧ y0 (Below w.heap.size w w'))
   case atStart => exact ⟨(y205),(0),(by first | rfl | (simp; done) | (simp [*]; done)),H',⟨Nat.le_refl _⟩,⟨by (with_reducible repeat (first | apply Kd.R_alloc | apply Kd.R_drewN | apply Kd.R_drew)); exact HO207.out⟩,⟨by repeat (first | (with_reducible first | exact HB.out | apply y3 | apply y23 | apply y4) | exact HB.out)⟩⟩
   case round =>
    clear H'
    try clear c2
    try clear c2b0
    try clear c2b1
    try clear p2
    try clear c3
    try clear c3b0
    try clear c3b1
    obtain ⟨x3_1,x4_1,rfl,HA,HK1,HO_3,HB⟩ := hrel
    cases gk with
    | zero => exact absurd HA.out (by simp [laws_toStringS.l0])
    | succ k1 =>
     have H := HA.out
     clear HA
     simp only [laws_toStringS.l0] at H
     by_cases c6 : x4_1 < (l0.length : Int)
     ·rw [if_pos c6] at H
      have c6b0 : decide (x4_1 < (l0.length : Int)) = true := decide_eq_true c6
      clear c6
      by_cases c7 : 0 ≤ x4_1
      ·rw [if_pos c7] at H
       have c7b0 : decide (0 ≤ x4_1) = true := decide_eq_true c7
       clear c7
       by_cases c8 : x4_1 < (x3_1.length : Int)
       ·rw [if_pos c8] at H
        have c8b0 : decide (x4_1 < (x3_1.length : Int)) = true := decide_eq_true c8
        clear c8
        obtain ⟨y209,hy209⟩ : ∃ y_ : List ByteArray,y_ = (x3_1.set (x4_1 : Int).toNat (rdOf ByteArray.empty l0 x4_1)) := ⟨_,rfl⟩
        replace H : (laws_toStringS.l0 k1 l0 y209 (wrap64 (x4_1 + 1))) = some r := by first | (rw [hy209]; with_reducible exact H) | (have H2_ := (Option.bind_some _ _).symm.trans H; rw [hy209]; with_reducible exact H2_) | (have H2_ := (Option.bind_some _ _).symm.trans H; with_reducible exact H2_) | with_reducible exact H | (rw [hy209]; exact H) | exact H
        have Ny209 := y0.mk hy209
        clear hy209
        have H' := y0.mk H
        clear H
        have p208 : 0 ≤ (x4_1 : Int) := of_decide_eq_true (by first | (with_reducible assumption) | assumption)
        have q208 : x4_1 < (l0.length : Int) := of_decide_eq_true (by first | (with_reducible assumption) | assumption)
        obtain ⟨ad208,e208,hx208_0⟩ := Kd.at_string HR0.out x4_1 p208 q208
        cases e208
        replace hx208_0 := (HB.out.cell (World.block_lt_of_cell? w _ hx208_0)).trans hx208_0
        replace p208 := eq_true p208
        replace q208 := eq_true q208
        have p9 : 0 ≤ (x4_1 : Int) := of_decide_eq_true (by first | (with_reducible assumption) | assumption)
        have q9 : (x4_1 : Int) < ((x3_1.length : Int) : Int) := of_decide_eq_true (by first | (with_reducible assumption) | assumption)
        obtain ⟨go9,co9,eo9,gb9,gl9,cl9,HG9⟩ := Kd.R_form HO_3.out (by omega)
        (first | cases eo9 | (injection eo9 with ea_ en_ ec_; (first | subst ea_ | (injection ea_ with ea_; subst ea_)); subst ec_; clear en_))
        have GB9 := y0.mk gb9
        have GG9 := y0.mk HG9
        clear gb9 gl9 HG9
        obtain ⟨hx9_0,hf9_0⟩ := Kd.R_celln (⟨#[]⟩ : ByteArray) HO_3.out (x4_1 : Int) p9 q9
        replace p9 := eq_true p9
        replace q9 := eq_true q9
        have HP10 := Kd.R_putg HO_3.out (x4_1 : Int) (rdOf ByteArray.empty l0 x4_1)
        go_wp2_with (first | ((with_reducible refine gate_store (t := 9) (p := 20) rfl ?_); refine store_event (t := 9) (p := 20) (v := ?vo_w11) (w1 := (wr.setCell ⟨go9,(x4_1 : Int).toNat,none⟩ (.string (rdOf ByteArray.empty l0 x4_1)))) ?hg ?ho ?hn ?hr ?_; (case ho => rfl); (case hg => rfl); (case hn => rfl); (case hr => first | (go_simp; done) | (go_simp; rfl)); intro w11 hw; have hg : wr.grownBy w11 (some go9) := (by rw [hw]; exact HP10.2); have hp_ : Kd.R Kd.string 9 w11 w.heap.size (fun _ => True) (.slice (some ⟨go9,0,none⟩) x3_1.length co9) y209 := (by rw [hw,Ny209.out]; exact HP10.1); clear HP10; have n0_ := y0.mk (hp_); have n1_ := y0.mk ((by rw [hw]; exact y5 (HB.out) GB9.out : Below w.heap.size w w11)); clear HO_3; clear HB; have HO_3 := n0_; have HB := n1_; clear n0_ n1_; clear hg hw hp_))
        go_roundg k1
        case measure => have := HK1.out; omega
        case rel => exact ⟨(y209),(wrap64 (x4_1 + 1)),(by first | rfl | (simp; done) | (simp [*]; done)),H',⟨by have := HK1.out; omega⟩,⟨by (with_reducible repeat (first | apply Kd.R_alloc | apply Kd.R_drewN | apply Kd.R_drew)); exact HO_3.out⟩,⟨by repeat (first | (with_reducible first | exact HB.out | apply y3 | apply y23 | apply y4) | exact HB.out)⟩⟩
       ·rw [if_neg c8] at H
        exact absurd H (by simp)
      ·rw [if_neg c7] at H
       exact absurd H (by simp)
     ·rw [if_neg c6] at H
      have c6b0 : decide (x4_1 < (l0.length : Int)) = false := decide_eq_false c6
      clear c6
      obtain rfl := Option.some.inj H
      go_wp2
      go_ret
      exact ⟨_,by first | rfl | (simp [y16,y17] <;> rfl) | (simp [*,y16,y17] <;> rfl),by (with_reducible repeat (first | apply Kd.R_alloc | apply Kd.R_drewN | apply Kd.R_drew)); exact HO_3.out,by repeat (first | (with_reducible first | exact HB.out | apply y3 | apply y23 | apply y4) | exact HB.out)⟩
  ·rw [if_neg c3] at H
   exact absurd H (by simp)
 ·rw [if_neg c2] at H
  exact absurd H (by simp)
end Go.Proofs.YtamjmldfifofbaaGreatDoor.Pf
end

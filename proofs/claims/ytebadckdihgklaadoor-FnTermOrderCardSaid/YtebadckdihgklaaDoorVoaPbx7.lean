-- Cut by prune.py, a program of this session, out of the texts of this claim: Lean checks it.
import Derived.Test.YtebadckdihgklaaDoorVoaPbx0
section
namespace Go.Proofs.YtebadckdihgklaaDoor.Pb
open Go.RowKit Go.Proofs.YtebadckdihgklaaDoorW.PrintWords Go.Proofs.YtebadckdihgklaaDoorW.PrintLast Go.Proofs.YtebadckdihgklaaDoorW.PrintMore
attribute [local go_sem] max2_int min2_int max_two min_two max_three min_three max_four min_four   -- for this text's walks alone
set_option linter.unusedVariables false
set_option linter.unusedSimpArgs false
mutual
def z4_.j1 : Nat → ByteArray → Int → Option (ByteArray × List ByteArray × Bool)
 | 0,_,_ => none
 | k + 1,x0,x5 => if x5 = (x0.size : Int) then (some (x0,(([] : List ByteArray)),true)) else (z4_.l1 k x0 x5 (([] : List ByteArray)) 0 false (wrap64 (x5 + 1)) x5)
def z4_.l1 : Nat → ByteArray → Int → List ByteArray → Int → Bool → Int → Int → Option (ByteArray × List ByteArray × Bool)
 | 0,_,_,_,_,_,_,_ => none
 | k + 1,x0,x5,x6,x7,x8,x9,x10 => if x10 < (x0.size : Int) then (if 0 ≤ x10 then (if (bt x0 x10) = 34 then (z4_.l1 k x0 x5 x6 x7 (!x8) x9 (wrap64 (x10 + 1))) else (if x8 = true then (z4_.l1 k x0 x5 x6 x7 x8 x9 (wrap64 (x10 + 1))) else (if (bt x0 x10) = 40 then (z4_.l1 k x0 x5 x6 (wrap64 (x7 + 1)) x8 x9 (wrap64 (x10 + 1))) else (if (bt x0 x10) = 41 then (if (wrap64 (x7 - 1)) = 0 then (if 0 ≤ x5 then (if x5 ≤ (x0.size : Int) then (if 0 ≤ x9 then (if x9 ≤ x10 then (if x10 ≤ (x0.size : Int) then (if x6.length < 8796093022208 then (some (x0.extract 0 (x5 : Int).toNat,(x6 ++ [x0.extract (x9 : Int).toNat (x10 : Int).toNat]),(x10 == (wrap64 ((x0.size : Int) - 1))))) else (none)) else (none)) else (none)) else (none)) else (none)) else (none)) else (z4_.l1 k x0 x5 x6 (wrap64 (x7 - 1)) x8 x9 (wrap64 (x10 + 1)))) else (if (bt x0 x10) = 44 then (if x7 = 1 then (if 0 ≤ x9 then (if x9 ≤ x10 then (if x10 ≤ (x0.size : Int) then (if x6.length < 8796093022208 then (z4_.l1 k x0 x5 (x6 ++ [x0.extract (x9 : Int).toNat (x10 : Int).toNat]) x7 x8 (wrap64 (x10 + 1)) (wrap64 (x10 + 1))) else (none)) else (none)) else (none)) else (none)) else (z4_.l1 k x0 x5 x6 x7 x8 x9 (wrap64 (x10 + 1)))) else (z4_.l1 k x0 x5 x6 x7 x8 x9 (wrap64 (x10 + 1)))))))) else (none)) else (some ((⟨#[]⟩ : ByteArray),(([] : List ByteArray)),false))
def z4_.l0 : Nat → ByteArray → Int → Option (ByteArray × List ByteArray × Bool)
 | 0,_,_ => none
 | k + 1,x0,x5 => if x5 < (x0.size : Int) then (if 0 ≤ x5 then (if (bt x0 x5) = 40 then (z4_.j1 k x0 x5) else (z4_.l0 k x0 (wrap64 (x5 + 1)))) else (none)) else (z4_.j1 k x0 x5)
end
def z4_.f (k : Nat) (a0 : ByteArray) : Option (ByteArray × List ByteArray × Bool) := z4_.l0 k a0 0
def z4_.T21 : Bool × List (List Nat × List Nat) := (true,[([],[]),([],[]),([0,1],[0,1]),([],[]),([],[]),([],[]),([],[]),([4,5,6],[4,5,6]),([7],[7]),([3,8],[3,8]),([],[]),([],[]),([11],[11]),([12],[12]),([10,13],[10,13]),([2,9,0,1,2],[2]),([9,15,0,1,2,3,4,5,6,7,8,9,15],[9]),([14,16,0,1,2,3,4,5,6,7,8,9,10,11,12,13,14,15,16],[14])])
def z4_.B21 : List Nat := [0,0,3,0,0,0,0,112,240,504,0,0,2048,6144,15360,1023,33791,131071]
theorem z4_.tab21 : rtab .any (opsOf Tryd.f74 21) = z4_.T21 := by kernel_rfl
theorem z4_.bits21 : waitsOk z4_.T21.2 z4_.B21 = true := by kernel_rfl
set_option maxHeartbeats 8000000 in
set_option maxRecDepth 100000 in
theorem z4_.calls (k : Nat) (a0 : ByteArray) (r1 : ByteArray) (r2 : List ByteArray) (r3 : Bool) (w : World) (h : z4_.f k a0 = some (r1,r2,r3)) :
  Calls Tryd.prog 74 #[.string a0] w fun e w' => ∃ v1_ : Value,e = .returned (.tuple #[.string r1,v1_,.bool r3]) ∧ Kd.R Kd.string 9 w' w.heap.size (fun _ => True) v1_ r2 ∧ Below w.heap.size w w' := by
 have HB := y0.mk (Below.refl w.heap.size w)
 have H : (z4_.l0 k a0 0) = some (r1,r2,r3) := h
 clear h
 have HC2 := y0.mk H
 clear H
 go_enter Tryd.func74,Tryd.ntmps74
 go_upto_block 0 with (fail)
 go_cut [5] (fun v5 wc => ∃ (kq : Nat) (x5_1 : Int),v5 = .int .i64 x5_1 ∧ y0 (z4_.j1 kq a0 x5_1 = some (r1,r2,r3)) ∧ y0 (kq ≤ k) ∧ y0 (Below w.heap.size w wc))
 case first =>
  have H := HC2.out
  clear HC2
  have H' := y0.mk H
  clear H
  go_wp2
  go_loopg [5] k (fun kq v5 w' => ∃ (x5_1 : Int),v5 = .int .i64 x5_1 ∧ y0 (z4_.l0 kq a0 x5_1 = some (r1,r2,r3)) ∧ y0 (kq ≤ k) ∧ y0 (Below w.heap.size w w'))
  case atStart => exact ⟨(0),(by first | rfl | (simp; done) | (simp [*]; done)),H',⟨Nat.le_refl _⟩,⟨by repeat (first | (with_reducible first | exact HB.out | apply y5 | apply y18 | apply y6) | exact HB.out)⟩⟩
  case round =>
   clear H'
   try clear p2
   obtain ⟨x5_1,rfl,HA,HK1,HB⟩ := hrel
   cases gk with
   | zero => exact absurd HA.out (by simp [z4_.l0])
   | succ k1 =>
    have H := HA.out
    clear HA
    simp only [z4_.l0] at H
    by_cases c3 : x5_1 < (a0.size : Int)
    ·rw [if_pos c3] at H
     have c3b0 : decide (x5_1 < (a0.size : Int)) = true := decide_eq_true c3
     clear c3
     (first | rw [c3b0] | (simp only [y14,y13]; rw [c3b0]) | skip)
     by_cases c4 : 0 ≤ x5_1
     ·rw [if_pos c4] at H
      have c4b0 : decide (0 ≤ x5_1) = true := decide_eq_true c4
      clear c4
      by_cases c6 : (bt a0 x5_1) = 40
      ·rw [if_pos c6] at H
       have c6b0 : ((bt a0 x5_1) == 40) = true := beq_iff_eq.mpr c6
       have c6b1 : ((bt a0 x5_1) != 40) = false := bne_eq_false_iff_eq.mpr c6
       clear c6
       have H' := y0.mk H
       clear H
       have p5 : 0 ≤ (x5_1 : Int) := of_decide_eq_true (by first | (with_reducible assumption) | assumption)
       have q5 : x5_1 < (a0.size : Int) := of_decide_eq_true (by first | (with_reducible assumption) | assumption)
       have hx5 := bt_at a0 x5_1
       replace p5 := eq_true p5
       replace q5 := eq_true q5
       go_wp2
       go_meet
       case rel => exact ⟨_,(x5_1),(by first | rfl | (simp; done) | (simp [*]; done)),H',⟨by have := HK1.out; first | omega | exact Nat.le_refl _⟩,⟨by repeat (first | (with_reducible first | exact HB.out | apply y5 | apply y18 | apply y6) | exact HB.out)⟩⟩
      ·rw [if_neg c6] at H
       have c6b0 : ((bt a0 x5_1) == 40) = false := beq_eq_false_iff_ne.mpr c6
       have c6b1 : ((bt a0 x5_1) != 40) = true := bne_iff_ne.mpr c6
       have H' := y0.mk H
       clear H
       have p5 : 0 ≤ (x5_1 : Int) := of_decide_eq_true (by first | (with_reducible assumption) | assumption)
       have q5 : x5_1 < (a0.size : Int) := of_decide_eq_true (by first | (with_reducible assumption) | assumption)
       have hx5 := bt_at a0 x5_1
       replace p5 := eq_true p5
       replace q5 := eq_true q5
       go_wp2
       go_roundg k1
       case measure => have := HK1.out; omega
       case rel => exact ⟨(wrap64 (x5_1 + 1)),(by first | rfl | (simp; done) | (simp [*]; done)),H',⟨by have := HK1.out; omega⟩,⟨by repeat (first | (with_reducible first | exact HB.out | apply y5 | apply y18 | apply y6) | exact HB.out)⟩⟩
     ·rw [if_neg c4] at H
      exact absurd H (by simp)
    ·rw [if_neg c3] at H
     have c3b0 : decide (x5_1 < (a0.size : Int)) = false := decide_eq_false c3
     clear c3
     (first | rw [c3b0] | (simp only [y14,y13]; rw [c3b0]) | skip)
     have H' := y0.mk H
     clear H
     go_wp2
     go_meet
     case rel => exact ⟨_,(x5_1),(by first | rfl | (simp; done) | (simp [*]; done)),H',⟨by have := HK1.out; first | omega | exact Nat.le_refl _⟩,⟨by repeat (first | (with_reducible first | exact HB.out | apply y5 | apply y18 | apply y6) | exact HB.out)⟩⟩
 case rest =>
  clear HC2
  try clear p2
  try clear c3
  try clear c3b0
  try clear c4
  try clear c4b0
  try clear p5
  try clear q5
  try clear hx5
  try clear c6
  try clear c6b0
  try clear c6b1
  try clear p6
  try clear p2
  try clear p5
  try clear q5
  obtain ⟨kq,x5_1,rfl,HA,HJ1,HB⟩ := hcut
  cases kq with
  | zero => exact absurd HA.out (by simp [z4_.j1])
  | succ kj1 =>
   have H := HA.out
   clear HA
   simp only [z4_.j1] at H
   by_cases c7 : x5_1 = (a0.size : Int)
   ·rw [if_pos c7] at H
    have c7b0 : (x5_1 == (a0.size : Int)) = true := beq_iff_eq.mpr c7
    have c7b1 : (x5_1 != (a0.size : Int)) = false := bne_eq_false_iff_eq.mpr c7
    clear c7
    obtain ⟨y204,hy204⟩ : ∃ y_ : List ByteArray,y_ = (([] : List ByteArray)) := ⟨_,rfl⟩
    replace H : (some (a0,y204,true)) = some (r1,r2,r3) := by first | (rw [hy204]; with_reducible exact H) | (have H2_ := (Option.bind_some _ _).symm.trans H; rw [hy204]; with_reducible exact H2_) | (have H2_ := (Option.bind_some _ _).symm.trans H; with_reducible exact H2_) | with_reducible exact H | (rw [hy204]; exact H) | exact H
    have Ny204 := y0.mk hy204
    clear hy204
    simp only [Option.some.injEq,Prod.mk.injEq] at H
    obtain ⟨rfl,rfl,rfl⟩ := H
    go_wp2_with (first | ((with_reducible refine gate_dst (N := 28) rfl ?_); refine Kd.R_lit Kd.string _ 9 ?hg (N := 28) ?hd (xs := ([] : List ByteArray)) (inner := []) (ok := fun _ => True) (okp := fun _ => True) ?hr ?hp (fun _ hk => hk) trivial (Below.refl _ _) (Nat.le_refl _) (by simp) ?_; (case hd => rfl); (case hg => rfl); (case hr => first | (go_simp; done) | (go_simp; rfl)); (case hp => exact (Reps.none _ _)); intro v205 w8 ho9 hb hg_ hnew_; clear hg_ hnew_; (first | rw [← Ny204.out] at ho9 | (simp only [Int.reduceToNat] at ho9; rw [← Ny204.out] at ho9)); have n0_ := y0.mk (Kd.R_lower ho9 (below_size (by repeat (first | (with_reducible first | exact HB.out | apply y5 | apply y18 | apply y6) | exact HB.out)))); have n1_ := y0.mk (y8 (by repeat (first | (with_reducible first | exact HB.out | apply y5 | apply y18 | apply y6) | exact HB.out)) hb); clear HB; have HO206 := n0_; have HB := n1_; clear n0_ n1_; clear hb ho9))
    go_ret3
    exact ⟨_,by first | rfl | (simp [y9,y10] <;> rfl) | (simp [*,y9,y10] <;> rfl),by (with_reducible repeat (first | apply Kd.R_alloc | apply Kd.R_drewN | apply Kd.R_drew)); exact HO206.out,by repeat (first | (with_reducible first | exact HB.out | apply y5 | apply y18 | apply y6) | exact HB.out)⟩
   ·rw [if_neg c7] at H
    have c7b0 : (x5_1 == (a0.size : Int)) = false := beq_eq_false_iff_ne.mpr c7
    have c7b1 : (x5_1 != (a0.size : Int)) = true := bne_iff_ne.mpr c7
    obtain ⟨y207,hy207⟩ : ∃ y_ : List ByteArray,y_ = (([] : List ByteArray)) := ⟨_,rfl⟩
    replace H : (z4_.l1 kj1 a0 x5_1 y207 0 false (wrap64 (x5_1 + 1)) x5_1) = some (r1,r2,r3) := by first | (rw [hy207]; with_reducible exact H) | (have H2_ := (Option.bind_some _ _).symm.trans H; rw [hy207]; with_reducible exact H2_) | (have H2_ := (Option.bind_some _ _).symm.trans H; with_reducible exact H2_) | with_reducible exact H | (rw [hy207]; exact H) | exact H
    have Ny207 := y0.mk hy207
    clear hy207
    have H' := y0.mk H
    clear H
    go_wp2_with (first | ((with_reducible refine gate_dst (N := 29) rfl ?_); refine Kd.R_lit Kd.string _ 9 ?hg (N := 29) ?hd (xs := ([] : List ByteArray)) (inner := []) (ok := fun _ => True) (okp := fun _ => True) ?hr ?hp (fun _ hk => hk) trivial (Below.refl _ _) (Nat.le_refl _) (by simp) ?_; (case hd => rfl); (case hg => rfl); (case hr => first | (go_simp; done) | (go_simp; rfl)); (case hp => exact (Reps.none _ _)); intro v208 w10 ho11 hb hg_ hnew_; clear hg_ hnew_; (first | rw [← Ny207.out] at ho11 | (simp only [Int.reduceToNat] at ho11; rw [← Ny207.out] at ho11)); have n0_ := y0.mk (Kd.R_lower ho11 (below_size (by repeat (first | (with_reducible first | exact HB.out | apply y5 | apply y18 | apply y6) | exact HB.out)))); have n1_ := y0.mk (y8 (by repeat (first | (with_reducible first | exact HB.out | apply y5 | apply y18 | apply y6) | exact HB.out)) hb); clear HB; have HO209 := n0_; have HB := n1_; clear n0_ n1_; clear hb ho11))
    go_loopg [6,7,8,9,10] kj1 (fun kq v6 v7 v8 v9 v10 w' => ∃ (x6_2 : List ByteArray) (x7_2 : Int) (x8_2 : Bool) (x9_2 : Int) (x10_2 : Int),v7 = .int .i64 x7_2 ∧ v8 = .bool x8_2 ∧ v9 = .int .i64 x9_2 ∧ v10 = .int .i64 x10_2 ∧ y0 (z4_.l1 kq a0 x5_1 x6_2 x7_2 x8_2 x9_2 x10_2 = some (r1,r2,r3)) ∧ y0 (kq ≤ kj1) ∧ y0 (Kd.R Kd.string 9 w' w.heap.size (fun _ => True) v6 x6_2) ∧ y0 (Below w.heap.size w w'))
    case atStart => exact ⟨(y207),(0),(false),(wrap64 (x5_1 + 1)),(x5_1),(by first | rfl | (simp; done) | (simp [*]; done)),(by first | rfl | (simp; done) | (simp [*]; done)),(by first | rfl | (simp; done) | (simp [*]; done)),(by first | rfl | (simp; done) | (simp [*]; done)),H',⟨Nat.le_refl _⟩,⟨by (with_reducible repeat (first | apply Kd.R_alloc | apply Kd.R_drewN | apply Kd.R_drew)); exact HO209.out⟩,⟨by repeat (first | (with_reducible first | exact HB.out | apply y5 | apply y18 | apply y6) | exact HB.out)⟩⟩
    case round =>
     clear H'
     try clear p2
     try clear c3
     try clear c3b0
     try clear c4
     try clear c4b0
     try clear p5
     try clear q5
     try clear hx5
     try clear c6
     try clear c6b0
     try clear c6b1
     try clear p6
     try clear c7
     try clear c7b0
     try clear c7b1
     try clear p2
     try clear p5
     try clear p6
     try clear q5
     obtain ⟨x6_2,x7_2,x8_2,x9_2,x10_2,rfl,rfl,rfl,rfl,HA,HK2,HO_6,HB⟩ := hrel
     cases gk with
     | zero => exact absurd HA.out (by simp [z4_.l1])
     | succ k2 =>
      have H := HA.out
      clear HA
      simp only [z4_.l1] at H
      by_cases c12 : x10_2 < (a0.size : Int)
      ·rw [if_pos c12] at H
       have c12b0 : decide (x10_2 < (a0.size : Int)) = true := decide_eq_true c12
       clear c12
       by_cases c13 : 0 ≤ x10_2
       ·rw [if_pos c13] at H
        have c13b0 : decide (0 ≤ x10_2) = true := decide_eq_true c13
        clear c13
        by_cases c15 : (bt a0 x10_2) = 34
        ·rw [if_pos c15] at H
         have c15b0 : ((bt a0 x10_2) == 34) = true := beq_iff_eq.mpr c15
         have c15b1 : ((bt a0 x10_2) != 34) = false := bne_eq_false_iff_eq.mpr c15
         clear c15
         have H' := y0.mk H
         clear H
         have p14 : 0 ≤ (x10_2 : Int) := of_decide_eq_true (by first | (with_reducible assumption) | assumption)
         have q14 : x10_2 < (a0.size : Int) := of_decide_eq_true (by first | (with_reducible assumption) | assumption)
         have hx14 := bt_at a0 x10_2
         replace p14 := eq_true p14
         replace q14 := eq_true q14
         go_wp2
         go_roundg k2
         case measure => have := HJ1.out; have := HK2.out; omega
         case rel => exact ⟨(x6_2),(x7_2),(!x8_2),(x9_2),(wrap64 (x10_2 + 1)),(by first | rfl | (simp; done) | (simp [*]; done)),(by first | rfl | (simp; done) | (simp [*]; done)),(by first | rfl | (simp; done) | (simp [*]; done)),(by first | rfl | (simp; done) | (simp [*]; done)),H',⟨by have := HJ1.out; have := HK2.out; omega⟩,⟨by (with_reducible repeat (first | apply Kd.R_alloc | apply Kd.R_drewN | apply Kd.R_drew)); exact HO_6.out⟩,⟨by repeat (first | (with_reducible first | exact HB.out | apply y5 | apply y18 | apply y6) | exact HB.out)⟩⟩
        ·rw [if_neg c15] at H
         have c15b0 : ((bt a0 x10_2) == 34) = false := beq_eq_false_iff_ne.mpr c15
         have c15b1 : ((bt a0 x10_2) != 34) = true := bne_iff_ne.mpr c15
         by_cases c16 : x8_2 = true
         ·subst c16
          have H1 : (z4_.l1 k2 a0 x5_1 x6_2 x7_2 true x9_2 (wrap64 (x10_2 + 1))) = some (r1,r2,r3) := by rw [if_pos rfl] at H; exact H
          clear H
          have H := H1
          clear H1
          have H' := y0.mk H
          clear H
          have p14 : 0 ≤ (x10_2 : Int) := of_decide_eq_true (by first | (with_reducible assumption) | assumption)
          have q14 : x10_2 < (a0.size : Int) := of_decide_eq_true (by first | (with_reducible assumption) | assumption)
          have hx14 := bt_at a0 x10_2
          replace p14 := eq_true p14
          replace q14 := eq_true q14
          go_wp2
          go_roundg k2
          case measure => have := HJ1.out; have := HK2.out; omega
          case rel => exact ⟨(x6_2),(x7_2),(true),(x9_2),(wrap64 (x10_2 + 1)),(by first | rfl | (simp; done) | (simp [*]; done)),(by first | rfl | (simp; done) | (simp [*]; done)),(by first | rfl | (simp; done) | (simp [*]; done)),(by first | rfl | (simp; done) | (simp [*]; done)),H',⟨by have := HJ1.out; have := HK2.out; omega⟩,⟨by (with_reducible repeat (first | apply Kd.R_alloc | apply Kd.R_drewN | apply Kd.R_drew)); exact HO_6.out⟩,⟨by repeat (first | (with_reducible first | exact HB.out | apply y5 | apply y18 | apply y6) | exact HB.out)⟩⟩
         ·replace c16 := Bool.eq_false_iff.mpr c16
          subst c16
          have H1 : (if (bt a0 x10_2) = 40 then (z4_.l1 k2 a0 x5_1 x6_2 (wrap64 (x7_2 + 1)) false x9_2 (wrap64 (x10_2 + 1))) else (if (bt a0 x10_2) = 41 then (if (wrap64 (x7_2 - 1)) = 0 then (if 0 ≤ x5_1 then (if x5_1 ≤ (a0.size : Int) then (if 0 ≤ x9_2 then (if x9_2 ≤ x10_2 then (if x10_2 ≤ (a0.size : Int) then (if x6_2.length < 8796093022208 then (some (a0.extract 0 (x5_1 : Int).toNat,(x6_2 ++ [a0.extract (x9_2 : Int).toNat (x10_2 : Int).toNat]),(x10_2 == (wrap64 ((a0.size : Int) - 1))))) else (none)) else (none)) else (none)) else (none)) else (none)) else (none)) else (z4_.l1 k2 a0 x5_1 x6_2 (wrap64 (x7_2 - 1)) false x9_2 (wrap64 (x10_2 + 1)))) else (if (bt a0 x10_2) = 44 then (if x7_2 = 1 then (if 0 ≤ x9_2 then (if x9_2 ≤ x10_2 then (if x10_2 ≤ (a0.size : Int) then (if x6_2.length < 8796093022208 then (z4_.l1 k2 a0 x5_1 (x6_2 ++ [a0.extract (x9_2 : Int).toNat (x10_2 : Int).toNat]) x7_2 false (wrap64 (x10_2 + 1)) (wrap64 (x10_2 + 1))) else (none)) else (none)) else (none)) else (none)) else (z4_.l1 k2 a0 x5_1 x6_2 x7_2 false x9_2 (wrap64 (x10_2 + 1)))) else (z4_.l1 k2 a0 x5_1 x6_2 x7_2 false x9_2 (wrap64 (x10_2 + 1)))))) = some (r1,r2,r3) := by rw [if_neg (show ¬ (false = true) by decide)] at H; exact H
          clear H
          have H := H1
          clear H1
          by_cases c18 : (bt a0 x10_2) = 40
          ·rw [if_pos c18] at H
           have c18b0 : ((bt a0 x10_2) == 40) = true := beq_iff_eq.mpr c18
           have c18b1 : ((bt a0 x10_2) != 40) = false := bne_eq_false_iff_eq.mpr c18
           clear c18
           have H' := y0.mk H
           clear H
           have p14 : 0 ≤ (x10_2 : Int) := of_decide_eq_true (by first | (with_reducible assumption) | assumption)
           have q14 : x10_2 < (a0.size : Int) := of_decide_eq_true (by first | (with_reducible assumption) | assumption)
           have hx14 := bt_at a0 x10_2
           replace p14 := eq_true p14
           replace q14 := eq_true q14
           have p17 : 0 ≤ (x10_2 : Int) := of_decide_eq_true (by first | (with_reducible assumption) | assumption)
           have q17 : x10_2 < (a0.size : Int) := of_decide_eq_true (by first | (with_reducible assumption) | assumption)
           have hx17 := bt_at a0 x10_2
           replace p17 := eq_true p17
           replace q17 := eq_true q17
           go_wp2
           go_roundg k2
           case measure => have := HJ1.out; have := HK2.out; omega
           case rel => exact ⟨(x6_2),(wrap64 (x7_2 + 1)),(false),(x9_2),(wrap64 (x10_2 + 1)),(by first | rfl | (simp; done) | (simp [*]; done)),(by first | rfl | (simp; done) | (simp [*]; done)),(by first | rfl | (simp; done) | (simp [*]; done)),(by first | rfl | (simp; done) | (simp [*]; done)),H',⟨by have := HJ1.out; have := HK2.out; omega⟩,⟨by (with_reducible repeat (first | apply Kd.R_alloc | apply Kd.R_drewN | apply Kd.R_drew)); exact HO_6.out⟩,⟨by repeat (first | (with_reducible first | exact HB.out | apply y5 | apply y18 | apply y6) | exact HB.out)⟩⟩
          ·rw [if_neg c18] at H
           have c18b0 : ((bt a0 x10_2) == 40) = false := beq_eq_false_iff_ne.mpr c18
           have c18b1 : ((bt a0 x10_2) != 40) = true := bne_iff_ne.mpr c18
           by_cases c20 : (bt a0 x10_2) = 41
           ·rw [if_pos c20] at H
            have c20b0 : ((bt a0 x10_2) == 41) = true := beq_iff_eq.mpr c20
            have c20b1 : ((bt a0 x10_2) != 41) = false := bne_eq_false_iff_eq.mpr c20
            clear c20
            by_cases c21 : (wrap64 (x7_2 - 1)) = 0
            ·rw [if_pos c21] at H
             have c21b0 : ((wrap64 (x7_2 - 1)) == 0) = true := beq_iff_eq.mpr c21
             have c21b1 : ((wrap64 (x7_2 - 1)) != 0) = false := bne_eq_false_iff_eq.mpr c21
             clear c21
             by_cases c22 : 0 ≤ x5_1
             ·rw [if_pos c22] at H
              have c22b0 := eq_true c22
              have c22b1 : decide (0 ≤ x5_1) = true := decide_eq_true c22
              clear c22
              by_cases c23 : x5_1 ≤ (a0.size : Int)
              ·rw [if_pos c23] at H
               have c23b0 := eq_true c23
               have c23b1 : decide (x5_1 ≤ (a0.size : Int)) = true := decide_eq_true c23
               clear c23
               by_cases c24 : 0 ≤ x9_2
               ·rw [if_pos c24] at H
                have c24b0 := eq_true c24
                have c24b1 : decide (0 ≤ x9_2) = true := decide_eq_true c24
                clear c24
                by_cases c25 : x9_2 ≤ x10_2
                ·rw [if_pos c25] at H
                 have c25b0 := eq_true c25
                 have c25b1 : decide (x9_2 ≤ x10_2) = true := decide_eq_true c25
                 clear c25
                 by_cases c26 : x10_2 ≤ (a0.size : Int)
                 ·rw [if_pos c26] at H
                  have c26b0 := eq_true c26
                  have c26b1 : decide (x10_2 ≤ (a0.size : Int)) = true := decide_eq_true c26
                  clear c26
                  by_cases c27 : x6_2.length < 8796093022208
                  ·rw [if_pos c27] at H
                   have LMc27 := y0.mk c27
                   clear c27
                   obtain ⟨y213,hy213⟩ : ∃ y_ : List ByteArray,y_ = (x6_2 ++ [a0.extract (x9_2 : Int).toNat (x10_2 : Int).toNat]) := ⟨_,rfl⟩
                   replace H : (some (a0.extract 0 (x5_1 : Int).toNat,y213,(x10_2 == (wrap64 ((a0.size : Int) - 1))))) = some (r1,r2,r3) := by first | (rw [hy213]; with_reducible exact H) | (have H2_ := (Option.bind_some _ _).symm.trans H; rw [hy213]; with_reducible exact H2_) | (have H2_ := (Option.bind_some _ _).symm.trans H; with_reducible exact H2_) | with_reducible exact H | (rw [hy213]; exact H) | exact H
                   have Ny213 := y0.mk hy213
                   clear hy213
                   simp only [Option.some.injEq,Prod.mk.injEq] at H
                   obtain ⟨rfl,rfl,rfl⟩ := H
                   have p14 : 0 ≤ (x10_2 : Int) := of_decide_eq_true (by first | (with_reducible assumption) | assumption)
                   have q14 : x10_2 < (a0.size : Int) := of_decide_eq_true (by first | (with_reducible assumption) | assumption)
                   have hx14 := bt_at a0 x10_2
                   replace p14 := eq_true p14
                   replace q14 := eq_true q14
                   have p17 : 0 ≤ (x10_2 : Int) := of_decide_eq_true (by first | (with_reducible assumption) | assumption)
                   have q17 : x10_2 < (a0.size : Int) := of_decide_eq_true (by first | (with_reducible assumption) | assumption)
                   have hx17 := bt_at a0 x10_2
                   replace p17 := eq_true p17
                   replace q17 := eq_true q17
                   have p19 : 0 ≤ (x10_2 : Int) := of_decide_eq_true (by first | (with_reducible assumption) | assumption)
                   have q19 : x10_2 < (a0.size : Int) := of_decide_eq_true (by first | (with_reducible assumption) | assumption)
                   have hx19 := bt_at a0 x10_2
                   replace p19 := eq_true p19
                   replace q19 := eq_true q19
                   try go_wp2
                   have n0_ := y0.mk (Kd.R_drew HO_6.out)
                   have n1_ := y0.mk (y6 HB.out)
                   clear HO_6
                   clear HB
                   have HO_6 := n0_
                   have HB := n1_
                   clear n0_ n1_
                   refine start_ (n := 18) (S := fun w' => True) (ds := []) (fl_ 18 0) (by kernel_rfl) rfl rfl trivial (fun hHeld => ?_); refine with_tabW z4_.tab21 z4_.bits21 (fun HT_ HW_ => ?_)
                   generalize wr.drew = w28 at HO_6 HB hHeld ⊢
                   refine pure_ (i := 0) (N := some 64) (v := ?_) (a' := ?_) (fl_ 18 1) rfl rfl (y4 HT_.out (by kernel_rfl)) (fun _ _ _ h => h) (Or.inl ⟨by rfl, ?_⟩) ?_ ?_
                   rotate_left
                   ·intro w'
                    go_simp
                    with_reducible rfl
                   rotate_left
                   ·simp only [Act.put,qS_,qZ_,qC_,y14,y13]
                    rfl
                   refine pure_ (i := 1) (N := some 65) (v := ?_) (a' := ?_) (fl_ 18 3) rfl rfl (y4 HT_.out (by kernel_rfl)) (fun _ _ _ h => h) (Or.inl ⟨by rfl, ?_⟩) ?_ ?_
                   rotate_left
                   ·intro w'
                    go_simp
                    with_reducible rfl
                   rotate_left
                   ·simp only [Act.put,qS_,qZ_,qC_,y14,y13]
                    rfl
                   refine pure_ (i := 2) (N := some 66) (v := ?_) (a' := ?_) (fl_ 18 7) rfl rfl (y4 HT_.out (by kernel_rfl)) (fun _ _ _ h => h) (Or.inl ⟨by rfl, ?_⟩) ?_ ?_
                   rotate_left
                   ·intro w'
                    go_simp
                    with_reducible rfl
                   rotate_left
                   ·simp only [Act.put,qS_,qZ_,qC_,y14,y13]
                    rfl
                   refine pure_ (i := 3) (N := some 67) (v := ?_) (a' := ?_) (fl_ 18 15) rfl rfl (y4 HT_.out (by kernel_rfl)) (fun _ _ _ h => h) (Or.inl ⟨by rfl, ?_⟩) ?_ ?_
                   rotate_left
                   ·intro w'
                    go_simp
                    with_reducible rfl
                   rotate_left
                   ·simp only [Act.put,qS_,qZ_,qC_,y14,y13]
                    rfl
                   refine pure_ (i := 4) (N := some 68) (v := ?_) (a' := ?_) (fl_ 18 31) rfl rfl (y4 HT_.out (by kernel_rfl)) (fun _ _ _ h => h) (Or.inl ⟨by rfl, ?_⟩) ?_ ?_
                   rotate_left
                   ·intro w'
                    go_simp
                    with_reducible rfl
                   rotate_left
                   ·simp only [Act.put,qS_,qZ_,qC_,y14,y13]
                    rfl
                   refine pure_ (i := 5) (N := some 69) (v := ?_) (a' := ?_) (fl_ 18 63) rfl rfl (y4 HT_.out (by kernel_rfl)) (fun _ _ _ h => h) (Or.inl ⟨by rfl, ?_⟩) ?_ ?_
                   rotate_left
                   ·intro w'
                    go_simp
                    with_reducible rfl
                   rotate_left
                   ·simp only [Act.put,qS_,qZ_,qC_,y14,y13]
                    rfl
                   refine pure_ (i := 6) (N := some 70) (v := ?_) (a' := ?_) (fl_ 18 127) rfl rfl (y4 HT_.out (by kernel_rfl)) (fun _ _ _ h => h) (Or.inl ⟨by rfl, ?_⟩) ?_ ?_
                   rotate_left
                   ·intro w'
                    go_simp
                    with_reducible rfl
                   rotate_left
                   ·simp only [Act.put,qS_,qZ_,qC_,y14,y13]
                    rfl
                   refine pure_ (i := 7) (N := some 71) (v := ?_) (a' := ?_) (fl_ 18 255) rfl rfl (y4 HT_.out (by kernel_rfl)) (fun _ _ _ h => h) (Or.inl ⟨by rfl, ?_⟩) ?_ ?_
                   rotate_left
                   ·intro w'
                    go_simp
                    with_reducible rfl
                   rotate_left
                   ·simp only [Act.put,qS_,qZ_,qC_,y14,y13]
                    rfl
                   refine pure_ (i := 10) (N := some 74) (v := ?_) (a' := ?_) (fl_ 18 1279) rfl rfl (y4 HT_.out (by kernel_rfl)) (fun _ _ _ h => h) (Or.inl ⟨by rfl, ?_⟩) ?_ ?_
                   rotate_left
                   ·intro w'
                    go_simp
                    with_reducible rfl
                   rotate_left
                   ·simp only [Act.put,qS_,qZ_,qC_,y14,y13]
                    rfl
                   refine pure_ (i := 11) (N := some 75) (v := ?_) (a' := ?_) (fl_ 18 3327) rfl rfl (y4 HT_.out (by kernel_rfl)) (fun _ _ _ h => h) (Or.inl ⟨by rfl, ?_⟩) ?_ ?_
                   rotate_left
                   ·intro w'
                    go_simp
                    with_reducible rfl
                   rotate_left
                   ·simp only [Act.put,qS_,qZ_,qC_,y14,y13]
                    rfl
                   refine pure_ (i := 12) (N := some 76) (v := ?_) (a' := ?_) (fl_ 18 7423) rfl rfl (y4 HT_.out (by kernel_rfl)) (fun _ _ _ h => h) (Or.inl ⟨by rfl, ?_⟩) ?_ ?_
                   rotate_left
                   ·intro w'
                    go_simp
                    with_reducible rfl
                   rotate_left
                   ·simp only [Act.put,qS_,qZ_,qC_,y14,y13]
                    rfl
                   refine pure_ (i := 13) (N := some 77) (v := ?_) (a' := ?_) (fl_ 18 15615) rfl rfl (y4 HT_.out (by kernel_rfl)) (fun _ _ _ h => h) (Or.inl ⟨by rfl, ?_⟩) ?_ ?_
                   rotate_left
                   ·intro w'
                    go_simp
                    with_reducible rfl
                   rotate_left
                   ·simp only [Act.put,qS_,qZ_,qC_,y14,y13]
                    rfl
                   refine pure_ (i := 14) (N := some 78) (v := ?_) (a' := ?_) (fl_ 18 31999) rfl rfl (y4 HT_.out (by kernel_rfl)) (fun _ _ _ h => h) (Or.inl ⟨by rfl, ?_⟩) ?_ ?_
                   rotate_left
                   ·intro w'
                    go_simp
                    with_reducible rfl
                   rotate_left
                   ·simp only [Act.put,qS_,qZ_,qC_,y14,y13]
                    rfl
                   refine one_ (i := 8) (N := some 72) (fl_ 18 32255) rfl rfl (one_of HT_.out (by kernel_rfl)) (by decide) (fun K hK => ?_)
                   refine value_ (w1 := ?_) (v := ?_) (by rfl) rfl ?_ ?_
                   rotate_left 2
                   ·go_simp
                    constructor
                    ·rfl
                    ·rfl
                   refine hK.out _ _ trivial (fun hHeld => ?_)
                   clear hK K
                   refine norm_ (a' := ?_) ?_ ?_
                   rotate_left
                   ·show Act.put _ (some 72) _ = _
                    simp only [Act.put,qS_,qZ_,qC_,y14,y13]
                    rfl
                   refine one_ (i := 9) (N := some 73) (fl_ 18 32767) rfl rfl (one_of HT_.out (by kernel_rfl)) (by decide) (fun K hK => ?_)
                   refine Kd.R_append_step Kd.string (w0 := w) w.heap.size (by rfl) (.tmp 67) (.tmp 72) 31 9 (.string ⟨#[]⟩) 16 rfl Tryd.underlying31 info9 rfl (by decide) (by omega) u6 x6_2 (a0.extract (x9_2 : Int).toNat (x10_2 : Int).toNat) [.string (a0.extract (x9_2 : Int).toNat (x10_2 : Int).toNat)] (fun _ => True) (fun _ => False) rfl rfl ?aP (fun _ hk => hk.elim) ?aF ?aO ?aB ?aS ?aL ?_
                   (case aP => exact rfl)
                   (case aB => exact (by repeat (first | (with_reducible first | exact HB.out | apply y5 | apply y18 | apply y6) | exact HB.out)))
                   (case aF => exact (fun _ _ => trivial))
                   (case aO => exact (by (with_reducible repeat (first | apply Kd.R_alloc | apply Kd.R_drewN | apply Kd.R_drew)); exact HO_6.out))
                   (case aS => exact (below_size (by repeat (first | (with_reducible first | exact HB.out | apply y5 | apply y18 | apply y6) | exact HB.out))))
                   (case aL => have := LMc27.out; omega)
                   intro v214 w29 ho hb hg hat
                   rw [← Ny213.out] at ho
                   have n0_ := y0.mk (hb)
                   have n1_ := y0.mk (ho)
                   clear HB
                   clear HO_6
                   have HB := n0_
                   have HO215 := n1_
                   clear n0_ n1_
                   clear ho hb hg hat
                   refine hK.out _ _ trivial (fun hHeld => ?_)
                   clear hK K
                   refine norm_ (a' := ?_) ?_ ?_
                   rotate_left
                   ·show Act.put _ (some 73) _ = _
                    simp only [Act.put,qS_,qZ_,qC_,y14,y13]
                    rfl
                   refine pure_ (i := 15) (N := some 2) (v := ?_) (a' := ?_) (fl_ 18 65535) rfl rfl (y4 HT_.out (by kernel_rfl)) (fun _ _ _ h => h) (Or.inl ⟨by rfl, ?_⟩) ?_ ?_
                   rotate_left
                   ·intro w'
                    go_simp
                    with_reducible rfl
                   rotate_left
                   ·simp only [Act.put,qS_,qZ_,qC_,y14,y13]
                    rfl
                   refine pure_ (i := 16) (N := some 3) (v := ?_) (a' := ?_) (fl_ 18 131071) rfl rfl (y4 HT_.out (by kernel_rfl)) (fun _ _ _ h => h) (Or.inl ⟨by rfl, ?_⟩) ?_ ?_
                   rotate_left
                   ·intro w'
                    go_simp
                    with_reducible rfl
                   rotate_left
                   ·simp only [Act.put,qS_,qZ_,qC_,y14,y13]
                    rfl
                   refine pure_ (i := 17) (N := some 4) (v := ?_) (a' := ?_) (fl_ 18 262143) rfl rfl (y4 HT_.out (by kernel_rfl)) (fun _ _ _ h => h) (Or.inl ⟨by rfl, ?_⟩) ?_ ?_
                   rotate_left
                   ·intro w'
                    go_simp
                    with_reducible rfl
                   rotate_left
                   ·simp only [Act.put,qS_,qZ_,qC_,y14,y13]
                    rfl
                   refine done_ (done_of HT_.out (by kernel_rfl)) ?_
                   try go_wp2
                   go_ret3
                   exact ⟨_,by first | rfl | (simp [y9,y10] <;> rfl) | (simp [*,y9,y10] <;> rfl),by (with_reducible repeat (first | apply Kd.R_alloc | apply Kd.R_drewN | apply Kd.R_drew)); exact HO215.out,by repeat (first | (with_reducible first | exact HB.out | apply y5 | apply y18 | apply y6) | exact HB.out)⟩
                  ·rw [if_neg c27] at H
                   exact absurd H (by simp)
                 ·rw [if_neg c26] at H
                  exact absurd H (by simp)
                ·rw [if_neg c25] at H
                 exact absurd H (by simp)
               ·rw [if_neg c24] at H
                exact absurd H (by simp)
              ·rw [if_neg c23] at H
               exact absurd H (by simp)
             ·rw [if_neg c22] at H
              exact absurd H (by simp)
            ·rw [if_neg c21] at H
             have c21b0 : ((wrap64 (x7_2 - 1)) == 0) = false := beq_eq_false_iff_ne.mpr c21
             have c21b1 : ((wrap64 (x7_2 - 1)) != 0) = true := bne_iff_ne.mpr c21
             have H' := y0.mk H
             clear H
             have p14 : 0 ≤ (x10_2 : Int) := of_decide_eq_true (by first | (with_reducible assumption) | assumption)
             have q14 : x10_2 < (a0.size : Int) := of_decide_eq_true (by first | (with_reducible assumption) | assumption)
             have hx14 := bt_at a0 x10_2
             replace p14 := eq_true p14
             replace q14 := eq_true q14
             have p17 : 0 ≤ (x10_2 : Int) := of_decide_eq_true (by first | (with_reducible assumption) | assumption)
             have q17 : x10_2 < (a0.size : Int) := of_decide_eq_true (by first | (with_reducible assumption) | assumption)
             have hx17 := bt_at a0 x10_2
             replace p17 := eq_true p17
             replace q17 := eq_true q17
             have p19 : 0 ≤ (x10_2 : Int) := of_decide_eq_true (by first | (with_reducible assumption) | assumption)
             have q19 : x10_2 < (a0.size : Int) := of_decide_eq_true (by first | (with_reducible assumption) | assumption)
             have hx19 := bt_at a0 x10_2
             replace p19 := eq_true p19
             replace q19 := eq_true q19
             go_wp2
             go_roundg k2
             case measure => have := HJ1.out; have := HK2.out; omega
             case rel => exact ⟨(x6_2),(wrap64 (x7_2 - 1)),(false),(x9_2),(wrap64 (x10_2 + 1)),(by first | rfl | (simp; done) | (simp [*]; done)),(by first | rfl | (simp; done) | (simp [*]; done)),(by first | rfl | (simp; done) | (simp [*]; done)),(by first | rfl | (simp; done) | (simp [*]; done)),H',⟨by have := HJ1.out; have := HK2.out; omega⟩,⟨by (with_reducible repeat (first | apply Kd.R_alloc | apply Kd.R_drewN | apply Kd.R_drew)); exact HO_6.out⟩,⟨by repeat (first | (with_reducible first | exact HB.out | apply y5 | apply y18 | apply y6) | exact HB.out)⟩⟩
           ·rw [if_neg c20] at H
            have c20b0 : ((bt a0 x10_2) == 41) = false := beq_eq_false_iff_ne.mpr c20
            have c20b1 : ((bt a0 x10_2) != 41) = true := bne_iff_ne.mpr c20
            by_cases c31 : (bt a0 x10_2) = 44
            ·rw [if_pos c31] at H
             have c31b0 : ((bt a0 x10_2) == 44) = true := beq_iff_eq.mpr c31
             have c31b1 : ((bt a0 x10_2) != 44) = false := bne_eq_false_iff_eq.mpr c31
             clear c31
             by_cases c32 : x7_2 = 1
             ·rw [if_pos c32] at H
              have c32b0 : (x7_2 == 1) = true := beq_iff_eq.mpr c32
              have c32b1 : (x7_2 != 1) = false := bne_eq_false_iff_eq.mpr c32
              clear c32
              by_cases c33 : 0 ≤ x9_2
              ·rw [if_pos c33] at H
               have c33b0 := eq_true c33
               have c33b1 : decide (0 ≤ x9_2) = true := decide_eq_true c33
               clear c33
               by_cases c34 : x9_2 ≤ x10_2
               ·rw [if_pos c34] at H
                have c34b0 := eq_true c34
                have c34b1 : decide (x9_2 ≤ x10_2) = true := decide_eq_true c34
                clear c34
                by_cases c35 : x10_2 ≤ (a0.size : Int)
                ·rw [if_pos c35] at H
                 have c35b0 := eq_true c35
                 have c35b1 : decide (x10_2 ≤ (a0.size : Int)) = true := decide_eq_true c35
                 clear c35
                 by_cases c36 : x6_2.length < 8796093022208
                 ·rw [if_pos c36] at H
                  have LMc36 := y0.mk c36
                  clear c36
                  obtain ⟨y216,hy216⟩ : ∃ y_ : List ByteArray,y_ = (x6_2 ++ [a0.extract (x9_2 : Int).toNat (x10_2 : Int).toNat]) := ⟨_,rfl⟩
                  replace H : (z4_.l1 k2 a0 x5_1 y216 x7_2 false (wrap64 (x10_2 + 1)) (wrap64 (x10_2 + 1))) = some (r1,r2,r3) := by first | (rw [hy216]; with_reducible exact H) | (have H2_ := (Option.bind_some _ _).symm.trans H; rw [hy216]; with_reducible exact H2_) | (have H2_ := (Option.bind_some _ _).symm.trans H; with_reducible exact H2_) | with_reducible exact H | (rw [hy216]; exact H) | exact H
                  have Ny216 := y0.mk hy216
                  clear hy216
                  have H' := y0.mk H
                  clear H
                  have p14 : 0 ≤ (x10_2 : Int) := of_decide_eq_true (by first | (with_reducible assumption) | assumption)
                  have q14 : x10_2 < (a0.size : Int) := of_decide_eq_true (by first | (with_reducible assumption) | assumption)
                  have hx14 := bt_at a0 x10_2
                  replace p14 := eq_true p14
                  replace q14 := eq_true q14
                  have p17 : 0 ≤ (x10_2 : Int) := of_decide_eq_true (by first | (with_reducible assumption) | assumption)
                  have q17 : x10_2 < (a0.size : Int) := of_decide_eq_true (by first | (with_reducible assumption) | assumption)
                  have hx17 := bt_at a0 x10_2
                  replace p17 := eq_true p17
                  replace q17 := eq_true q17
                  have p19 : 0 ≤ (x10_2 : Int) := of_decide_eq_true (by first | (with_reducible assumption) | assumption)
                  have q19 : x10_2 < (a0.size : Int) := of_decide_eq_true (by first | (with_reducible assumption) | assumption)
                  have hx19 := bt_at a0 x10_2
                  replace p19 := eq_true p19
                  replace q19 := eq_true q19
                  have p30 : 0 ≤ (x10_2 : Int) := of_decide_eq_true (by first | (with_reducible assumption) | assumption)
                  have q30 : x10_2 < (a0.size : Int) := of_decide_eq_true (by first | (with_reducible assumption) | assumption)
                  have hx30 := bt_at a0 x10_2
                  replace p30 := eq_true p30
                  replace q30 := eq_true q30
                  go_wp2_with (first | ((with_reducible refine gate_builtin (b := .append) (xs := #[.tmp 88,.tmp 93]) rfl ?_); at_builtin; refine Kd.R_append Kd.string (w0 := w) w.heap.size rfl (.tmp 88) (.tmp 93) 31 9 (.string ⟨#[]⟩) 16 rfl Tryd.underlying31 info9 rfl (by decide) (by omega) u6 x6_2 (a0.extract (x9_2 : Int).toNat (x10_2 : Int).toNat) [.string (a0.extract (x9_2 : Int).toNat (x10_2 : Int).toNat)] (fun _ => True) (fun _ => False) rfl rfl ?aP (fun _ hk => hk.elim) ?aF ?aO ?aB ?aS ?aL ?_; (case aP => exact rfl); (case aB => exact (by repeat (first | (with_reducible first | exact HB.out | apply y5 | apply y18 | apply y6) | exact HB.out))); (case aF => exact (fun _ _ => trivial)); (case aO => exact (by (with_reducible repeat (first | apply Kd.R_alloc | apply Kd.R_drewN | apply Kd.R_drew)); exact HO_6.out)); (case aS => exact (below_size (by repeat (first | (with_reducible first | exact HB.out | apply y5 | apply y18 | apply y6) | exact HB.out)))); (case aL => have := LMc36.out; omega); intro v217 w37 ho hb hg hat; rw [← Ny216.out] at ho; have n0_ := y0.mk (hb); have n1_ := y0.mk (ho); clear HB; clear HO_6; have HB := n0_; have HO218 := n1_; clear n0_ n1_; clear ho hb hg hat))
                  go_roundg k2
                  case measure => have := HJ1.out; have := HK2.out; omega
                  case rel => exact ⟨(y216),(x7_2),(false),(wrap64 (x10_2 + 1)),(wrap64 (x10_2 + 1)),(by first | rfl | (simp; done) | (simp [*]; done)),(by first | rfl | (simp; done) | (simp [*]; done)),(by first | rfl | (simp; done) | (simp [*]; done)),(by first | rfl | (simp; done) | (simp [*]; done)),H',⟨by have := HJ1.out; have := HK2.out; omega⟩,⟨by (with_reducible repeat (first | apply Kd.R_alloc | apply Kd.R_drewN | apply Kd.R_drew)); exact HO218.out⟩,⟨by repeat (first | (with_reducible first | exact HB.out | apply y5 | apply y18 | apply y6) | exact HB.out)⟩⟩
                 ·rw [if_neg c36] at H
                  exact absurd H (by simp)
                ·rw [if_neg c35] at H
                 exact absurd H (by simp)
               ·rw [if_neg c34] at H
                exact absurd H (by simp)
              ·rw [if_neg c33] at H
               exact absurd H (by simp)
             ·rw [if_neg c32] at H
              have c32b0 : (x7_2 == 1) = false := beq_eq_false_iff_ne.mpr c32
              have c32b1 : (x7_2 != 1) = true := bne_iff_ne.mpr c32
              have H' := y0.mk H
              clear H
              have p14 : 0 ≤ (x10_2 : Int) := of_decide_eq_true (by first | (with_reducible assumption) | assumption)
              have q14 : x10_2 < (a0.size : Int) := of_decide_eq_true (by first | (with_reducible assumption) | assumption)
              have hx14 := bt_at a0 x10_2
              replace p14 := eq_true p14
              replace q14 := eq_true q14
              have p17 : 0 ≤ (x10_2 : Int) := of_decide_eq_true (by first | (with_reducible assumption) | assumption)
              have q17 : x10_2 < (a0.size : Int) := of_decide_eq_true (by first | (with_reducible assumption) | assumption)
              have hx17 := bt_at a0 x10_2
              replace p17 := eq_true p17
              replace q17 := eq_true q17
              have p19 : 0 ≤ (x10_2 : Int) := of_decide_eq_true (by first | (with_reducible assumption) | assumption)
              have q19 : x10_2 < (a0.size : Int) := of_decide_eq_true (by first | (with_reducible assumption) | assumption)
              have hx19 := bt_at a0 x10_2
              replace p19 := eq_true p19
              replace q19 := eq_true q19
              have p30 : 0 ≤ (x10_2 : Int) := of_decide_eq_true (by first | (with_reducible assumption) | assumption)
              have q30 : x10_2 < (a0.size : Int) := of_decide_eq_true (by first | (with_reducible assumption) | assumption)
              have hx30 := bt_at a0 x10_2
              replace p30 := eq_true p30
              replace q30 := eq_true q30
              go_wp2
              go_roundg k2
              case measure => have := HJ1.out; have := HK2.out; omega
              case rel => exact ⟨(x6_2),(x7_2),(false),(x9_2),(wrap64 (x10_2 + 1)),(by first | rfl | (simp; done) | (simp [*]; done)),(by first | rfl | (simp; done) | (simp [*]; done)),(by first | rfl | (simp; done) | (simp [*]; done)),(by first | rfl | (simp; done) | (simp [*]; done)),H',⟨by have := HJ1.out; have := HK2.out; omega⟩,⟨by (with_reducible repeat (first | apply Kd.R_alloc | apply Kd.R_drewN | apply Kd.R_drew)); exact HO_6.out⟩,⟨by repeat (first | (with_reducible first | exact HB.out | apply y5 | apply y18 | apply y6) | exact HB.out)⟩⟩
            ·rw [if_neg c31] at H
             have c31b0 : ((bt a0 x10_2) == 44) = false := beq_eq_false_iff_ne.mpr c31
             have c31b1 : ((bt a0 x10_2) != 44) = true := bne_iff_ne.mpr c31
             have H' := y0.mk H
             clear H
             have p14 : 0 ≤ (x10_2 : Int) := of_decide_eq_true (by first | (with_reducible assumption) | assumption)
             have q14 : x10_2 < (a0.size : Int) := of_decide_eq_true (by first | (with_reducible assumption) | assumption)
             have hx14 := bt_at a0 x10_2
             replace p14 := eq_true p14
             replace q14 := eq_true q14
             have p17 : 0 ≤ (x10_2 : Int) := of_decide_eq_true (by first | (with_reducible assumption) | assumption)
             have q17 : x10_2 < (a0.size : Int) := of_decide_eq_true (by first | (with_reducible assumption) | assumption)
             have hx17 := bt_at a0 x10_2
             replace p17 := eq_true p17
             replace q17 := eq_true q17
             have p19 : 0 ≤ (x10_2 : Int) := of_decide_eq_true (by first | (with_reducible assumption) | assumption)
             have q19 : x10_2 < (a0.size : Int) := of_decide_eq_true (by first | (with_reducible assumption) | assumption)
             have hx19 := bt_at a0 x10_2
             replace p19 := eq_true p19
             replace q19 := eq_true q19
             have p30 : 0 ≤ (x10_2 : Int) := of_decide_eq_true (by first | (with_reducible assumption) | assumption)
             have q30 : x10_2 < (a0.size : Int) := of_decide_eq_true (by first | (with_reducible assumption) | assumption)
             have hx30 := bt_at a0 x10_2
             replace p30 := eq_true p30
             replace q30 := eq_true q30
             go_wp2
             go_roundg k2
             case measure => have := HJ1.out; have := HK2.out; omega
             case rel => exact ⟨(x6_2),(x7_2),(false),(x9_2),(wrap64 (x10_2 + 1)),(by first | rfl | (simp; done) | (simp [*]; done)),(by first | rfl | (simp; done) | (simp [*]; done)),(by first | rfl | (simp; done) | (simp [*]; done)),(by first | rfl | (simp; done) | (simp [*]; done)),H',⟨by have := HJ1.out; have := HK2.out; omega⟩,⟨by (with_reducible repeat (first | apply Kd.R_alloc | apply Kd.R_drewN | apply Kd.R_drew)); exact HO_6.out⟩,⟨by repeat (first | (with_reducible first | exact HB.out | apply y5 | apply y18 | apply y6) | exact HB.out)⟩⟩
       ·rw [if_neg c13] at H
        exact absurd H (by simp)
      ·rw [if_neg c12] at H
       have c12b0 : decide (x10_2 < (a0.size : Int)) = false := decide_eq_false c12
       clear c12
       obtain ⟨y210,hy210⟩ : ∃ y_ : List ByteArray,y_ = (([] : List ByteArray)) := ⟨_,rfl⟩
       replace H : (some ((⟨#[]⟩ : ByteArray),y210,false)) = some (r1,r2,r3) := by first | (rw [hy210]; with_reducible exact H) | (have H2_ := (Option.bind_some _ _).symm.trans H; rw [hy210]; with_reducible exact H2_) | (have H2_ := (Option.bind_some _ _).symm.trans H; with_reducible exact H2_) | with_reducible exact H | (rw [hy210]; exact H) | exact H
       have Ny210 := y0.mk hy210
       clear hy210
       simp only [Option.some.injEq,Prod.mk.injEq] at H
       obtain ⟨rfl,rfl,rfl⟩ := H
       go_wp2_with (first | ((with_reducible refine gate_dst (N := 97) rfl ?_); refine Kd.R_lit Kd.string _ 9 ?hg (N := 97) ?hd (xs := ([] : List ByteArray)) (inner := []) (ok := fun _ => True) (okp := fun _ => True) ?hr ?hp (fun _ hk => hk) trivial (Below.refl _ _) (Nat.le_refl _) (by simp) ?_; (case hd => rfl); (case hg => rfl); (case hr => first | (go_simp; done) | (go_simp; rfl)); (case hp => exact (Reps.none _ _)); intro v211 w38 ho39 hb hg_ hnew_; clear hg_ hnew_; (first | rw [← Ny210.out] at ho39 | (simp only [Int.reduceToNat] at ho39; rw [← Ny210.out] at ho39)); have n0_ := y0.mk (Kd.R_elder' (by (with_reducible repeat (first | apply Kd.R_alloc | apply Kd.R_drewN | apply Kd.R_drew)); exact HO_6.out) (Kd.R_base ho39) hb); have n1_ := y0.mk (Kd.R_lower (Kd.R_new' ho39 (Kd.R_lt (by (with_reducible repeat (first | apply Kd.R_alloc | apply Kd.R_drewN | apply Kd.R_drew)); exact HO_6.out))) (below_size (by repeat (first | (with_reducible first | exact HB.out | apply y5 | apply y18 | apply y6) | exact HB.out)))); have n2_ := y0.mk (y8 (by repeat (first | (with_reducible first | exact HB.out | apply y5 | apply y18 | apply y6) | exact HB.out)) hb); clear HO_6; clear HB; have HO_6 := n0_; have HO212 := n1_; have HB := n2_; clear n0_ n1_ n2_; clear hb ho39))
       go_ret3
       exact ⟨_,by first | rfl | (simp [y9,y10] <;> rfl) | (simp [*,y9,y10] <;> rfl),by (with_reducible repeat (first | apply Kd.R_alloc | apply Kd.R_drewN | apply Kd.R_drew)); exact Kd.R_mono HO212.out (fun _ hk => trivial),by repeat (first | (with_reducible first | exact HB.out | apply y5 | apply y18 | apply y6) | exact HB.out)⟩
end Go.Proofs.YtebadckdihgklaaDoor.Pb
end
section
namespace Go.Proofs.YtebadckdihgklaaDoor.Pb
open Go.RowKit Go.Proofs.YtebadckdihgklaaDoorW.PrintWords Go.Proofs.YtebadckdihgklaaDoorW.PrintLast Go.Proofs.YtebadckdihgklaaDoorW.PrintMore
attribute [local go_sem] max2_int min2_int max_two min_two max_three min_three max_four min_four   -- for this text's walks alone
set_option linter.unusedVariables false
set_option linter.unusedSimpArgs false
def spec_l01Small.f (a0 : Int) : Option (Bool) := if a0 ≥ 97 then (some (decide (a0 ≤ 122))) else (some false)
set_option maxHeartbeats 8000000 in
set_option maxRecDepth 100000 in
theorem spec_l01Small.calls (a0 : Int) (r : Bool) (w : World) (h : spec_l01Small.f a0 = some r) :
  Calls Tryd.prog 85 #[.int .u8 a0] w fun e w' => e = .returned (.bool r) ∧ y1 w w' := by
 have H : (if a0 ≥ 97 then (some (decide (a0 ≤ 122))) else (some false)) = some r := h
 clear h
 by_cases c2 : a0 ≥ 97
 ·rw [if_pos c2] at H
  have c2b0 : decide (97 ≤ a0) = true := decide_eq_true c2
  clear c2
  obtain rfl := Option.some.inj H
  go_enter Tryd.func85,Tryd.ntmps85
  go_wp2
  go_ret
  exact ⟨by first | rfl | (simp; done) | (simp [*]; done),by repeat (first | exact y1.refl _ | apply y1.step)⟩
 ·rw [if_neg c2] at H
  have c2b0 : decide (97 ≤ a0) = false := decide_eq_false c2
  clear c2
  obtain rfl := Option.some.inj H
  go_enter Tryd.func85,Tryd.ntmps85
  go_wp2
  go_ret
  exact ⟨by first | rfl | (simp; done) | (simp [*]; done),by repeat (first | exact y1.refl _ | apply y1.step)⟩
def spec_l01Big.f (a0 : Int) : Option (Bool) := if a0 ≥ 65 then (some (decide (a0 ≤ 90))) else (some false)
set_option maxHeartbeats 8000000 in
set_option maxRecDepth 100000 in
theorem spec_l01Big.calls (a0 : Int) (r : Bool) (w : World) (h : spec_l01Big.f a0 = some r) :
  Calls Tryd.prog 86 #[.int .u8 a0] w fun e w' => e = .returned (.bool r) ∧ y1 w w' := by
 have H : (if a0 ≥ 65 then (some (decide (a0 ≤ 90))) else (some false)) = some r := h
 clear h
 by_cases c2 : a0 ≥ 65
 ·rw [if_pos c2] at H
  have c2b0 : decide (65 ≤ a0) = true := decide_eq_true c2
  clear c2
  obtain rfl := Option.some.inj H
  go_enter Tryd.func86,Tryd.ntmps86
  go_wp2
  go_ret
  exact ⟨by first | rfl | (simp; done) | (simp [*]; done),by repeat (first | exact y1.refl _ | apply y1.step)⟩
 ·rw [if_neg c2] at H
  have c2b0 : decide (65 ≤ a0) = false := decide_eq_false c2
  clear c2
  obtain rfl := Option.some.inj H
  go_enter Tryd.func86,Tryd.ntmps86
  go_wp2
  go_ret
  exact ⟨by first | rfl | (simp; done) | (simp [*]; done),by repeat (first | exact y1.refl _ | apply y1.step)⟩
def spec_l01Letter.f (a0 : Int) : Option (Bool) := (spec_l01Small.f a0).bind fun t219 => (if t219 = true then (some true) else ((spec_l01Big.f a0).bind fun t220 => (if t220 = true then (some true) else ((spec_l01Digit.f a0).bind fun t221 => (if t221 = true then (some true) else (some (a0 == 95)))))))
set_option maxHeartbeats 8000000 in
set_option maxRecDepth 100000 in
theorem spec_l01Letter.calls (a0 : Int) (r : Bool) (w : World) (h : spec_l01Letter.f a0 = some r) :
  Calls Tryd.prog 87 #[.int .u8 a0] w fun e w' => e = .returned (.bool r) ∧ y1 w w' := by
 have H : ((spec_l01Small.f a0).bind fun t219 => (if t219 = true then (some true) else ((spec_l01Big.f a0).bind fun t220 => (if t220 = true then (some true) else ((spec_l01Digit.f a0).bind fun t221 => (if t221 = true then (some true) else (some (a0 == 95)))))))) = some r := h
 clear h
 replace H := Option.bind_eq_some_iff.mp H
 obtain ⟨t219,A20,H⟩ := H
 replace H : (if t219 = true then (some true) else ((spec_l01Big.f a0).bind fun t220 => (if t220 = true then (some true) else ((spec_l01Digit.f a0).bind fun t221 => (if t221 = true then (some true) else (some (a0 == 95))))))) = some r := H
 have A2 := y0.mk A20
 clear A20
 by_cases c3 : t219 = true
 ·subst c3
  have H1 : (some true) = some r := by rw [if_pos rfl] at H; exact H
  clear H
  have H := H1
  clear H1
  obtain rfl := Option.some.inj H
  go_enter Tryd.func87,Tryd.ntmps87
  go_wp2_with (first | ((with_reducible refine y11 (f := 85) rfl ?_); refine y12 (some 4) rfl rfl Tryd.func85 (by kernel_rfl) rfl #[.int .u8 a0] rfl (by (try simp only [qM_,List.map_cons,List.map_nil]); first | done | rfl | (simp only [qD_,qT_]; rfl)) ?_; (with_reducible refine (spec_l01Small.calls a0 true _ A2.out).mono ?_); rintro e w' ⟨rfl,⟨nd,rfl⟩⟩; refine ⟨_,rfl, ?_⟩))
  go_ret
  exact ⟨by first | rfl | (simp; done) | (simp [*]; done),by repeat (first | exact y1.refl _ | apply y1.step)⟩
 ·replace c3 := Bool.eq_false_iff.mpr c3
  subst c3
  have H1 : ((spec_l01Big.f a0).bind fun t220 => (if t220 = true then (some true) else ((spec_l01Digit.f a0).bind fun t221 => (if t221 = true then (some true) else (some (a0 == 95)))))) = some r := by rw [if_neg (show ¬ (false = true) by decide)] at H; exact H
  clear H
  have H := H1
  clear H1
  replace H := Option.bind_eq_some_iff.mp H
  obtain ⟨t220,A40,H⟩ := H
  replace H : (if t220 = true then (some true) else ((spec_l01Digit.f a0).bind fun t221 => (if t221 = true then (some true) else (some (a0 == 95))))) = some r := H
  have A4 := y0.mk A40
  clear A40
  by_cases c5 : t220 = true
  ·subst c5
   have H1 : (some true) = some r := by rw [if_pos rfl] at H; exact H
   clear H
   have H := H1
   clear H1
   obtain rfl := Option.some.inj H
   go_enter Tryd.func87,Tryd.ntmps87
   go_wp2_with (first | ((with_reducible refine y11 (f := 85) rfl ?_); refine y12 (some 4) rfl rfl Tryd.func85 (by kernel_rfl) rfl #[.int .u8 a0] rfl (by (try simp only [qM_,List.map_cons,List.map_nil]); first | done | rfl | (simp only [qD_,qT_]; rfl)) ?_; (with_reducible refine (spec_l01Small.calls a0 false _ A2.out).mono ?_); rintro e w' ⟨rfl,⟨nd,rfl⟩⟩; refine ⟨_,rfl, ?_⟩) | (go_at_call 86; (with_reducible refine (spec_l01Big.calls a0 true _ A4.out).mono ?_); rintro e w' ⟨rfl,⟨nd,rfl⟩⟩))
   go_ret
   exact ⟨by first | rfl | (simp; done) | (simp [*]; done),by repeat (first | exact y1.refl _ | apply y1.step)⟩
  ·replace c5 := Bool.eq_false_iff.mpr c5
   subst c5
   have H1 : ((spec_l01Digit.f a0).bind fun t221 => (if t221 = true then (some true) else (some (a0 == 95)))) = some r := by rw [if_neg (show ¬ (false = true) by decide)] at H; exact H
   clear H
   have H := H1
   clear H1
   replace H := Option.bind_eq_some_iff.mp H
   obtain ⟨t221,A60,H⟩ := H
   replace H : (if t221 = true then (some true) else (some (a0 == 95))) = some r := H
   have A6 := y0.mk A60
   clear A60
   by_cases c7 : t221 = true
   ·subst c7
    have H1 : (some true) = some r := by rw [if_pos rfl] at H; exact H
    clear H
    have H := H1
    clear H1
    obtain rfl := Option.some.inj H
    go_enter Tryd.func87,Tryd.ntmps87
    go_wp2_with (first | ((with_reducible refine y11 (f := 85) rfl ?_); refine y12 (some 4) rfl rfl Tryd.func85 (by kernel_rfl) rfl #[.int .u8 a0] rfl (by (try simp only [qM_,List.map_cons,List.map_nil]); first | done | rfl | (simp only [qD_,qT_]; rfl)) ?_; (with_reducible refine (spec_l01Small.calls a0 false _ A2.out).mono ?_); rintro e w' ⟨rfl,⟨nd,rfl⟩⟩; refine ⟨_,rfl, ?_⟩) | (go_at_call 86; (with_reducible refine (spec_l01Big.calls a0 false _ A4.out).mono ?_); rintro e w' ⟨rfl,⟨nd,rfl⟩⟩) | (go_at_call 88; (with_reducible refine (spec_l01Digit.calls a0 true _ A6.out).mono ?_); rintro e w' ⟨rfl,⟨nd,rfl⟩⟩))
    go_ret
    exact ⟨by first | rfl | (simp; done) | (simp [*]; done),by repeat (first | exact y1.refl _ | apply y1.step)⟩
   ·replace c7 := Bool.eq_false_iff.mpr c7
    subst c7
    have H1 : (some (a0 == 95)) = some r := by rw [if_neg (show ¬ (false = true) by decide)] at H; exact H
    clear H
    have H := H1
    clear H1
    obtain rfl := Option.some.inj H
    go_enter Tryd.func87,Tryd.ntmps87
    go_wp2_with (first | ((with_reducible refine y11 (f := 85) rfl ?_); refine y12 (some 4) rfl rfl Tryd.func85 (by kernel_rfl) rfl #[.int .u8 a0] rfl (by (try simp only [qM_,List.map_cons,List.map_nil]); first | done | rfl | (simp only [qD_,qT_]; rfl)) ?_; (with_reducible refine (spec_l01Small.calls a0 false _ A2.out).mono ?_); rintro e w' ⟨rfl,⟨nd,rfl⟩⟩; refine ⟨_,rfl, ?_⟩) | (go_at_call 86; (with_reducible refine (spec_l01Big.calls a0 false _ A4.out).mono ?_); rintro e w' ⟨rfl,⟨nd,rfl⟩⟩) | (go_at_call 88; (with_reducible refine (spec_l01Digit.calls a0 false _ A6.out).mono ?_); rintro e w' ⟨rfl,⟨nd,rfl⟩⟩))
    go_ret
    exact ⟨by first | rfl | (simp; done) | (simp [*]; done),by repeat (first | exact y1.refl _ | apply y1.step)⟩
mutual
def z8_.j0 : Nat → ByteArray → Bool → Option (Bool)
 | 0,_,_ => none
 | k + 1,x0,x28 => if x28 = true then (some false) else (z8_.l0 k x0 0)
def z8_.l0 : Nat → ByteArray → Int → Option (Bool)
 | 0,_,_ => none
 | k + 1,x0,x5 => if x5 < (x0.size : Int) then (if 0 ≤ x5 then ((spec_l01Letter.f (bt x0 x5)).bind fun t225 => (if t225 = true then (z8_.l0 k x0 (wrap64 (x5 + 1))) else (some false))) else (none)) else (some true)
end
def z8_.f (k : Nat) (a0 : ByteArray) (a1 : Bool) : Option (Bool) := (spec_l01Between.f (a0.size : Int) 1 20).bind fun t222 => (if t222 = true then (if a1 = true then (if 0 < (a0.size : Int) then ((spec_l01Big.f (bt a0 0)).bind fun t223 => (if t223 = true then (z8_.j0 k a0 false) else (z8_.j0 k a0 true))) else (none)) else (if 0 < (a0.size : Int) then ((spec_l01Small.f (bt a0 0)).bind fun t224 => (z8_.j0 k a0 (!t224))) else (none))) else (z8_.j0 k a0 true))
set_option maxHeartbeats 8000000 in
set_option maxRecDepth 100000 in
theorem z8_.calls (k : Nat) (a0 : ByteArray) (a1 : Bool) (r : Bool) (w : World) (h : z8_.f k a0 a1 = some r) :
  Calls Tryd.prog 75 #[.string a0,.bool a1] w fun e w' => e = .returned (.bool r) ∧ y1 w w' := by
 have H : ((spec_l01Between.f (a0.size : Int) 1 20).bind fun t222 => (if t222 = true then (if a1 = true then (if 0 < (a0.size : Int) then ((spec_l01Big.f (bt a0 0)).bind fun t223 => (if t223 = true then (z8_.j0 k a0 false) else (z8_.j0 k a0 true))) else (none)) else (if 0 < (a0.size : Int) then ((spec_l01Small.f (bt a0 0)).bind fun t224 => (z8_.j0 k a0 (!t224))) else (none))) else (z8_.j0 k a0 true))) = some r := h
 clear h
 have HC3 := y0.mk H
 clear H
 go_enter Tryd.func75,Tryd.ntmps75
 go_upto_region 1 with (fail)
 go_cut [28] (fun v28 wc => ∃ (kq : Nat) (x28_2 : Bool),v28 = .bool x28_2 ∧ y0 (z8_.j0 kq a0 x28_2 = some r) ∧ y0 (kq ≤ k) ∧ y1 w wc)
 case first =>
  have H := HC3.out
  clear HC3
  replace H := Option.bind_eq_some_iff.mp H
  obtain ⟨t222,A40,H⟩ := H
  replace H : (if t222 = true then (if a1 = true then (if 0 < (a0.size : Int) then ((spec_l01Big.f (bt a0 0)).bind fun t223 => (if t223 = true then (z8_.j0 k a0 false) else (z8_.j0 k a0 true))) else (none)) else (if 0 < (a0.size : Int) then ((spec_l01Small.f (bt a0 0)).bind fun t224 => (z8_.j0 k a0 (!t224))) else (none))) else (z8_.j0 k a0 true)) = some r := H
  have A4 := y0.mk A40
  clear A40
  by_cases c5 : t222 = true
  ·subst c5
   have H1 : (if a1 = true then (if 0 < (a0.size : Int) then ((spec_l01Big.f (bt a0 0)).bind fun t223 => (if t223 = true then (z8_.j0 k a0 false) else (z8_.j0 k a0 true))) else (none)) else (if 0 < (a0.size : Int) then ((spec_l01Small.f (bt a0 0)).bind fun t224 => (z8_.j0 k a0 (!t224))) else (none))) = some r := by rw [if_pos rfl] at H; exact H
   clear H
   have H := H1
   clear H1
   by_cases c6 : a1 = true
   ·subst c6
    have H1 : (if 0 < (a0.size : Int) then ((spec_l01Big.f (bt a0 0)).bind fun t223 => (if t223 = true then (z8_.j0 k a0 false) else (z8_.j0 k a0 true))) else (none)) = some r := by rw [if_pos rfl] at H; exact H
    clear H
    have H := H1
    clear H1
    by_cases c7 : 0 < (a0.size : Int)
    ·rw [if_pos c7] at H
     have c7b0 : decide (0 < (a0.size : Int)) = true := decide_eq_true c7
     have c7b1 : decide (0 < a0.size) = true := decide_eq_true (by omega)
     clear c7
     (first | rw [c7b0] | (simp only [y14,y13]; rw [c7b0]) | skip)
     replace H := Option.bind_eq_some_iff.mp H
     obtain ⟨t223,A90,H⟩ := H
     replace H : (if t223 = true then (z8_.j0 k a0 false) else (z8_.j0 k a0 true)) = some r := H
     have A9 := y0.mk A90
     clear A90
     by_cases c10 : t223 = true
     ·subst c10
      have H1 : (z8_.j0 k a0 false) = some r := by rw [if_pos rfl] at H; exact H
      clear H
      have H := H1
      clear H1
      have H' := y0.mk H
      clear H
      go_wp2_with (first | ((with_reducible refine y11 (f := 66) rfl ?_); refine y12 (some 8) rfl rfl Tryd.func66 (by kernel_rfl) rfl #[.int .i64 (a0.size : Int),.int .i64 1,.int .i64 20] rfl (by (try simp only [qM_,List.map_cons,List.map_nil]); first | done | rfl | (simp only [qD_,qT_]; rfl)) ?_; (with_reducible refine (spec_l01Between.calls (a0.size : Int) 1 20 true _ A4.out).mono ?_); rintro e w' ⟨rfl,⟨nd,rfl⟩⟩; refine ⟨_,rfl, ?_⟩; have p8 : 0 ≤ (0 : Int) := (by omega); have q8 : 0 < a0.size := (by have : (0 : Int) < (a0.size : Int) := of_decide_eq_true (by first | (with_reducible assumption) | assumption); omega); have hx8 : ∀ h : 0 < a0.size,((a0[0]'h).toNat : Int) = bt a0 0 := bt_at a0 0; clear p8; have qi8 : (0 < (a0.size : Int)) = True := eq_true (of_decide_eq_true (by first | (with_reducible assumption) | assumption)); replace q8 := eq_true q8) | (go_at_call 86; (with_reducible refine (spec_l01Big.calls (bt a0 0) true _ A9.out).mono ?_); rintro e w' ⟨rfl,⟨nd,rfl⟩⟩))
      go_meet
      case rel => exact ⟨_,(false),(by first | rfl | (simp; done) | (simp [*]; done)),H',⟨by first | omega | exact Nat.le_refl _⟩,by repeat (first | exact y1.refl _ | apply y1.step)⟩
     ·replace c10 := Bool.eq_false_iff.mpr c10
      subst c10
      have H1 : (z8_.j0 k a0 true) = some r := by rw [if_neg (show ¬ (false = true) by decide)] at H; exact H
      clear H
      have H := H1
      clear H1
      have H' := y0.mk H
      clear H
      go_wp2_with (first | ((with_reducible refine y11 (f := 66) rfl ?_); refine y12 (some 8) rfl rfl Tryd.func66 (by kernel_rfl) rfl #[.int .i64 (a0.size : Int),.int .i64 1,.int .i64 20] rfl (by (try simp only [qM_,List.map_cons,List.map_nil]); first | done | rfl | (simp only [qD_,qT_]; rfl)) ?_; (with_reducible refine (spec_l01Between.calls (a0.size : Int) 1 20 true _ A4.out).mono ?_); rintro e w' ⟨rfl,⟨nd,rfl⟩⟩; refine ⟨_,rfl, ?_⟩; have p8 : 0 ≤ (0 : Int) := (by omega); have q8 : 0 < a0.size := (by have : (0 : Int) < (a0.size : Int) := of_decide_eq_true (by first | (with_reducible assumption) | assumption); omega); have hx8 : ∀ h : 0 < a0.size,((a0[0]'h).toNat : Int) = bt a0 0 := bt_at a0 0; clear p8; have qi8 : (0 < (a0.size : Int)) = True := eq_true (of_decide_eq_true (by first | (with_reducible assumption) | assumption)); replace q8 := eq_true q8) | (go_at_call 86; (with_reducible refine (spec_l01Big.calls (bt a0 0) false _ A9.out).mono ?_); rintro e w' ⟨rfl,⟨nd,rfl⟩⟩))
      go_meet
      case rel => exact ⟨_,(true),(by first | rfl | (simp; done) | (simp [*]; done)),H',⟨by first | omega | exact Nat.le_refl _⟩,by repeat (first | exact y1.refl _ | apply y1.step)⟩
    ·rw [if_neg c7] at H
     exact absurd H (by simp)
   ·replace c6 := Bool.eq_false_iff.mpr c6
    subst c6
    have H1 : (if 0 < (a0.size : Int) then ((spec_l01Small.f (bt a0 0)).bind fun t224 => (z8_.j0 k a0 (!t224))) else (none)) = some r := by rw [if_neg (show ¬ (false = true) by decide)] at H; exact H
    clear H
    have H := H1
    clear H1
    by_cases c11 : 0 < (a0.size : Int)
    ·rw [if_pos c11] at H
     have c11b0 : decide (0 < (a0.size : Int)) = true := decide_eq_true c11
     have c11b1 : decide (0 < a0.size) = true := decide_eq_true (by omega)
     clear c11
     replace H := Option.bind_eq_some_iff.mp H
     obtain ⟨t224,A130,H⟩ := H
     replace H : (z8_.j0 k a0 (!t224)) = some r := H
     have A13 := y0.mk A130
     clear A130
     have H' := y0.mk H
     clear H
     go_wp2_with (first | ((with_reducible refine y11 (f := 66) rfl ?_); refine y12 (some 8) rfl rfl Tryd.func66 (by kernel_rfl) rfl #[.int .i64 (a0.size : Int),.int .i64 1,.int .i64 20] rfl (by (try simp only [qM_,List.map_cons,List.map_nil]); first | done | rfl | (simp only [qD_,qT_]; rfl)) ?_; (with_reducible refine (spec_l01Between.calls (a0.size : Int) 1 20 true _ A4.out).mono ?_); rintro e w' ⟨rfl,⟨nd,rfl⟩⟩; refine ⟨_,rfl, ?_⟩; have p12 : 0 ≤ (0 : Int) := (by omega); have q12 : 0 < a0.size := (by have : (0 : Int) < (a0.size : Int) := of_decide_eq_true (by first | (with_reducible assumption) | assumption); omega); have hx12 : ∀ h : 0 < a0.size,((a0[0]'h).toNat : Int) = bt a0 0 := bt_at a0 0; clear p12; have qi12 : (0 < (a0.size : Int)) = True := eq_true (of_decide_eq_true (by first | (with_reducible assumption) | assumption)); replace q12 := eq_true q12) | (go_at_call 85; (with_reducible refine (spec_l01Small.calls (bt a0 0) t224 _ A13.out).mono ?_); rintro e w' ⟨rfl,⟨nd,rfl⟩⟩))
     go_meet
     case rel => exact ⟨_,(!t224),(by first | rfl | (simp; done) | (simp [*]; done)),H',⟨by first | omega | exact Nat.le_refl _⟩,by repeat (first | exact y1.refl _ | apply y1.step)⟩
    ·rw [if_neg c11] at H
     exact absurd H (by simp)
  ·replace c5 := Bool.eq_false_iff.mpr c5
   subst c5
   have H1 : (z8_.j0 k a0 true) = some r := by rw [if_neg (show ¬ (false = true) by decide)] at H; exact H
   clear H
   have H := H1
   clear H1
   have H' := y0.mk H
   clear H
   go_wp2_with (first | ((with_reducible refine y11 (f := 66) rfl ?_); refine y12 (some 8) rfl rfl Tryd.func66 (by kernel_rfl) rfl #[.int .i64 (a0.size : Int),.int .i64 1,.int .i64 20] rfl (by (try simp only [qM_,List.map_cons,List.map_nil]); first | done | rfl | (simp only [qD_,qT_]; rfl)) ?_; (with_reducible refine (spec_l01Between.calls (a0.size : Int) 1 20 false _ A4.out).mono ?_); rintro e w' ⟨rfl,⟨nd,rfl⟩⟩; refine ⟨_,rfl, ?_⟩))
   go_meet
   case rel => exact ⟨_,(true),(by first | rfl | (simp; done) | (simp [*]; done)),H',⟨by first | omega | exact Nat.le_refl _⟩,by repeat (first | exact y1.refl _ | apply y1.step)⟩
 case rest =>
  clear HC3
  try clear c1
  try clear p1
  try clear q1
  try clear hx1
  try clear qi1
  try clear p2
  try clear c5
  try clear c6
  try clear c7
  try clear c7b0
  try clear c7b1
  try clear p8
  try clear q8
  try clear hx8
  try clear qi8
  try clear c10
  try clear c11
  try clear c11b0
  try clear c11b1
  try clear p12
  try clear q12
  try clear hx12
  try clear qi12
  try clear p12
  try clear p8
  try clear q12
  try clear q8
  obtain ⟨kq,x28_2,rfl,HA,HJ2,⟨mc2,rfl⟩⟩ := hcut
  cases kq with
  | zero => exact absurd HA.out (by simp [z8_.j0])
  | succ kj2 =>
   have H := HA.out
   clear HA
   simp only [z8_.j0] at H
   by_cases c14 : x28_2 = true
   ·subst c14
    have H1 : (some false) = some r := by rw [if_pos rfl] at H; exact H
    clear H
    have H := H1
    clear H1
    obtain rfl := Option.some.inj H
    go_wp2
    go_ret
    exact ⟨by first | rfl | (simp; done) | (simp [*]; done),by repeat (first | exact y1.refl _ | apply y1.step)⟩
   ·replace c14 := Bool.eq_false_iff.mpr c14
    subst c14
    have H1 : (z8_.l0 kj2 a0 0) = some r := by rw [if_neg (show ¬ (false = true) by decide)] at H; exact H
    clear H
    have H := H1
    clear H1
    have H' := y0.mk H
    clear H
    go_wp2
    go_loopg [5] kj2 (fun kq v5 w' => ∃ (x5_2 : Int),v5 = .int .i64 x5_2 ∧ y0 (z8_.l0 kq a0 x5_2 = some r) ∧ y0 (kq ≤ kj2) ∧ y1 w w')
    case atStart => exact ⟨(0),(by first | rfl | (simp; done) | (simp [*]; done)),H',⟨Nat.le_refl _⟩,by repeat (first | exact y1.refl _ | apply y1.step)⟩
    case round =>
     clear H'
     try clear c1
     try clear p1
     try clear q1
     try clear hx1
     try clear qi1
     try clear c2
     try clear p2
     try clear c5
     try clear c6
     try clear c7
     try clear c7b0
     try clear c7b1
     try clear p8
     try clear q8
     try clear hx8
     try clear qi8
     try clear c10
     try clear c11
     try clear c11b0
     try clear c11b1
     try clear p12
     try clear q12
     try clear hx12
     try clear qi12
     try clear c14
     try clear p1
     try clear p12
     try clear p2
     try clear p8
     try clear q1
     try clear q12
     try clear q8
     obtain ⟨x5_2,rfl,HA,HK2,⟨m2,rfl⟩⟩ := hrel
     cases gk with
     | zero => exact absurd HA.out (by simp [z8_.l0])
     | succ k2 =>
      have H := HA.out
      clear HA
      simp only [z8_.l0] at H
      by_cases c15 : x5_2 < (a0.size : Int)
      ·rw [if_pos c15] at H
       have c15b0 : decide (x5_2 < (a0.size : Int)) = true := decide_eq_true c15
       clear c15
       by_cases c16 : 0 ≤ x5_2
       ·rw [if_pos c16] at H
        have c16b0 : decide (0 ≤ x5_2) = true := decide_eq_true c16
        clear c16
        replace H := Option.bind_eq_some_iff.mp H
        obtain ⟨t225,A180,H⟩ := H
        replace H : (if t225 = true then (z8_.l0 k2 a0 (wrap64 (x5_2 + 1))) else (some false)) = some r := H
        have A18 := y0.mk A180
        clear A180
        by_cases c19 : t225 = true
        ·subst c19
         have H1 : (z8_.l0 k2 a0 (wrap64 (x5_2 + 1))) = some r := by rw [if_pos rfl] at H; exact H
         clear H
         have H := H1
         clear H1
         have H' := y0.mk H
         clear H
         have p17 : 0 ≤ (x5_2 : Int) := of_decide_eq_true (by first | (with_reducible assumption) | assumption)
         have q17 : x5_2 < (a0.size : Int) := of_decide_eq_true (by first | (with_reducible assumption) | assumption)
         have hx17 := bt_at a0 x5_2
         replace p17 := eq_true p17
         replace q17 := eq_true q17
         go_wp2_with (first | ((with_reducible refine y11 (f := 87) rfl ?_); refine y12 (some 38) rfl rfl Tryd.func87 (by kernel_rfl) rfl #[.int .u8 (bt a0 x5_2)] rfl (by (try simp only [qM_,List.map_cons,List.map_nil]); first | done | rfl | (simp only [qD_,qT_]; rfl)) ?_; (with_reducible refine (spec_l01Letter.calls (bt a0 x5_2) true _ A18.out).mono ?_); rintro e w' ⟨rfl,⟨nd,rfl⟩⟩; refine ⟨_,rfl, ?_⟩))
         go_roundg k2
         case measure => have := HJ2.out; have := HK2.out; omega
         case rel => exact ⟨(wrap64 (x5_2 + 1)),(by first | rfl | (simp; done) | (simp [*]; done)),H',⟨by have := HJ2.out; have := HK2.out; omega⟩,by repeat (first | exact y1.refl _ | apply y1.step)⟩
        ·replace c19 := Bool.eq_false_iff.mpr c19
         subst c19
         have H1 : (some false) = some r := by rw [if_neg (show ¬ (false = true) by decide)] at H; exact H
         clear H
         have H := H1
         clear H1
         obtain rfl := Option.some.inj H
         have p17 : 0 ≤ (x5_2 : Int) := of_decide_eq_true (by first | (with_reducible assumption) | assumption)
         have q17 : x5_2 < (a0.size : Int) := of_decide_eq_true (by first | (with_reducible assumption) | assumption)
         have hx17 := bt_at a0 x5_2
         replace p17 := eq_true p17
         replace q17 := eq_true q17
         go_wp2_with (first | ((with_reducible refine y11 (f := 87) rfl ?_); refine y12 (some 38) rfl rfl Tryd.func87 (by kernel_rfl) rfl #[.int .u8 (bt a0 x5_2)] rfl (by (try simp only [qM_,List.map_cons,List.map_nil]); first | done | rfl | (simp only [qD_,qT_]; rfl)) ?_; (with_reducible refine (spec_l01Letter.calls (bt a0 x5_2) false _ A18.out).mono ?_); rintro e w' ⟨rfl,⟨nd,rfl⟩⟩; refine ⟨_,rfl, ?_⟩))
         go_ret
         exact ⟨by first | rfl | (simp; done) | (simp [*]; done),by repeat (first | exact y1.refl _ | apply y1.step)⟩
       ·rw [if_neg c16] at H
        exact absurd H (by simp)
      ·rw [if_neg c15] at H
       have c15b0 : decide (x5_2 < (a0.size : Int)) = false := decide_eq_false c15
       clear c15
       obtain rfl := Option.some.inj H
       go_wp2
       go_ret
       exact ⟨by first | rfl | (simp; done) | (simp [*]; done),by repeat (first | exact y1.refl _ | apply y1.step)⟩
end Go.Proofs.YtebadckdihgklaaDoor.Pb
end
section
namespace Go.Proofs.YtebadckdihgklaaDoor.Pb
open Go.RowKit Go.Proofs.YtebadckdihgklaaDoorW.PrintWords Go.Proofs.YtebadckdihgklaaDoorW.PrintLast Go.Proofs.YtebadckdihgklaaDoorW.PrintMore
attribute [local go_sem] max2_int min2_int max_two min_two max_three min_three max_four min_four   -- for this text's walks alone
set_option linter.unusedVariables false
set_option linter.unusedSimpArgs false
mutual
def z3_.j0 : Nat → ByteArray → Bool → Option (Int)
 | 0,_,_ => none
 | k + 1,x0,x16 => if x16 = true then (some 0) else ((z9_.f k x0).bind fun bt226 => (if bt226.2 = true then (some 1) else (if 0 < (x0.size : Int) then (if (bt x0 0) = 34 then ((spec_l01Between.f (x0.size : Int) 2 22).bind fun t228 => (if t228 = true then (if 0 ≤ (wrap64 ((x0.size : Int) - 1)) then (if (wrap64 ((x0.size : Int) - 1)) < (x0.size : Int) then (z3_.j1 k x0 ((bt x0 (wrap64 ((x0.size : Int) - 1))) != 34)) else (none)) else (none)) else (z3_.j1 k x0 true))) else ((z4_.f k x0).bind fun bt230 => (if bt230.2.2 = true then ((z8_.f k bt230.1 true).bind fun t235 => (z3_.j3 k bt230.2.1 (!t235))) else (z3_.j3 k bt230.2.1 true)))) else (none))))
def z3_.j1 : Nat → ByteArray → Bool → Option (Int)
 | 0,_,_ => none
 | k + 1,x0,x37 => if x37 = true then (some 0) else (z3_.l0 k x0 1)
def z3_.l0 : Nat → ByteArray → Int → Option (Int)
 | 0,_,_ => none
 | k + 1,x0,x5 => if (wrap64 (x5 + 1)) < (x0.size : Int) then (if 0 ≤ x5 then (if x5 < (x0.size : Int) then ((spec_l01Between.f (wrap64 (bt x0 x5)) 32 126).bind fun t229 => (if t229 = true then (if (bt x0 x5) = 34 then (some 0) else (if (bt x0 x5) = 92 then (some 0) else (z3_.l0 k x0 (wrap64 (x5 + 1))))) else (some 0))) else (none)) else (none)) else (some 2)
def z3_.j3 : Nat → List ByteArray → Bool → Option (Int)
 | 0,_,_ => none
 | k + 1,x7,x75 => if x75 = true then (some 0) else (z3_.l1 k x7 0)
def z3_.l1 : Nat → List ByteArray → Int → Option (Int)
 | 0,_,_ => none
 | k + 1,x7,x9 => if x9 < (x7.length : Int) then (if 0 ≤ x9 then ((z3_.f k (rdOf ByteArray.empty x7 x9)).bind fun t237 => (if t237 = 0 then (some 0) else (z3_.l1 k x7 (wrap64 (x9 + 1))))) else (none)) else (some 3)
def z3_.f : Nat → ByteArray → Option (Int)
 | 0,_ => none
 | k + 1,a0 => if a0.toList = ([] : List UInt8) then (z3_.j0 k a0 true) else (z3_.j0 k a0 (decide ((a0.size : Int) > 200)))
end
set_option maxHeartbeats 8000000 in
set_option maxRecDepth 100000 in
theorem z3_.calls (k : Nat) : ∀ (a0 : ByteArray) (r : Int) (w : World) (h : z3_.f k a0 = some r),
  Calls Tryd.prog 29 #[.string a0] w fun e w' => e = .returned (.int .i64 r) ∧ Below w.heap.size w w' := by
 induction k using Nat.strongRecOn with
 | _ k ih =>
 intro a0 r w h
 cases k with
 | zero => exact absurd h (by simp [z3_.f])
 | succ k =>
 simp only [z3_.f] at h
 have HB := y0.mk (Below.refl w.heap.size w)
 have H : (if a0.toList = ([] : List UInt8) then (z3_.j0 k a0 true) else (z3_.j0 k a0 (decide ((a0.size : Int) > 200)))) = some r := h
 clear h
 have HC2 := y0.mk H
 clear H
 go_enter Tryd.func29,Tryd.ntmps29
 go_upto_region 1 with (fail)
 go_cut [16] (fun v16 wc => ∃ (kq : Nat) (x16_1 : Bool),v16 = .bool x16_1 ∧ y0 (z3_.j0 kq a0 x16_1 = some r) ∧ y0 (kq ≤ k) ∧ y0 (Below w.heap.size w wc))
 case first =>
  have H := HC2.out
  clear HC2
  by_cases c3 : a0.toList = ([] : List UInt8)
  ·rw [if_pos c3] at H
   have c3b0 : (a0.toList == ([] : List UInt8)) = true := beq_iff_eq.mpr c3
   have c3b1 : (a0.toList != ([] : List UInt8)) = false := bne_eq_false_iff_eq.mpr c3
   clear c3
   (first | rw [c3b0] | (simp only [y14,y13]; rw [c3b0]) | skip)
   have H' := y0.mk H
   clear H
   go_wp2
   go_meet
   case rel => exact ⟨_,(true),(by first | rfl | (simp; done) | (simp [*]; done)),H',⟨by first | omega | exact Nat.le_refl _⟩,⟨by repeat (first | (with_reducible first | exact HB.out | apply y5 | apply y18 | apply y6) | exact HB.out)⟩⟩
  ·rw [if_neg c3] at H
   have c3b0 : (a0.toList == ([] : List UInt8)) = false := beq_eq_false_iff_ne.mpr c3
   have c3b1 : (a0.toList != ([] : List UInt8)) = true := bne_iff_ne.mpr c3
   (first | rw [c3b0] | (simp only [y14,y13]; rw [c3b0]) | skip)
   have H' := y0.mk H
   clear H
   go_wp2
   go_meet
   case rel => exact ⟨_,(decide ((a0.size : Int) > 200)),(by first | rfl | (simp; done) | (simp [*]; done)),H',⟨by first | omega | exact Nat.le_refl _⟩,⟨by repeat (first | (with_reducible first | exact HB.out | apply y5 | apply y18 | apply y6) | exact HB.out)⟩⟩
 case rest =>
  clear HC2
  try clear c2
  try clear p2
  try clear c3
  try clear c3b0
  try clear c3b1
  obtain ⟨kq,x16_1,rfl,HA,HJ1,HB⟩ := hcut
  cases kq with
  | zero => exact absurd HA.out (by simp [z3_.j0])
  | succ kj1 =>
   have H := HA.out
   clear HA
   simp only [z3_.j0] at H
   by_cases c4 : x16_1 = true
   ·subst c4
    have H1 : (some 0) = some r := by rw [if_pos rfl] at H; exact H
    clear H
    have H := H1
    clear H1
    obtain rfl := Option.some.inj H
    go_wp2
    go_ret
    exact ⟨by first | rfl | (simp [y9,y10] <;> rfl) | (simp [*,y9,y10] <;> rfl),by repeat (first | (with_reducible first | exact HB.out | apply y5 | apply y18 | apply y6) | exact HB.out)⟩
   ·replace c4 := Bool.eq_false_iff.mpr c4
    subst c4
    have H1 : ((z9_.f kj1 a0).bind fun bt226 => (if bt226.2 = true then (some 1) else (if 0 < (a0.size : Int) then (if (bt a0 0) = 34 then ((spec_l01Between.f (a0.size : Int) 2 22).bind fun t228 => (if t228 = true then (if 0 ≤ (wrap64 ((a0.size : Int) - 1)) then (if (wrap64 ((a0.size : Int) - 1)) < (a0.size : Int) then (z3_.j1 kj1 a0 ((bt a0 (wrap64 ((a0.size : Int) - 1))) != 34)) else (none)) else (none)) else (z3_.j1 kj1 a0 true))) else ((z4_.f kj1 a0).bind fun bt230 => (if bt230.2.2 = true then ((z8_.f kj1 bt230.1 true).bind fun t235 => (z3_.j3 kj1 bt230.2.1 (!t235))) else (z3_.j3 kj1 bt230.2.1 true)))) else (none)))) = some r := by rw [if_neg (show ¬ (false = true) by decide)] at H; exact H
    clear H
    have H := H1
    clear H1
    replace H := Option.bind_eq_some_iff.mp H
    obtain ⟨⟨t226,t227⟩,A50,H⟩ := H
    replace H : (if t227 = true then (some 1) else (if 0 < (a0.size : Int) then (if (bt a0 0) = 34 then ((spec_l01Between.f (a0.size : Int) 2 22).bind fun t228 => (if t228 = true then (if 0 ≤ (wrap64 ((a0.size : Int) - 1)) then (if (wrap64 ((a0.size : Int) - 1)) < (a0.size : Int) then (z3_.j1 kj1 a0 ((bt a0 (wrap64 ((a0.size : Int) - 1))) != 34)) else (none)) else (none)) else (z3_.j1 kj1 a0 true))) else ((z4_.f kj1 a0).bind fun bt230 => (if bt230.2.2 = true then ((z8_.f kj1 bt230.1 true).bind fun t235 => (z3_.j3 kj1 bt230.2.1 (!t235))) else (z3_.j3 kj1 bt230.2.1 true)))) else (none))) = some r := H
    have A5 := y0.mk A50
    clear A50
    by_cases c6 : t227 = true
    ·subst c6
     have H1 : (some 1) = some r := by rw [if_pos rfl] at H; exact H
     clear H
     have H := H1
     clear H1
     obtain rfl := Option.some.inj H
     go_wp2_with (first | ((with_reducible refine y11 (f := 73) rfl ?_); refine y12 (some 19) rfl rfl Tryd.func73 (by kernel_rfl) rfl #[.string a0] rfl (by (try simp only [qM_,List.map_cons,List.map_nil]); first | done | rfl | (simp only [qD_,qT_]; rfl)) ?_; (with_reducible refine (z9_.calls kj1 a0 t226 true _ A5.out).mono ?_); rintro e w7 ⟨rfl,hb⟩; refine ⟨_,rfl, ?_⟩; have n0_ := y0.mk (y8 (by repeat (first | (with_reducible first | exact HB.out | apply y5 | apply y18 | apply y6) | exact HB.out)) hb); clear HB; have HB := n0_; clear n0_; (try clear hb); (try clear hb2); (try clear hk); (try clear hi)))
     go_ret
     exact ⟨by first | rfl | (simp [y9,y10] <;> rfl) | (simp [*,y9,y10] <;> rfl),by repeat (first | (with_reducible first | exact HB.out | apply y5 | apply y18 | apply y6) | exact HB.out)⟩
    ·replace c6 := Bool.eq_false_iff.mpr c6
     subst c6
     have H1 : (if 0 < (a0.size : Int) then (if (bt a0 0) = 34 then ((spec_l01Between.f (a0.size : Int) 2 22).bind fun t228 => (if t228 = true then (if 0 ≤ (wrap64 ((a0.size : Int) - 1)) then (if (wrap64 ((a0.size : Int) - 1)) < (a0.size : Int) then (z3_.j1 kj1 a0 ((bt a0 (wrap64 ((a0.size : Int) - 1))) != 34)) else (none)) else (none)) else (z3_.j1 kj1 a0 true))) else ((z4_.f kj1 a0).bind fun bt230 => (if bt230.2.2 = true then ((z8_.f kj1 bt230.1 true).bind fun t235 => (z3_.j3 kj1 bt230.2.1 (!t235))) else (z3_.j3 kj1 bt230.2.1 true)))) else (none)) = some r := by rw [if_neg (show ¬ (false = true) by decide)] at H; exact H
     clear H
     have H := H1
     clear H1
     by_cases c8 : 0 < (a0.size : Int)
     ·rw [if_pos c8] at H
      have c8b0 : decide (0 < (a0.size : Int)) = true := decide_eq_true c8
      have c8b1 : decide (0 < a0.size) = true := decide_eq_true (by omega)
      clear c8
      by_cases c10 : (bt a0 0) = 34
      ·rw [if_pos c10] at H
       have c10b0 : ((bt a0 0) == 34) = true := beq_iff_eq.mpr c10
       have c10b1 : ((bt a0 0) != 34) = false := bne_eq_false_iff_eq.mpr c10
       clear c10
       have HC11 := y0.mk H
       clear H
       go_upto_region 7 with (first | ((with_reducible refine y11 (f := 73) rfl ?_); refine y12 (some 19) rfl rfl Tryd.func73 (by kernel_rfl) rfl #[.string a0] rfl (by (try simp only [qM_,List.map_cons,List.map_nil]); first | done | rfl | (simp only [qD_,qT_]; rfl)) ?_; (with_reducible refine (z9_.calls kj1 a0 t226 false _ A5.out).mono ?_); rintro e w12 ⟨rfl,hb⟩; refine ⟨_,rfl, ?_⟩; have n0_ := y0.mk (y8 (by repeat (first | (with_reducible first | exact HB.out | apply y5 | apply y18 | apply y6) | exact HB.out)) hb); clear HB; have HB := n0_; clear n0_; (try clear hb); (try clear hb2); (try clear hk); (try clear hi); have p9 : 0 ≤ (0 : Int) := (by omega); have q9 : 0 < a0.size := (by have : (0 : Int) < (a0.size : Int) := of_decide_eq_true (by first | (with_reducible assumption) | assumption); omega); have hx9 : ∀ h : 0 < a0.size,((a0[0]'h).toNat : Int) = bt a0 0 := bt_at a0 0; clear p9; have qi9 : (0 < (a0.size : Int)) = True := eq_true (of_decide_eq_true (by first | (with_reducible assumption) | assumption)); replace q9 := eq_true q9))
       (try simp only [Act.put,qS_,qZ_,qC_])
       go_cut [37] (fun v37 wc => ∃ (kq : Nat) (x37_10 : Bool),v37 = .bool x37_10 ∧ y0 (z3_.j1 kq a0 x37_10 = some r) ∧ y0 (kq ≤ kj1) ∧ y0 (Below w.heap.size w wc))
       case first =>
        have H := HC11.out
        clear HC11
        replace H := Option.bind_eq_some_iff.mp H
        obtain ⟨t228,A130,H⟩ := H
        replace H : (if t228 = true then (if 0 ≤ (wrap64 ((a0.size : Int) - 1)) then (if (wrap64 ((a0.size : Int) - 1)) < (a0.size : Int) then (z3_.j1 kj1 a0 ((bt a0 (wrap64 ((a0.size : Int) - 1))) != 34)) else (none)) else (none)) else (z3_.j1 kj1 a0 true)) = some r := H
        have A13 := y0.mk A130
        clear A130
        by_cases c14 : t228 = true
        ·subst c14
         have H1 : (if 0 ≤ (wrap64 ((a0.size : Int) - 1)) then (if (wrap64 ((a0.size : Int) - 1)) < (a0.size : Int) then (z3_.j1 kj1 a0 ((bt a0 (wrap64 ((a0.size : Int) - 1))) != 34)) else (none)) else (none)) = some r := by rw [if_pos rfl] at H; exact H
         clear H
         have H := H1
         clear H1
         obtain ⟨ji15,hji15⟩ : ∃ j_ : Int,(wrap64 ((a0.size : Int) - 1)) = j_ := ⟨_,rfl⟩
         replace H : (if 0 ≤ (ji15) then (if (ji15) < (a0.size : Int) then (z3_.j1 kj1 a0 ((bt a0 (ji15)) != 34)) else (none)) else (none)) = some r := by first | (rw [hji15] at H; exact H) | (simp only [hji15] at H ⊢; exact H)
         (try rw [hji15] at A13)
         have hji15w : (IntKind.i64.wrap ((a0.size : Int) - 1)) = ji15 := (y14 _).trans hji15
         by_cases c16 : 0 ≤ (ji15)
         ·rw [if_pos c16] at H
          have c16b0 : decide (0 ≤ (ji15)) = true := decide_eq_true c16
          clear c16
          (first | rw [c16b0] | (simp only [y14,y13]; rw [c16b0]) | skip)
          by_cases c17 : (ji15) < (a0.size : Int)
          ·rw [if_pos c17] at H
           have c17b0 : decide ((ji15) < (a0.size : Int)) = true := decide_eq_true c17
           clear c17
           have H' := y0.mk H
           clear H
           go_wp2_with (first | ((with_reducible refine y11 (f := 66) rfl ?_); refine y12 (some 28) rfl rfl Tryd.func66 (by kernel_rfl) rfl #[.int .i64 (a0.size : Int),.int .i64 2,.int .i64 22] rfl (by (try simp only [qM_,List.map_cons,List.map_nil]); first | done | rfl | (simp only [qD_,qT_]; rfl)) ?_; (with_reducible refine (spec_l01Between.calls (a0.size : Int) 2 22 true _ A13.out).mono ?_); rintro e w' ⟨rfl,⟨nd,rfl⟩⟩; refine ⟨_,rfl, ?_⟩; have p18 : 0 ≤ ((ji15) : Int) := of_decide_eq_true (by first | (with_reducible assumption) | assumption); have q18 : (ji15) < (a0.size : Int) := of_decide_eq_true (by first | (with_reducible assumption) | assumption); have hx18 := bt_at a0 (ji15); replace p18 := eq_true p18; replace q18 := eq_true q18))
           go_meet
           case rel => exact ⟨_,(((bt a0 (ji15)) != 34)),(by first | rfl | (simp; done) | (simp only [← hji15] <;> (first | rfl | simp)) | (simp [*]; done)),H',⟨by have := HJ1.out; first | omega | exact Nat.le_refl _⟩,⟨by repeat (first | (with_reducible first | exact HB.out | apply y5 | apply y18 | apply y6) | exact HB.out)⟩⟩
          ·rw [if_neg c17] at H
           exact absurd H (by simp)
         ·rw [if_neg c16] at H
          exact absurd H (by simp)
        ·replace c14 := Bool.eq_false_iff.mpr c14
         subst c14
         have H1 : (z3_.j1 kj1 a0 true) = some r := by rw [if_neg (show ¬ (false = true) by decide)] at H; exact H
         clear H
         have H := H1
         clear H1
         have H' := y0.mk H
         clear H
         go_wp2_with (first | ((with_reducible refine y11 (f := 66) rfl ?_); refine y12 (some 28) rfl rfl Tryd.func66 (by kernel_rfl) rfl #[.int .i64 (a0.size : Int),.int .i64 2,.int .i64 22] rfl (by (try simp only [qM_,List.map_cons,List.map_nil]); first | done | rfl | (simp only [qD_,qT_]; rfl)) ?_; (with_reducible refine (spec_l01Between.calls (a0.size : Int) 2 22 false _ A13.out).mono ?_); rintro e w' ⟨rfl,⟨nd,rfl⟩⟩; refine ⟨_,rfl, ?_⟩))
         go_meet
         case rel => exact ⟨_,(true),(by first | rfl | (simp; done) | (simp [*]; done)),H',⟨by have := HJ1.out; first | omega | exact Nat.le_refl _⟩,⟨by repeat (first | (with_reducible first | exact HB.out | apply y5 | apply y18 | apply y6) | exact HB.out)⟩⟩
       case rest =>
        clear HC11
        try clear c1
        try clear p1
        try clear q1
        try clear hx1
        try clear c2
        try clear p2
        try clear c3
        try clear c3b0
        try clear c3b1
        try clear c4
        try clear c6
        try clear p6
        try clear c7
        try clear c8
        try clear c8b0
        try clear c8b1
        try clear p9
        try clear q9
        try clear hx9
        try clear qi9
        try clear c10
        try clear c10b0
        try clear c10b1
        try clear c14
        try clear c16
        try clear c16b0
        try clear c17
        try clear c17b0
        try clear p18
        try clear q18
        try clear hx18
        try clear p18
        try clear p2
        try clear p9
        try clear q18
        try clear q9
        obtain ⟨kq,x37_10,rfl,HA,HJ10,HB⟩ := hcut
        cases kq with
        | zero => exact absurd HA.out (by simp [z3_.j1])
        | succ kj10 =>
         have H := HA.out
         clear HA
         simp only [z3_.j1] at H
         by_cases c19 : x37_10 = true
         ·subst c19
          have H1 : (some 0) = some r := by rw [if_pos rfl] at H; exact H
          clear H
          have H := H1
          clear H1
          obtain rfl := Option.some.inj H
          go_wp2
          go_ret
          exact ⟨by first | rfl | (simp [y9,y10] <;> rfl) | (simp [*,y9,y10] <;> rfl),by repeat (first | (with_reducible first | exact HB.out | apply y5 | apply y18 | apply y6) | exact HB.out)⟩
         ·replace c19 := Bool.eq_false_iff.mpr c19
          subst c19
          have H1 : (z3_.l0 kj10 a0 1) = some r := by rw [if_neg (show ¬ (false = true) by decide)] at H; exact H
          clear H
          have H := H1
          clear H1
          have H' := y0.mk H
          clear H
          go_wp2
          go_loopg [5] kj10 (fun kq v5 w' => ∃ (x5_3 : Int),v5 = .int .i64 x5_3 ∧ y0 (z3_.l0 kq a0 x5_3 = some r) ∧ y0 (kq ≤ kj10) ∧ y0 (Below w.heap.size w w'))
          case atStart => exact ⟨(1),(by first | rfl | (simp; done) | (simp [*]; done)),H',⟨Nat.le_refl _⟩,⟨by repeat (first | (with_reducible first | exact HB.out | apply y5 | apply y18 | apply y6) | exact HB.out)⟩⟩
          case round =>
           clear H'
           try clear c1
           try clear p1
           try clear q1
           try clear hx1
           try clear c2
           try clear p2
           try clear c3
           try clear c3b0
           try clear c3b1
           try clear c4
           try clear c6
           try clear p6
           try clear c7
           try clear c8
           try clear c8b0
           try clear c8b1
           try clear p9
           try clear q9
           try clear hx9
           try clear qi9
           try clear c10
           try clear c10b0
           try clear c10b1
           try clear c14
           try clear c16
           try clear c16b0
           try clear c17
           try clear c17b0
           try clear p18
           try clear q18
           try clear hx18
           try clear c19
           try clear p1
           try clear p18
           try clear p2
           try clear p6
           try clear p9
           try clear q1
           try clear q18
           try clear q9
           obtain ⟨x5_3,rfl,HA,HK3,HB⟩ := hrel
           cases gk with
           | zero => exact absurd HA.out (by simp [z3_.l0])
           | succ k3 =>
            have H := HA.out
            clear HA
            simp only [z3_.l0] at H
            by_cases c20 : (wrap64 (x5_3 + 1)) < (a0.size : Int)
            ·rw [if_pos c20] at H
             have c20b0 : decide ((wrap64 (x5_3 + 1)) < (a0.size : Int)) = true := decide_eq_true c20
             clear c20
             by_cases c21 : 0 ≤ x5_3
             ·rw [if_pos c21] at H
              have c21b0 : decide (0 ≤ x5_3) = true := decide_eq_true c21
              clear c21
              by_cases c22 : x5_3 < (a0.size : Int)
              ·rw [if_pos c22] at H
               have c22b0 : decide (x5_3 < (a0.size : Int)) = true := decide_eq_true c22
               clear c22
               replace H := Option.bind_eq_some_iff.mp H
               obtain ⟨t229,A240,H⟩ := H
               replace H : (if t229 = true then (if (bt a0 x5_3) = 34 then (some 0) else (if (bt a0 x5_3) = 92 then (some 0) else (z3_.l0 k3 a0 (wrap64 (x5_3 + 1))))) else (some 0)) = some r := H
               have A24 := y0.mk A240
               clear A240
               by_cases c25 : t229 = true
               ·subst c25
                have H1 : (if (bt a0 x5_3) = 34 then (some 0) else (if (bt a0 x5_3) = 92 then (some 0) else (z3_.l0 k3 a0 (wrap64 (x5_3 + 1))))) = some r := by rw [if_pos rfl] at H; exact H
                clear H
                have H := H1
                clear H1
                by_cases c27 : (bt a0 x5_3) = 34
                ·rw [if_pos c27] at H
                 have c27b0 : ((bt a0 x5_3) == 34) = true := beq_iff_eq.mpr c27
                 have c27b1 : ((bt a0 x5_3) != 34) = false := bne_eq_false_iff_eq.mpr c27
                 clear c27
                 obtain rfl := Option.some.inj H
                 have p23 : 0 ≤ (x5_3 : Int) := of_decide_eq_true (by first | (with_reducible assumption) | assumption)
                 have q23 : x5_3 < (a0.size : Int) := of_decide_eq_true (by first | (with_reducible assumption) | assumption)
                 have hx23 := bt_at a0 x5_3
                 replace p23 := eq_true p23
                 replace q23 := eq_true q23
                 go_wp2_with (first | ((with_reducible refine y11 (f := 66) rfl ?_); refine y12 (some 49) rfl rfl Tryd.func66 (by kernel_rfl) rfl #[.int .i64 (wrap64 (bt a0 x5_3)),.int .i64 32,.int .i64 126] rfl (by (try simp only [qM_,List.map_cons,List.map_nil]); first | done | rfl | (simp only [qD_,qT_]; rfl)) ?_; (with_reducible refine (spec_l01Between.calls (wrap64 (bt a0 x5_3)) 32 126 true _ A24.out).mono ?_); rintro e w' ⟨rfl,⟨nd,rfl⟩⟩; refine ⟨_,rfl, ?_⟩; have p26 : 0 ≤ (x5_3 : Int) := of_decide_eq_true (by first | (with_reducible assumption) | assumption); have q26 : x5_3 < (a0.size : Int) := of_decide_eq_true (by first | (with_reducible assumption) | assumption); have hx26 := bt_at a0 x5_3; replace p26 := eq_true p26; replace q26 := eq_true q26))
                 go_ret
                 exact ⟨by first | rfl | (simp [y9,y10] <;> rfl) | (simp [*,y9,y10] <;> rfl),by repeat (first | (with_reducible first | exact HB.out | apply y5 | apply y18 | apply y6) | exact HB.out)⟩
                ·rw [if_neg c27] at H
                 have c27b0 : ((bt a0 x5_3) == 34) = false := beq_eq_false_iff_ne.mpr c27
                 have c27b1 : ((bt a0 x5_3) != 34) = true := bne_iff_ne.mpr c27
                 by_cases c29 : (bt a0 x5_3) = 92
                 ·rw [if_pos c29] at H
                  have c29b0 : ((bt a0 x5_3) == 92) = true := beq_iff_eq.mpr c29
                  have c29b1 : ((bt a0 x5_3) != 92) = false := bne_eq_false_iff_eq.mpr c29
                  clear c29
                  obtain rfl := Option.some.inj H
                  have p23 : 0 ≤ (x5_3 : Int) := of_decide_eq_true (by first | (with_reducible assumption) | assumption)
                  have q23 : x5_3 < (a0.size : Int) := of_decide_eq_true (by first | (with_reducible assumption) | assumption)
                  have hx23 := bt_at a0 x5_3
                  replace p23 := eq_true p23
                  replace q23 := eq_true q23
                  go_wp2_with (first | ((with_reducible refine y11 (f := 66) rfl ?_); refine y12 (some 49) rfl rfl Tryd.func66 (by kernel_rfl) rfl #[.int .i64 (wrap64 (bt a0 x5_3)),.int .i64 32,.int .i64 126] rfl (by (try simp only [qM_,List.map_cons,List.map_nil]); first | done | rfl | (simp only [qD_,qT_]; rfl)) ?_; (with_reducible refine (spec_l01Between.calls (wrap64 (bt a0 x5_3)) 32 126 true _ A24.out).mono ?_); rintro e w' ⟨rfl,⟨nd,rfl⟩⟩; refine ⟨_,rfl, ?_⟩; have p26 : 0 ≤ (x5_3 : Int) := of_decide_eq_true (by first | (with_reducible assumption) | assumption); have q26 : x5_3 < (a0.size : Int) := of_decide_eq_true (by first | (with_reducible assumption) | assumption); have hx26 := bt_at a0 x5_3; replace p26 := eq_true p26; replace q26 := eq_true q26; have p28 : 0 ≤ (x5_3 : Int) := of_decide_eq_true (by first | (with_reducible assumption) | assumption); have q28 : x5_3 < (a0.size : Int) := of_decide_eq_true (by first | (with_reducible assumption) | assumption); have hx28 := bt_at a0 x5_3; replace p28 := eq_true p28; replace q28 := eq_true q28))
                  go_ret
                  exact ⟨by first | rfl | (simp [y9,y10] <;> rfl) | (simp [*,y9,y10] <;> rfl),by repeat (first | (with_reducible first | exact HB.out | apply y5 | apply y18 | apply y6) | exact HB.out)⟩
                 ·rw [if_neg c29] at H
                  have c29b0 : ((bt a0 x5_3) == 92) = false := beq_eq_false_iff_ne.mpr c29
                  have c29b1 : ((bt a0 x5_3) != 92) = true := bne_iff_ne.mpr c29
                  have H' := y0.mk H
                  clear H
                  have p23 : 0 ≤ (x5_3 : Int) := of_decide_eq_true (by first | (with_reducible assumption) | assumption)
                  have q23 : x5_3 < (a0.size : Int) := of_decide_eq_true (by first | (with_reducible assumption) | assumption)
                  have hx23 := bt_at a0 x5_3
                  replace p23 := eq_true p23
                  replace q23 := eq_true q23
                  go_wp2_with (first | ((with_reducible refine y11 (f := 66) rfl ?_); refine y12 (some 49) rfl rfl Tryd.func66 (by kernel_rfl) rfl #[.int .i64 (wrap64 (bt a0 x5_3)),.int .i64 32,.int .i64 126] rfl (by (try simp only [qM_,List.map_cons,List.map_nil]); first | done | rfl | (simp only [qD_,qT_]; rfl)) ?_; (with_reducible refine (spec_l01Between.calls (wrap64 (bt a0 x5_3)) 32 126 true _ A24.out).mono ?_); rintro e w' ⟨rfl,⟨nd,rfl⟩⟩; refine ⟨_,rfl, ?_⟩; have p26 : 0 ≤ (x5_3 : Int) := of_decide_eq_true (by first | (with_reducible assumption) | assumption); have q26 : x5_3 < (a0.size : Int) := of_decide_eq_true (by first | (with_reducible assumption) | assumption); have hx26 := bt_at a0 x5_3; replace p26 := eq_true p26; replace q26 := eq_true q26; have p28 : 0 ≤ (x5_3 : Int) := of_decide_eq_true (by first | (with_reducible assumption) | assumption); have q28 : x5_3 < (a0.size : Int) := of_decide_eq_true (by first | (with_reducible assumption) | assumption); have hx28 := bt_at a0 x5_3; replace p28 := eq_true p28; replace q28 := eq_true q28))
                  go_roundg k3
                  case measure => have := HJ1.out; have := HJ10.out; have := HK3.out; omega
                  case rel => exact ⟨(wrap64 (x5_3 + 1)),(by first | rfl | (simp; done) | (simp [*]; done)),H',⟨by have := HJ1.out; have := HJ10.out; have := HK3.out; omega⟩,⟨by repeat (first | (with_reducible first | exact HB.out | apply y5 | apply y18 | apply y6) | exact HB.out)⟩⟩
               ·replace c25 := Bool.eq_false_iff.mpr c25
                subst c25
                have H1 : (some 0) = some r := by rw [if_neg (show ¬ (false = true) by decide)] at H; exact H
                clear H
                have H := H1
                clear H1
                obtain rfl := Option.some.inj H
                have p23 : 0 ≤ (x5_3 : Int) := of_decide_eq_true (by first | (with_reducible assumption) | assumption)
                have q23 : x5_3 < (a0.size : Int) := of_decide_eq_true (by first | (with_reducible assumption) | assumption)
                have hx23 := bt_at a0 x5_3
                replace p23 := eq_true p23
                replace q23 := eq_true q23
                go_wp2_with (first | ((with_reducible refine y11 (f := 66) rfl ?_); refine y12 (some 49) rfl rfl Tryd.func66 (by kernel_rfl) rfl #[.int .i64 (wrap64 (bt a0 x5_3)),.int .i64 32,.int .i64 126] rfl (by (try simp only [qM_,List.map_cons,List.map_nil]); first | done | rfl | (simp only [qD_,qT_]; rfl)) ?_; (with_reducible refine (spec_l01Between.calls (wrap64 (bt a0 x5_3)) 32 126 false _ A24.out).mono ?_); rintro e w' ⟨rfl,⟨nd,rfl⟩⟩; refine ⟨_,rfl, ?_⟩))
                go_ret
                exact ⟨by first | rfl | (simp [y9,y10] <;> rfl) | (simp [*,y9,y10] <;> rfl),by repeat (first | (with_reducible first | exact HB.out | apply y5 | apply y18 | apply y6) | exact HB.out)⟩
              ·rw [if_neg c22] at H
               exact absurd H (by simp)
             ·rw [if_neg c21] at H
              exact absurd H (by simp)
            ·rw [if_neg c20] at H
             have c20b0 : decide ((wrap64 (x5_3 + 1)) < (a0.size : Int)) = false := decide_eq_false c20
             clear c20
             obtain rfl := Option.some.inj H
             go_wp2
             go_ret
             exact ⟨by first | rfl | (simp [y9,y10] <;> rfl) | (simp [*,y9,y10] <;> rfl),by repeat (first | (with_reducible first | exact HB.out | apply y5 | apply y18 | apply y6) | exact HB.out)⟩
      ·rw [if_neg c10] at H
       have c10b0 : ((bt a0 0) == 34) = false := beq_eq_false_iff_ne.mpr c10
       have c10b1 : ((bt a0 0) != 34) = true := bne_iff_ne.mpr c10
       replace H := Option.bind_eq_some_iff.mp H
       obtain ⟨⟨t230,t231,t232⟩,A300,H⟩ := H
       replace H : (if t232 = true then ((z8_.f kj1 t230 true).bind fun t235 => (z3_.j3 kj1 t231 (!t235))) else (z3_.j3 kj1 t231 true)) = some r := H
       have A30 := y0.mk A300
       clear A300
       have HC31 := y0.mk H
       clear H
       go_upto_region 16 with (first | ((with_reducible refine y11 (f := 73) rfl ?_); refine y12 (some 19) rfl rfl Tryd.func73 (by kernel_rfl) rfl #[.string a0] rfl (by (try simp only [qM_,List.map_cons,List.map_nil]); first | done | rfl | (simp only [qD_,qT_]; rfl)) ?_; (with_reducible refine (z9_.calls kj1 a0 t226 false _ A5.out).mono ?_); rintro e w32 ⟨rfl,hb⟩; refine ⟨_,rfl, ?_⟩; have n0_ := y0.mk (y8 (by repeat (first | (with_reducible first | exact HB.out | apply y5 | apply y18 | apply y6) | exact HB.out)) hb); clear HB; have HB := n0_; clear n0_; (try clear hb); (try clear hb2); (try clear hk); (try clear hi); have p9 : 0 ≤ (0 : Int) := (by omega); have q9 : 0 < a0.size := (by have : (0 : Int) < (a0.size : Int) := of_decide_eq_true (by first | (with_reducible assumption) | assumption); omega); have hx9 : ∀ h : 0 < a0.size,((a0[0]'h).toNat : Int) = bt a0 0 := bt_at a0 0; clear p9; have qi9 : (0 < (a0.size : Int)) = True := eq_true (of_decide_eq_true (by first | (with_reducible assumption) | assumption)); replace q9 := eq_true q9) | ((with_reducible refine y11 (f := 74) rfl ?_); refine y12 (some 65) rfl rfl Tryd.func74 (by kernel_rfl) rfl #[.string a0] rfl (by (try simp only [qM_,List.map_cons,List.map_nil]); first | done | rfl | (simp only [qD_,qT_]; rfl)) ?_; (with_reducible refine (z4_.calls kj1 a0 t230 t231 t232 _ A30.out).mono ?_); rintro e w33 ⟨v233,rfl,ho0,hb⟩; refine ⟨_,rfl, ?_⟩; have n0_ := y0.mk (Kd.R_lower ho0 (below_size (by repeat (first | (with_reducible first | exact HB.out | apply y5 | apply y18 | apply y6) | exact HB.out)))); have n1_ := y0.mk (y8 (by repeat (first | (with_reducible first | exact HB.out | apply y5 | apply y18 | apply y6) | exact HB.out)) hb); clear HB; have HO234 := n0_; have HB := n1_; clear n0_ n1_; (try clear hb); (try clear hb2); (try clear hk); (try clear hi); (try clear ho0)))
       (try simp only [Act.put,qS_,qZ_,qC_])
       go_cut [75] (fun v75 wc => ∃ (kq : Nat) (x75_30 : Bool),v75 = .bool x75_30 ∧ y0 (z3_.j3 kq t231 x75_30 = some r) ∧ y0 (kq ≤ kj1) ∧ y0 (Kd.R Kd.string 9 wc w.heap.size (fun _ => True) v233 t231) ∧ y0 (Below w.heap.size w wc))
       case first =>
        have H := HC31.out
        clear HC31
        by_cases c34 : t232 = true
        ·subst c34
         have H1 : ((z8_.f kj1 t230 true).bind fun t235 => (z3_.j3 kj1 t231 (!t235))) = some r := by rw [if_pos rfl] at H; exact H
         clear H
         have H := H1
         clear H1
         replace H := Option.bind_eq_some_iff.mp H
         obtain ⟨t235,A350,H⟩ := H
         replace H : (z3_.j3 kj1 t231 (!t235)) = some r := H
         have A35 := y0.mk A350
         clear A350
         have H' := y0.mk H
         clear H
         go_wp2_with (first | (go_at_call 75; (with_reducible refine (z8_.calls kj1 t230 true t235 _ A35.out).mono ?_); rintro e w' ⟨rfl,⟨nd,rfl⟩⟩))
         go_meet
         case rel => exact ⟨_,(!t235),(by first | rfl | (simp; done) | (simp [*]; done)),H',⟨by have := HJ1.out; first | omega | exact Nat.le_refl _⟩,⟨by (with_reducible repeat (first | apply Kd.R_alloc | apply Kd.R_drewN | apply Kd.R_drew)); exact HO234.out⟩,⟨by repeat (first | (with_reducible first | exact HB.out | apply y5 | apply y18 | apply y6) | exact HB.out)⟩⟩
        ·replace c34 := Bool.eq_false_iff.mpr c34
         subst c34
         have H1 : (z3_.j3 kj1 t231 true) = some r := by rw [if_neg (show ¬ (false = true) by decide)] at H; exact H
         clear H
         have H := H1
         clear H1
         have H' := y0.mk H
         clear H
         go_wp2
         go_meet
         case rel => exact ⟨_,(true),(by first | rfl | (simp; done) | (simp [*]; done)),H',⟨by have := HJ1.out; first | omega | exact Nat.le_refl _⟩,⟨by (with_reducible repeat (first | apply Kd.R_alloc | apply Kd.R_drewN | apply Kd.R_drew)); exact HO234.out⟩,⟨by repeat (first | (with_reducible first | exact HB.out | apply y5 | apply y18 | apply y6) | exact HB.out)⟩⟩
       case rest =>
        clear HC31
        try clear c1
        try clear p1
        try clear q1
        try clear hx1
        try clear c2
        try clear p2
        try clear q2
        try clear hx2
        try clear c3
        try clear c3b0
        try clear c3b1
        try clear c4
        try clear c6
        try clear p6
        try clear c7
        try clear c8
        try clear c8b0
        try clear c8b1
        try clear p9
        try clear q9
        try clear hx9
        try clear qi9
        try clear c10
        try clear c10b0
        try clear c10b1
        try clear c14
        try clear c16
        try clear c16b0
        try clear c17
        try clear c17b0
        try clear p18
        try clear q18
        try clear hx18
        try clear c19
        try clear c20
        try clear c20b0
        try clear c21
        try clear c21b0
        try clear c22
        try clear c22b0
        try clear p23
        try clear q23
        try clear hx23
        try clear c25
        try clear p26
        try clear q26
        try clear hx26
        try clear c27
        try clear c27b0
        try clear c27b1
        try clear p28
        try clear q28
        try clear hx28
        try clear c29
        try clear c29b0
        try clear c29b1
        try clear c34
        try clear p1
        try clear p18
        try clear p2
        try clear p23
        try clear p26
        try clear p28
        try clear p6
        try clear p9
        try clear q1
        try clear q18
        try clear q23
        try clear q26
        try clear q28
        try clear q9
        obtain ⟨kq,x75_30,rfl,HA,HJ30,HO_7,HB⟩ := hcut
        cases kq with
        | zero => exact absurd HA.out (by simp [z3_.j3])
        | succ kj30 =>
         have H := HA.out
         clear HA
         simp only [z3_.j3] at H
         by_cases c36 : x75_30 = true
         ·subst c36
          have H1 : (some 0) = some r := by rw [if_pos rfl] at H; exact H
          clear H
          have H := H1
          clear H1
          obtain rfl := Option.some.inj H
          go_wp2
          go_ret
          exact ⟨by first | rfl | (simp [y9,y10] <;> rfl) | (simp [*,y9,y10] <;> rfl),by repeat (first | (with_reducible first | exact HB.out | apply y5 | apply y18 | apply y6) | exact HB.out)⟩
         ·replace c36 := Bool.eq_false_iff.mpr c36
          subst c36
          have H1 : (z3_.l1 kj30 t231 0) = some r := by rw [if_neg (show ¬ (false = true) by decide)] at H; exact H
          clear H
          have H := H1
          clear H1
          have H' := y0.mk H
          clear H
          go_wp2
          go_loopg [9] kj30 (fun kq v9 w' => ∃ (x9_3 : Int),v9 = .int .i64 x9_3 ∧ y0 (z3_.l1 kq t231 x9_3 = some r) ∧ y0 (kq ≤ kj30) ∧ y0 (Kd.R Kd.string 9 w' w.heap.size (fun _ => True) v233 t231) ∧ y0 (Below w.heap.size w w'))
          case atStart => exact ⟨(0),(by first | rfl | (simp; done) | (simp [*]; done)),H',⟨Nat.le_refl _⟩,⟨by (with_reducible repeat (first | apply Kd.R_alloc | apply Kd.R_drewN | apply Kd.R_drew)); exact HO_7.out⟩,⟨by repeat (first | (with_reducible first | exact HB.out | apply y5 | apply y18 | apply y6) | exact HB.out)⟩⟩
          case round =>
           clear H'
           try clear c1
           try clear p1
           try clear q1
           try clear hx1
           try clear c2
           try clear p2
           try clear q2
           try clear hx2
           try clear c3
           try clear c3b0
           try clear c3b1
           try clear c4
           try clear c6
           try clear p6
           try clear c7
           try clear c8
           try clear c8b0
           try clear c8b1
           try clear p9
           try clear q9
           try clear hx9
           try clear qi9
           try clear c10
           try clear c10b0
           try clear c10b1
           try clear c14
           try clear c16
           try clear c16b0
           try clear c17
           try clear c17b0
           try clear p18
           try clear q18
           try clear hx18
           try clear c19
           try clear c20
           try clear c20b0
           try clear c21
           try clear c21b0
           try clear c22
           try clear c22b0
           try clear p23
           try clear q23
           try clear hx23
           try clear c25
           try clear p26
           try clear q26
           try clear hx26
           try clear c27
           try clear c27b0
           try clear c27b1
           try clear p28
           try clear q28
           try clear hx28
           try clear c29
           try clear c29b0
           try clear c29b1
           try clear c34
           try clear c36
           try clear p1
           try clear p18
           try clear p2
           try clear p23
           try clear p26
           try clear p28
           try clear p6
           try clear p9
           try clear q1
           try clear q18
           try clear q2
           try clear q23
           try clear q26
           try clear q28
           try clear q9
           obtain ⟨x9_3,rfl,HA,HK3,HO_7,HB⟩ := hrel
           cases gk with
           | zero => exact absurd HA.out (by simp [z3_.l1])
           | succ k3 =>
            have H := HA.out
            clear HA
            simp only [z3_.l1] at H
            by_cases c37 : x9_3 < (t231.length : Int)
            ·rw [if_pos c37] at H
             have c37b0 : decide (x9_3 < (t231.length : Int)) = true := decide_eq_true c37
             clear c37
             by_cases c38 : 0 ≤ x9_3
             ·rw [if_pos c38] at H
              have c38b0 : decide (0 ≤ x9_3) = true := decide_eq_true c38
              clear c38
              replace H := Option.bind_eq_some_iff.mp H
              obtain ⟨t237,A390,H⟩ := H
              replace H : (if t237 = 0 then (some 0) else (z3_.l1 k3 t231 (wrap64 (x9_3 + 1)))) = some r := H
              have A39 := y0.mk A390
              clear A390
              by_cases c40 : t237 = 0
              ·rw [if_pos c40] at H
               have c40b0 : (t237 == 0) = true := beq_iff_eq.mpr c40
               have c40b1 : (t237 != 0) = false := bne_eq_false_iff_eq.mpr c40
               clear c40
               obtain rfl := Option.some.inj H
               obtain ⟨Ao41,co41,eo41⟩ := Kd.R_slice HO_7.out
               subst eo41
               have p236 : 0 ≤ (x9_3 : Int) := of_decide_eq_true (by first | (with_reducible assumption) | assumption)
               have q236 : x9_3 < (t231.length : Int) := of_decide_eq_true (by first | (with_reducible assumption) | assumption)
               obtain ⟨ad236,e236,hx236_0⟩ := Kd.at_string (Kd.R_reads' HO_7.out).2.2 x9_3 p236 q236
               cases e236
               replace p236 := eq_true p236
               replace q236 := eq_true q236
               go_wp2_with (first | ((with_reducible refine y11 (f := 29) rfl ?_); refine y12 (some 86) rfl rfl Tryd.func29 (by kernel_rfl) rfl #[.string (rdOf ByteArray.empty t231 x9_3)] rfl (by (try simp only [qM_,List.map_cons,List.map_nil]); first | done | rfl | (simp only [qD_,qT_]; rfl)) ?_; (with_reducible refine (ih k3 (by have := HJ1.out; have := HJ30.out; have := HK3.out; omega) (rdOf ByteArray.empty t231 x9_3) t237 _ A39.out).mono ?_); rintro e w42 ⟨rfl,hb⟩; refine ⟨_,rfl, ?_⟩; have n0_ := y0.mk (Kd.R_below (by (with_reducible repeat (first | apply Kd.R_alloc | apply Kd.R_drewN | apply Kd.R_drew)); exact HO_7.out) hb); have n1_ := y0.mk (y8 (by repeat (first | (with_reducible first | exact HB.out | apply y5 | apply y18 | apply y6) | exact HB.out)) hb); clear HO_7; clear HB; have HO_7 := n0_; have HB := n1_; clear n0_ n1_; (try clear hb); (try clear hb2); (try clear hk); (try clear hi)))
               go_ret
               exact ⟨by first | rfl | (simp [y9,y10] <;> rfl) | (simp [*,y9,y10] <;> rfl),by repeat (first | (with_reducible first | exact HB.out | apply y5 | apply y18 | apply y6) | exact HB.out)⟩
              ·rw [if_neg c40] at H
               have c40b0 : (t237 == 0) = false := beq_eq_false_iff_ne.mpr c40
               have c40b1 : (t237 != 0) = true := bne_iff_ne.mpr c40
               have H' := y0.mk H
               clear H
               obtain ⟨Ao43,co43,eo43⟩ := Kd.R_slice HO_7.out
               subst eo43
               have p236 : 0 ≤ (x9_3 : Int) := of_decide_eq_true (by first | (with_reducible assumption) | assumption)
               have q236 : x9_3 < (t231.length : Int) := of_decide_eq_true (by first | (with_reducible assumption) | assumption)
               obtain ⟨ad236,e236,hx236_0⟩ := Kd.at_string (Kd.R_reads' HO_7.out).2.2 x9_3 p236 q236
               cases e236
               replace p236 := eq_true p236
               replace q236 := eq_true q236
               go_wp2_with (first | ((with_reducible refine y11 (f := 29) rfl ?_); refine y12 (some 86) rfl rfl Tryd.func29 (by kernel_rfl) rfl #[.string (rdOf ByteArray.empty t231 x9_3)] rfl (by (try simp only [qM_,List.map_cons,List.map_nil]); first | done | rfl | (simp only [qD_,qT_]; rfl)) ?_; (with_reducible refine (ih k3 (by have := HJ1.out; have := HJ30.out; have := HK3.out; omega) (rdOf ByteArray.empty t231 x9_3) t237 _ A39.out).mono ?_); rintro e w44 ⟨rfl,hb⟩; refine ⟨_,rfl, ?_⟩; have n0_ := y0.mk (Kd.R_below (by (with_reducible repeat (first | apply Kd.R_alloc | apply Kd.R_drewN | apply Kd.R_drew)); exact HO_7.out) hb); have n1_ := y0.mk (y8 (by repeat (first | (with_reducible first | exact HB.out | apply y5 | apply y18 | apply y6) | exact HB.out)) hb); clear HO_7; clear HB; have HO_7 := n0_; have HB := n1_; clear n0_ n1_; (try clear hb); (try clear hb2); (try clear hk); (try clear hi)))
               go_roundg k3
               case measure => have := HJ1.out; have := HJ30.out; have := HK3.out; omega
               case rel => exact ⟨(wrap64 (x9_3 + 1)),(by first | rfl | (simp; done) | (simp [*]; done)),H',⟨by have := HJ1.out; have := HJ30.out; have := HK3.out; omega⟩,⟨by (with_reducible repeat (first | apply Kd.R_alloc | apply Kd.R_drewN | apply Kd.R_drew)); exact HO_7.out⟩,⟨by repeat (first | (with_reducible first | exact HB.out | apply y5 | apply y18 | apply y6) | exact HB.out)⟩⟩
             ·rw [if_neg c38] at H
              exact absurd H (by simp)
            ·rw [if_neg c37] at H
             have c37b0 : decide (x9_3 < (t231.length : Int)) = false := decide_eq_false c37
             clear c37
             obtain rfl := Option.some.inj H
             obtain ⟨Ao45,co45,eo45⟩ := Kd.R_slice HO_7.out
             subst eo45
             go_wp2
             go_ret
             exact ⟨by first | rfl | (simp [y9,y10] <;> rfl) | (simp [*,y9,y10] <;> rfl),by repeat (first | (with_reducible first | exact HB.out | apply y5 | apply y18 | apply y6) | exact HB.out)⟩
     ·rw [if_neg c8] at H
      exact absurd H (by simp)
end Go.Proofs.YtebadckdihgklaaDoor.Pb
end
section
namespace Go.Proofs.YtebadckdihgklaaDoor.Pb
open Go.RowKit Go.Proofs.YtebadckdihgklaaDoorW.PrintWords Go.Proofs.YtebadckdihgklaaDoorW.PrintLast Go.Proofs.YtebadckdihgklaaDoorW.PrintMore
attribute [local go_sem] max2_int min2_int max_two min_two max_three min_three max_four min_four   -- for this text's walks alone
set_option linter.unusedVariables false
set_option linter.unusedSimpArgs false
def impl_isBigName.f (k : Nat) (a0 : ByteArray) : Option (Bool) := (impl_in.f (a0.size : Int) 1 20).bind fun t254 => (if t254 = true then ((impl_nameLong.f k a0).bind fun t255 => (if t255 = (a0.size : Int) then (if 0 < (a0.size : Int) then (some (decide ((bt a0 0) ≤ 90))) else (none)) else (some false))) else (some false))
set_option maxHeartbeats 8000000 in
set_option maxRecDepth 100000 in
theorem impl_isBigName.calls (k : Nat) (a0 : ByteArray) (r : Bool) (w : World) (h : impl_isBigName.f k a0 = some r) :
  Calls Tryd.prog 78 #[.string a0] w fun e w' => e = .returned (.bool r) ∧ y1 w w' := by
 have H : ((impl_in.f (a0.size : Int) 1 20).bind fun t254 => (if t254 = true then ((impl_nameLong.f k a0).bind fun t255 => (if t255 = (a0.size : Int) then (if 0 < (a0.size : Int) then (some (decide ((bt a0 0) ≤ 90))) else (none)) else (some false))) else (some false))) = some r := h
 clear h
 replace H := Option.bind_eq_some_iff.mp H
 obtain ⟨t254,A20,H⟩ := H
 replace H : (if t254 = true then ((impl_nameLong.f k a0).bind fun t255 => (if t255 = (a0.size : Int) then (if 0 < (a0.size : Int) then (some (decide ((bt a0 0) ≤ 90))) else (none)) else (some false))) else (some false)) = some r := H
 have A2 := y0.mk A20
 clear A20
 by_cases c3 : t254 = true
 ·subst c3
  have H1 : ((impl_nameLong.f k a0).bind fun t255 => (if t255 = (a0.size : Int) then (if 0 < (a0.size : Int) then (some (decide ((bt a0 0) ≤ 90))) else (none)) else (some false))) = some r := by rw [if_pos rfl] at H; exact H
  clear H
  have H := H1
  clear H1
  replace H := Option.bind_eq_some_iff.mp H
  obtain ⟨t255,A40,H⟩ := H
  replace H : (if t255 = (a0.size : Int) then (if 0 < (a0.size : Int) then (some (decide ((bt a0 0) ≤ 90))) else (none)) else (some false)) = some r := H
  have A4 := y0.mk A40
  clear A40
  by_cases c5 : t255 = (a0.size : Int)
  ·rw [if_pos c5] at H
   have c5b0 : (t255 == (a0.size : Int)) = true := beq_iff_eq.mpr c5
   have c5b1 : (t255 != (a0.size : Int)) = false := bne_eq_false_iff_eq.mpr c5
   clear c5
   by_cases c6 : 0 < (a0.size : Int)
   ·rw [if_pos c6] at H
    have c6b0 : decide (0 < (a0.size : Int)) = true := decide_eq_true c6
    have c6b1 : decide (0 < a0.size) = true := decide_eq_true (by omega)
    clear c6
    obtain rfl := Option.some.inj H
    go_enter Tryd.func78,Tryd.ntmps78
    go_wp2_with (first | ((with_reducible refine y11 (f := 67) rfl ?_); refine y12 (some 5) rfl rfl Tryd.func67 (by kernel_rfl) rfl #[.int .i64 (a0.size : Int),.int .i64 1,.int .i64 20] rfl (by (try simp only [qM_,List.map_cons,List.map_nil]); first | done | rfl | (simp only [qD_,qT_]; rfl)) ?_; (with_reducible refine (impl_in.calls (a0.size : Int) 1 20 true _ A2.out).mono ?_); rintro e w' ⟨rfl,⟨nd,rfl⟩⟩; refine ⟨_,rfl, ?_⟩) | (go_at_call 106; (with_reducible refine (impl_nameLong.calls k a0 t255 _ A4.out).mono ?_); rintro e w' ⟨rfl,⟨nd,rfl⟩⟩; have p7 : 0 ≤ (0 : Int) := (by omega); have q7 : 0 < a0.size := (by have : (0 : Int) < (a0.size : Int) := of_decide_eq_true (by first | (with_reducible assumption) | assumption); omega); have hx7 : ∀ h : 0 < a0.size,((a0[0]'h).toNat : Int) = bt a0 0 := bt_at a0 0; clear p7; have qi7 : (0 < (a0.size : Int)) = True := eq_true (of_decide_eq_true (by first | (with_reducible assumption) | assumption)); replace q7 := eq_true q7))
    go_ret
    exact ⟨by first | rfl | (simp; done) | (simp [*]; done),by repeat (first | exact y1.refl _ | apply y1.step)⟩
   ·rw [if_neg c6] at H
    exact absurd H (by simp)
  ·rw [if_neg c5] at H
   have c5b0 : (t255 == (a0.size : Int)) = false := beq_eq_false_iff_ne.mpr c5
   have c5b1 : (t255 != (a0.size : Int)) = true := bne_iff_ne.mpr c5
   obtain rfl := Option.some.inj H
   go_enter Tryd.func78,Tryd.ntmps78
   go_wp2_with (first | ((with_reducible refine y11 (f := 67) rfl ?_); refine y12 (some 5) rfl rfl Tryd.func67 (by kernel_rfl) rfl #[.int .i64 (a0.size : Int),.int .i64 1,.int .i64 20] rfl (by (try simp only [qM_,List.map_cons,List.map_nil]); first | done | rfl | (simp only [qD_,qT_]; rfl)) ?_; (with_reducible refine (impl_in.calls (a0.size : Int) 1 20 true _ A2.out).mono ?_); rintro e w' ⟨rfl,⟨nd,rfl⟩⟩; refine ⟨_,rfl, ?_⟩) | (go_at_call 106; (with_reducible refine (impl_nameLong.calls k a0 t255 _ A4.out).mono ?_); rintro e w' ⟨rfl,⟨nd,rfl⟩⟩))
   go_ret
   exact ⟨by first | rfl | (simp; done) | (simp [*]; done),by repeat (first | exact y1.refl _ | apply y1.step)⟩
 ·replace c3 := Bool.eq_false_iff.mpr c3
  subst c3
  have H1 : (some false) = some r := by rw [if_neg (show ¬ (false = true) by decide)] at H; exact H
  clear H
  have H := H1
  clear H1
  obtain rfl := Option.some.inj H
  go_enter Tryd.func78,Tryd.ntmps78
  go_wp2_with (first | ((with_reducible refine y11 (f := 67) rfl ?_); refine y12 (some 5) rfl rfl Tryd.func67 (by kernel_rfl) rfl #[.int .i64 (a0.size : Int),.int .i64 1,.int .i64 20] rfl (by (try simp only [qM_,List.map_cons,List.map_nil]); first | done | rfl | (simp only [qD_,qT_]; rfl)) ?_; (with_reducible refine (impl_in.calls (a0.size : Int) 1 20 false _ A2.out).mono ?_); rintro e w' ⟨rfl,⟨nd,rfl⟩⟩; refine ⟨_,rfl, ?_⟩))
  go_ret
  exact ⟨by first | rfl | (simp; done) | (simp [*]; done),by repeat (first | exact y1.refl _ | apply y1.step)⟩
end Go.Proofs.YtebadckdihgklaaDoor.Pb
end
section
namespace Go.Proofs.YtebadckdihgklaaDoor.Pb
open Go.RowKit Go.Proofs.YtebadckdihgklaaDoorW.PrintWords Go.Proofs.YtebadckdihgklaaDoorW.PrintLast Go.Proofs.YtebadckdihgklaaDoorW.PrintMore
attribute [local go_sem] max2_int min2_int max_two min_two max_three min_three max_four min_four   -- for this text's walks alone
set_option linter.unusedVariables false
set_option linter.unusedSimpArgs false
def spec_TermParts.f (k : Nat) (a0 : ByteArray) : Option (ByteArray × List ByteArray) := (z3_.f k a0).bind fun t277 => (if t277 = 0 then (some ((⟨#[]⟩ : ByteArray),(([] : List ByteArray)))) else (if t277 = 3 then ((z4_.f k a0).bind fun bt281 => (some (bt281.1,bt281.2.1))) else (some (a0,(([] : List ByteArray))))))
set_option maxHeartbeats 8000000 in
set_option maxRecDepth 100000 in
theorem spec_TermParts.calls (k : Nat) (a0 : ByteArray) (r1 : ByteArray) (r2 : List ByteArray) (w : World) (h : spec_TermParts.f k a0 = some (r1,r2)) :
  Calls Tryd.prog 44 #[.string a0] w fun e w' => ∃ v1_ : Value,e = .returned (.tuple #[.string r1,v1_]) ∧ Kd.R Kd.string 9 w' w.heap.size (fun _ => True) v1_ r2 ∧ Below w.heap.size w w' := by
 have HB := y0.mk (Below.refl w.heap.size w)
 have H : ((z3_.f k a0).bind fun t277 => (if t277 = 0 then (some ((⟨#[]⟩ : ByteArray),(([] : List ByteArray)))) else (if t277 = 3 then ((z4_.f k a0).bind fun bt281 => (some (bt281.1,bt281.2.1))) else (some (a0,(([] : List ByteArray))))))) = some (r1,r2) := h
 clear h
 replace H := Option.bind_eq_some_iff.mp H
 obtain ⟨t277,A20,H⟩ := H
 replace H : (if t277 = 0 then (some ((⟨#[]⟩ : ByteArray),(([] : List ByteArray)))) else (if t277 = 3 then ((z4_.f k a0).bind fun bt281 => (some (bt281.1,bt281.2.1))) else (some (a0,(([] : List ByteArray)))))) = some (r1,r2) := H
 have A2 := y0.mk A20
 clear A20
 by_cases c3 : t277 = 0
 ·rw [if_pos c3] at H
  have c3b0 : (t277 == 0) = true := beq_iff_eq.mpr c3
  have c3b1 : (t277 != 0) = false := bne_eq_false_iff_eq.mpr c3
  clear c3
  obtain ⟨y278,hy278⟩ : ∃ y_ : List ByteArray,y_ = (([] : List ByteArray)) := ⟨_,rfl⟩
  replace H : (some ((⟨#[]⟩ : ByteArray),y278)) = some (r1,r2) := by first | (rw [hy278]; with_reducible exact H) | (have H2_ := (Option.bind_some _ _).symm.trans H; rw [hy278]; with_reducible exact H2_) | (have H2_ := (Option.bind_some _ _).symm.trans H; with_reducible exact H2_) | with_reducible exact H | (rw [hy278]; exact H) | exact H
  have Ny278 := y0.mk hy278
  clear hy278
  simp only [Option.some.injEq,Prod.mk.injEq] at H
  obtain ⟨rfl,rfl⟩ := H
  go_enter Tryd.func44,Tryd.ntmps44
  go_wp2_with (first | ((with_reducible refine y11 (f := 29) rfl ?_); refine y12 (some 8) rfl rfl Tryd.func29 (by kernel_rfl) rfl #[.string a0] rfl (by (try simp only [qM_,List.map_cons,List.map_nil]); first | done | rfl | (simp only [qD_,qT_]; rfl)) ?_; (with_reducible refine (z3_.calls k a0 t277 _ A2.out).mono ?_); rintro e w4 ⟨rfl,hb⟩; refine ⟨_,rfl, ?_⟩; have n0_ := y0.mk (y8 (by repeat (first | (with_reducible first | exact HB.out | apply y5 | apply y18 | apply y6) | exact HB.out)) hb); clear HB; have HB := n0_; clear n0_; (try clear hb); (try clear hb2); (try clear hk); (try clear hi)) | ((with_reducible refine gate_dst (N := 11) rfl ?_); refine Kd.R_lit Kd.string _ 9 ?hg (N := 11) ?hd (xs := ([] : List ByteArray)) (inner := []) (ok := fun _ => True) (okp := fun _ => True) ?hr ?hp (fun _ hk => hk) trivial (Below.refl _ _) (Nat.le_refl _) (by simp) ?_; (case hd => rfl); (case hg => rfl); (case hr => first | (go_simp; done) | (go_simp; rfl)); (case hp => exact (Reps.none _ _)); intro v279 w5 ho6 hb hg_ hnew_; clear hg_ hnew_; (first | rw [← Ny278.out] at ho6 | (simp only [Int.reduceToNat] at ho6; rw [← Ny278.out] at ho6)); have n0_ := y0.mk (Kd.R_lower ho6 (below_size (by repeat (first | (with_reducible first | exact HB.out | apply y5 | apply y18 | apply y6) | exact HB.out)))); have n1_ := y0.mk (y8 (by repeat (first | (with_reducible first | exact HB.out | apply y5 | apply y18 | apply y6) | exact HB.out)) hb); clear HB; have HO280 := n0_; have HB := n1_; clear n0_ n1_; clear hb ho6))
  go_ret2
  exact ⟨_,by first | rfl | (simp [y9,y10] <;> rfl) | (simp [*,y9,y10] <;> rfl),by (with_reducible repeat (first | apply Kd.R_alloc | apply Kd.R_drewN | apply Kd.R_drew)); exact HO280.out,by repeat (first | (with_reducible first | exact HB.out | apply y5 | apply y18 | apply y6) | exact HB.out)⟩
 ·rw [if_neg c3] at H
  have c3b0 : (t277 == 0) = false := beq_eq_false_iff_ne.mpr c3
  have c3b1 : (t277 != 0) = true := bne_iff_ne.mpr c3
  by_cases c7 : t277 = 3
  ·rw [if_pos c7] at H
   have c7b0 : (t277 == 3) = true := beq_iff_eq.mpr c7
   have c7b1 : (t277 != 3) = false := bne_eq_false_iff_eq.mpr c7
   clear c7
   replace H := Option.bind_eq_some_iff.mp H
   obtain ⟨⟨t281,t282,t283⟩,A80,H⟩ := H
   replace H : (some (t281,t282)) = some (r1,r2) := H
   have A8 := y0.mk A80
   clear A80
   simp only [Option.some.injEq,Prod.mk.injEq] at H
   obtain ⟨rfl,rfl⟩ := H
   go_enter Tryd.func44,Tryd.ntmps44
   go_wp2_with (first | ((with_reducible refine y11 (f := 29) rfl ?_); refine y12 (some 8) rfl rfl Tryd.func29 (by kernel_rfl) rfl #[.string a0] rfl (by (try simp only [qM_,List.map_cons,List.map_nil]); first | done | rfl | (simp only [qD_,qT_]; rfl)) ?_; (with_reducible refine (z3_.calls k a0 t277 _ A2.out).mono ?_); rintro e w9 ⟨rfl,hb⟩; refine ⟨_,rfl, ?_⟩; have n0_ := y0.mk (y8 (by repeat (first | (with_reducible first | exact HB.out | apply y5 | apply y18 | apply y6) | exact HB.out)) hb); clear HB; have HB := n0_; clear n0_; (try clear hb); (try clear hb2); (try clear hk); (try clear hi)) | ((with_reducible refine y11 (f := 74) rfl ?_); refine y12 (some 16) rfl rfl Tryd.func74 (by kernel_rfl) rfl #[.string a0] rfl (by (try simp only [qM_,List.map_cons,List.map_nil]); first | done | rfl | (simp only [qD_,qT_]; rfl)) ?_; (with_reducible refine (z4_.calls k a0 t281 t282 t283 _ A8.out).mono ?_); rintro e w10 ⟨v284,rfl,ho0,hb⟩; refine ⟨_,rfl, ?_⟩; have n0_ := y0.mk (Kd.R_lower ho0 (below_size (by repeat (first | (with_reducible first | exact HB.out | apply y5 | apply y18 | apply y6) | exact HB.out)))); have n1_ := y0.mk (y8 (by repeat (first | (with_reducible first | exact HB.out | apply y5 | apply y18 | apply y6) | exact HB.out)) hb); clear HB; have HO285 := n0_; have HB := n1_; clear n0_ n1_; (try clear hb); (try clear hb2); (try clear hk); (try clear hi); (try clear ho0)))
   go_ret2
   exact ⟨_,by first | rfl | (simp [y9,y10] <;> rfl) | (simp [*,y9,y10] <;> rfl),by (with_reducible repeat (first | apply Kd.R_alloc | apply Kd.R_drewN | apply Kd.R_drew)); exact HO285.out,by repeat (first | (with_reducible first | exact HB.out | apply y5 | apply y18 | apply y6) | exact HB.out)⟩
  ·rw [if_neg c7] at H
   have c7b0 : (t277 == 3) = false := beq_eq_false_iff_ne.mpr c7
   have c7b1 : (t277 != 3) = true := bne_iff_ne.mpr c7
   obtain ⟨y286,hy286⟩ : ∃ y_ : List ByteArray,y_ = (([] : List ByteArray)) := ⟨_,rfl⟩
   replace H : (some (a0,y286)) = some (r1,r2) := by first | (rw [hy286]; with_reducible exact H) | (have H2_ := (Option.bind_some _ _).symm.trans H; rw [hy286]; with_reducible exact H2_) | (have H2_ := (Option.bind_some _ _).symm.trans H; with_reducible exact H2_) | with_reducible exact H | (rw [hy286]; exact H) | exact H
   have Ny286 := y0.mk hy286
   clear hy286
   simp only [Option.some.injEq,Prod.mk.injEq] at H
   obtain ⟨rfl,rfl⟩ := H
   go_enter Tryd.func44,Tryd.ntmps44
   go_wp2_with (first | ((with_reducible refine y11 (f := 29) rfl ?_); refine y12 (some 8) rfl rfl Tryd.func29 (by kernel_rfl) rfl #[.string a0] rfl (by (try simp only [qM_,List.map_cons,List.map_nil]); first | done | rfl | (simp only [qD_,qT_]; rfl)) ?_; (with_reducible refine (z3_.calls k a0 t277 _ A2.out).mono ?_); rintro e w11 ⟨rfl,hb⟩; refine ⟨_,rfl, ?_⟩; have n0_ := y0.mk (y8 (by repeat (first | (with_reducible first | exact HB.out | apply y5 | apply y18 | apply y6) | exact HB.out)) hb); clear HB; have HB := n0_; clear n0_; (try clear hb); (try clear hb2); (try clear hk); (try clear hi)) | ((with_reducible refine gate_dst (N := 23) rfl ?_); refine Kd.R_lit Kd.string _ 9 ?hg (N := 23) ?hd (xs := ([] : List ByteArray)) (inner := []) (ok := fun _ => True) (okp := fun _ => True) ?hr ?hp (fun _ hk => hk) trivial (Below.refl _ _) (Nat.le_refl _) (by simp) ?_; (case hd => rfl); (case hg => rfl); (case hr => first | (go_simp; done) | (go_simp; rfl)); (case hp => exact (Reps.none _ _)); intro v287 w12 ho13 hb hg_ hnew_; clear hg_ hnew_; (first | rw [← Ny286.out] at ho13 | (simp only [Int.reduceToNat] at ho13; rw [← Ny286.out] at ho13)); have n0_ := y0.mk (Kd.R_lower ho13 (below_size (by repeat (first | (with_reducible first | exact HB.out | apply y5 | apply y18 | apply y6) | exact HB.out)))); have n1_ := y0.mk (y8 (by repeat (first | (with_reducible first | exact HB.out | apply y5 | apply y18 | apply y6) | exact HB.out)) hb); clear HB; have HO288 := n0_; have HB := n1_; clear n0_ n1_; clear hb ho13))
   go_ret2
   exact ⟨_,by first | rfl | (simp [y9,y10] <;> rfl) | (simp [*,y9,y10] <;> rfl),by (with_reducible repeat (first | apply Kd.R_alloc | apply Kd.R_drewN | apply Kd.R_drew)); exact HO288.out,by repeat (first | (with_reducible first | exact HB.out | apply y5 | apply y18 | apply y6) | exact HB.out)⟩
def strings_Cut.f (a0 a1 : ByteArray) : Option (ByteArray × ByteArray × Bool) := if a0.size < 4294967281 then some (⟨(Lib.cut a0.data.toList a1.data.toList).1.toArray⟩,⟨(Lib.cut a0.data.toList a1.data.toList).2.1.toArray⟩,(Lib.cut a0.data.toList a1.data.toList).2.2) else none
theorem strings_Cut.calls (a0 a1 : ByteArray) (r1 r2 : ByteArray) (r3 : Bool) (w : World) (hT : Tb w) (h : strings_Cut.f a0 a1 = some (r1,r2,r3)) :
  Calls Tryd.prog 107 #[.string a0,.string a1] w fun e w' => e = .returned (.tuple #[.string r1,.string r2,.bool r3]) ∧ y1 w w' := by
 unfold strings_Cut.f at h
 by_cases h0 : a0.size < 4294967281
 ·rw [if_pos h0] at h
  simp only [Option.some.injEq,Prod.mk.injEq] at h
  obtain ⟨rfl,rfl,rfl⟩ := h
  obtain ⟨m,hm⟩ := hT.ml
  refine (Tryd.strings_Cut a0 a1 m w h0 hm).mono ?_
  rintro e w' ⟨rfl,n,rfl⟩
  exact ⟨rfl,⟨⟨n,rfl⟩⟩⟩
 ·rw [if_neg h0] at h
  cases h
def strings_HasPrefix.f (a0 a1 : ByteArray) : Option Bool := some (Lib.hasPrefix a0.data.toList a1.data.toList)
theorem strings_HasPrefix.calls (a0 a1 : ByteArray) (r : Bool) (w : World) (h : strings_HasPrefix.f a0 a1 = some r) :
  Calls Tryd.prog 108 #[.string a0,.string a1] w fun e w' => e = .returned (.bool r) ∧ y1 w w' := by
 obtain rfl := Option.some.inj h
 refine (Tryd.strings_HasPrefix a0 a1 w).mono ?_
 rintro e w' ⟨rfl,rfl⟩
 exact ⟨rfl,y1.refl _⟩
end Go.Proofs.YtebadckdihgklaaDoor.Pb
end
section
namespace Go.Proofs.YtebadckdihgklaaDoor.Pb
open Go.RowKit Go.Proofs.YtebadckdihgklaaDoorW.PrintWords Go.Proofs.YtebadckdihgklaaDoorW.PrintLast Go.Proofs.YtebadckdihgklaaDoorW.PrintMore
attribute [local go_sem] max2_int min2_int max_two min_two max_three min_three max_four min_four   -- for this text's walks alone
set_option linter.unusedVariables false
set_option linter.unusedSimpArgs false
mutual
def z2_.j0 : Nat → ByteArray → ByteArray → ByteArray → Bool → Option (ByteArray × List ByteArray)
 | 0,_,_,_,_ => none
 | k + 1,x0,x4,x5,x22 => if x22 = true then (some (x0,([] : List ByteArray))) else (z2_.l0 k x4 x5 (([] : List ByteArray)))
def z2_.l0 : Nat → ByteArray → ByteArray → List ByteArray → Option (ByteArray × List ByteArray)
 | 0,_,_,_ => none
 | k + 1,x4,x5,x7 => if x5.toList = ([] : List UInt8) then (z2_.j2 k x4 x5 x7 false) else (z2_.j2 k x4 x5 x7 (x5.toList != ([41] : List UInt8)))
def z2_.j2 : Nat → ByteArray → ByteArray → List ByteArray → Bool → Option (ByteArray × List ByteArray)
 | 0,_,_,_,_ => none
 | k + 1,x4,x5,x7,x30 => if x30 = true then ((impl_termAt.f k x5).bind fun bt305 => (if 0 ≤ bt305.2 then (if bt305.2 ≤ (x5.size : Int) then (if x7.length < 8796093022208 then ((some (x7 ++ [x5.extract 0 (bt305.2 : Int).toNat] : List ByteArray)).bind fun y307 => ((strings_HasPrefix.f (x5.extract (bt305.2 : Int).toNat x5.size) (⟨#[44]⟩ : ByteArray)).bind fun t310 => (if t310 = true then (if 1 ≤ ((x5.extract (bt305.2 : Int).toNat x5.size).size : Int) then (z2_.l0 k x4 ((x5.extract (bt305.2 : Int).toNat x5.size).extract 1 (x5.extract (bt305.2 : Int).toNat x5.size).size) y307) else (none)) else (z2_.l0 k x4 (x5.extract (bt305.2 : Int).toNat x5.size) y307)))) else (none)) else (none)) else (none))) else (some (x4,x7))
end
def z2_.f (k : Nat) (a0 : ByteArray) : Option (ByteArray × List ByteArray) := (strings_Cut.f a0 (⟨#[40]⟩ : ByteArray)).bind fun bt298 => ((impl_isBigName.f k bt298.1).bind fun t301 => (if t301 = true then (z2_.j0 k a0 bt298.1 bt298.2.1 (!bt298.2.2)) else (z2_.j0 k a0 bt298.1 bt298.2.1 true)))
set_option maxHeartbeats 8000000 in
set_option maxRecDepth 100000 in
theorem z2_.calls (k : Nat) (a0 : ByteArray) (r1 : ByteArray) (r2 : List ByteArray) (w : World) (hT : Tb w) (h : z2_.f k a0 = some (r1,r2)) :
  Calls Tryd.prog 81 #[.string a0] w fun e w' => ∃ v1_ : Value,e = .returned (.tuple #[.string r1,v1_]) ∧ Kd.R Kd.string 9 w' w.heap.size (fun _ => True) v1_ r2 ∧ Below w.heap.size w w' := by
 have HT := y0.mk hT
 clear hT
 have HB := y0.mk (Below.refl w.heap.size w)
 have H : ((strings_Cut.f a0 (⟨#[40]⟩ : ByteArray)).bind fun bt298 => ((impl_isBigName.f k bt298.1).bind fun t301 => (if t301 = true then (z2_.j0 k a0 bt298.1 bt298.2.1 (!bt298.2.2)) else (z2_.j0 k a0 bt298.1 bt298.2.1 true)))) = some (r1,r2) := h
 clear h
 replace H := Option.bind_eq_some_iff.mp H
 obtain ⟨⟨t298,t299,t300⟩,A20,H⟩ := H
 replace H : ((impl_isBigName.f k t298).bind fun t301 => (if t301 = true then (z2_.j0 k a0 t298 t299 (!t300)) else (z2_.j0 k a0 t298 t299 true))) = some (r1,r2) := H
 have A2 := y0.mk A20
 clear A20
 have HC3 := y0.mk H
 clear H
 go_enter Tryd.func81,Tryd.ntmps81
 go_upto_region 2 with (first | ((with_reducible refine y11 (f := 107) rfl ?_); refine y12 (some 12) rfl rfl Tryd.func107 (by kernel_rfl) rfl #[.string a0,.string (⟨#[40]⟩ : ByteArray)] rfl (by (try simp only [qM_,List.map_cons,List.map_nil]); first | done | rfl | (simp only [qD_,qT_]; rfl)) ?_; (with_reducible refine (strings_Cut.calls a0 (⟨#[40]⟩ : ByteArray) t298 t299 t300 _ ?side1 A2.out).mono ?_); (case side1 => exact Tb.below HT.out (by repeat (first | (with_reducible first | exact HB.out | apply y5 | apply y18 | apply y6) | exact HB.out))); rintro e w' ⟨rfl,⟨nd,rfl⟩⟩; refine ⟨_,rfl, ?_⟩))
 (try simp only [Act.put,qS_,qZ_,qC_])
 go_cut [22] (fun v22 wc => ∃ (kq : Nat) (x22_2 : Bool),v22 = .bool x22_2 ∧ y0 (z2_.j0 kq a0 t298 t299 x22_2 = some (r1,r2)) ∧ y0 (kq ≤ k) ∧ y0 (Below w.heap.size w wc))
 case first =>
  have H := HC3.out
  clear HC3
  replace H := Option.bind_eq_some_iff.mp H
  obtain ⟨t301,A40,H⟩ := H
  replace H : (if t301 = true then (z2_.j0 k a0 t298 t299 (!t300)) else (z2_.j0 k a0 t298 t299 true)) = some (r1,r2) := H
  have A4 := y0.mk A40
  clear A40
  by_cases c5 : t301 = true
  ·subst c5
   have H1 : (z2_.j0 k a0 t298 t299 (!t300)) = some (r1,r2) := by rw [if_pos rfl] at H; exact H
   clear H
   have H := H1
   clear H1
   have H' := y0.mk H
   clear H
   go_wp2_with (first | ((with_reducible refine y11 (f := 78) rfl ?_); refine y12 (some 17) rfl rfl Tryd.func78 (by kernel_rfl) rfl #[.string t298] rfl (by (try simp only [qM_,List.map_cons,List.map_nil]); first | done | rfl | (simp only [qD_,qT_]; rfl)) ?_; (with_reducible refine (impl_isBigName.calls k t298 true _ A4.out).mono ?_); rintro e w' ⟨rfl,⟨nd,rfl⟩⟩; refine ⟨_,rfl, ?_⟩))
   go_meet
   case rel => exact ⟨_,(!t300),(by first | rfl | (simp; done) | (simp [*]; done)),H',⟨by first | omega | exact Nat.le_refl _⟩,⟨by repeat (first | (with_reducible first | exact HB.out | apply y5 | apply y18 | apply y6) | exact HB.out)⟩⟩
  ·replace c5 := Bool.eq_false_iff.mpr c5
   subst c5
   have H1 : (z2_.j0 k a0 t298 t299 true) = some (r1,r2) := by rw [if_neg (show ¬ (false = true) by decide)] at H; exact H
   clear H
   have H := H1
   clear H1
   have H' := y0.mk H
   clear H
   go_wp2_with (first | ((with_reducible refine y11 (f := 78) rfl ?_); refine y12 (some 17) rfl rfl Tryd.func78 (by kernel_rfl) rfl #[.string t298] rfl (by (try simp only [qM_,List.map_cons,List.map_nil]); first | done | rfl | (simp only [qD_,qT_]; rfl)) ?_; (with_reducible refine (impl_isBigName.calls k t298 false _ A4.out).mono ?_); rintro e w' ⟨rfl,⟨nd,rfl⟩⟩; refine ⟨_,rfl, ?_⟩))
   go_meet
   case rel => exact ⟨_,(true),(by first | rfl | (simp; done) | (simp [*]; done)),H',⟨by first | omega | exact Nat.le_refl _⟩,⟨by repeat (first | (with_reducible first | exact HB.out | apply y5 | apply y18 | apply y6) | exact HB.out)⟩⟩
 case rest =>
  clear HC3
  try clear c1
  try clear p2
  try clear c5
  obtain ⟨kq,x22_2,rfl,HA,HJ2,HB⟩ := hcut
  cases kq with
  | zero => exact absurd HA.out (by simp [z2_.j0])
  | succ kj2 =>
   have H := HA.out
   clear HA
   simp only [z2_.j0] at H
   by_cases c6 : x22_2 = true
   ·subst c6
    have H1 : (some (a0,([] : List ByteArray))) = some (r1,r2) := by rw [if_pos rfl] at H; exact H
    clear H
    have H := H1
    clear H1
    simp only [Option.some.injEq,Prod.mk.injEq] at H
    obtain ⟨rfl,rfl⟩ := H
    go_wp2
    go_ret2
    exact ⟨_,by first | rfl | (simp [y9,y10] <;> rfl) | (simp [*,y9,y10] <;> rfl),by first | exact Kd.R_nil _ _ _ _ _ | exact Kd.N_nil _ _ _ _ _ | exact Kd.V_nil _ _ _ _ _ | exact Kd.Q_nil _ _ _ _ _ | exact Kd.S_nil _ _ _ _ _,by repeat (first | (with_reducible first | exact HB.out | apply y5 | apply y18 | apply y6) | exact HB.out)⟩
   ·replace c6 := Bool.eq_false_iff.mpr c6
    subst c6
    have H1 : (z2_.l0 kj2 t298 t299 (([] : List ByteArray))) = some (r1,r2) := by rw [if_neg (show ¬ (false = true) by decide)] at H; exact H
    clear H
    have H := H1
    clear H1
    obtain ⟨y302,hy302⟩ : ∃ y_ : List ByteArray,y_ = (([] : List ByteArray)) := ⟨_,rfl⟩
    replace H : (z2_.l0 kj2 t298 t299 y302) = some (r1,r2) := by first | (rw [hy302]; with_reducible exact H) | (have H2_ := (Option.bind_some _ _).symm.trans H; rw [hy302]; with_reducible exact H2_) | (have H2_ := (Option.bind_some _ _).symm.trans H; with_reducible exact H2_) | with_reducible exact H | (rw [hy302]; exact H) | exact H
    have Ny302 := y0.mk hy302
    clear hy302
    have H' := y0.mk H
    clear H
    go_wp2_with (first | ((with_reducible refine gate_dst (N := 24) rfl ?_); refine Kd.R_lit Kd.string _ 9 ?hg (N := 24) ?hd (xs := ([] : List ByteArray)) (inner := []) (ok := fun _ => True) (okp := fun _ => True) ?hr ?hp (fun _ hk => hk) trivial (Below.refl _ _) (Nat.le_refl _) (by simp) ?_; (case hd => rfl); (case hg => rfl); (case hr => first | (go_simp; done) | (go_simp; rfl)); (case hp => exact (Reps.none _ _)); intro v303 w7 ho8 hb hg_ hnew_; clear hg_ hnew_; (first | rw [← Ny302.out] at ho8 | (simp only [Int.reduceToNat] at ho8; rw [← Ny302.out] at ho8)); have n0_ := y0.mk (Kd.R_lower ho8 (below_size (by repeat (first | (with_reducible first | exact HB.out | apply y5 | apply y18 | apply y6) | exact HB.out)))); have n1_ := y0.mk (y8 (by repeat (first | (with_reducible first | exact HB.out | apply y5 | apply y18 | apply y6) | exact HB.out)) hb); clear HB; have HO304 := n0_; have HB := n1_; clear n0_ n1_; clear hb ho8))
    go_loopg [5,7] kj2 (fun kq v5 v7 w' => ∃ (x5_2 : ByteArray) (x7_2 : List ByteArray),v5 = .string x5_2 ∧ y0 (z2_.l0 kq t298 x5_2 x7_2 = some (r1,r2)) ∧ y0 (kq ≤ kj2) ∧ y0 (Kd.R Kd.string 9 w' w.heap.size (fun _ => True) v7 x7_2) ∧ y0 (Below w.heap.size w w'))
    case atStart => exact ⟨(t299),(y302),(by first | rfl | (simp; done) | (simp [*]; done)),H',⟨Nat.le_refl _⟩,⟨by (with_reducible repeat (first | apply Kd.R_alloc | apply Kd.R_drewN | apply Kd.R_drew)); exact HO304.out⟩,⟨by repeat (first | (with_reducible first | exact HB.out | apply y5 | apply y18 | apply y6) | exact HB.out)⟩⟩
    case round =>
     clear H'
     try clear c1
     try clear p2
     try clear c5
     try clear c6
     try clear c7
     try clear c8
     try clear p2
     obtain ⟨x5_2,x7_2,rfl,HA,HK2,HO_7,HB⟩ := hrel
     cases gk with
     | zero => exact absurd HA.out (by simp [z2_.l0])
     | succ k2 =>
      have H := HA.out
      clear HA
      simp only [z2_.l0] at H
      have HC9 := y0.mk H
      clear H
      go_upto_region 5 with (fail)
      go_cut [30] (fun v30 wc => ∃ (kq : Nat) (x30_8 : Bool),v30 = .bool x30_8 ∧ y0 (z2_.j2 kq t298 x5_2 x7_2 x30_8 = some (r1,r2)) ∧ y0 (kq ≤ k2) ∧ y0 (Kd.R Kd.string 9 wc w.heap.size (fun _ => True) u7 x7_2) ∧ y0 (Below w.heap.size w wc))
      case first =>
       have H := HC9.out
       clear HC9
       by_cases c10 : x5_2.toList = ([] : List UInt8)
       ·rw [if_pos c10] at H
        have c10b0 : (x5_2.toList == ([] : List UInt8)) = true := beq_iff_eq.mpr c10
        have c10b1 : (x5_2.toList != ([] : List UInt8)) = false := bne_eq_false_iff_eq.mpr c10
        clear c10
        (first | rw [c10b0] | (simp only [y14,y13]; rw [c10b0]) | skip)
        have H' := y0.mk H
        clear H
        go_wp2
        go_meet
        case rel => exact ⟨_,(false),(by first | rfl | (simp; done) | (simp [*]; done)),H',⟨by have := HJ2.out; have := HK2.out; first | omega | exact Nat.le_refl _⟩,⟨by (with_reducible repeat (first | apply Kd.R_alloc | apply Kd.R_drewN | apply Kd.R_drew)); exact HO_7.out⟩,⟨by repeat (first | (with_reducible first | exact HB.out | apply y5 | apply y18 | apply y6) | exact HB.out)⟩⟩
       ·rw [if_neg c10] at H
        have c10b0 : (x5_2.toList == ([] : List UInt8)) = false := beq_eq_false_iff_ne.mpr c10
        have c10b1 : (x5_2.toList != ([] : List UInt8)) = true := bne_iff_ne.mpr c10
        (first | rw [c10b0] | (simp only [y14,y13]; rw [c10b0]) | skip)
        have H' := y0.mk H
        clear H
        go_wp2
        go_meet
        case rel => exact ⟨_,((x5_2.toList != ([41] : List UInt8))),(by first | rfl | (simp; done) | (simp [*]; done)),H',⟨by have := HJ2.out; have := HK2.out; first | omega | exact Nat.le_refl _⟩,⟨by (with_reducible repeat (first | apply Kd.R_alloc | apply Kd.R_drewN | apply Kd.R_drew)); exact HO_7.out⟩,⟨by repeat (first | (with_reducible first | exact HB.out | apply y5 | apply y18 | apply y6) | exact HB.out)⟩⟩
      case rest =>
       clear HC9
       try clear c1
       try clear p2
       try clear c5
       try clear c6
       try clear c7
       try clear c8
       try clear c10
       try clear c10b0
       try clear c10b1
       try clear p2
       obtain ⟨kq,x30_8,rfl,HA,HJ8,HO_7,HB⟩ := hcut
       cases kq with
       | zero => exact absurd HA.out (by simp [z2_.j2])
       | succ kj8 =>
        have H := HA.out
        clear HA
        simp only [z2_.j2] at H
        by_cases c11 : x30_8 = true
        ·subst c11
         have H1 : ((impl_termAt.f kj8 x5_2).bind fun bt305 => (if 0 ≤ bt305.2 then (if bt305.2 ≤ (x5_2.size : Int) then (if x7_2.length < 8796093022208 then ((some (x7_2 ++ [x5_2.extract 0 (bt305.2 : Int).toNat] : List ByteArray)).bind fun y307 => ((strings_HasPrefix.f (x5_2.extract (bt305.2 : Int).toNat x5_2.size) (⟨#[44]⟩ : ByteArray)).bind fun t310 => (if t310 = true then (if 1 ≤ ((x5_2.extract (bt305.2 : Int).toNat x5_2.size).size : Int) then (z2_.l0 kj8 t298 ((x5_2.extract (bt305.2 : Int).toNat x5_2.size).extract 1 (x5_2.extract (bt305.2 : Int).toNat x5_2.size).size) y307) else (none)) else (z2_.l0 kj8 t298 (x5_2.extract (bt305.2 : Int).toNat x5_2.size) y307)))) else (none)) else (none)) else (none))) = some (r1,r2) := by rw [if_pos rfl] at H; exact H
         clear H
         have H := H1
         clear H1
         replace H := Option.bind_eq_some_iff.mp H
         obtain ⟨⟨t305,t306⟩,A120,H⟩ := H
         replace H : (if 0 ≤ t306 then (if t306 ≤ (x5_2.size : Int) then (if x7_2.length < 8796093022208 then ((some (x7_2 ++ [x5_2.extract 0 (t306 : Int).toNat] : List ByteArray)).bind fun y307 => ((strings_HasPrefix.f (x5_2.extract (t306 : Int).toNat x5_2.size) (⟨#[44]⟩ : ByteArray)).bind fun t310 => (if t310 = true then (if 1 ≤ ((x5_2.extract (t306 : Int).toNat x5_2.size).size : Int) then (z2_.l0 kj8 t298 ((x5_2.extract (t306 : Int).toNat x5_2.size).extract 1 (x5_2.extract (t306 : Int).toNat x5_2.size).size) y307) else (none)) else (z2_.l0 kj8 t298 (x5_2.extract (t306 : Int).toNat x5_2.size) y307)))) else (none)) else (none)) else (none)) = some (r1,r2) := H
         have A12 := y0.mk A120
         clear A120
         by_cases c13 : 0 ≤ t306
         ·rw [if_pos c13] at H
          have c13b0 := eq_true c13
          have c13b1 : decide (0 ≤ t306) = true := decide_eq_true c13
          clear c13
          by_cases c14 : t306 ≤ (x5_2.size : Int)
          ·rw [if_pos c14] at H
           have c14b0 := eq_true c14
           have c14b1 : decide (t306 ≤ (x5_2.size : Int)) = true := decide_eq_true c14
           clear c14
           by_cases c15 : x7_2.length < 8796093022208
           ·rw [if_pos c15] at H
            have LMc15 := y0.mk c15
            clear c15
            obtain ⟨y307,hy307⟩ : ∃ y_ : List ByteArray,y_ = (x7_2 ++ [x5_2.extract 0 (t306 : Int).toNat]) := ⟨_,rfl⟩
            replace H : ((strings_HasPrefix.f (x5_2.extract (t306 : Int).toNat x5_2.size) (⟨#[44]⟩ : ByteArray)).bind fun t310 => (if t310 = true then (if 1 ≤ ((x5_2.extract (t306 : Int).toNat x5_2.size).size : Int) then (z2_.l0 kj8 t298 ((x5_2.extract (t306 : Int).toNat x5_2.size).extract 1 (x5_2.extract (t306 : Int).toNat x5_2.size).size) y307) else (none)) else (z2_.l0 kj8 t298 (x5_2.extract (t306 : Int).toNat x5_2.size) y307))) = some (r1,r2) := by first | (rw [hy307]; with_reducible exact H) | (have H2_ := (Option.bind_some _ _).symm.trans H; rw [hy307]; with_reducible exact H2_) | (have H2_ := (Option.bind_some _ _).symm.trans H; with_reducible exact H2_) | with_reducible exact H | (rw [hy307]; exact H) | exact H
            have Ny307 := y0.mk hy307
            clear hy307
            have c16b0 := eq_true (of_decide_eq_true (by first | (with_reducible assumption) | assumption) : 0 ≤ t306)
            have c17b0 := eq_true (of_decide_eq_true (by first | (with_reducible assumption) | assumption) : t306 ≤ (x5_2.size : Int))
            replace H := Option.bind_eq_some_iff.mp H
            obtain ⟨t310,A180,H⟩ := H
            replace H : (if t310 = true then (if 1 ≤ ((x5_2.extract (t306 : Int).toNat x5_2.size).size : Int) then (z2_.l0 kj8 t298 ((x5_2.extract (t306 : Int).toNat x5_2.size).extract 1 (x5_2.extract (t306 : Int).toNat x5_2.size).size) y307) else (none)) else (z2_.l0 kj8 t298 (x5_2.extract (t306 : Int).toNat x5_2.size) y307)) = some (r1,r2) := H
            have A18 := y0.mk A180
            clear A180
            by_cases c19 : t310 = true
            ·subst c19
             have H1 : (if 1 ≤ ((x5_2.extract (t306 : Int).toNat x5_2.size).size : Int) then (z2_.l0 kj8 t298 ((x5_2.extract (t306 : Int).toNat x5_2.size).extract 1 (x5_2.extract (t306 : Int).toNat x5_2.size).size) y307) else (none)) = some (r1,r2) := by rw [if_pos rfl] at H; exact H
             clear H
             have H := H1
             clear H1
             by_cases c20 : 1 ≤ ((x5_2.extract (t306 : Int).toNat x5_2.size).size : Int)
             ·rw [if_pos c20] at H
              have c20b0 := eq_true c20
              have c20b1 : decide (1 ≤ ((x5_2.extract (t306 : Int).toNat x5_2.size).size : Int)) = true := decide_eq_true c20
              have c20b4 : ((1 : Int) ≤ ((x5_2.size - (t306 : Int).toNat : Nat) : Int)) = True := eq_true (by have h_ := c20; simp only [ByteArray.size_extract] at h_; omega)
              have c20b5 : (((x5_2.size - (t306 : Int).toNat : Nat) : Int) < 1) = False := eq_false (by have h_ := c20; simp only [ByteArray.size_extract] at h_; omega)
              clear c20
              have H' := y0.mk H
              clear H
              go_wp2_with (first | ((with_reducible refine y11 (f := 101) rfl ?_); refine y12 (some 33) rfl rfl Tryd.func101 (by kernel_rfl) rfl #[.string x5_2] rfl (by (try simp only [qM_,List.map_cons,List.map_nil]); first | done | rfl | (simp only [qD_,qT_]; rfl)) ?_; (with_reducible refine (impl_termAt.calls kj8 x5_2 t305 t306 _ ?side1 A12.out).mono ?_); (case side1 => exact Tb.below HT.out (by repeat (first | (with_reducible first | exact HB.out | apply y5 | apply y18 | apply y6) | exact HB.out))); rintro e w21 ⟨rfl,hb⟩; refine ⟨_,rfl, ?_⟩; have n0_ := y0.mk (Kd.R_below (by (with_reducible repeat (first | apply Kd.R_alloc | apply Kd.R_drewN | apply Kd.R_drew)); exact HO_7.out) hb); have n1_ := y0.mk (y8 (by repeat (first | (with_reducible first | exact HB.out | apply y5 | apply y18 | apply y6) | exact HB.out)) hb); clear HO_7; clear HB; have HO_7 := n0_; have HB := n1_; clear n0_ n1_; (try clear hb); (try clear hb2); (try clear hk); (try clear hi)) | ((with_reducible refine gate_builtin (b := .append) (xs := #[.tmp 36,.tmp 40]) rfl ?_); at_builtin; refine Kd.R_append Kd.string (w0 := w) w.heap.size rfl (.tmp 36) (.tmp 40) 31 9 (.string ⟨#[]⟩) 16 rfl Tryd.underlying31 info9 rfl (by decide) (by omega) u7 x7_2 (x5_2.extract 0 (t306 : Int).toNat) [.string (x5_2.extract 0 (t306 : Int).toNat)] (fun _ => True) (fun _ => False) rfl rfl ?aP (fun _ hk => hk.elim) ?aF ?aO ?aB ?aS ?aL ?_; (case aP => exact rfl); (case aB => exact (by repeat (first | (with_reducible first | exact HB.out | apply y5 | apply y18 | apply y6) | exact HB.out))); (case aF => exact (fun _ _ => trivial)); (case aO => exact (by (with_reducible repeat (first | apply Kd.R_alloc | apply Kd.R_drewN | apply Kd.R_drew)); exact HO_7.out)); (case aS => exact (below_size (by repeat (first | (with_reducible first | exact HB.out | apply y5 | apply y18 | apply y6) | exact HB.out)))); (case aL => have := LMc15.out; omega); intro v308 w22 ho hb hg hat; rw [← Ny307.out] at ho; have n0_ := y0.mk (hb); have n1_ := y0.mk (ho); clear HB; clear HO_7; have HB := n0_; have HO309 := n1_; clear n0_ n1_; clear ho hb hg hat) | ((with_reducible refine y11 (f := 108) rfl ?_); refine y12 (some 46) rfl rfl Tryd.func108 (by kernel_rfl) rfl #[.string (x5_2.extract (t306 : Int).toNat x5_2.size),.string (⟨#[44]⟩ : ByteArray)] rfl (by (try simp only [qM_,List.map_cons,List.map_nil]); first | done | rfl | (simp only [qD_,qT_]; rfl)) ?_; (with_reducible refine (strings_HasPrefix.calls (x5_2.extract (t306 : Int).toNat x5_2.size) (⟨#[44]⟩ : ByteArray) true _ A18.out).mono ?_); rintro e w' ⟨rfl,⟨nd,rfl⟩⟩; refine ⟨_,rfl, ?_⟩))
              go_roundg kj8
              case measure => have := HJ2.out; have := HK2.out; have := HJ8.out; omega
              case rel => exact ⟨((x5_2.extract (t306 : Int).toNat x5_2.size).extract 1 (x5_2.extract (t306 : Int).toNat x5_2.size).size),(y307),(by first | rfl | (simp; done) | (simp [*]; done)),H',⟨by have := HJ2.out; have := HK2.out; have := HJ8.out; omega⟩,⟨by (with_reducible repeat (first | apply Kd.R_alloc | apply Kd.R_drewN | apply Kd.R_drew)); exact HO309.out⟩,⟨by repeat (first | (with_reducible first | exact HB.out | apply y5 | apply y18 | apply y6) | exact HB.out)⟩⟩
             ·rw [if_neg c20] at H
              exact absurd H (by simp)
            ·replace c19 := Bool.eq_false_iff.mpr c19
             subst c19
             have H1 : (z2_.l0 kj8 t298 (x5_2.extract (t306 : Int).toNat x5_2.size) y307) = some (r1,r2) := by rw [if_neg (show ¬ (false = true) by decide)] at H; exact H
             clear H
             have H := H1
             clear H1
             have H' := y0.mk H
             clear H
             go_wp2_with (first | ((with_reducible refine y11 (f := 101) rfl ?_); refine y12 (some 33) rfl rfl Tryd.func101 (by kernel_rfl) rfl #[.string x5_2] rfl (by (try simp only [qM_,List.map_cons,List.map_nil]); first | done | rfl | (simp only [qD_,qT_]; rfl)) ?_; (with_reducible refine (impl_termAt.calls kj8 x5_2 t305 t306 _ ?side1 A12.out).mono ?_); (case side1 => exact Tb.below HT.out (by repeat (first | (with_reducible first | exact HB.out | apply y5 | apply y18 | apply y6) | exact HB.out))); rintro e w23 ⟨rfl,hb⟩; refine ⟨_,rfl, ?_⟩; have n0_ := y0.mk (Kd.R_below (by (with_reducible repeat (first | apply Kd.R_alloc | apply Kd.R_drewN | apply Kd.R_drew)); exact HO_7.out) hb); have n1_ := y0.mk (y8 (by repeat (first | (with_reducible first | exact HB.out | apply y5 | apply y18 | apply y6) | exact HB.out)) hb); clear HO_7; clear HB; have HO_7 := n0_; have HB := n1_; clear n0_ n1_; (try clear hb); (try clear hb2); (try clear hk); (try clear hi)) | ((with_reducible refine gate_builtin (b := .append) (xs := #[.tmp 36,.tmp 40]) rfl ?_); at_builtin; refine Kd.R_append Kd.string (w0 := w) w.heap.size rfl (.tmp 36) (.tmp 40) 31 9 (.string ⟨#[]⟩) 16 rfl Tryd.underlying31 info9 rfl (by decide) (by omega) u7 x7_2 (x5_2.extract 0 (t306 : Int).toNat) [.string (x5_2.extract 0 (t306 : Int).toNat)] (fun _ => True) (fun _ => False) rfl rfl ?aP (fun _ hk => hk.elim) ?aF ?aO ?aB ?aS ?aL ?_; (case aP => exact rfl); (case aB => exact (by repeat (first | (with_reducible first | exact HB.out | apply y5 | apply y18 | apply y6) | exact HB.out))); (case aF => exact (fun _ _ => trivial)); (case aO => exact (by (with_reducible repeat (first | apply Kd.R_alloc | apply Kd.R_drewN | apply Kd.R_drew)); exact HO_7.out)); (case aS => exact (below_size (by repeat (first | (with_reducible first | exact HB.out | apply y5 | apply y18 | apply y6) | exact HB.out)))); (case aL => have := LMc15.out; omega); intro v308 w24 ho hb hg hat; rw [← Ny307.out] at ho; have n0_ := y0.mk (hb); have n1_ := y0.mk (ho); clear HB; clear HO_7; have HB := n0_; have HO309 := n1_; clear n0_ n1_; clear ho hb hg hat) | ((with_reducible refine y11 (f := 108) rfl ?_); refine y12 (some 46) rfl rfl Tryd.func108 (by kernel_rfl) rfl #[.string (x5_2.extract (t306 : Int).toNat x5_2.size),.string (⟨#[44]⟩ : ByteArray)] rfl (by (try simp only [qM_,List.map_cons,List.map_nil]); first | done | rfl | (simp only [qD_,qT_]; rfl)) ?_; (with_reducible refine (strings_HasPrefix.calls (x5_2.extract (t306 : Int).toNat x5_2.size) (⟨#[44]⟩ : ByteArray) false _ A18.out).mono ?_); rintro e w' ⟨rfl,⟨nd,rfl⟩⟩; refine ⟨_,rfl, ?_⟩))
             go_roundg kj8
             case measure => have := HJ2.out; have := HK2.out; have := HJ8.out; omega
             case rel => exact ⟨(x5_2.extract (t306 : Int).toNat x5_2.size),(y307),(by first | rfl | (simp; done) | (simp [*]; done)),H',⟨by have := HJ2.out; have := HK2.out; have := HJ8.out; omega⟩,⟨by (with_reducible repeat (first | apply Kd.R_alloc | apply Kd.R_drewN | apply Kd.R_drew)); exact HO309.out⟩,⟨by repeat (first | (with_reducible first | exact HB.out | apply y5 | apply y18 | apply y6) | exact HB.out)⟩⟩
           ·rw [if_neg c15] at H
            exact absurd H (by simp)
          ·rw [if_neg c14] at H
           exact absurd H (by simp)
         ·rw [if_neg c13] at H
          exact absurd H (by simp)
        ·replace c11 := Bool.eq_false_iff.mpr c11
         subst c11
         have H1 : (some (t298,x7_2)) = some (r1,r2) := by rw [if_neg (show ¬ (false = true) by decide)] at H; exact H
         clear H
         have H := H1
         clear H1
         simp only [Option.some.injEq,Prod.mk.injEq] at H
         obtain ⟨rfl,rfl⟩ := H
         go_wp2
         go_ret2
         exact ⟨_,by first | rfl | (simp [y9,y10] <;> rfl) | (simp [*,y9,y10] <;> rfl),by (with_reducible repeat (first | apply Kd.R_alloc | apply Kd.R_drewN | apply Kd.R_drew)); exact HO_7.out,by repeat (first | (with_reducible first | exact HB.out | apply y5 | apply y18 | apply y6) | exact HB.out)⟩
end Go.Proofs.YtebadckdihgklaaDoor.Pb
end
section
namespace Go.Proofs.YtebadckdihgklaaDoor.Pb
open Go.RowKit Go.Proofs.YtebadckdihgklaaDoorW.PrintWords Go.Proofs.YtebadckdihgklaaDoorW.PrintLast Go.Proofs.YtebadckdihgklaaDoorW.PrintMore
attribute [local go_sem] max2_int min2_int max_two min_two max_three min_three max_four min_four   -- for this text's walks alone
set_option linter.unusedVariables false
set_option linter.unusedSimpArgs false
def spec_l01Sign.f (a0 : Int) : Option (Int) := if a0 < 0 then (some (-1)) else (if a0 > 0 then (some 1) else (some 0))
set_option maxHeartbeats 8000000 in
set_option maxRecDepth 100000 in
theorem spec_l01Sign.calls (a0 : Int) (r : Int) (w : World) (h : spec_l01Sign.f a0 = some r) :
  Calls Tryd.prog 112 #[.int .i64 a0] w fun e w' => e = .returned (.int .i64 r) ∧ y1 w w' := by
 have H : (if a0 < 0 then (some (-1)) else (if a0 > 0 then (some 1) else (some 0))) = some r := h
 clear h
 by_cases c2 : a0 < 0
 ·rw [if_pos c2] at H
  have c2b0 : decide (a0 < 0) = true := decide_eq_true c2
  clear c2
  obtain rfl := Option.some.inj H
  go_enter Tryd.func112,Tryd.ntmps112
  go_wp2
  go_ret
  exact ⟨by first | rfl | (simp; done) | (simp [*]; done),by repeat (first | exact y1.refl _ | apply y1.step)⟩
 ·rw [if_neg c2] at H
  have c2b0 : decide (a0 < 0) = false := decide_eq_false c2
  clear c2
  by_cases c3 : a0 > 0
  ·rw [if_pos c3] at H
   have c3b0 : decide (0 < a0) = true := decide_eq_true c3
   clear c3
   obtain rfl := Option.some.inj H
   go_enter Tryd.func112,Tryd.ntmps112
   go_wp2
   go_ret
   exact ⟨by first | rfl | (simp; done) | (simp [*]; done),by repeat (first | exact y1.refl _ | apply y1.step)⟩
  ·rw [if_neg c3] at H
   have c3b0 : decide (0 < a0) = false := decide_eq_false c3
   clear c3
   obtain rfl := Option.some.inj H
   go_enter Tryd.func112,Tryd.ntmps112
   go_wp2
   go_ret
   exact ⟨by first | rfl | (simp; done) | (simp [*]; done),by repeat (first | exact y1.refl _ | apply y1.step)⟩
def spec_l01Texts.f (a0 : ByteArray) (a1 : ByteArray) : Option (Int) := if (Op.bytesLess a0.toList a1.toList) = true then (some (-1)) else (if (Op.bytesLess a1.toList a0.toList) = true then (some 1) else (some 0))
theorem spec_l01Texts.bl : ∀ x y : List UInt8,(!(Op.bytesLess x y || x == y)) = Op.bytesLess y x
 | [],[] => rfl
 | [],b :: y => rfl
 | a :: x,[] => rfl
 | a :: x,b :: y => by
  have ih := spec_l01Texts.bl x y
  have e1 : (decide (a < b)) = (decide (a.toNat < b.toNat)) := rfl
  have e2 : (decide (b < a)) = (decide (b.toNat < a.toNat)) := rfl
  rw [Op.bytesLess,Op.bytesLess,e1,e2,← ih]
  by_cases h : a = b
  ·subst h
   simp
  ·have hn : a.toNat ≠ b.toNat := fun h' => h (UInt8.toNat_inj.1 h')
   have h1 : (a == b) = false := by simpa using h
   have h2 : (b == a) = false := by simpa using fun h' => h (Eq.symm h')
   have h3 : ((a :: x) == (b :: y)) = false := by simp [h]
   rw [h1,h2,h3]
   by_cases hl : a.toNat < b.toNat
   ·have : ¬ b.toNat < a.toNat := by omega
    simp [hl,this]
   ·have : b.toNat < a.toNat := by omega
    simp [hl,this]
theorem spec_l01Texts.gtr (t : TypeId) (a b : ByteArray) : binOp .gtr t (.string a) (.string b) = pure (.bool (Op.bytesLess b.toList a.toList)) := by
 rw [← spec_l01Texts.bl]
 simp [binOp,Op.stringOp]
attribute [local go_sem] spec_l01Texts.gtr
set_option maxHeartbeats 8000000 in
set_option maxRecDepth 100000 in
theorem spec_l01Texts.calls (a0 : ByteArray) (a1 : ByteArray) (r : Int) (w : World) (h : spec_l01Texts.f a0 a1 = some r) :
  Calls Tryd.prog 113 #[.string a0,.string a1] w fun e w' => e = .returned (.int .i64 r) ∧ y1 w w' := by
 have H : (if (Op.bytesLess a0.toList a1.toList) = true then (some (-1)) else (if (Op.bytesLess a1.toList a0.toList) = true then (some 1) else (some 0))) = some r := h
 clear h
 by_cases c3 : (Op.bytesLess a0.toList a1.toList) = true
 ·rw [if_pos c3] at H
  have c3b0 : (Op.bytesLess a0.toList a1.toList) = true := c3
  clear c3
  obtain rfl := Option.some.inj H
  go_enter Tryd.func113,Tryd.ntmps113
  go_wp2
  go_ret
  exact ⟨by first | rfl | (simp; done) | (simp [*]; done),by repeat (first | exact y1.refl _ | apply y1.step)⟩
 ·rw [if_neg c3] at H
  have c3b0 : (Op.bytesLess a0.toList a1.toList) = false := by simpa using c3
  clear c3
  by_cases c4 : (Op.bytesLess a1.toList a0.toList) = true
  ·rw [if_pos c4] at H
   have c4b0 : (Op.bytesLess a1.toList a0.toList) = true := c4
   clear c4
   obtain rfl := Option.some.inj H
   go_enter Tryd.func113,Tryd.ntmps113
   go_wp2
   go_ret
   exact ⟨by first | rfl | (simp; done) | (simp [*]; done),by repeat (first | exact y1.refl _ | apply y1.step)⟩
  ·rw [if_neg c4] at H
   have c4b0 : (Op.bytesLess a1.toList a0.toList) = false := by simpa using c4
   clear c4
   obtain rfl := Option.some.inj H
   go_enter Tryd.func113,Tryd.ntmps113
   go_wp2
   go_ret
   exact ⟨by first | rfl | (simp; done) | (simp [*]; done),by repeat (first | exact y1.refl _ | apply y1.step)⟩
end Go.Proofs.YtebadckdihgklaaDoor.Pb
end
section
namespace Go.Proofs.YtebadckdihgklaaDoor.Pb
open Go.RowKit Go.Proofs.YtebadckdihgklaaDoorW.PrintWords Go.Proofs.YtebadckdihgklaaDoorW.PrintLast Go.Proofs.YtebadckdihgklaaDoorW.PrintMore
attribute [local go_sem] max2_int min2_int max_two min_two max_three min_three max_four min_four   -- for this text's walks alone
set_option linter.unusedVariables false
set_option linter.unusedSimpArgs false
mutual
def spec_l01Cmp.l0 : Nat → List ByteArray → List ByteArray → Int → Option (Int)
 | 0,_,_,_ => none
 | k + 1,x12,x14,x15 => if x15 < (x12.length : Int) then (if 0 ≤ x15 then (if x15 < (x14.length : Int) then ((spec_l01Cmp.f k (rdOf ByteArray.empty x12 x15) (rdOf ByteArray.empty x14 x15)).bind fun t569 => (if t569 = 0 then (spec_l01Cmp.l0 k x12 x14 (wrap64 (x15 + 1))) else (some t569))) else (none)) else (none)) else (some 0)
def spec_l01Cmp.f : Nat → ByteArray → ByteArray → Option (Int)
 | 0,_,_ => none
 | k + 1,a0,a1 => (z3_.f k a0).bind fun t548 => ((z3_.f k a1).bind fun t549 => (if t548 = t549 then (if t548 = 1 then ((z9_.f k a0).bind fun bt551 => ((z9_.f k a1).bind fun bt553 => ((spec_l01Sign.f (wrap64 (bt551.1 - bt553.1))).bind fun t555 => (some t555)))) else (if t548 = 2 then (if 1 ≤ (wrap64 ((a0.size : Int) - 1)) then (if (wrap64 ((a0.size : Int) - 1)) ≤ (a0.size : Int) then (if 1 ≤ (wrap64 ((a1.size : Int) - 1)) then (if (wrap64 ((a1.size : Int) - 1)) ≤ (a1.size : Int) then ((spec_l01Texts.f (a0.extract 1 ((wrap64 ((a0.size : Int) - 1)) : Int).toNat) (a1.extract 1 ((wrap64 ((a1.size : Int) - 1)) : Int).toNat)).bind fun t556 => (some t556)) else (none)) else (none)) else (none)) else (none)) else ((spec_TermParts.f k a0).bind fun bt557 => ((spec_TermParts.f k a1).bind fun bt561 => (if bt557.1.toList = bt561.1.toList then (if (bt557.2.length : Int) = (bt561.2.length : Int) then (spec_l01Cmp.l0 k bt557.2 bt561.2 0) else ((spec_l01Sign.f (wrap64 ((bt557.2.length : Int) - (bt561.2.length : Int)))).bind fun t566 => (some t566))) else ((spec_l01Texts.f bt557.1 bt561.1).bind fun t565 => (some t565))))))) else ((spec_l01Sign.f (wrap64 (t548 - t549))).bind fun t550 => (some t550))))
end
def spec_l01Cmp.T10 : Bool × List (List Nat × List Nat) := (true,[([],[]),([],[]),([1],[1]),([2],[2]),([0,3],[0,3]),([],[]),([],[]),([6],[6]),([7],[7]),([5,8],[5,8]),([4,9],[4,9]),([10,10,0,1,2,3,4,5,6,7,8,9,10],[10])])
def spec_l01Cmp.B10 : List Nat := [0,0,2,6,15,0,0,64,192,480,1023,2047]
theorem spec_l01Cmp.tab10 : rtab .any (opsOf Tryd.f91 10) = spec_l01Cmp.T10 := by kernel_rfl
theorem spec_l01Cmp.bits10 : waitsOk spec_l01Cmp.T10.2 spec_l01Cmp.B10 = true := by kernel_rfl
def spec_l01Cmp.T20 : Bool × List (List Nat × List Nat) := (true,[([],[]),([],[]),([0,1],[0,1]),([2],[2]),([],[]),([],[]),([4,5],[4,5]),([6],[6]),([3,7],[3,7]),([8,8,0,1,2,3,4,5,6,7,8],[8])])
def spec_l01Cmp.B20 : List Nat := [0,0,3,7,0,0,48,112,255,511]
theorem spec_l01Cmp.tab20 : rtab .any (opsOf Tryd.f91 20) = spec_l01Cmp.T20 := by kernel_rfl
theorem spec_l01Cmp.bits20 : waitsOk spec_l01Cmp.T20.2 spec_l01Cmp.B20 = true := by kernel_rfl
set_option maxHeartbeats 8000000 in
set_option maxRecDepth 100000 in
theorem spec_l01Cmp.calls (k : Nat) : ∀ (a0 : ByteArray) (a1 : ByteArray) (r : Int) (w : World) (h : spec_l01Cmp.f k a0 a1 = some r),
  Calls Tryd.prog 91 #[.string a0,.string a1] w fun e w' => e = .returned (.int .i64 r) ∧ Below w.heap.size w w' := by
 induction k using Nat.strongRecOn with
 | _ k ih =>
 intro a0 a1 r w h
 cases k with
 | zero => exact absurd h (by simp [spec_l01Cmp.f])
 | succ k =>
 simp only [spec_l01Cmp.f] at h
 have HB := y0.mk (Below.refl w.heap.size w)
 have H : ((z3_.f k a0).bind fun t548 => ((z3_.f k a1).bind fun t549 => (if t548 = t549 then (if t548 = 1 then ((z9_.f k a0).bind fun bt551 => ((z9_.f k a1).bind fun bt553 => ((spec_l01Sign.f (wrap64 (bt551.1 - bt553.1))).bind fun t555 => (some t555)))) else (if t548 = 2 then (if 1 ≤ (wrap64 ((a0.size : Int) - 1)) then (if (wrap64 ((a0.size : Int) - 1)) ≤ (a0.size : Int) then (if 1 ≤ (wrap64 ((a1.size : Int) - 1)) then (if (wrap64 ((a1.size : Int) - 1)) ≤ (a1.size : Int) then ((spec_l01Texts.f (a0.extract 1 ((wrap64 ((a0.size : Int) - 1)) : Int).toNat) (a1.extract 1 ((wrap64 ((a1.size : Int) - 1)) : Int).toNat)).bind fun t556 => (some t556)) else (none)) else (none)) else (none)) else (none)) else ((spec_TermParts.f k a0).bind fun bt557 => ((spec_TermParts.f k a1).bind fun bt561 => (if bt557.1.toList = bt561.1.toList then (if (bt557.2.length : Int) = (bt561.2.length : Int) then (spec_l01Cmp.l0 k bt557.2 bt561.2 0) else ((spec_l01Sign.f (wrap64 ((bt557.2.length : Int) - (bt561.2.length : Int)))).bind fun t566 => (some t566))) else ((spec_l01Texts.f bt557.1 bt561.1).bind fun t565 => (some t565))))))) else ((spec_l01Sign.f (wrap64 (t548 - t549))).bind fun t550 => (some t550))))) = some r := h
 clear h
 replace H := Option.bind_eq_some_iff.mp H
 obtain ⟨t548,A30,H⟩ := H
 replace H : ((z3_.f k a1).bind fun t549 => (if t548 = t549 then (if t548 = 1 then ((z9_.f k a0).bind fun bt551 => ((z9_.f k a1).bind fun bt553 => ((spec_l01Sign.f (wrap64 (bt551.1 - bt553.1))).bind fun t555 => (some t555)))) else (if t548 = 2 then (if 1 ≤ (wrap64 ((a0.size : Int) - 1)) then (if (wrap64 ((a0.size : Int) - 1)) ≤ (a0.size : Int) then (if 1 ≤ (wrap64 ((a1.size : Int) - 1)) then (if (wrap64 ((a1.size : Int) - 1)) ≤ (a1.size : Int) then ((spec_l01Texts.f (a0.extract 1 ((wrap64 ((a0.size : Int) - 1)) : Int).toNat) (a1.extract 1 ((wrap64 ((a1.size : Int) - 1)) : Int).toNat)).bind fun t556 => (some t556)) else (none)) else (none)) else (none)) else (none)) else ((spec_TermParts.f k a0).bind fun bt557 => ((spec_TermParts.f k a1).bind fun bt561 => (if bt557.1.toList = bt561.1.toList then (if (bt557.2.length : Int) = (bt561.2.length : Int) then (spec_l01Cmp.l0 k bt557.2 bt561.2 0) else ((spec_l01Sign.f (wrap64 ((bt557.2.length : Int) - (bt561.2.length : Int)))).bind fun t566 => (some t566))) else ((spec_l01Texts.f bt557.1 bt561.1).bind fun t565 => (some t565))))))) else ((spec_l01Sign.f (wrap64 (t548 - t549))).bind fun t550 => (some t550)))) = some r := H
 have A3 := y0.mk A30
 clear A30
 replace H := Option.bind_eq_some_iff.mp H
 obtain ⟨t549,A40,H⟩ := H
 replace H : (if t548 = t549 then (if t548 = 1 then ((z9_.f k a0).bind fun bt551 => ((z9_.f k a1).bind fun bt553 => ((spec_l01Sign.f (wrap64 (bt551.1 - bt553.1))).bind fun t555 => (some t555)))) else (if t548 = 2 then (if 1 ≤ (wrap64 ((a0.size : Int) - 1)) then (if (wrap64 ((a0.size : Int) - 1)) ≤ (a0.size : Int) then (if 1 ≤ (wrap64 ((a1.size : Int) - 1)) then (if (wrap64 ((a1.size : Int) - 1)) ≤ (a1.size : Int) then ((spec_l01Texts.f (a0.extract 1 ((wrap64 ((a0.size : Int) - 1)) : Int).toNat) (a1.extract 1 ((wrap64 ((a1.size : Int) - 1)) : Int).toNat)).bind fun t556 => (some t556)) else (none)) else (none)) else (none)) else (none)) else ((spec_TermParts.f k a0).bind fun bt557 => ((spec_TermParts.f k a1).bind fun bt561 => (if bt557.1.toList = bt561.1.toList then (if (bt557.2.length : Int) = (bt561.2.length : Int) then (spec_l01Cmp.l0 k bt557.2 bt561.2 0) else ((spec_l01Sign.f (wrap64 ((bt557.2.length : Int) - (bt561.2.length : Int)))).bind fun t566 => (some t566))) else ((spec_l01Texts.f bt557.1 bt561.1).bind fun t565 => (some t565))))))) else ((spec_l01Sign.f (wrap64 (t548 - t549))).bind fun t550 => (some t550))) = some r := H
 have A4 := y0.mk A40
 clear A40
 by_cases c5 : t548 = t549
 ·rw [if_pos c5] at H
  have c5b0 : (t548 == t549) = true := beq_iff_eq.mpr c5
  have c5b1 : (t548 != t549) = false := bne_eq_false_iff_eq.mpr c5
  clear c5
  by_cases c6 : t548 = 1
  ·rw [if_pos c6] at H
   have c6b0 : (t548 == 1) = true := beq_iff_eq.mpr c6
   have c6b1 : (t548 != 1) = false := bne_eq_false_iff_eq.mpr c6
   clear c6
   replace H := Option.bind_eq_some_iff.mp H
   obtain ⟨⟨t551,t552⟩,A70,H⟩ := H
   replace H : ((z9_.f k a1).bind fun bt553 => ((spec_l01Sign.f (wrap64 (t551 - bt553.1))).bind fun t555 => (some t555))) = some r := H
   have A7 := y0.mk A70
   clear A70
   replace H := Option.bind_eq_some_iff.mp H
   obtain ⟨⟨t553,t554⟩,A80,H⟩ := H
   replace H : ((spec_l01Sign.f (wrap64 (t551 - t553))).bind fun t555 => (some t555)) = some r := H
   have A8 := y0.mk A80
   clear A80
   replace H := Option.bind_eq_some_iff.mp H
   obtain ⟨t555,A90,H⟩ := H
   replace H : (some t555) = some r := H
   have A9 := y0.mk A90
   clear A90
   obtain rfl := Option.some.inj H
   go_enter Tryd.func91,Tryd.ntmps91
   go_wp2_with (first | ((with_reducible refine y11 (f := 29) rfl ?_); refine y12 (some 18) rfl rfl Tryd.func29 (by kernel_rfl) rfl #[.string a0] rfl (by (try simp only [qM_,List.map_cons,List.map_nil]); first | done | rfl | (simp only [qD_,qT_]; rfl)) ?_; (with_reducible refine (z3_.calls k a0 t548 _ A3.out).mono ?_); rintro e w10 ⟨rfl,hb⟩; refine ⟨_,rfl, ?_⟩; have n0_ := y0.mk (y8 (by repeat (first | (with_reducible first | exact HB.out | apply y5 | apply y18 | apply y6) | exact HB.out)) hb); clear HB; have HB := n0_; clear n0_; (try clear hb); (try clear hb2); (try clear hk); (try clear hi)) | ((with_reducible refine y11 (f := 29) rfl ?_); refine y12 (some 20) rfl rfl Tryd.func29 (by kernel_rfl) rfl #[.string a1] rfl (by (try simp only [qM_,List.map_cons,List.map_nil]); first | done | rfl | (simp only [qD_,qT_]; rfl)) ?_; (with_reducible refine (z3_.calls k a1 t549 _ A4.out).mono ?_); rintro e w11 ⟨rfl,hb⟩; refine ⟨_,rfl, ?_⟩; have n0_ := y0.mk (y8 (by repeat (first | (with_reducible first | exact HB.out | apply y5 | apply y18 | apply y6) | exact HB.out)) hb); clear HB; have HB := n0_; clear n0_; (try clear hb); (try clear hb2); (try clear hk); (try clear hi)) | ((with_reducible refine y11 (f := 73) rfl ?_); refine y12 (some 33) rfl rfl Tryd.func73 (by kernel_rfl) rfl #[.string a0] rfl (by (try simp only [qM_,List.map_cons,List.map_nil]); first | done | rfl | (simp only [qD_,qT_]; rfl)) ?_; (with_reducible refine (z9_.calls k a0 t551 t552 _ A7.out).mono ?_); rintro e w12 ⟨rfl,hb⟩; refine ⟨_,rfl, ?_⟩; have n0_ := y0.mk (y8 (by repeat (first | (with_reducible first | exact HB.out | apply y5 | apply y18 | apply y6) | exact HB.out)) hb); clear HB; have HB := n0_; clear n0_; (try clear hb); (try clear hb2); (try clear hk); (try clear hi)) | ((with_reducible refine y11 (f := 73) rfl ?_); refine y12 (some 38) rfl rfl Tryd.func73 (by kernel_rfl) rfl #[.string a1] rfl (by (try simp only [qM_,List.map_cons,List.map_nil]); first | done | rfl | (simp only [qD_,qT_]; rfl)) ?_; (with_reducible refine (z9_.calls k a1 t553 t554 _ A8.out).mono ?_); rintro e w13 ⟨rfl,hb⟩; refine ⟨_,rfl, ?_⟩; have n0_ := y0.mk (y8 (by repeat (first | (with_reducible first | exact HB.out | apply y5 | apply y18 | apply y6) | exact HB.out)) hb); clear HB; have HB := n0_; clear n0_; (try clear hb); (try clear hb2); (try clear hk); (try clear hi)) | ((with_reducible refine y11 (f := 112) rfl ?_); refine y12 (some 44) rfl rfl Tryd.func112 (by kernel_rfl) rfl #[.int .i64 (wrap64 (t551 - t553))] rfl (by (try simp only [qM_,List.map_cons,List.map_nil]); first | done | rfl | (simp only [qD_,qT_]; rfl)) ?_; (with_reducible refine (spec_l01Sign.calls (wrap64 (t551 - t553)) t555 _ A9.out).mono ?_); rintro e w' ⟨rfl,⟨nd,rfl⟩⟩; refine ⟨_,rfl, ?_⟩))
   go_ret
   exact ⟨by first | rfl | (simp [y9,y10] <;> rfl) | (simp [*,y9,y10] <;> rfl),by repeat (first | (with_reducible first | exact HB.out | apply y5 | apply y18 | apply y6) | exact HB.out)⟩
  ·rw [if_neg c6] at H
   have c6b0 : (t548 == 1) = false := beq_eq_false_iff_ne.mpr c6
   have c6b1 : (t548 != 1) = true := bne_iff_ne.mpr c6
   by_cases c14 : t548 = 2
   ·rw [if_pos c14] at H
    have c14b0 : (t548 == 2) = true := beq_iff_eq.mpr c14
    have c14b1 : (t548 != 2) = false := bne_eq_false_iff_eq.mpr c14
    clear c14
    by_cases c15 : 1 ≤ (wrap64 ((a0.size : Int) - 1))
    ·rw [if_pos c15] at H
     have c15b0 := eq_true c15
     have c15b1 : decide (1 ≤ (wrap64 ((a0.size : Int) - 1))) = true := decide_eq_true c15
     clear c15
     by_cases c16 : (wrap64 ((a0.size : Int) - 1)) ≤ (a0.size : Int)
     ·rw [if_pos c16] at H
      have c16b0 := eq_true c16
      have c16b1 : decide ((wrap64 ((a0.size : Int) - 1)) ≤ (a0.size : Int)) = true := decide_eq_true c16
      clear c16
      by_cases c17 : 1 ≤ (wrap64 ((a1.size : Int) - 1))
      ·rw [if_pos c17] at H
       have c17b0 := eq_true c17
       have c17b1 : decide (1 ≤ (wrap64 ((a1.size : Int) - 1))) = true := decide_eq_true c17
       clear c17
       by_cases c18 : (wrap64 ((a1.size : Int) - 1)) ≤ (a1.size : Int)
       ·rw [if_pos c18] at H
        have c18b0 := eq_true c18
        have c18b1 : decide ((wrap64 ((a1.size : Int) - 1)) ≤ (a1.size : Int)) = true := decide_eq_true c18
        clear c18
        replace H := Option.bind_eq_some_iff.mp H
        obtain ⟨t556,A190,H⟩ := H
        replace H : (some t556) = some r := H
        have A19 := y0.mk A190
        clear A190
        obtain rfl := Option.some.inj H
        go_enter Tryd.func91,Tryd.ntmps91
        try go_wp2_with (first | ((with_reducible refine y11 (f := 29) rfl ?_); refine y12 (some 18) rfl rfl Tryd.func29 (by kernel_rfl) rfl #[.string a0] rfl (by (try simp only [qM_,List.map_cons,List.map_nil]); first | done | rfl | (simp only [qD_,qT_]; rfl)) ?_; (with_reducible refine (z3_.calls k a0 t548 _ A3.out).mono ?_); rintro e w20 ⟨rfl,hb⟩; refine ⟨_,rfl, ?_⟩; have n0_ := y0.mk (y8 (by repeat (first | (with_reducible first | exact HB.out | apply y5 | apply y18 | apply y6) | exact HB.out)) hb); clear HB; have HB := n0_; clear n0_; (try clear hb); (try clear hb2); (try clear hk); (try clear hi)) | ((with_reducible refine y11 (f := 29) rfl ?_); refine y12 (some 20) rfl rfl Tryd.func29 (by kernel_rfl) rfl #[.string a1] rfl (by (try simp only [qM_,List.map_cons,List.map_nil]); first | done | rfl | (simp only [qD_,qT_]; rfl)) ?_; (with_reducible refine (z3_.calls k a1 t549 _ A4.out).mono ?_); rintro e w21 ⟨rfl,hb⟩; refine ⟨_,rfl, ?_⟩; have n0_ := y0.mk (y8 (by repeat (first | (with_reducible first | exact HB.out | apply y5 | apply y18 | apply y6) | exact HB.out)) hb); clear HB; have HB := n0_; clear n0_; (try clear hb); (try clear hb2); (try clear hk); (try clear hi)))
        have n0_ := y0.mk (y6 HB.out)
        clear HB
        have HB := n0_
        clear n0_
        refine start_ (n := 12) (S := fun w' => True) (ds := []) (fl_ 12 0) (by kernel_rfl) rfl rfl trivial (fun hHeld => ?_); refine with_tabW spec_l01Cmp.tab10 spec_l01Cmp.bits10 (fun HT_ HW_ => ?_)
        generalize w21.drew = w22 at HB hHeld ⊢
        refine pure_ (i := 0) (N := some 47) (v := ?_) (a' := ?_) (fl_ 12 1) rfl rfl (y4 HT_.out (by kernel_rfl)) (fun _ _ _ h => h) (Or.inl ⟨by rfl, ?_⟩) ?_ ?_
        rotate_left
        ·intro w'
         go_simp
         with_reducible rfl
        rotate_left
        ·simp only [Act.put,qS_,qZ_,qC_,y14,y13]
         rfl
        refine pure_ (i := 1) (N := some 48) (v := ?_) (a' := ?_) (fl_ 12 3) rfl rfl (y4 HT_.out (by kernel_rfl)) (fun _ _ _ h => h) (Or.inl ⟨by rfl, ?_⟩) ?_ ?_
        rotate_left
        ·intro w'
         go_simp
         with_reducible rfl
        rotate_left
        ·simp only [Act.put,qS_,qZ_,qC_,y14,y13]
         rfl
        refine pure_ (i := 2) (N := some 49) (v := ?_) (a' := ?_) (fl_ 12 7) rfl rfl (y4 HT_.out (by kernel_rfl)) (fun _ _ _ h => h) (Or.inl ⟨by rfl, ?_⟩) ?_ ?_
        rotate_left
        ·intro w'
         go_simp
         with_reducible rfl
        rotate_left
        ·simp only [Act.put,qS_,qZ_,qC_,y14,y13]
         rfl
        refine pure_ (i := 3) (N := some 50) (v := ?_) (a' := ?_) (fl_ 12 15) rfl rfl (y4 HT_.out (by kernel_rfl)) (fun _ _ _ h => h) (Or.inl ⟨by rfl, ?_⟩) ?_ ?_
        rotate_left
        ·intro w'
         go_simp
         with_reducible rfl
        rotate_left
        ·simp only [Act.put,qS_,qZ_,qC_,y14,y13]
         rfl
        refine pure_ (i := 4) (N := some 51) (v := ?_) (a' := ?_) (fl_ 12 31) rfl rfl (y4 HT_.out (by kernel_rfl)) (fun _ _ _ h => h) (Or.inl ⟨by rfl, ?_⟩) ?_ ?_
        rotate_left
        ·intro w'
         go_simp
         with_reducible rfl
        rotate_left
        ·simp only [Act.put,qS_,qZ_,qC_,y14,y13]
         rfl
        refine pure_ (i := 5) (N := some 52) (v := ?_) (a' := ?_) (fl_ 12 63) rfl rfl (y4 HT_.out (by kernel_rfl)) (fun _ _ _ h => h) (Or.inl ⟨by rfl, ?_⟩) ?_ ?_
        rotate_left
        ·intro w'
         go_simp
         with_reducible rfl
        rotate_left
        ·simp only [Act.put,qS_,qZ_,qC_,y14,y13]
         rfl
        refine pure_ (i := 6) (N := some 53) (v := ?_) (a' := ?_) (fl_ 12 127) rfl rfl (y4 HT_.out (by kernel_rfl)) (fun _ _ _ h => h) (Or.inl ⟨by rfl, ?_⟩) ?_ ?_
        rotate_left
        ·intro w'
         go_simp
         with_reducible rfl
        rotate_left
        ·simp only [Act.put,qS_,qZ_,qC_,y14,y13]
         rfl
        refine pure_ (i := 7) (N := some 54) (v := ?_) (a' := ?_) (fl_ 12 255) rfl rfl (y4 HT_.out (by kernel_rfl)) (fun _ _ _ h => h) (Or.inl ⟨by rfl, ?_⟩) ?_ ?_
        rotate_left
        ·intro w'
         go_simp
         with_reducible rfl
        rotate_left
        ·simp only [Act.put,qS_,qZ_,qC_,y14,y13]
         rfl
        refine pure_ (i := 8) (N := some 55) (v := ?_) (a' := ?_) (fl_ 12 511) rfl rfl (y4 HT_.out (by kernel_rfl)) (fun _ _ _ h => h) (Or.inl ⟨by rfl, ?_⟩) ?_ ?_
        rotate_left
        ·intro w'
         go_simp
         with_reducible rfl
        rotate_left
        ·simp only [Act.put,qS_,qZ_,qC_,y14,y13]
         rfl
        refine pure_ (i := 9) (N := some 56) (v := ?_) (a' := ?_) (fl_ 12 1023) rfl rfl (y4 HT_.out (by kernel_rfl)) (fun _ _ _ h => h) (Or.inl ⟨by rfl, ?_⟩) ?_ ?_
        rotate_left
        ·intro w'
         go_simp
         with_reducible rfl
        rotate_left
        ·simp only [Act.put,qS_,qZ_,qC_,y14,y13]
         rfl
        refine one_ (i := 10) (N := some 57) (fl_ 12 2047) rfl rfl (one_of HT_.out (by kernel_rfl)) (by decide) (fun K hK => ?_)
        refine goes_ Tryd.func113 (by kernel_rfl) rfl #[.string (a0.extract 1 ((wrap64 ((a0.size : Int) - 1)) : Int).toNat),.string (a1.extract 1 ((wrap64 ((a1.size : Int) - 1)) : Int).toNat)] (by rfl) rfl rfl (by (try simp only [qM_,List.map_cons,List.map_nil]); first | done | rfl | (simp only [qD_,qT_]; rfl)) ?_
        with_reducible refine (spec_l01Texts.calls (a0.extract 1 ((wrap64 ((a0.size : Int) - 1)) : Int).toNat) (a1.extract 1 ((wrap64 ((a1.size : Int) - 1)) : Int).toNat) t556 _ A19.out).mono ?_
        rintro e w' ⟨rfl,⟨nd,rfl⟩⟩
        refine ⟨_,rfl, ?_⟩
        refine hK.out _ _ trivial (fun hHeld => ?_)
        clear hK K
        refine norm_ (a' := ?_) ?_ ?_
        rotate_left
        ·show Act.put _ (some 57) _ = _
         simp only [Act.put,qS_,qZ_,qC_,y14,y13]
         rfl
        refine pure_ (i := 11) (N := some 4) (v := ?_) (a' := ?_) (fl_ 12 4095) rfl rfl (y4 HT_.out (by kernel_rfl)) (fun _ _ _ h => h) (Or.inl ⟨by rfl, ?_⟩) ?_ ?_
        rotate_left
        ·intro w'
         go_simp
         with_reducible rfl
        rotate_left
        ·simp only [Act.put,qS_,qZ_,qC_,y14,y13]
         rfl
        refine done_ (done_of HT_.out (by kernel_rfl)) ?_
        try go_wp2
        go_ret
        exact ⟨by first | rfl | (simp [y9,y10] <;> rfl) | (simp [*,y9,y10] <;> rfl),by repeat (first | (with_reducible first | exact HB.out | apply y5 | apply y18 | apply y6) | exact HB.out)⟩
       ·rw [if_neg c18] at H
        exact absurd H (by simp)
      ·rw [if_neg c17] at H
       exact absurd H (by simp)
     ·rw [if_neg c16] at H
      exact absurd H (by simp)
    ·rw [if_neg c15] at H
     exact absurd H (by simp)
   ·rw [if_neg c14] at H
    have c14b0 : (t548 == 2) = false := beq_eq_false_iff_ne.mpr c14
    have c14b1 : (t548 != 2) = true := bne_iff_ne.mpr c14
    replace H := Option.bind_eq_some_iff.mp H
    obtain ⟨⟨t557,t558⟩,A230,H⟩ := H
    replace H : ((spec_TermParts.f k a1).bind fun bt561 => (if t557.toList = bt561.1.toList then (if (t558.length : Int) = (bt561.2.length : Int) then (spec_l01Cmp.l0 k t558 bt561.2 0) else ((spec_l01Sign.f (wrap64 ((t558.length : Int) - (bt561.2.length : Int)))).bind fun t566 => (some t566))) else ((spec_l01Texts.f t557 bt561.1).bind fun t565 => (some t565)))) = some r := H
    have A23 := y0.mk A230
    clear A230
    replace H := Option.bind_eq_some_iff.mp H
    obtain ⟨⟨t561,t562⟩,A240,H⟩ := H
    replace H : (if t557.toList = t561.toList then (if (t558.length : Int) = (t562.length : Int) then (spec_l01Cmp.l0 k t558 t562 0) else ((spec_l01Sign.f (wrap64 ((t558.length : Int) - (t562.length : Int)))).bind fun t566 => (some t566))) else ((spec_l01Texts.f t557 t561).bind fun t565 => (some t565))) = some r := H
    have A24 := y0.mk A240
    clear A240
    by_cases c25 : t557.toList = t561.toList
    ·rw [if_pos c25] at H
     have c25b0 : (t557.toList == t561.toList) = true := beq_iff_eq.mpr c25
     have c25b1 : (t557.toList != t561.toList) = false := bne_eq_false_iff_eq.mpr c25
     clear c25
     by_cases c26 : (t558.length : Int) = (t562.length : Int)
     ·rw [if_pos c26] at H
      have c26b0 : ((t558.length : Int) == (t562.length : Int)) = true := beq_iff_eq.mpr c26
      have c26b1 : ((t558.length : Int) != (t562.length : Int)) = false := bne_eq_false_iff_eq.mpr c26
      have c26b2 : (t558.length == t562.length) = true := by first | simpa using c26 | (simp at c26 ⊢; omega)
      clear c26
      have H' := y0.mk H
      clear H
      go_enter Tryd.func91,Tryd.ntmps91
      go_wp2_with (first | ((with_reducible refine y11 (f := 29) rfl ?_); refine y12 (some 18) rfl rfl Tryd.func29 (by kernel_rfl) rfl #[.string a0] rfl (by (try simp only [qM_,List.map_cons,List.map_nil]); first | done | rfl | (simp only [qD_,qT_]; rfl)) ?_; (with_reducible refine (z3_.calls k a0 t548 _ A3.out).mono ?_); rintro e w27 ⟨rfl,hb⟩; refine ⟨_,rfl, ?_⟩; have n0_ := y0.mk (y8 (by repeat (first | (with_reducible first | exact HB.out | apply y5 | apply y18 | apply y6) | exact HB.out)) hb); clear HB; have HB := n0_; clear n0_; (try clear hb); (try clear hb2); (try clear hk); (try clear hi)) | ((with_reducible refine y11 (f := 29) rfl ?_); refine y12 (some 20) rfl rfl Tryd.func29 (by kernel_rfl) rfl #[.string a1] rfl (by (try simp only [qM_,List.map_cons,List.map_nil]); first | done | rfl | (simp only [qD_,qT_]; rfl)) ?_; (with_reducible refine (z3_.calls k a1 t549 _ A4.out).mono ?_); rintro e w28 ⟨rfl,hb⟩; refine ⟨_,rfl, ?_⟩; have n0_ := y0.mk (y8 (by repeat (first | (with_reducible first | exact HB.out | apply y5 | apply y18 | apply y6) | exact HB.out)) hb); clear HB; have HB := n0_; clear n0_; (try clear hb); (try clear hb2); (try clear hk); (try clear hi)) | ((with_reducible refine y11 (f := 44) rfl ?_); refine y12 (some 60) rfl rfl Tryd.func44 (by kernel_rfl) rfl #[.string a0] rfl (by (try simp only [qM_,List.map_cons,List.map_nil]); first | done | rfl | (simp only [qD_,qT_]; rfl)) ?_; (with_reducible refine (spec_TermParts.calls k a0 t557 t558 _ A23.out).mono ?_); rintro e w29 ⟨v559,rfl,ho0,hb⟩; refine ⟨_,rfl, ?_⟩; have n0_ := y0.mk (Kd.R_lower ho0 (below_size (by repeat (first | (with_reducible first | exact HB.out | apply y5 | apply y18 | apply y6) | exact HB.out)))); have n1_ := y0.mk (y8 (by repeat (first | (with_reducible first | exact HB.out | apply y5 | apply y18 | apply y6) | exact HB.out)) hb); clear HB; have HO560 := n0_; have HB := n1_; clear n0_ n1_; (try clear hb); (try clear hb2); (try clear hk); (try clear hi); (try clear ho0)) | ((with_reducible refine y11 (f := 44) rfl ?_); refine y12 (some 65) rfl rfl Tryd.func44 (by kernel_rfl) rfl #[.string a1] rfl (by (try simp only [qM_,List.map_cons,List.map_nil]); first | done | rfl | (simp only [qD_,qT_]; rfl)) ?_; (with_reducible refine (spec_TermParts.calls k a1 t561 t562 _ A24.out).mono ?_); rintro e w30 ⟨v563,rfl,ho0,hb⟩; refine ⟨_,rfl, ?_⟩; have n0_ := y0.mk (Kd.R_elder' (by (with_reducible repeat (first | apply Kd.R_alloc | apply Kd.R_drewN | apply Kd.R_drew)); exact HO560.out) (Kd.R_base ho0) hb); have n1_ := y0.mk (Kd.R_lower (Kd.R_new' ho0 (Kd.R_lt (by (with_reducible repeat (first | apply Kd.R_alloc | apply Kd.R_drewN | apply Kd.R_drew)); exact HO560.out))) (below_size (by repeat (first | (with_reducible first | exact HB.out | apply y5 | apply y18 | apply y6) | exact HB.out)))); have n2_ := y0.mk (y8 (by repeat (first | (with_reducible first | exact HB.out | apply y5 | apply y18 | apply y6) | exact HB.out)) hb); clear HO560; clear HB; have HO560 := n0_; have HO564 := n1_; have HB := n2_; clear n0_ n1_ n2_; (try clear hb); (try clear hb2); (try clear hk); (try clear hi); (try clear ho0); obtain ⟨Ao31,co31,eo31⟩ := Kd.R_slice HO560.out; subst eo31; obtain ⟨Ao32,co32,eo32⟩ := Kd.R_slice HO564.out; subst eo32))
      go_loopg [15] k (fun kq v15 w' => ∃ (x15_1 : Int),v15 = .int .i64 x15_1 ∧ y0 (spec_l01Cmp.l0 kq t558 t562 x15_1 = some r) ∧ y0 (kq ≤ k) ∧ y0 (Kd.R Kd.string 9 w' w.heap.size (fun k_ => some k_ ≠ ((.slice Ao32 t562.length co32) : Value).ownBlock) (.slice Ao31 t558.length co31) t558) ∧ y0 (Kd.R Kd.string 9 w' w.heap.size (fun k_ => some k_ ≠ ((.slice Ao31 t558.length co31) : Value).ownBlock) (.slice Ao32 t562.length co32) t562) ∧ y0 (Below w.heap.size w w'))
      case atStart => exact ⟨(0),(by first | rfl | (simp; done) | (simp [*]; done)),H',⟨Nat.le_refl _⟩,⟨by (with_reducible repeat (first | apply Kd.R_alloc | apply Kd.R_drewN | apply Kd.R_drew)); exact Kd.R_mono HO560.out (fun _ hk => hk.2)⟩,⟨by (with_reducible repeat (first | apply Kd.R_alloc | apply Kd.R_drewN | apply Kd.R_drew)); exact Kd.R_mono HO564.out (fun _ hk => hk.2)⟩,⟨by repeat (first | (with_reducible first | exact HB.out | apply y5 | apply y18 | apply y6) | exact HB.out)⟩⟩
      case round =>
       clear H'
       try clear c1
       try clear c2
       try clear p2
       try clear c4
       try clear c5
       try clear c5b0
       try clear c5b1
       try clear c6
       try clear c6b0
       try clear c6b1
       try clear p6
       try clear c7
       try clear c9
       try clear c11
       try clear c14
       try clear c14b0
       try clear c14b1
       try clear c15
       try clear c15b0
       try clear c15b1
       try clear c16
       try clear c16b0
       try clear c16b1
       try clear c17
       try clear c17b0
       try clear c17b1
       try clear c18
       try clear c18b0
       try clear c18b1
       try clear c25
       try clear c25b0
       try clear c25b1
       try clear c26
       try clear c26b0
       try clear c26b1
       try clear c26b2
       try clear c29
       obtain ⟨x15_1,rfl,HA,HK1,HO_12,HO_14,HB⟩ := hrel
       cases gk with
       | zero => exact absurd HA.out (by simp [spec_l01Cmp.l0])
       | succ k1 =>
        have H := HA.out
        clear HA
        simp only [spec_l01Cmp.l0] at H
        by_cases c33 : x15_1 < (t558.length : Int)
        ·rw [if_pos c33] at H
         have c33b0 : decide (x15_1 < (t558.length : Int)) = true := decide_eq_true c33
         clear c33
         by_cases c34 : 0 ≤ x15_1
         ·rw [if_pos c34] at H
          have c34b0 : decide (0 ≤ x15_1) = true := decide_eq_true c34
          clear c34
          by_cases c35 : x15_1 < (t562.length : Int)
          ·rw [if_pos c35] at H
           have c35b0 : decide (x15_1 < (t562.length : Int)) = true := decide_eq_true c35
           clear c35
           replace H := Option.bind_eq_some_iff.mp H
           obtain ⟨t569,A360,H⟩ := H
           replace H : (if t569 = 0 then (spec_l01Cmp.l0 k1 t558 t562 (wrap64 (x15_1 + 1))) else (some t569)) = some r := H
           have A36 := y0.mk A360
           clear A360
           by_cases c37 : t569 = 0
           ·rw [if_pos c37] at H
            have c37b0 : (t569 == 0) = true := beq_iff_eq.mpr c37
            have c37b1 : (t569 != 0) = false := bne_eq_false_iff_eq.mpr c37
            clear c37
            have H' := y0.mk H
            clear H
            try go_wp2
            have n0_ := y0.mk (Kd.R_drew HO_12.out)
            have n1_ := y0.mk (Kd.R_drew HO_14.out)
            have n2_ := y0.mk (y6 HB.out)
            clear HO_12
            clear HO_14
            clear HB
            have HO_12 := n0_
            have HO_14 := n1_
            have HB := n2_
            clear n0_ n1_ n2_
            have p567 : 0 ≤ (x15_1 : Int) := of_decide_eq_true (by first | (with_reducible assumption) | assumption)
            have q567 : x15_1 < (t558.length : Int) := of_decide_eq_true (by first | (with_reducible assumption) | assumption)
            obtain ⟨ad567,e567,hx567_0⟩ := Kd.at_string (Kd.R_reads' HO_12.out).2.2 x15_1 p567 q567
            cases e567
            replace p567 := eq_true p567
            replace q567 := eq_true q567
            have p568 : 0 ≤ (x15_1 : Int) := of_decide_eq_true (by first | (with_reducible assumption) | assumption)
            have q568 : x15_1 < (t562.length : Int) := of_decide_eq_true (by first | (with_reducible assumption) | assumption)
            obtain ⟨ad568,e568,hx568_0⟩ := Kd.at_string (Kd.R_reads' HO_14.out).2.2 x15_1 p568 q568
            cases e568
            replace p568 := eq_true p568
            replace q568 := eq_true q568
            refine start_ (n := 10) (S := fun w' => w'.cell? (ad567.add (x15_1).toNat) = some (.string (rdOf ByteArray.empty t558 x15_1)) ∧ w'.cell? (ad568.add (x15_1).toNat) = some (.string (rdOf ByteArray.empty t562 x15_1))) (ds := []) (fl_ 10 0) (by kernel_rfl) rfl rfl ⟨hx567_0,hx568_0⟩ (fun hHeld => ?_); refine with_tabW spec_l01Cmp.tab20 spec_l01Cmp.bits20 (fun HT_ HW_ => ?_)
            generalize wr.drew = w38 at HO_12 HO_14 HB hx567_0 hx568_0 hHeld ⊢
            refine pure_ (i := 0) (N := some 91) (v := ?_) (a' := ?_) (fl_ 10 1) rfl rfl (y4 HT_.out (by kernel_rfl)) (fun _ _ _ h => h) (Or.inl ⟨by rfl, ?_⟩) ?_ ?_
            rotate_left
            ·intro w'
             go_simp
             with_reducible rfl
            rotate_left
            ·simp only [Act.put,qS_,qZ_,qC_,y14,y13]
             rfl
            refine pure_ (i := 1) (N := some 92) (v := ?_) (a' := ?_) (fl_ 10 3) rfl rfl (y4 HT_.out (by kernel_rfl)) (fun _ _ _ h => h) (Or.inl ⟨by rfl, ?_⟩) ?_ ?_
            rotate_left
            ·intro w'
             go_simp
             with_reducible rfl
            rotate_left
            ·simp only [Act.put,qS_,qZ_,qC_,y14,y13]
             rfl
            refine pure_ (i := 2) (N := some 93) (v := ?_) (a' := ?_) (fl_ 10 7) rfl rfl (y4 HT_.out (by kernel_rfl)) (fun _ _ _ h => h) (Or.inl ⟨by rfl, ?_⟩) ?_ ?_
            rotate_left
            ·intro w'
             go_simp
             with_reducible rfl
            rotate_left
            ·simp only [Act.put,qS_,qZ_,qC_,y14,y13]
             rfl
            refine pure_ (i := 4) (N := some 95) (v := ?_) (a' := ?_) (fl_ 10 23) rfl rfl (y4 HT_.out (by kernel_rfl)) (fun _ _ _ h => h) (Or.inl ⟨by rfl, ?_⟩) ?_ ?_
            rotate_left
            ·intro w'
             go_simp
             with_reducible rfl
            rotate_left
            ·simp only [Act.put,qS_,qZ_,qC_,y14,y13]
             rfl
            refine pure_ (i := 5) (N := some 96) (v := ?_) (a' := ?_) (fl_ 10 55) rfl rfl (y4 HT_.out (by kernel_rfl)) (fun _ _ _ h => h) (Or.inl ⟨by rfl, ?_⟩) ?_ ?_
            rotate_left
            ·intro w'
             go_simp
             with_reducible rfl
            rotate_left
            ·simp only [Act.put,qS_,qZ_,qC_,y14,y13]
             rfl
            refine pure_ (i := 6) (N := some 97) (v := ?_) (a' := ?_) (fl_ 10 119) rfl rfl (y4 HT_.out (by kernel_rfl)) (fun _ _ _ h => h) (Or.inl ⟨by rfl, ?_⟩) ?_ ?_
            rotate_left
            ·intro w'
             go_simp
             with_reducible rfl
            rotate_left
            ·simp only [Act.put,qS_,qZ_,qC_,y14,y13]
             rfl
            refine take_ (i := 3) (N := some 94) (v := ?_) (a' := ?_) (fl_ 10 127) rfl rfl (take_ofW HT_.out HW_.out (by kernel_rfl)) (fun _ _ _ h => h) (Or.inl ⟨by rfl, ?_⟩) hHeld ?_ ?_
            rotate_left
            ·rintro w' ⟨s0,s1⟩
             go_simp
             with_reducible rfl
            rotate_left
            ·simp only [Act.put,qS_,qZ_,qC_,y14,y13]
             rfl
            refine take_ (i := 7) (N := some 98) (v := ?_) (a' := ?_) (fl_ 10 255) rfl rfl (take_ofW HT_.out HW_.out (by kernel_rfl)) (fun _ _ _ h => h) (Or.inl ⟨by rfl, ?_⟩) hHeld ?_ ?_
            rotate_left
            ·rintro w' ⟨s0,s1⟩
             go_simp
             with_reducible rfl
            rotate_left
            ·simp only [Act.put,qS_,qZ_,qC_,y14,y13]
             rfl
            refine one_ (i := 8) (N := some 99) (fl_ 10 511) rfl rfl (one_of HT_.out (by kernel_rfl)) (by decide) (fun K hK => ?_)
            refine goes_ Tryd.func91 (by kernel_rfl) rfl #[.string (rdOf ByteArray.empty t558 x15_1),.string (rdOf ByteArray.empty t562 x15_1)] (by rfl) rfl rfl (by (try simp only [qM_,List.map_cons,List.map_nil]); first | done | rfl | (simp only [qD_,qT_]; rfl)) ?_
            with_reducible refine (ih k1 (by have := HK1.out; omega) (rdOf ByteArray.empty t558 x15_1) (rdOf ByteArray.empty t562 x15_1) t569 _ A36.out).mono ?_
            rintro e w39 ⟨rfl,hb⟩
            have HS0_ := (hb.cell (World.block_lt_of_cell? _ _ (hHeld.1))).trans (hHeld.1)
            have HS1_ := (hb.cell (World.block_lt_of_cell? _ _ (hHeld.2))).trans (hHeld.2)
            refine ⟨_,rfl, ?_⟩
            have n0_ := y0.mk (Kd.R_below (by (with_reducible repeat (first | apply Kd.R_alloc | apply Kd.R_drewN | apply Kd.R_drew)); exact HO_12.out) hb)
            have n1_ := y0.mk (Kd.R_below (by (with_reducible repeat (first | apply Kd.R_alloc | apply Kd.R_drewN | apply Kd.R_drew)); exact HO_14.out) hb)
            have n2_ := y0.mk (y8 (by repeat (first | (with_reducible first | exact HB.out | apply y5 | apply y18 | apply y6) | exact HB.out)) hb)
            clear HO_12
            clear HO_14
            clear HB
            have HO_12 := n0_
            have HO_14 := n1_
            have HB := n2_
            clear n0_ n1_ n2_
            (try clear hb)
            (try clear hb2)
            (try clear hk)
            (try clear hi)
            refine hK.out _ _ ⟨HS0_,HS1_⟩ (fun hHeld => ?_)
            clear hK K
            refine norm_ (a' := ?_) ?_ ?_
            rotate_left
            ·show Act.put _ (some 99) _ = _
             simp only [Act.put,qS_,qZ_,qC_,y14,y13]
             rfl
            refine pure_ (i := 9) (N := some 16) (v := ?_) (a' := ?_) (fl_ 10 1023) rfl rfl (y4 HT_.out (by kernel_rfl)) (fun _ _ _ h => h) (Or.inl ⟨by rfl, ?_⟩) ?_ ?_
            rotate_left
            ·intro w'
             go_simp
             with_reducible rfl
            rotate_left
            ·simp only [Act.put,qS_,qZ_,qC_,y14,y13]
             rfl
            refine done_ (done_of HT_.out (by kernel_rfl)) ?_
            try go_wp2
            go_roundg k1
            case measure => have := HK1.out; omega
            case rel => exact ⟨(wrap64 (x15_1 + 1)),(by first | rfl | (simp; done) | (simp [*]; done)),H',⟨by have := HK1.out; omega⟩,⟨by (with_reducible repeat (first | apply Kd.R_alloc | apply Kd.R_drewN | apply Kd.R_drew)); exact HO_12.out⟩,⟨by (with_reducible repeat (first | apply Kd.R_alloc | apply Kd.R_drewN | apply Kd.R_drew)); exact HO_14.out⟩,⟨by repeat (first | (with_reducible first | exact HB.out | apply y5 | apply y18 | apply y6) | exact HB.out)⟩⟩
           ·rw [if_neg c37] at H
            have c37b0 : (t569 == 0) = false := beq_eq_false_iff_ne.mpr c37
            have c37b1 : (t569 != 0) = true := bne_iff_ne.mpr c37
            obtain rfl := Option.some.inj H
            try go_wp2
            have n0_ := y0.mk (Kd.R_drew HO_12.out)
            have n1_ := y0.mk (Kd.R_drew HO_14.out)
            have n2_ := y0.mk (y6 HB.out)
            clear HO_12
            clear HO_14
            clear HB
            have HO_12 := n0_
            have HO_14 := n1_
            have HB := n2_
            clear n0_ n1_ n2_
            have p567 : 0 ≤ (x15_1 : Int) := of_decide_eq_true (by first | (with_reducible assumption) | assumption)
            have q567 : x15_1 < (t558.length : Int) := of_decide_eq_true (by first | (with_reducible assumption) | assumption)
            obtain ⟨ad567,e567,hx567_0⟩ := Kd.at_string (Kd.R_reads' HO_12.out).2.2 x15_1 p567 q567
            cases e567
            replace p567 := eq_true p567
            replace q567 := eq_true q567
            have p568 : 0 ≤ (x15_1 : Int) := of_decide_eq_true (by first | (with_reducible assumption) | assumption)
            have q568 : x15_1 < (t562.length : Int) := of_decide_eq_true (by first | (with_reducible assumption) | assumption)
            obtain ⟨ad568,e568,hx568_0⟩ := Kd.at_string (Kd.R_reads' HO_14.out).2.2 x15_1 p568 q568
            cases e568
            replace p568 := eq_true p568
            replace q568 := eq_true q568
            refine start_ (n := 10) (S := fun w' => w'.cell? (ad567.add (x15_1).toNat) = some (.string (rdOf ByteArray.empty t558 x15_1)) ∧ w'.cell? (ad568.add (x15_1).toNat) = some (.string (rdOf ByteArray.empty t562 x15_1))) (ds := []) (fl_ 10 0) (by kernel_rfl) rfl rfl ⟨hx567_0,hx568_0⟩ (fun hHeld => ?_); refine with_tabW spec_l01Cmp.tab20 spec_l01Cmp.bits20 (fun HT_ HW_ => ?_)
            generalize wr.drew = w40 at HO_12 HO_14 HB hx567_0 hx568_0 hHeld ⊢
            refine pure_ (i := 0) (N := some 91) (v := ?_) (a' := ?_) (fl_ 10 1) rfl rfl (y4 HT_.out (by kernel_rfl)) (fun _ _ _ h => h) (Or.inl ⟨by rfl, ?_⟩) ?_ ?_
            rotate_left
            ·intro w'
             go_simp
             with_reducible rfl
            rotate_left
            ·simp only [Act.put,qS_,qZ_,qC_,y14,y13]
             rfl
            refine pure_ (i := 1) (N := some 92) (v := ?_) (a' := ?_) (fl_ 10 3) rfl rfl (y4 HT_.out (by kernel_rfl)) (fun _ _ _ h => h) (Or.inl ⟨by rfl, ?_⟩) ?_ ?_
            rotate_left
            ·intro w'
             go_simp
             with_reducible rfl
            rotate_left
            ·simp only [Act.put,qS_,qZ_,qC_,y14,y13]
             rfl
            refine pure_ (i := 2) (N := some 93) (v := ?_) (a' := ?_) (fl_ 10 7) rfl rfl (y4 HT_.out (by kernel_rfl)) (fun _ _ _ h => h) (Or.inl ⟨by rfl, ?_⟩) ?_ ?_
            rotate_left
            ·intro w'
             go_simp
             with_reducible rfl
            rotate_left
            ·simp only [Act.put,qS_,qZ_,qC_,y14,y13]
             rfl
            refine pure_ (i := 4) (N := some 95) (v := ?_) (a' := ?_) (fl_ 10 23) rfl rfl (y4 HT_.out (by kernel_rfl)) (fun _ _ _ h => h) (Or.inl ⟨by rfl, ?_⟩) ?_ ?_
            rotate_left
            ·intro w'
             go_simp
             with_reducible rfl
            rotate_left
            ·simp only [Act.put,qS_,qZ_,qC_,y14,y13]
             rfl
            refine pure_ (i := 5) (N := some 96) (v := ?_) (a' := ?_) (fl_ 10 55) rfl rfl (y4 HT_.out (by kernel_rfl)) (fun _ _ _ h => h) (Or.inl ⟨by rfl, ?_⟩) ?_ ?_
            rotate_left
            ·intro w'
             go_simp
             with_reducible rfl
            rotate_left
            ·simp only [Act.put,qS_,qZ_,qC_,y14,y13]
             rfl
            refine pure_ (i := 6) (N := some 97) (v := ?_) (a' := ?_) (fl_ 10 119) rfl rfl (y4 HT_.out (by kernel_rfl)) (fun _ _ _ h => h) (Or.inl ⟨by rfl, ?_⟩) ?_ ?_
            rotate_left
            ·intro w'
             go_simp
             with_reducible rfl
            rotate_left
            ·simp only [Act.put,qS_,qZ_,qC_,y14,y13]
             rfl
            refine take_ (i := 3) (N := some 94) (v := ?_) (a' := ?_) (fl_ 10 127) rfl rfl (take_ofW HT_.out HW_.out (by kernel_rfl)) (fun _ _ _ h => h) (Or.inl ⟨by rfl, ?_⟩) hHeld ?_ ?_
            rotate_left
            ·rintro w' ⟨s0,s1⟩
             go_simp
             with_reducible rfl
            rotate_left
            ·simp only [Act.put,qS_,qZ_,qC_,y14,y13]
             rfl
            refine take_ (i := 7) (N := some 98) (v := ?_) (a' := ?_) (fl_ 10 255) rfl rfl (take_ofW HT_.out HW_.out (by kernel_rfl)) (fun _ _ _ h => h) (Or.inl ⟨by rfl, ?_⟩) hHeld ?_ ?_
            rotate_left
            ·rintro w' ⟨s0,s1⟩
             go_simp
             with_reducible rfl
            rotate_left
            ·simp only [Act.put,qS_,qZ_,qC_,y14,y13]
             rfl
            refine one_ (i := 8) (N := some 99) (fl_ 10 511) rfl rfl (one_of HT_.out (by kernel_rfl)) (by decide) (fun K hK => ?_)
            refine goes_ Tryd.func91 (by kernel_rfl) rfl #[.string (rdOf ByteArray.empty t558 x15_1),.string (rdOf ByteArray.empty t562 x15_1)] (by rfl) rfl rfl (by (try simp only [qM_,List.map_cons,List.map_nil]); first | done | rfl | (simp only [qD_,qT_]; rfl)) ?_
            with_reducible refine (ih k1 (by have := HK1.out; omega) (rdOf ByteArray.empty t558 x15_1) (rdOf ByteArray.empty t562 x15_1) t569 _ A36.out).mono ?_
            rintro e w41 ⟨rfl,hb⟩
            have HS0_ := (hb.cell (World.block_lt_of_cell? _ _ (hHeld.1))).trans (hHeld.1)
            have HS1_ := (hb.cell (World.block_lt_of_cell? _ _ (hHeld.2))).trans (hHeld.2)
            refine ⟨_,rfl, ?_⟩
            have n0_ := y0.mk (Kd.R_below (by (with_reducible repeat (first | apply Kd.R_alloc | apply Kd.R_drewN | apply Kd.R_drew)); exact HO_12.out) hb)
            have n1_ := y0.mk (Kd.R_below (by (with_reducible repeat (first | apply Kd.R_alloc | apply Kd.R_drewN | apply Kd.R_drew)); exact HO_14.out) hb)
            have n2_ := y0.mk (y8 (by repeat (first | (with_reducible first | exact HB.out | apply y5 | apply y18 | apply y6) | exact HB.out)) hb)
            clear HO_12
            clear HO_14
            clear HB
            have HO_12 := n0_
            have HO_14 := n1_
            have HB := n2_
            clear n0_ n1_ n2_
            (try clear hb)
            (try clear hb2)
            (try clear hk)
            (try clear hi)
            refine hK.out _ _ ⟨HS0_,HS1_⟩ (fun hHeld => ?_)
            clear hK K
            refine norm_ (a' := ?_) ?_ ?_
            rotate_left
            ·show Act.put _ (some 99) _ = _
             simp only [Act.put,qS_,qZ_,qC_,y14,y13]
             rfl
            refine pure_ (i := 9) (N := some 16) (v := ?_) (a' := ?_) (fl_ 10 1023) rfl rfl (y4 HT_.out (by kernel_rfl)) (fun _ _ _ h => h) (Or.inl ⟨by rfl, ?_⟩) ?_ ?_
            rotate_left
            ·intro w'
             go_simp
             with_reducible rfl
            rotate_left
            ·simp only [Act.put,qS_,qZ_,qC_,y14,y13]
             rfl
            refine done_ (done_of HT_.out (by kernel_rfl)) ?_
            try go_wp2
            go_ret
            exact ⟨by first | rfl | (simp [y9,y10] <;> rfl) | (simp [*,y9,y10] <;> rfl),by repeat (first | (with_reducible first | exact HB.out | apply y5 | apply y18 | apply y6) | exact HB.out)⟩
          ·rw [if_neg c35] at H
           exact absurd H (by simp)
         ·rw [if_neg c34] at H
          exact absurd H (by simp)
        ·rw [if_neg c33] at H
         have c33b0 : decide (x15_1 < (t558.length : Int)) = false := decide_eq_false c33
         clear c33
         obtain rfl := Option.some.inj H
         go_wp2
         go_ret
         exact ⟨by first | rfl | (simp [y9,y10] <;> rfl) | (simp [*,y9,y10] <;> rfl),by repeat (first | (with_reducible first | exact HB.out | apply y5 | apply y18 | apply y6) | exact HB.out)⟩
     ·rw [if_neg c26] at H
      have c26b0 : ((t558.length : Int) == (t562.length : Int)) = false := beq_eq_false_iff_ne.mpr c26
      have c26b1 : ((t558.length : Int) != (t562.length : Int)) = true := bne_iff_ne.mpr c26
      have c26b2 : (t558.length == t562.length) = false := by first | simpa using c26 | (simp at c26 ⊢; omega)
      replace H := Option.bind_eq_some_iff.mp H
      obtain ⟨t566,A420,H⟩ := H
      replace H : (some t566) = some r := H
      have A42 := y0.mk A420
      clear A420
      obtain rfl := Option.some.inj H
      go_enter Tryd.func91,Tryd.ntmps91
      go_wp2_with (first | ((with_reducible refine y11 (f := 29) rfl ?_); refine y12 (some 18) rfl rfl Tryd.func29 (by kernel_rfl) rfl #[.string a0] rfl (by (try simp only [qM_,List.map_cons,List.map_nil]); first | done | rfl | (simp only [qD_,qT_]; rfl)) ?_; (with_reducible refine (z3_.calls k a0 t548 _ A3.out).mono ?_); rintro e w43 ⟨rfl,hb⟩; refine ⟨_,rfl, ?_⟩; have n0_ := y0.mk (y8 (by repeat (first | (with_reducible first | exact HB.out | apply y5 | apply y18 | apply y6) | exact HB.out)) hb); clear HB; have HB := n0_; clear n0_; (try clear hb); (try clear hb2); (try clear hk); (try clear hi)) | ((with_reducible refine y11 (f := 29) rfl ?_); refine y12 (some 20) rfl rfl Tryd.func29 (by kernel_rfl) rfl #[.string a1] rfl (by (try simp only [qM_,List.map_cons,List.map_nil]); first | done | rfl | (simp only [qD_,qT_]; rfl)) ?_; (with_reducible refine (z3_.calls k a1 t549 _ A4.out).mono ?_); rintro e w44 ⟨rfl,hb⟩; refine ⟨_,rfl, ?_⟩; have n0_ := y0.mk (y8 (by repeat (first | (with_reducible first | exact HB.out | apply y5 | apply y18 | apply y6) | exact HB.out)) hb); clear HB; have HB := n0_; clear n0_; (try clear hb); (try clear hb2); (try clear hk); (try clear hi)) | ((with_reducible refine y11 (f := 44) rfl ?_); refine y12 (some 60) rfl rfl Tryd.func44 (by kernel_rfl) rfl #[.string a0] rfl (by (try simp only [qM_,List.map_cons,List.map_nil]); first | done | rfl | (simp only [qD_,qT_]; rfl)) ?_; (with_reducible refine (spec_TermParts.calls k a0 t557 t558 _ A23.out).mono ?_); rintro e w45 ⟨v559,rfl,ho0,hb⟩; refine ⟨_,rfl, ?_⟩; have n0_ := y0.mk (Kd.R_lower ho0 (below_size (by repeat (first | (with_reducible first | exact HB.out | apply y5 | apply y18 | apply y6) | exact HB.out)))); have n1_ := y0.mk (y8 (by repeat (first | (with_reducible first | exact HB.out | apply y5 | apply y18 | apply y6) | exact HB.out)) hb); clear HB; have HO560 := n0_; have HB := n1_; clear n0_ n1_; (try clear hb); (try clear hb2); (try clear hk); (try clear hi); (try clear ho0)) | ((with_reducible refine y11 (f := 44) rfl ?_); refine y12 (some 65) rfl rfl Tryd.func44 (by kernel_rfl) rfl #[.string a1] rfl (by (try simp only [qM_,List.map_cons,List.map_nil]); first | done | rfl | (simp only [qD_,qT_]; rfl)) ?_; (with_reducible refine (spec_TermParts.calls k a1 t561 t562 _ A24.out).mono ?_); rintro e w46 ⟨v563,rfl,ho0,hb⟩; refine ⟨_,rfl, ?_⟩; have n0_ := y0.mk (Kd.R_elder' (by (with_reducible repeat (first | apply Kd.R_alloc | apply Kd.R_drewN | apply Kd.R_drew)); exact HO560.out) (Kd.R_base ho0) hb); have n1_ := y0.mk (Kd.R_lower (Kd.R_new' ho0 (Kd.R_lt (by (with_reducible repeat (first | apply Kd.R_alloc | apply Kd.R_drewN | apply Kd.R_drew)); exact HO560.out))) (below_size (by repeat (first | (with_reducible first | exact HB.out | apply y5 | apply y18 | apply y6) | exact HB.out)))); have n2_ := y0.mk (y8 (by repeat (first | (with_reducible first | exact HB.out | apply y5 | apply y18 | apply y6) | exact HB.out)) hb); clear HO560; clear HB; have HO560 := n0_; have HO564 := n1_; have HB := n2_; clear n0_ n1_ n2_; (try clear hb); (try clear hb2); (try clear hk); (try clear hi); (try clear ho0); obtain ⟨Ao47,co47,eo47⟩ := Kd.R_slice HO560.out; subst eo47; obtain ⟨Ao48,co48,eo48⟩ := Kd.R_slice HO564.out; subst eo48) | ((with_reducible refine y11 (f := 112) rfl ?_); refine y12 (some 84) rfl rfl Tryd.func112 (by kernel_rfl) rfl #[.int .i64 (wrap64 ((t558.length : Int) - (t562.length : Int)))] rfl (by (try simp only [qM_,List.map_cons,List.map_nil]); first | done | rfl | (simp only [qD_,qT_]; rfl)) ?_; (with_reducible refine (spec_l01Sign.calls (wrap64 ((t558.length : Int) - (t562.length : Int))) t566 _ A42.out).mono ?_); rintro e w' ⟨rfl,⟨nd,rfl⟩⟩; refine ⟨_,rfl, ?_⟩))
      go_ret
      exact ⟨by first | rfl | (simp [y9,y10] <;> rfl) | (simp [*,y9,y10] <;> rfl),by repeat (first | (with_reducible first | exact HB.out | apply y5 | apply y18 | apply y6) | exact HB.out)⟩
    ·rw [if_neg c25] at H
     have c25b0 : (t557.toList == t561.toList) = false := beq_eq_false_iff_ne.mpr c25
     have c25b1 : (t557.toList != t561.toList) = true := bne_iff_ne.mpr c25
     replace H := Option.bind_eq_some_iff.mp H
     obtain ⟨t565,A490,H⟩ := H
     replace H : (some t565) = some r := H
     have A49 := y0.mk A490
     clear A490
     obtain rfl := Option.some.inj H
     go_enter Tryd.func91,Tryd.ntmps91
     go_wp2_with (first | ((with_reducible refine y11 (f := 29) rfl ?_); refine y12 (some 18) rfl rfl Tryd.func29 (by kernel_rfl) rfl #[.string a0] rfl (by (try simp only [qM_,List.map_cons,List.map_nil]); first | done | rfl | (simp only [qD_,qT_]; rfl)) ?_; (with_reducible refine (z3_.calls k a0 t548 _ A3.out).mono ?_); rintro e w50 ⟨rfl,hb⟩; refine ⟨_,rfl, ?_⟩; have n0_ := y0.mk (y8 (by repeat (first | (with_reducible first | exact HB.out | apply y5 | apply y18 | apply y6) | exact HB.out)) hb); clear HB; have HB := n0_; clear n0_; (try clear hb); (try clear hb2); (try clear hk); (try clear hi)) | ((with_reducible refine y11 (f := 29) rfl ?_); refine y12 (some 20) rfl rfl Tryd.func29 (by kernel_rfl) rfl #[.string a1] rfl (by (try simp only [qM_,List.map_cons,List.map_nil]); first | done | rfl | (simp only [qD_,qT_]; rfl)) ?_; (with_reducible refine (z3_.calls k a1 t549 _ A4.out).mono ?_); rintro e w51 ⟨rfl,hb⟩; refine ⟨_,rfl, ?_⟩; have n0_ := y0.mk (y8 (by repeat (first | (with_reducible first | exact HB.out | apply y5 | apply y18 | apply y6) | exact HB.out)) hb); clear HB; have HB := n0_; clear n0_; (try clear hb); (try clear hb2); (try clear hk); (try clear hi)) | ((with_reducible refine y11 (f := 44) rfl ?_); refine y12 (some 60) rfl rfl Tryd.func44 (by kernel_rfl) rfl #[.string a0] rfl (by (try simp only [qM_,List.map_cons,List.map_nil]); first | done | rfl | (simp only [qD_,qT_]; rfl)) ?_; (with_reducible refine (spec_TermParts.calls k a0 t557 t558 _ A23.out).mono ?_); rintro e w52 ⟨v559,rfl,ho0,hb⟩; refine ⟨_,rfl, ?_⟩; have n0_ := y0.mk (Kd.R_lower ho0 (below_size (by repeat (first | (with_reducible first | exact HB.out | apply y5 | apply y18 | apply y6) | exact HB.out)))); have n1_ := y0.mk (y8 (by repeat (first | (with_reducible first | exact HB.out | apply y5 | apply y18 | apply y6) | exact HB.out)) hb); clear HB; have HO560 := n0_; have HB := n1_; clear n0_ n1_; (try clear hb); (try clear hb2); (try clear hk); (try clear hi); (try clear ho0)) | ((with_reducible refine y11 (f := 44) rfl ?_); refine y12 (some 65) rfl rfl Tryd.func44 (by kernel_rfl) rfl #[.string a1] rfl (by (try simp only [qM_,List.map_cons,List.map_nil]); first | done | rfl | (simp only [qD_,qT_]; rfl)) ?_; (with_reducible refine (spec_TermParts.calls k a1 t561 t562 _ A24.out).mono ?_); rintro e w53 ⟨v563,rfl,ho0,hb⟩; refine ⟨_,rfl, ?_⟩; have n0_ := y0.mk (Kd.R_elder' (by (with_reducible repeat (first | apply Kd.R_alloc | apply Kd.R_drewN | apply Kd.R_drew)); exact HO560.out) (Kd.R_base ho0) hb); have n1_ := y0.mk (Kd.R_lower (Kd.R_new' ho0 (Kd.R_lt (by (with_reducible repeat (first | apply Kd.R_alloc | apply Kd.R_drewN | apply Kd.R_drew)); exact HO560.out))) (below_size (by repeat (first | (with_reducible first | exact HB.out | apply y5 | apply y18 | apply y6) | exact HB.out)))); have n2_ := y0.mk (y8 (by repeat (first | (with_reducible first | exact HB.out | apply y5 | apply y18 | apply y6) | exact HB.out)) hb); clear HO560; clear HB; have HO560 := n0_; have HO564 := n1_; have HB := n2_; clear n0_ n1_ n2_; (try clear hb); (try clear hb2); (try clear hk); (try clear hi); (try clear ho0)) | ((with_reducible refine y11 (f := 113) rfl ?_); refine y12 (some 73) rfl rfl Tryd.func113 (by kernel_rfl) rfl #[.string t557,.string t561] rfl (by (try simp only [qM_,List.map_cons,List.map_nil]); first | done | rfl | (simp only [qD_,qT_]; rfl)) ?_; (with_reducible refine (spec_l01Texts.calls t557 t561 t565 _ A49.out).mono ?_); rintro e w' ⟨rfl,⟨nd,rfl⟩⟩; refine ⟨_,rfl, ?_⟩))
     go_ret
     exact ⟨by first | rfl | (simp [y9,y10] <;> rfl) | (simp [*,y9,y10] <;> rfl),by repeat (first | (with_reducible first | exact HB.out | apply y5 | apply y18 | apply y6) | exact HB.out)⟩
 ·rw [if_neg c5] at H
  have c5b0 : (t548 == t549) = false := beq_eq_false_iff_ne.mpr c5
  have c5b1 : (t548 != t549) = true := bne_iff_ne.mpr c5
  replace H := Option.bind_eq_some_iff.mp H
  obtain ⟨t550,A540,H⟩ := H
  replace H : (some t550) = some r := H
  have A54 := y0.mk A540
  clear A540
  obtain rfl := Option.some.inj H
  go_enter Tryd.func91,Tryd.ntmps91
  go_wp2_with (first | ((with_reducible refine y11 (f := 29) rfl ?_); refine y12 (some 18) rfl rfl Tryd.func29 (by kernel_rfl) rfl #[.string a0] rfl (by (try simp only [qM_,List.map_cons,List.map_nil]); first | done | rfl | (simp only [qD_,qT_]; rfl)) ?_; (with_reducible refine (z3_.calls k a0 t548 _ A3.out).mono ?_); rintro e w55 ⟨rfl,hb⟩; refine ⟨_,rfl, ?_⟩; have n0_ := y0.mk (y8 (by repeat (first | (with_reducible first | exact HB.out | apply y5 | apply y18 | apply y6) | exact HB.out)) hb); clear HB; have HB := n0_; clear n0_; (try clear hb); (try clear hb2); (try clear hk); (try clear hi)) | ((with_reducible refine y11 (f := 29) rfl ?_); refine y12 (some 20) rfl rfl Tryd.func29 (by kernel_rfl) rfl #[.string a1] rfl (by (try simp only [qM_,List.map_cons,List.map_nil]); first | done | rfl | (simp only [qD_,qT_]; rfl)) ?_; (with_reducible refine (z3_.calls k a1 t549 _ A4.out).mono ?_); rintro e w56 ⟨rfl,hb⟩; refine ⟨_,rfl, ?_⟩; have n0_ := y0.mk (y8 (by repeat (first | (with_reducible first | exact HB.out | apply y5 | apply y18 | apply y6) | exact HB.out)) hb); clear HB; have HB := n0_; clear n0_; (try clear hb); (try clear hb2); (try clear hk); (try clear hi)) | ((with_reducible refine y11 (f := 112) rfl ?_); refine y12 (some 27) rfl rfl Tryd.func112 (by kernel_rfl) rfl #[.int .i64 (wrap64 (t548 - t549))] rfl (by (try simp only [qM_,List.map_cons,List.map_nil]); first | done | rfl | (simp only [qD_,qT_]; rfl)) ?_; (with_reducible refine (spec_l01Sign.calls (wrap64 (t548 - t549)) t550 _ A54.out).mono ?_); rintro e w' ⟨rfl,⟨nd,rfl⟩⟩; refine ⟨_,rfl, ?_⟩))
  go_ret
  exact ⟨by first | rfl | (simp [y9,y10] <;> rfl) | (simp [*,y9,y10] <;> rfl),by repeat (first | (with_reducible first | exact HB.out | apply y5 | apply y18 | apply y6) | exact HB.out)⟩
end Go.Proofs.YtebadckdihgklaaDoor.Pb
end

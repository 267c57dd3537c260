-- Cut by prune.py, a program of this session, out of the texts of this claim: Lean checks it.
import Derived.Test.YtebadckdihgklaaDoorVrdPbx0
section
namespace Go.Proofs.YtebadckdihgklaaDoor.Pb
open Go.RowKit Go.Proofs.YtebadckdihgklaaDoorW.PrintWords Go.Proofs.YtebadckdihgklaaDoorW.PrintLast Go.Proofs.YtebadckdihgklaaDoorW.PrintMore
attribute [local go_sem] max2_int min2_int max_two min_two max_three min_three max_four min_four   -- for this text's walks alone
set_option linter.unusedVariables false
set_option linter.unusedSimpArgs false
mutual
def z4_.j1 : Nat → ByteArray → Int → Option (ByteArray × List ByteArray × Bool)
 | 0,_,_ => none
 | k + 1,x0,x5 => if x5 = (x0.size : Int) then (some (x0,(([] : List ByteArray)),true)) else (z4_.l1 k x0 x5 (([] : List ByteArray)) 0 false (wrap64 (x5 + 1)) x5)
def z4_.l1 : Nat → ByteArray → Int → List ByteArray → Int → Bool → Int → Int → Option (ByteArray × List ByteArray × Bool)
 | 0,_,_,_,_,_,_,_ => none
 | k + 1,x0,x5,x6,x7,x8,x9,x10 => if x10 < (x0.size : Int) then (if 0 ≤ x10 then (if (bt x0 x10) = 34 then (z4_.l1 k x0 x5 x6 x7 (!x8) x9 (wrap64 (x10 + 1))) else (if x8 = true then (z4_.l1 k x0 x5 x6 x7 x8 x9 (wrap64 (x10 + 1))) else (if (bt x0 x10) = 40 then (z4_.l1 k x0 x5 x6 (wrap64 (x7 + 1)) x8 x9 (wrap64 (x10 + 1))) else (if (bt x0 x10) = 41 then (if (wrap64 (x7 - 1)) = 0 then (if 0 ≤ x5 then (if x5 ≤ (x0.size : Int) then (if 0 ≤ x9 then (if x9 ≤ x10 then (if x10 ≤ (x0.size : Int) then (if x6.length < 8796093022208 then (some (x0.extract 0 (x5 : Int).toNat,(x6 ++ [x0.extract (x9 : Int).toNat (x10 : Int).toNat]),(x10 == (wrap64 ((x0.size : Int) - 1))))) else (none)) else (none)) else (none)) else (none)) else (none)) else (none)) else (z4_.l1 k x0 x5 x6 (wrap64 (x7 - 1)) x8 x9 (wrap64 (x10 + 1)))) else (if (bt x0 x10) = 44 then (if x7 = 1 then (if 0 ≤ x9 then (if x9 ≤ x10 then (if x10 ≤ (x0.size : Int) then (if x6.length < 8796093022208 then (z4_.l1 k x0 x5 (x6 ++ [x0.extract (x9 : Int).toNat (x10 : Int).toNat]) x7 x8 (wrap64 (x10 + 1)) (wrap64 (x10 + 1))) else (none)) else (none)) else (none)) else (none)) else (z4_.l1 k x0 x5 x6 x7 x8 x9 (wrap64 (x10 + 1)))) else (z4_.l1 k x0 x5 x6 x7 x8 x9 (wrap64 (x10 + 1)))))))) else (none)) else (some ((⟨#[]⟩ : ByteArray),(([] : List ByteArray)),false))
def z4_.l0 : Nat → ByteArray → Int → Option (ByteArray × List ByteArray × Bool)
 | 0,_,_ => none
 | k + 1,x0,x5 => if x5 < (x0.size : Int) then (if 0 ≤ x5 then (if (bt x0 x5) = 40 then (z4_.j1 k x0 x5) else (z4_.l0 k x0 (wrap64 (x5 + 1)))) else (none)) else (z4_.j1 k x0 x5)
end
def z4_.f (k : Nat) (a0 : ByteArray) : Option (ByteArray × List ByteArray × Bool) := z4_.l0 k a0 0
def z4_.T21 : Bool × List (List Nat × List Nat) := (true,[([],[]),([],[]),([0,1],[0,1]),([],[]),([],[]),([],[]),([],[]),([4,5,6],[4,5,6]),([7],[7]),([3,8],[3,8]),([],[]),([],[]),([11],[11]),([12],[12]),([10,13],[10,13]),([2,9,0,1,2],[2]),([9,15,0,1,2,3,4,5,6,7,8,9,15],[9]),([14,16,0,1,2,3,4,5,6,7,8,9,10,11,12,13,14,15,16],[14])])
def z4_.B21 : List Nat := [0,0,3,0,0,0,0,112,240,504,0,0,2048,6144,15360,1023,33791,131071]
theorem z4_.tab21 : rtab .any (opsOf Tryd.f74 21) = z4_.T21 := by kernel_rfl
theorem z4_.bits21 : waitsOk z4_.T21.2 z4_.B21 = true := by kernel_rfl
set_option maxHeartbeats 8000000 in
set_option maxRecDepth 100000 in
theorem z4_.calls (k : Nat) (a0 : ByteArray) (r1 : ByteArray) (r2 : List ByteArray) (r3 : Bool) (w : World) (h : z4_.f k a0 = some (r1,r2,r3)) :
  Calls Tryd.prog 74 #[.string a0] w fun e w' => ∃ v1_ : Value,e = .returned (.tuple #[.string r1,v1_,.bool r3]) ∧ Kd.R Kd.string 9 w' w.heap.size (fun _ => True) v1_ r2 ∧ Below w.heap.size w w' := by
 have HB := y0.mk (Below.refl w.heap.size w)
 have H : (z4_.l0 k a0 0) = some (r1,r2,r3) := h
 clear h
 have HC2 := y0.mk H
 clear H
 go_enter Tryd.func74,Tryd.ntmps74
 go_upto_block 0 with (fail)
 go_cut [5] (fun v5 wc => ∃ (kq : Nat) (x5_1 : Int),v5 = .int .i64 x5_1 ∧ y0 (z4_.j1 kq a0 x5_1 = some (r1,r2,r3)) ∧ y0 (kq ≤ k) ∧ y0 (Below w.heap.size w wc))
 case first =>
  have H := HC2.out
  clear HC2
  have H' := y0.mk H
  clear H
  go_wp2
  go_loopg [5] k (fun kq v5 w' => ∃ (x5_1 : Int),v5 = .int .i64 x5_1 ∧ y0 (z4_.l0 kq a0 x5_1 = some (r1,r2,r3)) ∧ y0 (kq ≤ k) ∧ y0 (Below w.heap.size w w'))
  case atStart => exact ⟨(0),qy2,H',⟨Nat.le_refl _⟩,⟨qb⟩⟩
  case round =>
   clear H'
   obtain ⟨x5_1,rfl,HA,HK1,HB⟩ := hrel
   cases gk with
   | zero => exact absurd HA.out (by simp [z4_.l0])
   | succ k1 =>
    have H := HA.out
    clear HA
    simp only [z4_.l0] at H
    by_cases c3 : x5_1 < (a0.size : Int)
    ·rw [if_pos c3] at H
     have c3b0 := decide_eq_true c3
     clear c3
     (first | rw [c3b0] | (simp only [y13,y12]; rw [c3b0]) | skip)
     obtain ⟨c4,H⟩ := qo H
     have c4b0 : decide (0 ≤ x5_1) = true := decide_eq_true c4
     clear c4
     by_cases c6 : (bt a0 x5_1) = 40
     ·rw [if_pos c6] at H
      have c6b0 : ((bt a0 x5_1) == 40) = true := beq_iff_eq.mpr c6
      have c6b1 : ((bt a0 x5_1) != 40) = false := bne_eq_false_iff_eq.mpr c6
      clear c6
      have H' := y0.mk H
      clear H
      have p5 : 0 ≤ (x5_1 : Int) := of_decide_eq_true qy1
      have q5 : x5_1 < (a0.size : Int) := of_decide_eq_true qy1
      have hx5 := bt_at a0 x5_1
      replace p5 := eq_true p5
      replace q5 := eq_true q5
      go_wp2
      go_meet
      exact ⟨_,(x5_1),qy2,H',⟨by have := HK1.out; first | omega | exact Nat.le_refl _⟩,⟨qb⟩⟩
     ·rw [if_neg c6] at H
      have c6b0 : ((bt a0 x5_1) == 40) = false := beq_eq_false_iff_ne.mpr c6
      have c6b1 : ((bt a0 x5_1) != 40) = true := bne_iff_ne.mpr c6
      have H' := y0.mk H
      clear H
      have p5 : 0 ≤ (x5_1 : Int) := of_decide_eq_true qy1
      have q5 : x5_1 < (a0.size : Int) := of_decide_eq_true qy1
      have hx5 := bt_at a0 x5_1
      replace p5 := eq_true p5
      replace q5 := eq_true q5
      go_wp2
      go_roundg k1
      case measure => have := HK1.out; omega
      exact ⟨(wrap64 (x5_1 + 1)),qy2,H',⟨by have := HK1.out; omega⟩,⟨qb⟩⟩
    ·rw [if_neg c3] at H
     have c3b0 := decide_eq_false c3
     clear c3
     (first | rw [c3b0] | (simp only [y13,y12]; rw [c3b0]) | skip)
     have H' := y0.mk H
     clear H
     go_wp2
     go_meet
     exact ⟨_,(x5_1),qy2,H',⟨by have := HK1.out; first | omega | exact Nat.le_refl _⟩,⟨qb⟩⟩
 case rest =>
  clear HC2
  obtain ⟨kq,x5_1,rfl,HA,HJ1,HB⟩ := hcut
  cases kq with
  | zero => exact absurd HA.out (by simp [z4_.j1])
  | succ kj1 =>
   have H := HA.out
   clear HA
   simp only [z4_.j1] at H
   by_cases c7 : x5_1 = (a0.size : Int)
   ·rw [if_pos c7] at H
    have c7b0 : (x5_1 == (a0.size : Int)) = true := beq_iff_eq.mpr c7
    have c7b1 : (x5_1 != (a0.size : Int)) = false := bne_eq_false_iff_eq.mpr c7
    clear c7
    obtain ⟨y204,hy204⟩ : ∃ y_ : List ByteArray,y_ = (([] : List ByteArray)) := ⟨_,rfl⟩
    replace H : (some (a0,y204,true)) = some (r1,r2,r3) := by first | (rw [hy204]; with_reducible exact H) | (have H2_ := (Option.bind_some _ _).symm.trans H; rw [hy204]; with_reducible exact H2_) | (have H2_ := (Option.bind_some _ _).symm.trans H; with_reducible exact H2_) | with_reducible exact H | (rw [hy204]; exact H) | exact H
    have Ny204 := y0.mk hy204
    clear hy204
    simp only [Option.some.injEq,Prod.mk.injEq] at H
    obtain ⟨rfl,rfl,rfl⟩ := H
    go_wp2_with (first | ((with_reducible refine gate_dst (N := 28) rfl ?_); refine Kd.R_lit Kd.string _ 9 ?hg (N := 28) ?hd (xs := ([] : List ByteArray)) (inner := []) (ok := fun _ => True) (okp := fun _ => True) ?hr ?hp (fun _ hk => hk) trivial (Below.refl _ _) (Nat.le_refl _) (by simp) ?_; (case hd => rfl); (case hg => rfl); (case hr => first | (go_simp; done) | (go_simp; rfl)); (case hp => exact (Reps.none _ _)); intro v205 w8 ho9 hb hg_ hnew_; clear hg_ hnew_; (first | rw [← Ny204.out] at ho9 | (simp only [Int.reduceToNat] at ho9; rw [← Ny204.out] at ho9)); have HO206 := y0.mk (Kd.R_lower ho9 (y4 qb)); replace HB := y0.mk (y5 qb hb); clear hb ho9))
    go_ret3
    exact ⟨_,by first | rfl | (simp [y8,y9] <;> rfl) | (simp [*,y8,y9] <;> rfl),by (with_reducible repeat (first | apply Kd.R_alloc | apply Kd.R_drewN | apply Kd.R_drew)); exact HO206.out,qb⟩
   ·rw [if_neg c7] at H
    have c7b0 : (x5_1 == (a0.size : Int)) = false := beq_eq_false_iff_ne.mpr c7
    have c7b1 : (x5_1 != (a0.size : Int)) = true := bne_iff_ne.mpr c7
    obtain ⟨y207,hy207⟩ : ∃ y_ : List ByteArray,y_ = (([] : List ByteArray)) := ⟨_,rfl⟩
    replace H : (z4_.l1 kj1 a0 x5_1 y207 0 false (wrap64 (x5_1 + 1)) x5_1) = some (r1,r2,r3) := by first | (rw [hy207]; with_reducible exact H) | (have H2_ := (Option.bind_some _ _).symm.trans H; rw [hy207]; with_reducible exact H2_) | (have H2_ := (Option.bind_some _ _).symm.trans H; with_reducible exact H2_) | with_reducible exact H | (rw [hy207]; exact H) | exact H
    have Ny207 := y0.mk hy207
    clear hy207
    have H' := y0.mk H
    clear H
    go_wp2_with (first | ((with_reducible refine gate_dst (N := 29) rfl ?_); refine Kd.R_lit Kd.string _ 9 ?hg (N := 29) ?hd (xs := ([] : List ByteArray)) (inner := []) (ok := fun _ => True) (okp := fun _ => True) ?hr ?hp (fun _ hk => hk) trivial (Below.refl _ _) (Nat.le_refl _) (by simp) ?_; (case hd => rfl); (case hg => rfl); (case hr => first | (go_simp; done) | (go_simp; rfl)); (case hp => exact (Reps.none _ _)); intro v208 w10 ho11 hb hg_ hnew_; clear hg_ hnew_; (first | rw [← Ny207.out] at ho11 | (simp only [Int.reduceToNat] at ho11; rw [← Ny207.out] at ho11)); have HO209 := y0.mk (Kd.R_lower ho11 (y4 qb)); replace HB := y0.mk (y5 qb hb); clear hb ho11))
    go_loopg [6,7,8,9,10] kj1 (fun kq v6 v7 v8 v9 v10 w' => ∃ (x6_2 : List ByteArray) (x7_2 : Int) (x8_2 : Bool) (x9_2 : Int) (x10_2 : Int),v7 = .int .i64 x7_2 ∧ v8 = .bool x8_2 ∧ v9 = .int .i64 x9_2 ∧ v10 = .int .i64 x10_2 ∧ y0 (z4_.l1 kq a0 x5_1 x6_2 x7_2 x8_2 x9_2 x10_2 = some (r1,r2,r3)) ∧ y0 (kq ≤ kj1) ∧ y0 (Kd.R Kd.string 9 w' w.heap.size (fun _ => True) v6 x6_2) ∧ y0 (Below w.heap.size w w'))
    case atStart => exact ⟨(y207),(0),(false),(wrap64 (x5_1 + 1)),(x5_1),qy2,qy2,qy2,qy2,H',⟨Nat.le_refl _⟩,⟨qR HO209.out⟩,⟨qb⟩⟩
    case round =>
     clear H'
     (try clear c7b0 c7b1)
     obtain ⟨x6_2,x7_2,x8_2,x9_2,x10_2,rfl,rfl,rfl,rfl,HA,HK2,HO_6,HB⟩ := hrel
     cases gk with
     | zero => exact absurd HA.out (by simp [z4_.l1])
     | succ k2 =>
      have H := HA.out
      clear HA
      simp only [z4_.l1] at H
      by_cases c12 : x10_2 < (a0.size : Int)
      ·rw [if_pos c12] at H
       have c12b0 := decide_eq_true c12
       clear c12
       obtain ⟨c13,H⟩ := qo H
       have c13b0 : decide (0 ≤ x10_2) = true := decide_eq_true c13
       clear c13
       by_cases c15 : (bt a0 x10_2) = 34
       ·rw [if_pos c15] at H
        have c15b0 : ((bt a0 x10_2) == 34) = true := beq_iff_eq.mpr c15
        have c15b1 : ((bt a0 x10_2) != 34) = false := bne_eq_false_iff_eq.mpr c15
        clear c15
        have H' := y0.mk H
        clear H
        have p14 : 0 ≤ (x10_2 : Int) := of_decide_eq_true qy1
        have q14 : x10_2 < (a0.size : Int) := of_decide_eq_true qy1
        have hx14 := bt_at a0 x10_2
        replace p14 := eq_true p14
        replace q14 := eq_true q14
        go_wp2
        go_roundg k2
        case measure => have := HJ1.out; have := HK2.out; omega
        exact ⟨(x6_2),(x7_2),(!x8_2),(x9_2),(wrap64 (x10_2 + 1)),qy2,qy2,qy2,qy2,H',⟨by have := HJ1.out; have := HK2.out; omega⟩,⟨qR HO_6.out⟩,⟨qb⟩⟩
       ·rw [if_neg c15] at H
        have c15b0 : ((bt a0 x10_2) == 34) = false := beq_eq_false_iff_ne.mpr c15
        have c15b1 : ((bt a0 x10_2) != 34) = true := bne_iff_ne.mpr c15
        by_cases c16 : x8_2 = true
        ·subst c16
         replace H := qT H
         have H' := y0.mk H
         clear H
         have p14 : 0 ≤ (x10_2 : Int) := of_decide_eq_true qy1
         have q14 : x10_2 < (a0.size : Int) := of_decide_eq_true qy1
         have hx14 := bt_at a0 x10_2
         replace p14 := eq_true p14
         replace q14 := eq_true q14
         go_wp2
         go_roundg k2
         case measure => have := HJ1.out; have := HK2.out; omega
         exact ⟨(x6_2),(x7_2),(true),(x9_2),(wrap64 (x10_2 + 1)),qy2,qy2,qy2,qy2,H',⟨by have := HJ1.out; have := HK2.out; omega⟩,⟨qR HO_6.out⟩,⟨qb⟩⟩
        ·replace c16 := Bool.eq_false_iff.mpr c16
         subst c16
         replace H := qF H
         by_cases c18 : (bt a0 x10_2) = 40
         ·rw [if_pos c18] at H
          have c18b0 : ((bt a0 x10_2) == 40) = true := beq_iff_eq.mpr c18
          have c18b1 : ((bt a0 x10_2) != 40) = false := bne_eq_false_iff_eq.mpr c18
          clear c18
          have H' := y0.mk H
          clear H
          have p14 : 0 ≤ (x10_2 : Int) := of_decide_eq_true qy1
          have q14 : x10_2 < (a0.size : Int) := of_decide_eq_true qy1
          have hx14 := bt_at a0 x10_2
          replace p14 := eq_true p14
          replace q14 := eq_true q14
          have p17 : 0 ≤ (x10_2 : Int) := of_decide_eq_true qy1
          have q17 : x10_2 < (a0.size : Int) := of_decide_eq_true qy1
          have hx17 := bt_at a0 x10_2
          replace p17 := eq_true p17
          replace q17 := eq_true q17
          go_wp2
          go_roundg k2
          case measure => have := HJ1.out; have := HK2.out; omega
          exact ⟨(x6_2),(wrap64 (x7_2 + 1)),(false),(x9_2),(wrap64 (x10_2 + 1)),qy2,qy2,qy2,qy2,H',⟨by have := HJ1.out; have := HK2.out; omega⟩,⟨qR HO_6.out⟩,⟨qb⟩⟩
         ·rw [if_neg c18] at H
          have c18b0 : ((bt a0 x10_2) == 40) = false := beq_eq_false_iff_ne.mpr c18
          have c18b1 : ((bt a0 x10_2) != 40) = true := bne_iff_ne.mpr c18
          by_cases c20 : (bt a0 x10_2) = 41
          ·rw [if_pos c20] at H
           have c20b0 : ((bt a0 x10_2) == 41) = true := beq_iff_eq.mpr c20
           have c20b1 : ((bt a0 x10_2) != 41) = false := bne_eq_false_iff_eq.mpr c20
           clear c20
           by_cases c21 : (wrap64 (x7_2 - 1)) = 0
           ·rw [if_pos c21] at H
            have c21b0 : ((wrap64 (x7_2 - 1)) == 0) = true := beq_iff_eq.mpr c21
            have c21b1 : ((wrap64 (x7_2 - 1)) != 0) = false := bne_eq_false_iff_eq.mpr c21
            clear c21
            obtain ⟨c22,H⟩ := qo H
            have c22b0 := eq_true c22
            have c22b1 := decide_eq_true c22
            clear c22
            obtain ⟨c23,H⟩ := qo H
            have c23b0 := eq_true c23
            have c23b1 := decide_eq_true c23
            clear c23
            obtain ⟨c24,H⟩ := qo H
            have c24b0 := eq_true c24
            have c24b1 := decide_eq_true c24
            clear c24
            obtain ⟨c25,H⟩ := qo H
            have c25b0 := eq_true c25
            have c25b1 := decide_eq_true c25
            clear c25
            obtain ⟨c26,H⟩ := qo H
            have c26b0 := eq_true c26
            have c26b1 := decide_eq_true c26
            clear c26
            obtain ⟨c27,H⟩ := qo H
            have LMc27 := y0.mk c27
            clear c27
            obtain ⟨y213,hy213⟩ : ∃ y_ : List ByteArray,y_ = (x6_2 ++ [a0.extract (x9_2 : Int).toNat (x10_2 : Int).toNat]) := ⟨_,rfl⟩
            replace H : (some (a0.extract 0 (x5_1 : Int).toNat,y213,(x10_2 == (wrap64 ((a0.size : Int) - 1))))) = some (r1,r2,r3) := by first | (rw [hy213]; with_reducible exact H) | (have H2_ := (Option.bind_some _ _).symm.trans H; rw [hy213]; with_reducible exact H2_) | (have H2_ := (Option.bind_some _ _).symm.trans H; with_reducible exact H2_) | with_reducible exact H | (rw [hy213]; exact H) | exact H
            have Ny213 := y0.mk hy213
            clear hy213
            simp only [Option.some.injEq,Prod.mk.injEq] at H
            obtain ⟨rfl,rfl,rfl⟩ := H
            have p14 : 0 ≤ (x10_2 : Int) := of_decide_eq_true qy1
            have q14 : x10_2 < (a0.size : Int) := of_decide_eq_true qy1
            have hx14 := bt_at a0 x10_2
            replace p14 := eq_true p14
            replace q14 := eq_true q14
            have p17 : 0 ≤ (x10_2 : Int) := of_decide_eq_true qy1
            have q17 : x10_2 < (a0.size : Int) := of_decide_eq_true qy1
            have hx17 := bt_at a0 x10_2
            replace p17 := eq_true p17
            replace q17 := eq_true q17
            have p19 : 0 ≤ (x10_2 : Int) := of_decide_eq_true qy1
            have q19 : x10_2 < (a0.size : Int) := of_decide_eq_true qy1
            have hx19 := bt_at a0 x10_2
            replace p19 := eq_true p19
            replace q19 := eq_true q19
            try go_wp2
            replace HO_6 := y0.mk (Kd.R_drew HO_6.out)
            replace HB := y0.mk (y3 HB.out)
            refine start_ (n := 18) (S := fun w' => True) (ds := []) (fl_ 18 0) (by kernel_rfl) rfl rfl trivial (fun hHeld => ?_); refine with_tabW z4_.tab21 z4_.bits21 (fun HT_ HW_ => ?_)
            generalize wr.drew = w28 at HO_6 HB hHeld ⊢
            refine qp 0 64 (fl_ 18 1) ?_
            refine qp 1 65 (fl_ 18 3) ?_
            refine qp 2 66 (fl_ 18 7) ?_
            refine qp 3 67 (fl_ 18 15) ?_
            refine qp 4 68 (fl_ 18 31) ?_
            refine qp 5 69 (fl_ 18 63) ?_
            refine qp 6 70 (fl_ 18 127) ?_
            refine qp 7 71 (fl_ 18 255) ?_
            refine qp 10 74 (fl_ 18 1279) ?_
            refine qp 11 75 (fl_ 18 3327) ?_
            refine qp 12 76 (fl_ 18 7423) ?_
            refine qp 13 77 (fl_ 18 15615) ?_
            refine qp 14 78 (fl_ 18 31999) ?_
            refine one_ (i := 8) (N := some 72) (fl_ 18 32255) rfl rfl (one_of HT_.out (by kernel_rfl)) (by decide) (fun K hK => ?_)
            refine value_ (w1 := ?_) (v := ?_) (by rfl) rfl ?_ ?_
            rotate_left 2
            ·go_simp
             constructor
             ·rfl
             ·rfl
            refine hK.out _ _ trivial (fun hHeld => ?_)
            clear hK K
            refine norm_ (a' := ?_) ?_ ?_
            rotate_left
            ·show Act.put _ (some 72) _ = _
             simp only [Act.put,qS_,qZ_,qC_,y13,y12]
             rfl
            refine one_ (i := 9) (N := some 73) (fl_ 18 32767) rfl rfl (one_of HT_.out (by kernel_rfl)) (by decide) (fun K hK => ?_)
            refine Kd.R_append_step Kd.string (w0 := w) w.heap.size (by rfl) (.tmp 67) (.tmp 72) 31 9 (.string ⟨#[]⟩) 16 rfl Tryd.underlying31 info9 rfl (by decide) (by omega) u6 x6_2 (a0.extract (x9_2 : Int).toNat (x10_2 : Int).toNat) [.string (a0.extract (x9_2 : Int).toNat (x10_2 : Int).toNat)] (fun _ => True) (fun _ => False) rfl rfl ?aP (fun _ hk => hk.elim) ?aF ?aO ?aB ?aS ?aL ?_
            (case aP => exact rfl)
            (case aB => exact qb)
            (case aF => exact (fun _ _ => trivial))
            (case aO => exact (qR HO_6.out))
            (case aS => exact (y4 qb))
            (case aL => have := LMc27.out; omega)
            intro v214 w29 ho hb hg hat
            rw [← Ny213.out] at ho
            replace HB := y0.mk (hb)
            have HO215 := y0.mk (ho)
            clear HO_6
            clear ho hb hg hat
            refine hK.out _ _ trivial (fun hHeld => ?_)
            clear hK K
            refine norm_ (a' := ?_) ?_ ?_
            rotate_left
            ·show Act.put _ (some 73) _ = _
             simp only [Act.put,qS_,qZ_,qC_,y13,y12]
             rfl
            refine qp 15 2 (fl_ 18 65535) ?_
            refine qp 16 3 (fl_ 18 131071) ?_
            refine qp 17 4 (fl_ 18 262143) ?_
            refine done_ (done_of HT_.out (by kernel_rfl)) ?_
            try go_wp2
            go_ret3
            exact ⟨_,by first | rfl | (simp [y8,y9] <;> rfl) | (simp [*,y8,y9] <;> rfl),by (with_reducible repeat (first | apply Kd.R_alloc | apply Kd.R_drewN | apply Kd.R_drew)); exact HO215.out,qb⟩
           ·rw [if_neg c21] at H
            have c21b0 : ((wrap64 (x7_2 - 1)) == 0) = false := beq_eq_false_iff_ne.mpr c21
            have c21b1 : ((wrap64 (x7_2 - 1)) != 0) = true := bne_iff_ne.mpr c21
            have H' := y0.mk H
            clear H
            have p14 : 0 ≤ (x10_2 : Int) := of_decide_eq_true qy1
            have q14 : x10_2 < (a0.size : Int) := of_decide_eq_true qy1
            have hx14 := bt_at a0 x10_2
            replace p14 := eq_true p14
            replace q14 := eq_true q14
            have p17 : 0 ≤ (x10_2 : Int) := of_decide_eq_true qy1
            have q17 : x10_2 < (a0.size : Int) := of_decide_eq_true qy1
            have hx17 := bt_at a0 x10_2
            replace p17 := eq_true p17
            replace q17 := eq_true q17
            have p19 : 0 ≤ (x10_2 : Int) := of_decide_eq_true qy1
            have q19 : x10_2 < (a0.size : Int) := of_decide_eq_true qy1
            have hx19 := bt_at a0 x10_2
            replace p19 := eq_true p19
            replace q19 := eq_true q19
            go_wp2
            go_roundg k2
            case measure => have := HJ1.out; have := HK2.out; omega
            exact ⟨(x6_2),(wrap64 (x7_2 - 1)),(false),(x9_2),(wrap64 (x10_2 + 1)),qy2,qy2,qy2,qy2,H',⟨by have := HJ1.out; have := HK2.out; omega⟩,⟨qR HO_6.out⟩,⟨qb⟩⟩
          ·rw [if_neg c20] at H
           have c20b0 : ((bt a0 x10_2) == 41) = false := beq_eq_false_iff_ne.mpr c20
           have c20b1 : ((bt a0 x10_2) != 41) = true := bne_iff_ne.mpr c20
           by_cases c31 : (bt a0 x10_2) = 44
           ·rw [if_pos c31] at H
            have c31b0 : ((bt a0 x10_2) == 44) = true := beq_iff_eq.mpr c31
            have c31b1 : ((bt a0 x10_2) != 44) = false := bne_eq_false_iff_eq.mpr c31
            clear c31
            by_cases c32 : x7_2 = 1
            ·rw [if_pos c32] at H
             have c32b0 : (x7_2 == 1) = true := beq_iff_eq.mpr c32
             have c32b1 : (x7_2 != 1) = false := bne_eq_false_iff_eq.mpr c32
             clear c32
             obtain ⟨c33,H⟩ := qo H
             have c33b0 := eq_true c33
             have c33b1 := decide_eq_true c33
             clear c33
             obtain ⟨c34,H⟩ := qo H
             have c34b0 := eq_true c34
             have c34b1 := decide_eq_true c34
             clear c34
             obtain ⟨c35,H⟩ := qo H
             have c35b0 := eq_true c35
             have c35b1 := decide_eq_true c35
             clear c35
             obtain ⟨c36,H⟩ := qo H
             have LMc36 := y0.mk c36
             clear c36
             obtain ⟨y216,hy216⟩ : ∃ y_ : List ByteArray,y_ = (x6_2 ++ [a0.extract (x9_2 : Int).toNat (x10_2 : Int).toNat]) := ⟨_,rfl⟩
             replace H : (z4_.l1 k2 a0 x5_1 y216 x7_2 false (wrap64 (x10_2 + 1)) (wrap64 (x10_2 + 1))) = some (r1,r2,r3) := by first | (rw [hy216]; with_reducible exact H) | (have H2_ := (Option.bind_some _ _).symm.trans H; rw [hy216]; with_reducible exact H2_) | (have H2_ := (Option.bind_some _ _).symm.trans H; with_reducible exact H2_) | with_reducible exact H | (rw [hy216]; exact H) | exact H
             have Ny216 := y0.mk hy216
             clear hy216
             have H' := y0.mk H
             clear H
             have p14 : 0 ≤ (x10_2 : Int) := of_decide_eq_true qy1
             have q14 : x10_2 < (a0.size : Int) := of_decide_eq_true qy1
             have hx14 := bt_at a0 x10_2
             replace p14 := eq_true p14
             replace q14 := eq_true q14
             have p17 : 0 ≤ (x10_2 : Int) := of_decide_eq_true qy1
             have q17 : x10_2 < (a0.size : Int) := of_decide_eq_true qy1
             have hx17 := bt_at a0 x10_2
             replace p17 := eq_true p17
             replace q17 := eq_true q17
             have p19 : 0 ≤ (x10_2 : Int) := of_decide_eq_true qy1
             have q19 : x10_2 < (a0.size : Int) := of_decide_eq_true qy1
             have hx19 := bt_at a0 x10_2
             replace p19 := eq_true p19
             replace q19 := eq_true q19
             have p30 : 0 ≤ (x10_2 : Int) := of_decide_eq_true qy1
             have q30 : x10_2 < (a0.size : Int) := of_decide_eq_true qy1
             have hx30 := bt_at a0 x10_2
             replace p30 := eq_true p30
             replace q30 := eq_true q30
             go_wp2_with (first | ((with_reducible refine gate_builtin (b := .append) (xs := #[.tmp 88,.tmp 93]) rfl ?_); at_builtin; refine Kd.R_append Kd.string (w0 := w) w.heap.size rfl (.tmp 88) (.tmp 93) 31 9 (.string ⟨#[]⟩) 16 rfl Tryd.underlying31 info9 rfl (by decide) (by omega) u6 x6_2 (a0.extract (x9_2 : Int).toNat (x10_2 : Int).toNat) [.string (a0.extract (x9_2 : Int).toNat (x10_2 : Int).toNat)] (fun _ => True) (fun _ => False) rfl rfl ?aP (fun _ hk => hk.elim) ?aF ?aO ?aB ?aS ?aL ?_; (case aP => exact rfl); (case aB => exact qb); (case aF => exact (fun _ _ => trivial)); (case aO => exact (qR HO_6.out)); (case aS => exact (y4 qb)); (case aL => have := LMc36.out; omega); intro v217 w37 ho hb hg hat; rw [← Ny216.out] at ho; replace HB := y0.mk (hb); have HO218 := y0.mk (ho); clear HO_6; clear ho hb hg hat))
             go_roundg k2
             case measure => have := HJ1.out; have := HK2.out; omega
             exact ⟨(y216),(x7_2),(false),(wrap64 (x10_2 + 1)),(wrap64 (x10_2 + 1)),qy2,qy2,qy2,qy2,H',⟨by have := HJ1.out; have := HK2.out; omega⟩,⟨qR HO218.out⟩,⟨qb⟩⟩
            ·rw [if_neg c32] at H
             have c32b0 : (x7_2 == 1) = false := beq_eq_false_iff_ne.mpr c32
             have c32b1 : (x7_2 != 1) = true := bne_iff_ne.mpr c32
             have H' := y0.mk H
             clear H
             have p14 : 0 ≤ (x10_2 : Int) := of_decide_eq_true qy1
             have q14 : x10_2 < (a0.size : Int) := of_decide_eq_true qy1
             have hx14 := bt_at a0 x10_2
             replace p14 := eq_true p14
             replace q14 := eq_true q14
             have p17 : 0 ≤ (x10_2 : Int) := of_decide_eq_true qy1
             have q17 : x10_2 < (a0.size : Int) := of_decide_eq_true qy1
             have hx17 := bt_at a0 x10_2
             replace p17 := eq_true p17
             replace q17 := eq_true q17
             have p19 : 0 ≤ (x10_2 : Int) := of_decide_eq_true qy1
             have q19 : x10_2 < (a0.size : Int) := of_decide_eq_true qy1
             have hx19 := bt_at a0 x10_2
             replace p19 := eq_true p19
             replace q19 := eq_true q19
             have p30 : 0 ≤ (x10_2 : Int) := of_decide_eq_true qy1
             have q30 : x10_2 < (a0.size : Int) := of_decide_eq_true qy1
             have hx30 := bt_at a0 x10_2
             replace p30 := eq_true p30
             replace q30 := eq_true q30
             go_wp2
             go_roundg k2
             case measure => have := HJ1.out; have := HK2.out; omega
             exact ⟨(x6_2),(x7_2),(false),(x9_2),(wrap64 (x10_2 + 1)),qy2,qy2,qy2,qy2,H',⟨by have := HJ1.out; have := HK2.out; omega⟩,⟨qR HO_6.out⟩,⟨qb⟩⟩
           ·rw [if_neg c31] at H
            have c31b0 : ((bt a0 x10_2) == 44) = false := beq_eq_false_iff_ne.mpr c31
            have c31b1 : ((bt a0 x10_2) != 44) = true := bne_iff_ne.mpr c31
            have H' := y0.mk H
            clear H
            have p14 : 0 ≤ (x10_2 : Int) := of_decide_eq_true qy1
            have q14 : x10_2 < (a0.size : Int) := of_decide_eq_true qy1
            have hx14 := bt_at a0 x10_2
            replace p14 := eq_true p14
            replace q14 := eq_true q14
            have p17 : 0 ≤ (x10_2 : Int) := of_decide_eq_true qy1
            have q17 : x10_2 < (a0.size : Int) := of_decide_eq_true qy1
            have hx17 := bt_at a0 x10_2
            replace p17 := eq_true p17
            replace q17 := eq_true q17
            have p19 : 0 ≤ (x10_2 : Int) := of_decide_eq_true qy1
            have q19 : x10_2 < (a0.size : Int) := of_decide_eq_true qy1
            have hx19 := bt_at a0 x10_2
            replace p19 := eq_true p19
            replace q19 := eq_true q19
            have p30 : 0 ≤ (x10_2 : Int) := of_decide_eq_true qy1
            have q30 : x10_2 < (a0.size : Int) := of_decide_eq_true qy1
            have hx30 := bt_at a0 x10_2
            replace p30 := eq_true p30
            replace q30 := eq_true q30
            go_wp2
            go_roundg k2
            case measure => have := HJ1.out; have := HK2.out; omega
            exact ⟨(x6_2),(x7_2),(false),(x9_2),(wrap64 (x10_2 + 1)),qy2,qy2,qy2,qy2,H',⟨by have := HJ1.out; have := HK2.out; omega⟩,⟨qR HO_6.out⟩,⟨qb⟩⟩
      ·rw [if_neg c12] at H
       have c12b0 := decide_eq_false c12
       clear c12
       obtain ⟨y210,hy210⟩ : ∃ y_ : List ByteArray,y_ = (([] : List ByteArray)) := ⟨_,rfl⟩
       replace H : (some ((⟨#[]⟩ : ByteArray),y210,false)) = some (r1,r2,r3) := by first | (rw [hy210]; with_reducible exact H) | (have H2_ := (Option.bind_some _ _).symm.trans H; rw [hy210]; with_reducible exact H2_) | (have H2_ := (Option.bind_some _ _).symm.trans H; with_reducible exact H2_) | with_reducible exact H | (rw [hy210]; exact H) | exact H
       have Ny210 := y0.mk hy210
       clear hy210
       simp only [Option.some.injEq,Prod.mk.injEq] at H
       obtain ⟨rfl,rfl,rfl⟩ := H
       go_wp2_with (first | ((with_reducible refine gate_dst (N := 97) rfl ?_); refine Kd.R_lit Kd.string _ 9 ?hg (N := 97) ?hd (xs := ([] : List ByteArray)) (inner := []) (ok := fun _ => True) (okp := fun _ => True) ?hr ?hp (fun _ hk => hk) trivial (Below.refl _ _) (Nat.le_refl _) (by simp) ?_; (case hd => rfl); (case hg => rfl); (case hr => first | (go_simp; done) | (go_simp; rfl)); (case hp => exact (Reps.none _ _)); intro v211 w38 ho39 hb hg_ hnew_; clear hg_ hnew_; (first | rw [← Ny210.out] at ho39 | (simp only [Int.reduceToNat] at ho39; rw [← Ny210.out] at ho39)); have HO212 := y0.mk (Kd.R_lower (Kd.R_new' ho39 (Kd.R_lt (qR HO_6.out))) (y4 qb)); replace HO_6 := y0.mk (Kd.R_elder' (qR HO_6.out) (Kd.R_base ho39) hb); replace HB := y0.mk (y5 qb hb); clear hb ho39))
       go_ret3
       exact ⟨_,by first | rfl | (simp [y8,y9] <;> rfl) | (simp [*,y8,y9] <;> rfl),by (with_reducible repeat (first | apply Kd.R_alloc | apply Kd.R_drewN | apply Kd.R_drew)); exact Kd.R_mono HO212.out (fun _ hk => trivial),qb⟩
end Go.Proofs.YtebadckdihgklaaDoor.Pb
end
section
namespace Go.Proofs.YtebadckdihgklaaDoor.Pb
open Go.RowKit Go.Proofs.YtebadckdihgklaaDoorW.PrintWords Go.Proofs.YtebadckdihgklaaDoorW.PrintLast Go.Proofs.YtebadckdihgklaaDoorW.PrintMore
attribute [local go_sem] max2_int min2_int max_two min_two max_three min_three max_four min_four   -- for this text's walks alone
set_option linter.unusedVariables false
set_option linter.unusedSimpArgs false
def spec_l01Small.f (a0 : Int) : Option (Bool) := if a0 ≥ 97 then (some (decide (a0 ≤ 122))) else (some false)
set_option maxHeartbeats 8000000 in
set_option maxRecDepth 100000 in
theorem spec_l01Small.calls (a0 : Int) (r : Bool) (w : World) (h : spec_l01Small.f a0 = some r) :
  Calls Tryd.prog 85 #[.int .u8 a0] w fun e w' => e = .returned (.bool r) ∧ y1 w w' := by
 have H : (if a0 ≥ 97 then (some (decide (a0 ≤ 122))) else (some false)) = some r := h
 clear h
 by_cases c2 : a0 ≥ 97
 ·rw [if_pos c2] at H
  have c2b0 : decide (97 ≤ a0) = true := decide_eq_true c2
  clear c2
  obtain rfl := Option.some.inj H
  go_enter Tryd.func85,Tryd.ntmps85
  go_wp2
  go_ret
  exact ⟨by first | rfl | (simp; done) | (simp [*]; done),by repeat (first | exact y1.refl _ | apply y1.step)⟩
 ·rw [if_neg c2] at H
  have c2b0 : decide (97 ≤ a0) = false := decide_eq_false c2
  clear c2
  obtain rfl := Option.some.inj H
  go_enter Tryd.func85,Tryd.ntmps85
  go_wp2
  go_ret
  exact ⟨by first | rfl | (simp; done) | (simp [*]; done),by repeat (first | exact y1.refl _ | apply y1.step)⟩
def spec_l01Big.f (a0 : Int) : Option (Bool) := if a0 ≥ 65 then (some (decide (a0 ≤ 90))) else (some false)
set_option maxHeartbeats 8000000 in
set_option maxRecDepth 100000 in
theorem spec_l01Big.calls (a0 : Int) (r : Bool) (w : World) (h : spec_l01Big.f a0 = some r) :
  Calls Tryd.prog 86 #[.int .u8 a0] w fun e w' => e = .returned (.bool r) ∧ y1 w w' := by
 have H : (if a0 ≥ 65 then (some (decide (a0 ≤ 90))) else (some false)) = some r := h
 clear h
 by_cases c2 : a0 ≥ 65
 ·rw [if_pos c2] at H
  have c2b0 : decide (65 ≤ a0) = true := decide_eq_true c2
  clear c2
  obtain rfl := Option.some.inj H
  go_enter Tryd.func86,Tryd.ntmps86
  go_wp2
  go_ret
  exact ⟨by first | rfl | (simp; done) | (simp [*]; done),by repeat (first | exact y1.refl _ | apply y1.step)⟩
 ·rw [if_neg c2] at H
  have c2b0 : decide (65 ≤ a0) = false := decide_eq_false c2
  clear c2
  obtain rfl := Option.some.inj H
  go_enter Tryd.func86,Tryd.ntmps86
  go_wp2
  go_ret
  exact ⟨by first | rfl | (simp; done) | (simp [*]; done),by repeat (first | exact y1.refl _ | apply y1.step)⟩
def spec_l01Letter.f (a0 : Int) : Option (Bool) := (spec_l01Small.f a0).bind fun t219 => (if t219 = true then (some true) else ((spec_l01Big.f a0).bind fun t220 => (if t220 = true then (some true) else ((spec_l01Digit.f a0).bind fun t221 => (if t221 = true then (some true) else (some (a0 == 95)))))))
set_option maxHeartbeats 8000000 in
set_option maxRecDepth 100000 in
theorem spec_l01Letter.calls (a0 : Int) (r : Bool) (w : World) (h : spec_l01Letter.f a0 = some r) :
  Calls Tryd.prog 87 #[.int .u8 a0] w fun e w' => e = .returned (.bool r) ∧ y1 w w' := by
 have H : ((spec_l01Small.f a0).bind fun t219 => (if t219 = true then (some true) else ((spec_l01Big.f a0).bind fun t220 => (if t220 = true then (some true) else ((spec_l01Digit.f a0).bind fun t221 => (if t221 = true then (some true) else (some (a0 == 95)))))))) = some r := h
 clear h
 obtain ⟨t219,A2,H⟩ := qB H
 by_cases c3 : t219 = true
 ·subst c3
  replace H := qT H
  obtain rfl := Option.some.inj H
  go_enter Tryd.func87,Tryd.ntmps87
  go_wp2_with (first | ((with_reducible refine y10 (f := 85) rfl ?_); refine y11 (some 4) rfl rfl Tryd.func85 (by kernel_rfl) rfl #[.int .u8 a0] rfl qy0 ?_; (with_reducible refine (spec_l01Small.calls a0 true _ A2.out).mono ?_); rintro e w' ⟨rfl,⟨nd,rfl⟩⟩; refine ⟨_,rfl, ?_⟩))
  go_ret
  exact ⟨by first | rfl | (simp; done) | (simp [*]; done),by repeat (first | exact y1.refl _ | apply y1.step)⟩
 ·replace c3 := Bool.eq_false_iff.mpr c3
  subst c3
  replace H := qF H
  obtain ⟨t220,A4,H⟩ := qB H
  by_cases c5 : t220 = true
  ·subst c5
   replace H := qT H
   obtain rfl := Option.some.inj H
   go_enter Tryd.func87,Tryd.ntmps87
   go_wp2_with (first | ((with_reducible refine y10 (f := 85) rfl ?_); refine y11 (some 4) rfl rfl Tryd.func85 (by kernel_rfl) rfl #[.int .u8 a0] rfl qy0 ?_; (with_reducible refine (spec_l01Small.calls a0 false _ A2.out).mono ?_); rintro e w' ⟨rfl,⟨nd,rfl⟩⟩; refine ⟨_,rfl, ?_⟩) | (go_at_call 86; (with_reducible refine (spec_l01Big.calls a0 true _ A4.out).mono ?_); rintro e w' ⟨rfl,⟨nd,rfl⟩⟩))
   go_ret
   exact ⟨by first | rfl | (simp; done) | (simp [*]; done),by repeat (first | exact y1.refl _ | apply y1.step)⟩
  ·replace c5 := Bool.eq_false_iff.mpr c5
   subst c5
   replace H := qF H
   obtain ⟨t221,A6,H⟩ := qB H
   by_cases c7 : t221 = true
   ·subst c7
    replace H := qT H
    obtain rfl := Option.some.inj H
    go_enter Tryd.func87,Tryd.ntmps87
    go_wp2_with (first | ((with_reducible refine y10 (f := 85) rfl ?_); refine y11 (some 4) rfl rfl Tryd.func85 (by kernel_rfl) rfl #[.int .u8 a0] rfl qy0 ?_; (with_reducible refine (spec_l01Small.calls a0 false _ A2.out).mono ?_); rintro e w' ⟨rfl,⟨nd,rfl⟩⟩; refine ⟨_,rfl, ?_⟩) | (go_at_call 86; (with_reducible refine (spec_l01Big.calls a0 false _ A4.out).mono ?_); rintro e w' ⟨rfl,⟨nd,rfl⟩⟩) | (go_at_call 88; (with_reducible refine (spec_l01Digit.calls a0 true _ A6.out).mono ?_); rintro e w' ⟨rfl,⟨nd,rfl⟩⟩))
    go_ret
    exact ⟨by first | rfl | (simp; done) | (simp [*]; done),by repeat (first | exact y1.refl _ | apply y1.step)⟩
   ·replace c7 := Bool.eq_false_iff.mpr c7
    subst c7
    replace H := qF H
    obtain rfl := Option.some.inj H
    go_enter Tryd.func87,Tryd.ntmps87
    go_wp2_with (first | ((with_reducible refine y10 (f := 85) rfl ?_); refine y11 (some 4) rfl rfl Tryd.func85 (by kernel_rfl) rfl #[.int .u8 a0] rfl qy0 ?_; (with_reducible refine (spec_l01Small.calls a0 false _ A2.out).mono ?_); rintro e w' ⟨rfl,⟨nd,rfl⟩⟩; refine ⟨_,rfl, ?_⟩) | (go_at_call 86; (with_reducible refine (spec_l01Big.calls a0 false _ A4.out).mono ?_); rintro e w' ⟨rfl,⟨nd,rfl⟩⟩) | (go_at_call 88; (with_reducible refine (spec_l01Digit.calls a0 false _ A6.out).mono ?_); rintro e w' ⟨rfl,⟨nd,rfl⟩⟩))
    go_ret
    exact ⟨by first | rfl | (simp; done) | (simp [*]; done),by repeat (first | exact y1.refl _ | apply y1.step)⟩
mutual
def spec_l01Name.j0 : Nat → ByteArray → Bool → Option (Bool)
 | 0,_,_ => none
 | k + 1,x0,x28 => if x28 = true then (some false) else (spec_l01Name.l0 k x0 0)
def spec_l01Name.l0 : Nat → ByteArray → Int → Option (Bool)
 | 0,_,_ => none
 | k + 1,x0,x5 => if x5 < (x0.size : Int) then (if 0 ≤ x5 then ((spec_l01Letter.f (bt x0 x5)).bind fun t225 => (if t225 = true then (spec_l01Name.l0 k x0 (wrap64 (x5 + 1))) else (some false))) else (none)) else (some true)
end
def spec_l01Name.f (k : Nat) (a0 : ByteArray) (a1 : Bool) : Option (Bool) := (spec_l01Between.f (a0.size : Int) 1 20).bind fun t222 => (if t222 = true then (if a1 = true then (if 0 < (a0.size : Int) then ((spec_l01Big.f (bt a0 0)).bind fun t223 => (if t223 = true then (spec_l01Name.j0 k a0 false) else (spec_l01Name.j0 k a0 true))) else (none)) else (if 0 < (a0.size : Int) then ((spec_l01Small.f (bt a0 0)).bind fun t224 => (spec_l01Name.j0 k a0 (!t224))) else (none))) else (spec_l01Name.j0 k a0 true))
set_option maxHeartbeats 8000000 in
set_option maxRecDepth 100000 in
theorem spec_l01Name.calls (k : Nat) (a0 : ByteArray) (a1 : Bool) (r : Bool) (w : World) (h : spec_l01Name.f k a0 a1 = some r) :
  Calls Tryd.prog 75 #[.string a0,.bool a1] w fun e w' => e = .returned (.bool r) ∧ y1 w w' := by
 have H : ((spec_l01Between.f (a0.size : Int) 1 20).bind fun t222 => (if t222 = true then (if a1 = true then (if 0 < (a0.size : Int) then ((spec_l01Big.f (bt a0 0)).bind fun t223 => (if t223 = true then (spec_l01Name.j0 k a0 false) else (spec_l01Name.j0 k a0 true))) else (none)) else (if 0 < (a0.size : Int) then ((spec_l01Small.f (bt a0 0)).bind fun t224 => (spec_l01Name.j0 k a0 (!t224))) else (none))) else (spec_l01Name.j0 k a0 true))) = some r := h
 clear h
 have HC3 := y0.mk H
 clear H
 go_enter Tryd.func75,Tryd.ntmps75
 go_upto_region 1 with (fail)
 go_cut [28] (fun v28 wc => ∃ (kq : Nat) (x28_2 : Bool),v28 = .bool x28_2 ∧ y0 (spec_l01Name.j0 kq a0 x28_2 = some r) ∧ y0 (kq ≤ k) ∧ y1 w wc)
 case first =>
  have H := HC3.out
  clear HC3
  obtain ⟨t222,A4,H⟩ := qB H
  by_cases c5 : t222 = true
  ·subst c5
   replace H := qT H
   by_cases c6 : a1 = true
   ·subst c6
    replace H := qT H
    obtain ⟨c7,H⟩ := qo H
    have c7b0 : decide (0 < (a0.size : Int)) = true := decide_eq_true c7
    have c7b1 : decide (0 < a0.size) = true := decide_eq_true (by omega)
    clear c7
    (first | rw [c7b0] | (simp only [y13,y12]; rw [c7b0]) | skip)
    obtain ⟨t223,A9,H⟩ := qB H
    by_cases c10 : t223 = true
    ·subst c10
     replace H := qT H
     have H' := y0.mk H
     clear H
     go_wp2_with (first | ((with_reducible refine y10 (f := 66) rfl ?_); refine y11 (some 8) rfl rfl Tryd.func66 (by kernel_rfl) rfl #[.int .i64 (a0.size : Int),.int .i64 1,.int .i64 20] rfl qy0 ?_; (with_reducible refine (spec_l01Between.calls (a0.size : Int) 1 20 true _ A4.out).mono ?_); rintro e w' ⟨rfl,⟨nd,rfl⟩⟩; refine ⟨_,rfl, ?_⟩; have p8 : 0 ≤ (0 : Int) := (by omega); have q8 : 0 < a0.size := qy3; have hx8 : ∀ h : 0 < a0.size,((a0[0]'h).toNat : Int) = bt a0 0 := bt_at a0 0; clear p8; have qi8 : (0 < (a0.size : Int)) = True := eq_true (of_decide_eq_true qy1); replace q8 := eq_true q8) | (go_at_call 86; (with_reducible refine (spec_l01Big.calls (bt a0 0) true _ A9.out).mono ?_); rintro e w' ⟨rfl,⟨nd,rfl⟩⟩))
     go_meet
     exact ⟨_,(false),qy2,H',⟨by first | omega | exact Nat.le_refl _⟩,by repeat (first | exact y1.refl _ | apply y1.step)⟩
    ·replace c10 := Bool.eq_false_iff.mpr c10
     subst c10
     replace H := qF H
     have H' := y0.mk H
     clear H
     go_wp2_with (first | ((with_reducible refine y10 (f := 66) rfl ?_); refine y11 (some 8) rfl rfl Tryd.func66 (by kernel_rfl) rfl #[.int .i64 (a0.size : Int),.int .i64 1,.int .i64 20] rfl qy0 ?_; (with_reducible refine (spec_l01Between.calls (a0.size : Int) 1 20 true _ A4.out).mono ?_); rintro e w' ⟨rfl,⟨nd,rfl⟩⟩; refine ⟨_,rfl, ?_⟩; have p8 : 0 ≤ (0 : Int) := (by omega); have q8 : 0 < a0.size := qy3; have hx8 : ∀ h : 0 < a0.size,((a0[0]'h).toNat : Int) = bt a0 0 := bt_at a0 0; clear p8; have qi8 : (0 < (a0.size : Int)) = True := eq_true (of_decide_eq_true qy1); replace q8 := eq_true q8) | (go_at_call 86; (with_reducible refine (spec_l01Big.calls (bt a0 0) false _ A9.out).mono ?_); rintro e w' ⟨rfl,⟨nd,rfl⟩⟩))
     go_meet
     exact ⟨_,(true),qy2,H',⟨by first | omega | exact Nat.le_refl _⟩,by repeat (first | exact y1.refl _ | apply y1.step)⟩
   ·replace c6 := Bool.eq_false_iff.mpr c6
    subst c6
    replace H := qF H
    obtain ⟨c11,H⟩ := qo H
    have c11b0 : decide (0 < (a0.size : Int)) = true := decide_eq_true c11
    have c11b1 : decide (0 < a0.size) = true := decide_eq_true (by omega)
    clear c11
    obtain ⟨t224,A13,H⟩ := qB H
    have H' := y0.mk H
    clear H
    go_wp2_with (first | ((with_reducible refine y10 (f := 66) rfl ?_); refine y11 (some 8) rfl rfl Tryd.func66 (by kernel_rfl) rfl #[.int .i64 (a0.size : Int),.int .i64 1,.int .i64 20] rfl qy0 ?_; (with_reducible refine (spec_l01Between.calls (a0.size : Int) 1 20 true _ A4.out).mono ?_); rintro e w' ⟨rfl,⟨nd,rfl⟩⟩; refine ⟨_,rfl, ?_⟩; have p12 : 0 ≤ (0 : Int) := (by omega); have q12 : 0 < a0.size := qy3; have hx12 : ∀ h : 0 < a0.size,((a0[0]'h).toNat : Int) = bt a0 0 := bt_at a0 0; clear p12; have qi12 : (0 < (a0.size : Int)) = True := eq_true (of_decide_eq_true qy1); replace q12 := eq_true q12) | (go_at_call 85; (with_reducible refine (spec_l01Small.calls (bt a0 0) t224 _ A13.out).mono ?_); rintro e w' ⟨rfl,⟨nd,rfl⟩⟩))
    go_meet
    exact ⟨_,(!t224),qy2,H',⟨by first | omega | exact Nat.le_refl _⟩,by repeat (first | exact y1.refl _ | apply y1.step)⟩
  ·replace c5 := Bool.eq_false_iff.mpr c5
   subst c5
   replace H := qF H
   have H' := y0.mk H
   clear H
   go_wp2_with (first | ((with_reducible refine y10 (f := 66) rfl ?_); refine y11 (some 8) rfl rfl Tryd.func66 (by kernel_rfl) rfl #[.int .i64 (a0.size : Int),.int .i64 1,.int .i64 20] rfl qy0 ?_; (with_reducible refine (spec_l01Between.calls (a0.size : Int) 1 20 false _ A4.out).mono ?_); rintro e w' ⟨rfl,⟨nd,rfl⟩⟩; refine ⟨_,rfl, ?_⟩))
   go_meet
   exact ⟨_,(true),qy2,H',⟨by first | omega | exact Nat.le_refl _⟩,by repeat (first | exact y1.refl _ | apply y1.step)⟩
 case rest =>
  clear HC3
  obtain ⟨kq,x28_2,rfl,HA,HJ2,⟨mc2,rfl⟩⟩ := hcut
  cases kq with
  | zero => exact absurd HA.out (by simp [spec_l01Name.j0])
  | succ kj2 =>
   have H := HA.out
   clear HA
   simp only [spec_l01Name.j0] at H
   by_cases c14 : x28_2 = true
   ·subst c14
    replace H := qT H
    obtain rfl := Option.some.inj H
    go_wp2
    go_ret
    exact ⟨by first | rfl | (simp; done) | (simp [*]; done),by repeat (first | exact y1.refl _ | apply y1.step)⟩
   ·replace c14 := Bool.eq_false_iff.mpr c14
    subst c14
    replace H := qF H
    have H' := y0.mk H
    clear H
    go_wp2
    go_loopg [5] kj2 (fun kq v5 w' => ∃ (x5_2 : Int),v5 = .int .i64 x5_2 ∧ y0 (spec_l01Name.l0 kq a0 x5_2 = some r) ∧ y0 (kq ≤ kj2) ∧ y1 w w')
    case atStart => exact ⟨(0),qy2,H',⟨Nat.le_refl _⟩,by repeat (first | exact y1.refl _ | apply y1.step)⟩
    case round =>
     clear H'
     (try clear c14)
     obtain ⟨x5_2,rfl,HA,HK2,⟨m2,rfl⟩⟩ := hrel
     cases gk with
     | zero => exact absurd HA.out (by simp [spec_l01Name.l0])
     | succ k2 =>
      have H := HA.out
      clear HA
      simp only [spec_l01Name.l0] at H
      by_cases c15 : x5_2 < (a0.size : Int)
      ·rw [if_pos c15] at H
       have c15b0 := decide_eq_true c15
       clear c15
       obtain ⟨c16,H⟩ := qo H
       have c16b0 : decide (0 ≤ x5_2) = true := decide_eq_true c16
       clear c16
       obtain ⟨t225,A18,H⟩ := qB H
       by_cases c19 : t225 = true
       ·subst c19
        replace H := qT H
        have H' := y0.mk H
        clear H
        have p17 : 0 ≤ (x5_2 : Int) := of_decide_eq_true qy1
        have q17 : x5_2 < (a0.size : Int) := of_decide_eq_true qy1
        have hx17 := bt_at a0 x5_2
        replace p17 := eq_true p17
        replace q17 := eq_true q17
        go_wp2_with (first | ((with_reducible refine y10 (f := 87) rfl ?_); refine y11 (some 38) rfl rfl Tryd.func87 (by kernel_rfl) rfl #[.int .u8 (bt a0 x5_2)] rfl qy0 ?_; (with_reducible refine (spec_l01Letter.calls (bt a0 x5_2) true _ A18.out).mono ?_); rintro e w' ⟨rfl,⟨nd,rfl⟩⟩; refine ⟨_,rfl, ?_⟩))
        go_roundg k2
        case measure => have := HJ2.out; have := HK2.out; omega
        exact ⟨(wrap64 (x5_2 + 1)),qy2,H',⟨by have := HJ2.out; have := HK2.out; omega⟩,by repeat (first | exact y1.refl _ | apply y1.step)⟩
       ·replace c19 := Bool.eq_false_iff.mpr c19
        subst c19
        replace H := qF H
        obtain rfl := Option.some.inj H
        have p17 : 0 ≤ (x5_2 : Int) := of_decide_eq_true qy1
        have q17 : x5_2 < (a0.size : Int) := of_decide_eq_true qy1
        have hx17 := bt_at a0 x5_2
        replace p17 := eq_true p17
        replace q17 := eq_true q17
        go_wp2_with (first | ((with_reducible refine y10 (f := 87) rfl ?_); refine y11 (some 38) rfl rfl Tryd.func87 (by kernel_rfl) rfl #[.int .u8 (bt a0 x5_2)] rfl qy0 ?_; (with_reducible refine (spec_l01Letter.calls (bt a0 x5_2) false _ A18.out).mono ?_); rintro e w' ⟨rfl,⟨nd,rfl⟩⟩; refine ⟨_,rfl, ?_⟩))
        go_ret
        exact ⟨by first | rfl | (simp; done) | (simp [*]; done),by repeat (first | exact y1.refl _ | apply y1.step)⟩
      ·rw [if_neg c15] at H
       have c15b0 := decide_eq_false c15
       clear c15
       obtain rfl := Option.some.inj H
       go_wp2
       go_ret
       exact ⟨by first | rfl | (simp; done) | (simp [*]; done),by repeat (first | exact y1.refl _ | apply y1.step)⟩
end Go.Proofs.YtebadckdihgklaaDoor.Pb
end
section
namespace Go.Proofs.YtebadckdihgklaaDoor.Pb
open Go.RowKit Go.Proofs.YtebadckdihgklaaDoorW.PrintWords Go.Proofs.YtebadckdihgklaaDoorW.PrintLast Go.Proofs.YtebadckdihgklaaDoorW.PrintMore
attribute [local go_sem] max2_int min2_int max_two min_two max_three min_three max_four min_four   -- for this text's walks alone
set_option linter.unusedVariables false
set_option linter.unusedSimpArgs false
mutual
def z3_.j0 : Nat → ByteArray → Bool → Option (Int)
 | 0,_,_ => none
 | k + 1,x0,x16 => if x16 = true then (some 0) else ((z5_.f k x0).bind fun bt226 => (if bt226.2 = true then (some 1) else (if 0 < (x0.size : Int) then (if (bt x0 0) = 34 then ((spec_l01Between.f (x0.size : Int) 2 22).bind fun t228 => (if t228 = true then (if 0 ≤ (wrap64 ((x0.size : Int) - 1)) then (if (wrap64 ((x0.size : Int) - 1)) < (x0.size : Int) then (z3_.j1 k x0 ((bt x0 (wrap64 ((x0.size : Int) - 1))) != 34)) else (none)) else (none)) else (z3_.j1 k x0 true))) else ((z4_.f k x0).bind fun bt230 => (if bt230.2.2 = true then ((spec_l01Name.f k bt230.1 true).bind fun t235 => (z3_.j3 k bt230.2.1 (!t235))) else (z3_.j3 k bt230.2.1 true)))) else (none))))
def z3_.j1 : Nat → ByteArray → Bool → Option (Int)
 | 0,_,_ => none
 | k + 1,x0,x37 => if x37 = true then (some 0) else (z3_.l0 k x0 1)
def z3_.l0 : Nat → ByteArray → Int → Option (Int)
 | 0,_,_ => none
 | k + 1,x0,x5 => if (wrap64 (x5 + 1)) < (x0.size : Int) then (if 0 ≤ x5 then (if x5 < (x0.size : Int) then ((spec_l01Between.f (wrap64 (bt x0 x5)) 32 126).bind fun t229 => (if t229 = true then (if (bt x0 x5) = 34 then (some 0) else (if (bt x0 x5) = 92 then (some 0) else (z3_.l0 k x0 (wrap64 (x5 + 1))))) else (some 0))) else (none)) else (none)) else (some 2)
def z3_.j3 : Nat → List ByteArray → Bool → Option (Int)
 | 0,_,_ => none
 | k + 1,x7,x75 => if x75 = true then (some 0) else (z3_.l1 k x7 0)
def z3_.l1 : Nat → List ByteArray → Int → Option (Int)
 | 0,_,_ => none
 | k + 1,x7,x9 => if x9 < (x7.length : Int) then (if 0 ≤ x9 then ((z3_.f k (rdOf ByteArray.empty x7 x9)).bind fun t237 => (if t237 = 0 then (some 0) else (z3_.l1 k x7 (wrap64 (x9 + 1))))) else (none)) else (some 3)
def z3_.f : Nat → ByteArray → Option (Int)
 | 0,_ => none
 | k + 1,a0 => if a0.toList = ([] : List UInt8) then (z3_.j0 k a0 true) else (z3_.j0 k a0 (decide ((a0.size : Int) > 200)))
end
set_option maxHeartbeats 8000000 in
set_option maxRecDepth 100000 in
theorem z3_.calls (k : Nat) : ∀ (a0 : ByteArray) (r : Int) (w : World) (h : z3_.f k a0 = some r),
  Calls Tryd.prog 29 #[.string a0] w fun e w' => e = .returned (.int .i64 r) ∧ Below w.heap.size w w' := by
 induction k using Nat.strongRecOn with
 | _ k ih =>
 intro a0 r w h
 cases k with
 | zero => exact absurd h (by simp [z3_.f])
 | succ k =>
 simp only [z3_.f] at h
 have HB := y0.mk (Below.refl w.heap.size w)
 have H : (if a0.toList = ([] : List UInt8) then (z3_.j0 k a0 true) else (z3_.j0 k a0 (decide ((a0.size : Int) > 200)))) = some r := h
 clear h
 have HC2 := y0.mk H
 clear H
 go_enter Tryd.func29,Tryd.ntmps29
 go_upto_region 1 with (fail)
 go_cut [16] (fun v16 wc => ∃ (kq : Nat) (x16_1 : Bool),v16 = .bool x16_1 ∧ y0 (z3_.j0 kq a0 x16_1 = some r) ∧ y0 (kq ≤ k) ∧ y0 (Below w.heap.size w wc))
 case first =>
  have H := HC2.out
  clear HC2
  by_cases c3 : a0.toList = ([] : List UInt8)
  ·rw [if_pos c3] at H
   have c3b0 : (a0.toList == ([] : List UInt8)) = true := beq_iff_eq.mpr c3
   have c3b1 : (a0.toList != ([] : List UInt8)) = false := bne_eq_false_iff_eq.mpr c3
   clear c3
   (first | rw [c3b0] | (simp only [y13,y12]; rw [c3b0]) | skip)
   have H' := y0.mk H
   clear H
   go_wp2
   go_meet
   exact ⟨_,(true),qy2,H',⟨by first | omega | exact Nat.le_refl _⟩,⟨qb⟩⟩
  ·rw [if_neg c3] at H
   have c3b0 : (a0.toList == ([] : List UInt8)) = false := beq_eq_false_iff_ne.mpr c3
   have c3b1 : (a0.toList != ([] : List UInt8)) = true := bne_iff_ne.mpr c3
   (first | rw [c3b0] | (simp only [y13,y12]; rw [c3b0]) | skip)
   have H' := y0.mk H
   clear H
   go_wp2
   go_meet
   exact ⟨_,(decide ((a0.size : Int) > 200)),qy2,H',⟨by first | omega | exact Nat.le_refl _⟩,⟨qb⟩⟩
 case rest =>
  clear HC2
  obtain ⟨kq,x16_1,rfl,HA,HJ1,HB⟩ := hcut
  cases kq with
  | zero => exact absurd HA.out (by simp [z3_.j0])
  | succ kj1 =>
   have H := HA.out
   clear HA
   simp only [z3_.j0] at H
   by_cases c4 : x16_1 = true
   ·subst c4
    replace H := qT H
    obtain rfl := Option.some.inj H
    go_wp2
    go_ret
    exact ⟨by first | rfl | (simp [y8,y9] <;> rfl) | (simp [*,y8,y9] <;> rfl),qb⟩
   ·replace c4 := Bool.eq_false_iff.mpr c4
    subst c4
    replace H := qF H
    obtain ⟨⟨t226,t227⟩,A5,H⟩ := qB H
    replace H : (if t227 = true then (some 1) else (if 0 < (a0.size : Int) then (if (bt a0 0) = 34 then ((spec_l01Between.f (a0.size : Int) 2 22).bind fun t228 => (if t228 = true then (if 0 ≤ (wrap64 ((a0.size : Int) - 1)) then (if (wrap64 ((a0.size : Int) - 1)) < (a0.size : Int) then (z3_.j1 kj1 a0 ((bt a0 (wrap64 ((a0.size : Int) - 1))) != 34)) else (none)) else (none)) else (z3_.j1 kj1 a0 true))) else ((z4_.f kj1 a0).bind fun bt230 => (if bt230.2.2 = true then ((spec_l01Name.f kj1 bt230.1 true).bind fun t235 => (z3_.j3 kj1 bt230.2.1 (!t235))) else (z3_.j3 kj1 bt230.2.1 true)))) else (none))) = some r := H
    by_cases c6 : t227 = true
    ·subst c6
     replace H := qT H
     obtain rfl := Option.some.inj H
     go_wp2_with (first | ((with_reducible refine y10 (f := 73) rfl ?_); refine y11 (some 19) rfl rfl Tryd.func73 (by kernel_rfl) rfl #[.string a0] rfl qy0 ?_; (with_reducible refine (z5_.calls kj1 a0 t226 true _ A5.out).mono ?_); rintro e w7 ⟨rfl,hb⟩; refine ⟨_,rfl, ?_⟩; replace HB := y0.mk (y5 qb hb); (try clear hb); (try clear hb2); (try clear hk); (try clear hi)))
     go_ret
     exact ⟨by first | rfl | (simp [y8,y9] <;> rfl) | (simp [*,y8,y9] <;> rfl),qb⟩
    ·replace c6 := Bool.eq_false_iff.mpr c6
     subst c6
     replace H := qF H
     obtain ⟨c8,H⟩ := qo H
     have c8b0 : decide (0 < (a0.size : Int)) = true := decide_eq_true c8
     have c8b1 : decide (0 < a0.size) = true := decide_eq_true (by omega)
     clear c8
     by_cases c10 : (bt a0 0) = 34
     ·rw [if_pos c10] at H
      have c10b0 : ((bt a0 0) == 34) = true := beq_iff_eq.mpr c10
      have c10b1 : ((bt a0 0) != 34) = false := bne_eq_false_iff_eq.mpr c10
      clear c10
      have HC11 := y0.mk H
      clear H
      go_upto_region 7 with (first | ((with_reducible refine y10 (f := 73) rfl ?_); refine y11 (some 19) rfl rfl Tryd.func73 (by kernel_rfl) rfl #[.string a0] rfl qy0 ?_; (with_reducible refine (z5_.calls kj1 a0 t226 false _ A5.out).mono ?_); rintro e w12 ⟨rfl,hb⟩; refine ⟨_,rfl, ?_⟩; replace HB := y0.mk (y5 qb hb); (try clear hb); (try clear hb2); (try clear hk); (try clear hi); have p9 : 0 ≤ (0 : Int) := (by omega); have q9 : 0 < a0.size := qy3; have hx9 : ∀ h : 0 < a0.size,((a0[0]'h).toNat : Int) = bt a0 0 := bt_at a0 0; clear p9; have qi9 : (0 < (a0.size : Int)) = True := eq_true (of_decide_eq_true qy1); replace q9 := eq_true q9))
      (try simp only [Act.put,qS_,qZ_,qC_])
      go_cut [37] (fun v37 wc => ∃ (kq : Nat) (x37_10 : Bool),v37 = .bool x37_10 ∧ y0 (z3_.j1 kq a0 x37_10 = some r) ∧ y0 (kq ≤ kj1) ∧ y0 (Below w.heap.size w wc))
      case first =>
       have H := HC11.out
       clear HC11
       obtain ⟨t228,A13,H⟩ := qB H
       by_cases c14 : t228 = true
       ·subst c14
        replace H := qT H
        obtain ⟨ji15,hji15⟩ : ∃ j_ : Int,(wrap64 ((a0.size : Int) - 1)) = j_ := ⟨_,rfl⟩
        replace H : (if 0 ≤ (ji15) then (if (ji15) < (a0.size : Int) then (z3_.j1 kj1 a0 ((bt a0 (ji15)) != 34)) else (none)) else (none)) = some r := by first | (rw [hji15] at H; exact H) | (simp only [hji15] at H ⊢; exact H)
        (try rw [hji15] at A13)
        have hji15w : (IntKind.i64.wrap ((a0.size : Int) - 1)) = ji15 := (y13 _).trans hji15
        obtain ⟨c16,H⟩ := qo H
        have c16b0 : decide (0 ≤ (ji15)) = true := decide_eq_true c16
        clear c16
        (first | rw [c16b0] | (simp only [y13,y12]; rw [c16b0]) | skip)
        obtain ⟨c17,H⟩ := qo H
        have c17b0 : decide ((ji15) < (a0.size : Int)) = true := decide_eq_true c17
        clear c17
        have H' := y0.mk H
        clear H
        go_wp2_with (first | ((with_reducible refine y10 (f := 66) rfl ?_); refine y11 (some 28) rfl rfl Tryd.func66 (by kernel_rfl) rfl #[.int .i64 (a0.size : Int),.int .i64 2,.int .i64 22] rfl qy0 ?_; (with_reducible refine (spec_l01Between.calls (a0.size : Int) 2 22 true _ A13.out).mono ?_); rintro e w' ⟨rfl,⟨nd,rfl⟩⟩; refine ⟨_,rfl, ?_⟩; have p18 : 0 ≤ ((ji15) : Int) := of_decide_eq_true qy1; have q18 : (ji15) < (a0.size : Int) := of_decide_eq_true qy1; have hx18 := bt_at a0 (ji15); replace p18 := eq_true p18; replace q18 := eq_true q18))
        go_meet
        exact ⟨_,(((bt a0 (ji15)) != 34)),(by first | rfl | (simp; done) | (simp only [← hji15] <;> (first | rfl | simp)) | (simp [*]; done)),H',⟨by have := HJ1.out; first | omega | exact Nat.le_refl _⟩,⟨qb⟩⟩
       ·replace c14 := Bool.eq_false_iff.mpr c14
        subst c14
        replace H := qF H
        have H' := y0.mk H
        clear H
        go_wp2_with (first | ((with_reducible refine y10 (f := 66) rfl ?_); refine y11 (some 28) rfl rfl Tryd.func66 (by kernel_rfl) rfl #[.int .i64 (a0.size : Int),.int .i64 2,.int .i64 22] rfl qy0 ?_; (with_reducible refine (spec_l01Between.calls (a0.size : Int) 2 22 false _ A13.out).mono ?_); rintro e w' ⟨rfl,⟨nd,rfl⟩⟩; refine ⟨_,rfl, ?_⟩))
        go_meet
        exact ⟨_,(true),qy2,H',⟨by have := HJ1.out; first | omega | exact Nat.le_refl _⟩,⟨qb⟩⟩
      case rest =>
       clear HC11
       (try clear c4 c6 c8b0 c8b1 p9 q9 hx9 qi9 c10b0 c10b1 p9 q9)
       obtain ⟨kq,x37_10,rfl,HA,HJ10,HB⟩ := hcut
       cases kq with
       | zero => exact absurd HA.out (by simp [z3_.j1])
       | succ kj10 =>
        have H := HA.out
        clear HA
        simp only [z3_.j1] at H
        by_cases c19 : x37_10 = true
        ·subst c19
         replace H := qT H
         obtain rfl := Option.some.inj H
         go_wp2
         go_ret
         exact ⟨by first | rfl | (simp [y8,y9] <;> rfl) | (simp [*,y8,y9] <;> rfl),qb⟩
        ·replace c19 := Bool.eq_false_iff.mpr c19
         subst c19
         replace H := qF H
         have H' := y0.mk H
         clear H
         go_wp2
         go_loopg [5] kj10 (fun kq v5 w' => ∃ (x5_3 : Int),v5 = .int .i64 x5_3 ∧ y0 (z3_.l0 kq a0 x5_3 = some r) ∧ y0 (kq ≤ kj10) ∧ y0 (Below w.heap.size w w'))
         case atStart => exact ⟨(1),qy2,H',⟨Nat.le_refl _⟩,⟨qb⟩⟩
         case round =>
          clear H'
          (try clear c19)
          obtain ⟨x5_3,rfl,HA,HK3,HB⟩ := hrel
          cases gk with
          | zero => exact absurd HA.out (by simp [z3_.l0])
          | succ k3 =>
           have H := HA.out
           clear HA
           simp only [z3_.l0] at H
           by_cases c20 : (wrap64 (x5_3 + 1)) < (a0.size : Int)
           ·rw [if_pos c20] at H
            have c20b0 := decide_eq_true c20
            clear c20
            obtain ⟨c21,H⟩ := qo H
            have c21b0 : decide (0 ≤ x5_3) = true := decide_eq_true c21
            clear c21
            obtain ⟨c22,H⟩ := qo H
            have c22b0 := decide_eq_true c22
            clear c22
            obtain ⟨t229,A24,H⟩ := qB H
            by_cases c25 : t229 = true
            ·subst c25
             replace H := qT H
             by_cases c27 : (bt a0 x5_3) = 34
             ·rw [if_pos c27] at H
              have c27b0 : ((bt a0 x5_3) == 34) = true := beq_iff_eq.mpr c27
              have c27b1 : ((bt a0 x5_3) != 34) = false := bne_eq_false_iff_eq.mpr c27
              clear c27
              obtain rfl := Option.some.inj H
              have p23 : 0 ≤ (x5_3 : Int) := of_decide_eq_true qy1
              have q23 : x5_3 < (a0.size : Int) := of_decide_eq_true qy1
              have hx23 := bt_at a0 x5_3
              replace p23 := eq_true p23
              replace q23 := eq_true q23
              go_wp2_with (first | ((with_reducible refine y10 (f := 66) rfl ?_); refine y11 (some 49) rfl rfl Tryd.func66 (by kernel_rfl) rfl #[.int .i64 (wrap64 (bt a0 x5_3)),.int .i64 32,.int .i64 126] rfl qy0 ?_; (with_reducible refine (spec_l01Between.calls (wrap64 (bt a0 x5_3)) 32 126 true _ A24.out).mono ?_); rintro e w' ⟨rfl,⟨nd,rfl⟩⟩; refine ⟨_,rfl, ?_⟩; have p26 : 0 ≤ (x5_3 : Int) := of_decide_eq_true qy1; have q26 : x5_3 < (a0.size : Int) := of_decide_eq_true qy1; have hx26 := bt_at a0 x5_3; replace p26 := eq_true p26; replace q26 := eq_true q26))
              go_ret
              exact ⟨by first | rfl | (simp [y8,y9] <;> rfl) | (simp [*,y8,y9] <;> rfl),qb⟩
             ·rw [if_neg c27] at H
              have c27b0 : ((bt a0 x5_3) == 34) = false := beq_eq_false_iff_ne.mpr c27
              have c27b1 : ((bt a0 x5_3) != 34) = true := bne_iff_ne.mpr c27
              by_cases c29 : (bt a0 x5_3) = 92
              ·rw [if_pos c29] at H
               have c29b0 : ((bt a0 x5_3) == 92) = true := beq_iff_eq.mpr c29
               have c29b1 : ((bt a0 x5_3) != 92) = false := bne_eq_false_iff_eq.mpr c29
               clear c29
               obtain rfl := Option.some.inj H
               have p23 : 0 ≤ (x5_3 : Int) := of_decide_eq_true qy1
               have q23 : x5_3 < (a0.size : Int) := of_decide_eq_true qy1
               have hx23 := bt_at a0 x5_3
               replace p23 := eq_true p23
               replace q23 := eq_true q23
               go_wp2_with (first | ((with_reducible refine y10 (f := 66) rfl ?_); refine y11 (some 49) rfl rfl Tryd.func66 (by kernel_rfl) rfl #[.int .i64 (wrap64 (bt a0 x5_3)),.int .i64 32,.int .i64 126] rfl qy0 ?_; (with_reducible refine (spec_l01Between.calls (wrap64 (bt a0 x5_3)) 32 126 true _ A24.out).mono ?_); rintro e w' ⟨rfl,⟨nd,rfl⟩⟩; refine ⟨_,rfl, ?_⟩; have p26 : 0 ≤ (x5_3 : Int) := of_decide_eq_true qy1; have q26 : x5_3 < (a0.size : Int) := of_decide_eq_true qy1; have hx26 := bt_at a0 x5_3; replace p26 := eq_true p26; replace q26 := eq_true q26; have p28 : 0 ≤ (x5_3 : Int) := of_decide_eq_true qy1; have q28 : x5_3 < (a0.size : Int) := of_decide_eq_true qy1; have hx28 := bt_at a0 x5_3; replace p28 := eq_true p28; replace q28 := eq_true q28))
               go_ret
               exact ⟨by first | rfl | (simp [y8,y9] <;> rfl) | (simp [*,y8,y9] <;> rfl),qb⟩
              ·rw [if_neg c29] at H
               have c29b0 : ((bt a0 x5_3) == 92) = false := beq_eq_false_iff_ne.mpr c29
               have c29b1 : ((bt a0 x5_3) != 92) = true := bne_iff_ne.mpr c29
               have H' := y0.mk H
               clear H
               have p23 : 0 ≤ (x5_3 : Int) := of_decide_eq_true qy1
               have q23 : x5_3 < (a0.size : Int) := of_decide_eq_true qy1
               have hx23 := bt_at a0 x5_3
               replace p23 := eq_true p23
               replace q23 := eq_true q23
               go_wp2_with (first | ((with_reducible refine y10 (f := 66) rfl ?_); refine y11 (some 49) rfl rfl Tryd.func66 (by kernel_rfl) rfl #[.int .i64 (wrap64 (bt a0 x5_3)),.int .i64 32,.int .i64 126] rfl qy0 ?_; (with_reducible refine (spec_l01Between.calls (wrap64 (bt a0 x5_3)) 32 126 true _ A24.out).mono ?_); rintro e w' ⟨rfl,⟨nd,rfl⟩⟩; refine ⟨_,rfl, ?_⟩; have p26 : 0 ≤ (x5_3 : Int) := of_decide_eq_true qy1; have q26 : x5_3 < (a0.size : Int) := of_decide_eq_true qy1; have hx26 := bt_at a0 x5_3; replace p26 := eq_true p26; replace q26 := eq_true q26; have p28 : 0 ≤ (x5_3 : Int) := of_decide_eq_true qy1; have q28 : x5_3 < (a0.size : Int) := of_decide_eq_true qy1; have hx28 := bt_at a0 x5_3; replace p28 := eq_true p28; replace q28 := eq_true q28))
               go_roundg k3
               case measure => have := HJ1.out; have := HJ10.out; have := HK3.out; omega
               exact ⟨(wrap64 (x5_3 + 1)),qy2,H',⟨by have := HJ1.out; have := HJ10.out; have := HK3.out; omega⟩,⟨qb⟩⟩
            ·replace c25 := Bool.eq_false_iff.mpr c25
             subst c25
             replace H := qF H
             obtain rfl := Option.some.inj H
             have p23 : 0 ≤ (x5_3 : Int) := of_decide_eq_true qy1
             have q23 : x5_3 < (a0.size : Int) := of_decide_eq_true qy1
             have hx23 := bt_at a0 x5_3
             replace p23 := eq_true p23
             replace q23 := eq_true q23
             go_wp2_with (first | ((with_reducible refine y10 (f := 66) rfl ?_); refine y11 (some 49) rfl rfl Tryd.func66 (by kernel_rfl) rfl #[.int .i64 (wrap64 (bt a0 x5_3)),.int .i64 32,.int .i64 126] rfl qy0 ?_; (with_reducible refine (spec_l01Between.calls (wrap64 (bt a0 x5_3)) 32 126 false _ A24.out).mono ?_); rintro e w' ⟨rfl,⟨nd,rfl⟩⟩; refine ⟨_,rfl, ?_⟩))
             go_ret
             exact ⟨by first | rfl | (simp [y8,y9] <;> rfl) | (simp [*,y8,y9] <;> rfl),qb⟩
           ·rw [if_neg c20] at H
            have c20b0 := decide_eq_false c20
            clear c20
            obtain rfl := Option.some.inj H
            go_wp2
            go_ret
            exact ⟨by first | rfl | (simp [y8,y9] <;> rfl) | (simp [*,y8,y9] <;> rfl),qb⟩
     ·rw [if_neg c10] at H
      have c10b0 : ((bt a0 0) == 34) = false := beq_eq_false_iff_ne.mpr c10
      have c10b1 : ((bt a0 0) != 34) = true := bne_iff_ne.mpr c10
      obtain ⟨⟨t230,t231,t232⟩,A30,H⟩ := qB H
      replace H : (if t232 = true then ((spec_l01Name.f kj1 t230 true).bind fun t235 => (z3_.j3 kj1 t231 (!t235))) else (z3_.j3 kj1 t231 true)) = some r := H
      have HC31 := y0.mk H
      clear H
      go_upto_region 16 with (first | ((with_reducible refine y10 (f := 73) rfl ?_); refine y11 (some 19) rfl rfl Tryd.func73 (by kernel_rfl) rfl #[.string a0] rfl qy0 ?_; (with_reducible refine (z5_.calls kj1 a0 t226 false _ A5.out).mono ?_); rintro e w32 ⟨rfl,hb⟩; refine ⟨_,rfl, ?_⟩; replace HB := y0.mk (y5 qb hb); (try clear hb); (try clear hb2); (try clear hk); (try clear hi); have p9 : 0 ≤ (0 : Int) := (by omega); have q9 : 0 < a0.size := qy3; have hx9 : ∀ h : 0 < a0.size,((a0[0]'h).toNat : Int) = bt a0 0 := bt_at a0 0; clear p9; have qi9 : (0 < (a0.size : Int)) = True := eq_true (of_decide_eq_true qy1); replace q9 := eq_true q9) | ((with_reducible refine y10 (f := 74) rfl ?_); refine y11 (some 65) rfl rfl Tryd.func74 (by kernel_rfl) rfl #[.string a0] rfl qy0 ?_; (with_reducible refine (z4_.calls kj1 a0 t230 t231 t232 _ A30.out).mono ?_); rintro e w33 ⟨v233,rfl,ho0,hb⟩; refine ⟨_,rfl, ?_⟩; have HO234 := y0.mk (Kd.R_lower ho0 (y4 qb)); replace HB := y0.mk (y5 qb hb); (try clear hb); (try clear hb2); (try clear hk); (try clear hi); (try clear ho0)))
      (try simp only [Act.put,qS_,qZ_,qC_])
      go_cut [75] (fun v75 wc => ∃ (kq : Nat) (x75_30 : Bool),v75 = .bool x75_30 ∧ y0 (z3_.j3 kq t231 x75_30 = some r) ∧ y0 (kq ≤ kj1) ∧ y0 (Kd.R Kd.string 9 wc w.heap.size (fun _ => True) v233 t231) ∧ y0 (Below w.heap.size w wc))
      case first =>
       have H := HC31.out
       clear HC31
       by_cases c34 : t232 = true
       ·subst c34
        replace H := qT H
        obtain ⟨t235,A35,H⟩ := qB H
        have H' := y0.mk H
        clear H
        go_wp2_with (first | (go_at_call 75; (with_reducible refine (spec_l01Name.calls kj1 t230 true t235 _ A35.out).mono ?_); rintro e w' ⟨rfl,⟨nd,rfl⟩⟩))
        go_meet
        exact ⟨_,(!t235),qy2,H',⟨by have := HJ1.out; first | omega | exact Nat.le_refl _⟩,⟨qR HO234.out⟩,⟨qb⟩⟩
       ·replace c34 := Bool.eq_false_iff.mpr c34
        subst c34
        replace H := qF H
        have H' := y0.mk H
        clear H
        go_wp2
        go_meet
        exact ⟨_,(true),qy2,H',⟨by have := HJ1.out; first | omega | exact Nat.le_refl _⟩,⟨qR HO234.out⟩,⟨qb⟩⟩
      case rest =>
       clear HC31
       (try clear p9 q9 hx9 qi9 c10b0 c10b1 p9 q9)
       obtain ⟨kq,x75_30,rfl,HA,HJ30,HO_7,HB⟩ := hcut
       cases kq with
       | zero => exact absurd HA.out (by simp [z3_.j3])
       | succ kj30 =>
        have H := HA.out
        clear HA
        simp only [z3_.j3] at H
        by_cases c36 : x75_30 = true
        ·subst c36
         replace H := qT H
         obtain rfl := Option.some.inj H
         go_wp2
         go_ret
         exact ⟨by first | rfl | (simp [y8,y9] <;> rfl) | (simp [*,y8,y9] <;> rfl),qb⟩
        ·replace c36 := Bool.eq_false_iff.mpr c36
         subst c36
         replace H := qF H
         have H' := y0.mk H
         clear H
         go_wp2
         go_loopg [9] kj30 (fun kq v9 w' => ∃ (x9_3 : Int),v9 = .int .i64 x9_3 ∧ y0 (z3_.l1 kq t231 x9_3 = some r) ∧ y0 (kq ≤ kj30) ∧ y0 (Kd.R Kd.string 9 w' w.heap.size (fun _ => True) v233 t231) ∧ y0 (Below w.heap.size w w'))
         case atStart => exact ⟨(0),qy2,H',⟨Nat.le_refl _⟩,⟨qR HO_7.out⟩,⟨qb⟩⟩
         case round =>
          clear H'
          (try clear c36)
          obtain ⟨x9_3,rfl,HA,HK3,HO_7,HB⟩ := hrel
          cases gk with
          | zero => exact absurd HA.out (by simp [z3_.l1])
          | succ k3 =>
           have H := HA.out
           clear HA
           simp only [z3_.l1] at H
           by_cases c37 : x9_3 < (t231.length : Int)
           ·rw [if_pos c37] at H
            have c37b0 := decide_eq_true c37
            clear c37
            obtain ⟨c38,H⟩ := qo H
            have c38b0 : decide (0 ≤ x9_3) = true := decide_eq_true c38
            clear c38
            obtain ⟨t237,A39,H⟩ := qB H
            by_cases c40 : t237 = 0
            ·rw [if_pos c40] at H
             have c40b0 : (t237 == 0) = true := beq_iff_eq.mpr c40
             have c40b1 : (t237 != 0) = false := bne_eq_false_iff_eq.mpr c40
             clear c40
             obtain rfl := Option.some.inj H
             obtain ⟨Ao41,co41,eo41⟩ := Kd.R_slice HO_7.out
             subst eo41
             have p236 : 0 ≤ (x9_3 : Int) := of_decide_eq_true qy1
             have q236 : x9_3 < (t231.length : Int) := of_decide_eq_true qy1
             obtain ⟨ad236,e236,hx236_0⟩ := Kd.at_string (Kd.R_reads' HO_7.out).2.2 x9_3 p236 q236
             cases e236
             replace p236 := eq_true p236
             replace q236 := eq_true q236
             go_wp2_with (first | ((with_reducible refine y10 (f := 29) rfl ?_); refine y11 (some 86) rfl rfl Tryd.func29 (by kernel_rfl) rfl #[.string (rdOf ByteArray.empty t231 x9_3)] rfl qy0 ?_; (with_reducible refine (ih k3 (by have := HJ1.out; have := HJ30.out; have := HK3.out; omega) (rdOf ByteArray.empty t231 x9_3) t237 _ A39.out).mono ?_); rintro e w42 ⟨rfl,hb⟩; refine ⟨_,rfl, ?_⟩; replace HO_7 := y0.mk (Kd.R_below (qR HO_7.out) hb); replace HB := y0.mk (y5 qb hb); (try clear hb); (try clear hb2); (try clear hk); (try clear hi)))
             go_ret
             exact ⟨by first | rfl | (simp [y8,y9] <;> rfl) | (simp [*,y8,y9] <;> rfl),qb⟩
            ·rw [if_neg c40] at H
             have c40b0 : (t237 == 0) = false := beq_eq_false_iff_ne.mpr c40
             have c40b1 : (t237 != 0) = true := bne_iff_ne.mpr c40
             have H' := y0.mk H
             clear H
             obtain ⟨Ao43,co43,eo43⟩ := Kd.R_slice HO_7.out
             subst eo43
             have p236 : 0 ≤ (x9_3 : Int) := of_decide_eq_true qy1
             have q236 : x9_3 < (t231.length : Int) := of_decide_eq_true qy1
             obtain ⟨ad236,e236,hx236_0⟩ := Kd.at_string (Kd.R_reads' HO_7.out).2.2 x9_3 p236 q236
             cases e236
             replace p236 := eq_true p236
             replace q236 := eq_true q236
             go_wp2_with (first | ((with_reducible refine y10 (f := 29) rfl ?_); refine y11 (some 86) rfl rfl Tryd.func29 (by kernel_rfl) rfl #[.string (rdOf ByteArray.empty t231 x9_3)] rfl qy0 ?_; (with_reducible refine (ih k3 (by have := HJ1.out; have := HJ30.out; have := HK3.out; omega) (rdOf ByteArray.empty t231 x9_3) t237 _ A39.out).mono ?_); rintro e w44 ⟨rfl,hb⟩; refine ⟨_,rfl, ?_⟩; replace HO_7 := y0.mk (Kd.R_below (qR HO_7.out) hb); replace HB := y0.mk (y5 qb hb); (try clear hb); (try clear hb2); (try clear hk); (try clear hi)))
             go_roundg k3
             case measure => have := HJ1.out; have := HJ30.out; have := HK3.out; omega
             exact ⟨(wrap64 (x9_3 + 1)),qy2,H',⟨by have := HJ1.out; have := HJ30.out; have := HK3.out; omega⟩,⟨qR HO_7.out⟩,⟨qb⟩⟩
           ·rw [if_neg c37] at H
            have c37b0 := decide_eq_false c37
            clear c37
            obtain rfl := Option.some.inj H
            obtain ⟨Ao45,co45,eo45⟩ := Kd.R_slice HO_7.out
            subst eo45
            go_wp2
            go_ret
            exact ⟨by first | rfl | (simp [y8,y9] <;> rfl) | (simp [*,y8,y9] <;> rfl),qb⟩
end Go.Proofs.YtebadckdihgklaaDoor.Pb
end
section
namespace Go.Proofs.YtebadckdihgklaaDoor.Pb
open Go.RowKit Go.Proofs.YtebadckdihgklaaDoorW.PrintWords Go.Proofs.YtebadckdihgklaaDoorW.PrintLast Go.Proofs.YtebadckdihgklaaDoorW.PrintMore
attribute [local go_sem] max2_int min2_int max_two min_two max_three min_three max_four min_four   -- for this text's walks alone
set_option linter.unusedVariables false
set_option linter.unusedSimpArgs false
def laws_szStringS.l0 : Nat → List ByteArray → Int → Int → Option (Int)
 | 0,_,_,_ => none
 | k + 1,x0,x1,x5 => if x5 < (x0.length : Int) then (if 0 ≤ x5 then (if (wrap64 (x1 - ((rdOf ByteArray.empty x0 x5).size : Int))) < 0 then (some (-1)) else (laws_szStringS.l0 k x0 (wrap64 (x1 - ((rdOf ByteArray.empty x0 x5).size : Int))) (wrap64 (x5 + 1)))) else (none)) else (some x1)
def laws_szStringS.f (k : Nat) (l0 : List ByteArray) (a1 : Int) : Option (Int) := if (wrap64 (a1 - (l0.length : Int))) < 0 then (some (-1)) else (laws_szStringS.l0 k l0 (wrap64 (a1 - (l0.length : Int))) 0)
set_option maxHeartbeats 8000000 in
set_option maxRecDepth 100000 in
theorem laws_szStringS.calls (k : Nat) (A0 : Option Addr) (c0 : Nat) (l0 : List ByteArray) (a1 : Int) (r : Int) (w : World) (hr0 : Kd.C Kd.string w A0 l0.length l0) (hc0 : l0.length ≤ c0) (h : laws_szStringS.f k l0 a1 = some r) :
  Calls Tryd.prog 35 #[.slice A0 l0.length c0,.int .i64 a1] w fun e w' => e = .returned (.int .i64 r) ∧ y1 w w' := by
 have HR0 := y0.mk hr0
 have HC0 := y0.mk hc0
 clear hr0 hc0
 have H : (if (wrap64 (a1 - (l0.length : Int))) < 0 then (some (-1)) else (laws_szStringS.l0 k l0 (wrap64 (a1 - (l0.length : Int))) 0)) = some r := h
 clear h
 by_cases c3 : (wrap64 (a1 - (l0.length : Int))) < 0
 ·rw [if_pos c3] at H
  have c3b0 := decide_eq_true c3
  clear c3
  obtain rfl := Option.some.inj H
  go_enter Tryd.func35,Tryd.ntmps35
  go_wp2
  go_ret
  exact ⟨by first | rfl | (simp; done) | (simp [*]; done),by repeat (first | exact y1.refl _ | apply y1.step)⟩
 ·rw [if_neg c3] at H
  have c3b0 := decide_eq_false c3
  clear c3
  have H' := y0.mk H
  clear H
  go_enter Tryd.func35,Tryd.ntmps35
  go_wp2
  go_loopg [1,5] k (fun kq v1 v5 w' => ∃ (x1_1 : Int) (x5_1 : Int),v1 = .int .i64 x1_1 ∧ v5 = .int .i64 x5_1 ∧ y0 (laws_szStringS.l0 kq l0 x1_1 x5_1 = some r) ∧ y0 (kq ≤ k) ∧ y1 w w')
  case atStart => exact ⟨(wrap64 (a1 - (l0.length : Int))),(0),qy2,qy2,H',⟨Nat.le_refl _⟩,by repeat (first | exact y1.refl _ | apply y1.step)⟩
  case round =>
   clear H'
   (try clear c3b0)
   obtain ⟨x1_1,x5_1,rfl,rfl,HA,HK1,⟨m1,rfl⟩⟩ := hrel
   cases gk with
   | zero => exact absurd HA.out (by simp [laws_szStringS.l0])
   | succ k1 =>
    have H := HA.out
    clear HA
    simp only [laws_szStringS.l0] at H
    by_cases c4 : x5_1 < (l0.length : Int)
    ·rw [if_pos c4] at H
     have c4b0 := decide_eq_true c4
     clear c4
     obtain ⟨c5,H⟩ := qo H
     have c5b0 : decide (0 ≤ x5_1) = true := decide_eq_true c5
     clear c5
     by_cases c6 : (wrap64 (x1_1 - ((rdOf ByteArray.empty l0 x5_1).size : Int))) < 0
     ·rw [if_pos c6] at H
      have c6b0 := decide_eq_true c6
      clear c6
      obtain rfl := Option.some.inj H
      have p240 : 0 ≤ (x5_1 : Int) := of_decide_eq_true qy1
      have q240 : x5_1 < (l0.length : Int) := of_decide_eq_true qy1
      obtain ⟨ad240,e240,hx240_0⟩ := Kd.at_string HR0.out x5_1 p240 q240
      cases e240
      replace p240 := eq_true p240
      replace q240 := eq_true q240
      go_wp2
      go_ret
      exact ⟨by first | rfl | (simp; done) | (simp [*]; done),by repeat (first | exact y1.refl _ | apply y1.step)⟩
     ·rw [if_neg c6] at H
      have c6b0 := decide_eq_false c6
      clear c6
      have H' := y0.mk H
      clear H
      have p240 : 0 ≤ (x5_1 : Int) := of_decide_eq_true qy1
      have q240 : x5_1 < (l0.length : Int) := of_decide_eq_true qy1
      obtain ⟨ad240,e240,hx240_0⟩ := Kd.at_string HR0.out x5_1 p240 q240
      cases e240
      replace p240 := eq_true p240
      replace q240 := eq_true q240
      go_wp2
      go_roundg k1
      case measure => have := HK1.out; omega
      exact ⟨(wrap64 (x1_1 - ((rdOf ByteArray.empty l0 x5_1).size : Int))),(wrap64 (x5_1 + 1)),qy2,qy2,H',⟨by have := HK1.out; omega⟩,by repeat (first | exact y1.refl _ | apply y1.step)⟩
    ·rw [if_neg c4] at H
     have c4b0 := decide_eq_false c4
     clear c4
     obtain rfl := Option.some.inj H
     go_wp2
     go_ret
     exact ⟨by first | rfl | (simp; done) | (simp [*]; done),by repeat (first | exact y1.refl _ | apply y1.step)⟩
def laws_toStringS.l0 : Nat → List ByteArray → List ByteArray → Int → Option (List ByteArray)
 | 0,_,_,_ => none
 | k + 1,x0,x3,x4 => if x4 < (x0.length : Int) then (if 0 ≤ x4 then (if x4 < (x3.length : Int) then (laws_toStringS.l0 k x0 (x3.set (x4 : Int).toNat (rdOf ByteArray.empty x0 x4)) (wrap64 (x4 + 1))) else (none)) else (none)) else (some x3)
def laws_toStringS.f (k : Nat) (l0 : List ByteArray) : Option (List ByteArray) := if 0 ≤ (l0.length : Int) then (if ((l0.length : Int) : Int).toNat ≤ 17592186044416 then (laws_toStringS.l0 k l0 (List.replicate ((l0.length : Int) : Int).toNat (⟨#[]⟩ : ByteArray)) 0) else (none)) else (none)
set_option maxHeartbeats 8000000 in
set_option maxRecDepth 100000 in
theorem laws_toStringS.calls (k : Nat) (A0 : Option Addr) (c0 : Nat) (l0 : List ByteArray) (r : List ByteArray) (w : World) (hr0 : Kd.C Kd.string w A0 l0.length l0) (hc0 : l0.length ≤ c0) (h : laws_toStringS.f k l0 = some r) :
  Calls Tryd.prog 37 #[.slice A0 l0.length c0] w fun e w' => ∃ v0_ : Value,e = .returned (v0_) ∧ Kd.R Kd.string 9 w' w.heap.size (fun _ => True) v0_ r ∧ Below w.heap.size w w' := by
 have HR0 := y0.mk hr0
 have HC0 := y0.mk hc0
 clear hr0 hc0
 have HB := y0.mk (Below.refl w.heap.size w)
 have H : (if 0 ≤ (l0.length : Int) then (if ((l0.length : Int) : Int).toNat ≤ 17592186044416 then (laws_toStringS.l0 k l0 (List.replicate ((l0.length : Int) : Int).toNat (⟨#[]⟩ : ByteArray)) 0) else (none)) else (none)) = some r := h
 clear h
 obtain ⟨c2,H⟩ := qo H
 have c2b0 := eq_true c2
 have c2b1 := decide_eq_true c2
 clear c2
 obtain ⟨c3,H⟩ := qo H
 have c3b0 := eq_true c3
 have c3b1 := decide_eq_true c3
 clear c3
 obtain ⟨y248,hy248⟩ : ∃ y_ : List ByteArray,y_ = (List.replicate ((l0.length : Int) : Int).toNat (⟨#[]⟩ : ByteArray)) := ⟨_,rfl⟩
 replace H : (laws_toStringS.l0 k l0 y248 0) = some r := by first | (rw [hy248]; with_reducible exact H) | (have H2_ := (Option.bind_some _ _).symm.trans H; rw [hy248]; with_reducible exact H2_) | (have H2_ := (Option.bind_some _ _).symm.trans H; with_reducible exact H2_) | with_reducible exact H | (rw [hy248]; exact H) | exact H
 have Ny248 := y0.mk hy248
 clear hy248
 have H' := y0.mk H
 clear H
 go_enter Tryd.func37,Tryd.ntmps37
 go_wp2_with (first | ((with_reducible refine gate_dst (N := 7) rfl ?_); refine Kd.R_make Kd.string _ 9 rfl (N := 7) rfl 31 _ _ rfl (l0.length : Int) rfl rfl Tryd.underlying31 (.string ⟨#[]⟩) 16 info9 rfl (by decide) (by omega) (⟨#[]⟩ : ByteArray) (ok := fun _ => True) (okp := fun _ => True) rfl (fun _ hk => hk) trivial (of_decide_eq_true qy1) (Nat.le_trans (Nat.mul_le_mul_right _ (of_decide_eq_true qy1 : (l0.length : Int).toNat ≤ 17592186044416)) (by omega)) (Below.refl _ _) (Nat.le_refl _) ?_; intro v249 w4 ho5 hb hg_ hnew_; clear hg_ hnew_; (first | rw [← Ny248.out] at ho5 | (simp only [Int.reduceToNat] at ho5; rw [← Ny248.out] at ho5)); have HO250 := y0.mk (Kd.R_lower ho5 (y4 qb)); replace HB := y0.mk (y5 qb hb); clear hb ho5))
 go_loopg [4] k (fun kq v4 w' => ∃ (x3_1 : List ByteArray) (x4_1 : Int),v4 = .int .i64 x4_1 ∧ y0 (laws_toStringS.l0 kq l0 x3_1 x4_1 = some r) ∧ y0 (kq ≤ k) ∧ y0 (Kd.R Kd.string 9 w' w.heap.size (fun _ => True) v249 x3_1) ∧ y0 (Below w.heap.size w w'))
 case atStart => exact ⟨(y248),(0),qy2,H',⟨Nat.le_refl _⟩,⟨qR HO250.out⟩,⟨qb⟩⟩
 case round =>
  clear H'
  (try clear c2b0 c2b1 c3b0 c3b1)
  obtain ⟨x3_1,x4_1,rfl,HA,HK1,HO_3,HB⟩ := hrel
  cases gk with
  | zero => exact absurd HA.out (by simp [laws_toStringS.l0])
  | succ k1 =>
   have H := HA.out
   clear HA
   simp only [laws_toStringS.l0] at H
   by_cases c6 : x4_1 < (l0.length : Int)
   ·rw [if_pos c6] at H
    have c6b0 := decide_eq_true c6
    clear c6
    obtain ⟨c7,H⟩ := qo H
    have c7b0 : decide (0 ≤ x4_1) = true := decide_eq_true c7
    clear c7
    obtain ⟨c8,H⟩ := qo H
    have c8b0 : decide (x4_1 < (x3_1.length : Int)) = true := decide_eq_true c8
    clear c8
    obtain ⟨y252,hy252⟩ : ∃ y_ : List ByteArray,y_ = (x3_1.set (x4_1 : Int).toNat (rdOf ByteArray.empty l0 x4_1)) := ⟨_,rfl⟩
    replace H : (laws_toStringS.l0 k1 l0 y252 (wrap64 (x4_1 + 1))) = some r := by first | (rw [hy252]; with_reducible exact H) | (have H2_ := (Option.bind_some _ _).symm.trans H; rw [hy252]; with_reducible exact H2_) | (have H2_ := (Option.bind_some _ _).symm.trans H; with_reducible exact H2_) | with_reducible exact H | (rw [hy252]; exact H) | exact H
    have Ny252 := y0.mk hy252
    clear hy252
    have H' := y0.mk H
    clear H
    have p251 : 0 ≤ (x4_1 : Int) := of_decide_eq_true qy1
    have q251 : x4_1 < (l0.length : Int) := of_decide_eq_true qy1
    obtain ⟨ad251,e251,hx251_0⟩ := Kd.at_string HR0.out x4_1 p251 q251
    cases e251
    replace hx251_0 := (HB.out.cell (World.block_lt_of_cell? w _ hx251_0)).trans hx251_0
    replace p251 := eq_true p251
    replace q251 := eq_true q251
    have p9 : 0 ≤ (x4_1 : Int) := of_decide_eq_true qy1
    have q9 : (x4_1 : Int) < ((x3_1.length : Int) : Int) := of_decide_eq_true qy1
    obtain ⟨go9,co9,eo9,gb9,gl9,cl9,HG9⟩ := Kd.R_form HO_3.out (by omega)
    (first | cases eo9 | (injection eo9 with ea_ en_ ec_; (first | subst ea_ | (injection ea_ with ea_; subst ea_)); subst ec_; clear en_))
    have GB9 := y0.mk gb9
    have GG9 := y0.mk HG9
    clear gb9 gl9 HG9
    obtain ⟨hx9_0,hf9_0⟩ := Kd.R_celln (⟨#[]⟩ : ByteArray) HO_3.out (x4_1 : Int) p9 q9
    replace p9 := eq_true p9
    replace q9 := eq_true q9
    have HP10 := Kd.R_putg HO_3.out (x4_1 : Int) (rdOf ByteArray.empty l0 x4_1)
    go_wp2_with (first | ((with_reducible refine gate_store (t := 9) (p := 20) rfl ?_); refine store_event (t := 9) (p := 20) (v := ?vo_w11) (w1 := (wr.setCell ⟨go9,(x4_1 : Int).toNat,none⟩ (.string (rdOf ByteArray.empty l0 x4_1)))) ?hg ?ho ?hn ?hr ?_; (case ho => rfl); (case hg => rfl); (case hn => rfl); (case hr => first | (go_simp; done) | (go_simp; rfl)); intro w11 hw; have hg : wr.grownBy w11 (some go9) := (by rw [hw]; exact HP10.2); have hp_ : Kd.R Kd.string 9 w11 w.heap.size (fun _ => True) (.slice (some ⟨go9,0,none⟩) x3_1.length co9) y252 := (by rw [hw,Ny252.out]; exact HP10.1); clear HP10; replace HO_3 := y0.mk (hp_); replace HB := y0.mk ((by rw [hw]; exact below_set (HB.out) GB9.out : Below w.heap.size w w11)); clear hg hw hp_))
    go_roundg k1
    case measure => have := HK1.out; omega
    exact ⟨(y252),(wrap64 (x4_1 + 1)),qy2,H',⟨by have := HK1.out; omega⟩,⟨qR HO_3.out⟩,⟨qb⟩⟩
   ·rw [if_neg c6] at H
    have c6b0 := decide_eq_false c6
    clear c6
    obtain rfl := Option.some.inj H
    go_wp2
    go_ret
    exact ⟨_,by first | rfl | (simp [y8,y9] <;> rfl) | (simp [*,y8,y9] <;> rfl),by (with_reducible repeat (first | apply Kd.R_alloc | apply Kd.R_drewN | apply Kd.R_drew)); exact HO_3.out,qb⟩
end Go.Proofs.YtebadckdihgklaaDoor.Pb
end
section
namespace Go.Proofs.YtebadckdihgklaaDoor.Pb
open Go.RowKit Go.Proofs.YtebadckdihgklaaDoorW.PrintWords Go.Proofs.YtebadckdihgklaaDoorW.PrintLast Go.Proofs.YtebadckdihgklaaDoorW.PrintMore
attribute [local go_sem] max2_int min2_int max_two min_two max_three min_three max_four min_four   -- for this text's walks alone
set_option linter.unusedVariables false
set_option linter.unusedSimpArgs false
def impl_isBigName.f (k : Nat) (a0 : ByteArray) : Option (Bool) := (impl_in.f (a0.size : Int) 1 20).bind fun t254 => (if t254 = true then ((impl_nameLong.f k a0).bind fun t255 => (if t255 = (a0.size : Int) then (if 0 < (a0.size : Int) then (some (decide ((bt a0 0) ≤ 90))) else (none)) else (some false))) else (some false))
set_option maxHeartbeats 8000000 in
set_option maxRecDepth 100000 in
theorem impl_isBigName.calls (k : Nat) (a0 : ByteArray) (r : Bool) (w : World) (h : impl_isBigName.f k a0 = some r) :
  Calls Tryd.prog 78 #[.string a0] w fun e w' => e = .returned (.bool r) ∧ y1 w w' := by
 have H : ((impl_in.f (a0.size : Int) 1 20).bind fun t254 => (if t254 = true then ((impl_nameLong.f k a0).bind fun t255 => (if t255 = (a0.size : Int) then (if 0 < (a0.size : Int) then (some (decide ((bt a0 0) ≤ 90))) else (none)) else (some false))) else (some false))) = some r := h
 clear h
 obtain ⟨t254,A2,H⟩ := qB H
 by_cases c3 : t254 = true
 ·subst c3
  replace H := qT H
  obtain ⟨t255,A4,H⟩ := qB H
  by_cases c5 : t255 = (a0.size : Int)
  ·rw [if_pos c5] at H
   have c5b0 : (t255 == (a0.size : Int)) = true := beq_iff_eq.mpr c5
   have c5b1 : (t255 != (a0.size : Int)) = false := bne_eq_false_iff_eq.mpr c5
   clear c5
   obtain ⟨c6,H⟩ := qo H
   have c6b0 : decide (0 < (a0.size : Int)) = true := decide_eq_true c6
   have c6b1 : decide (0 < a0.size) = true := decide_eq_true (by omega)
   clear c6
   obtain rfl := Option.some.inj H
   go_enter Tryd.func78,Tryd.ntmps78
   go_wp2_with (first | ((with_reducible refine y10 (f := 67) rfl ?_); refine y11 (some 5) rfl rfl Tryd.func67 (by kernel_rfl) rfl #[.int .i64 (a0.size : Int),.int .i64 1,.int .i64 20] rfl qy0 ?_; (with_reducible refine (impl_in.calls (a0.size : Int) 1 20 true _ A2.out).mono ?_); rintro e w' ⟨rfl,⟨nd,rfl⟩⟩; refine ⟨_,rfl, ?_⟩) | (go_at_call 106; (with_reducible refine (impl_nameLong.calls k a0 t255 _ A4.out).mono ?_); rintro e w' ⟨rfl,⟨nd,rfl⟩⟩; have p7 : 0 ≤ (0 : Int) := (by omega); have q7 : 0 < a0.size := qy3; have hx7 : ∀ h : 0 < a0.size,((a0[0]'h).toNat : Int) = bt a0 0 := bt_at a0 0; clear p7; have qi7 : (0 < (a0.size : Int)) = True := eq_true (of_decide_eq_true qy1); replace q7 := eq_true q7))
   go_ret
   exact ⟨by first | rfl | (simp; done) | (simp [*]; done),by repeat (first | exact y1.refl _ | apply y1.step)⟩
  ·rw [if_neg c5] at H
   have c5b0 : (t255 == (a0.size : Int)) = false := beq_eq_false_iff_ne.mpr c5
   have c5b1 : (t255 != (a0.size : Int)) = true := bne_iff_ne.mpr c5
   obtain rfl := Option.some.inj H
   go_enter Tryd.func78,Tryd.ntmps78
   go_wp2_with (first | ((with_reducible refine y10 (f := 67) rfl ?_); refine y11 (some 5) rfl rfl Tryd.func67 (by kernel_rfl) rfl #[.int .i64 (a0.size : Int),.int .i64 1,.int .i64 20] rfl qy0 ?_; (with_reducible refine (impl_in.calls (a0.size : Int) 1 20 true _ A2.out).mono ?_); rintro e w' ⟨rfl,⟨nd,rfl⟩⟩; refine ⟨_,rfl, ?_⟩) | (go_at_call 106; (with_reducible refine (impl_nameLong.calls k a0 t255 _ A4.out).mono ?_); rintro e w' ⟨rfl,⟨nd,rfl⟩⟩))
   go_ret
   exact ⟨by first | rfl | (simp; done) | (simp [*]; done),by repeat (first | exact y1.refl _ | apply y1.step)⟩
 ·replace c3 := Bool.eq_false_iff.mpr c3
  subst c3
  replace H := qF H
  obtain rfl := Option.some.inj H
  go_enter Tryd.func78,Tryd.ntmps78
  go_wp2_with (first | ((with_reducible refine y10 (f := 67) rfl ?_); refine y11 (some 5) rfl rfl Tryd.func67 (by kernel_rfl) rfl #[.int .i64 (a0.size : Int),.int .i64 1,.int .i64 20] rfl qy0 ?_; (with_reducible refine (impl_in.calls (a0.size : Int) 1 20 false _ A2.out).mono ?_); rintro e w' ⟨rfl,⟨nd,rfl⟩⟩; refine ⟨_,rfl, ?_⟩))
  go_ret
  exact ⟨by first | rfl | (simp; done) | (simp [*]; done),by repeat (first | exact y1.refl _ | apply y1.step)⟩
def laws_eqStringS.l0 : Nat → List ByteArray → List ByteArray → Int → Option (Bool)
 | 0,_,_,_ => none
 | k + 1,x0,x1,x5 => if x5 < (x0.length : Int) then (if 0 ≤ x5 then (if x5 < (x1.length : Int) then (if (rdOf ByteArray.empty x0 x5).toList = (rdOf ByteArray.empty x1 x5).toList then (laws_eqStringS.l0 k x0 x1 (wrap64 (x5 + 1))) else (some false)) else (none)) else (none)) else (some true)
def laws_eqStringS.f (k : Nat) (l0 : List ByteArray) (l1 : List ByteArray) : Option (Bool) := if (l0.length : Int) = (l1.length : Int) then (laws_eqStringS.l0 k l0 l1 0) else (some false)
set_option maxHeartbeats 8000000 in
set_option maxRecDepth 100000 in
theorem laws_eqStringS.calls (k : Nat) (A0 : Option Addr) (c0 : Nat) (l0 : List ByteArray) (A1 : Option Addr) (c1 : Nat) (l1 : List ByteArray) (r : Bool) (w : World) (hr0 : Kd.C Kd.string w A0 l0.length l0) (hc0 : l0.length ≤ c0) (hr1 : Kd.C Kd.string w A1 l1.length l1) (hc1 : l1.length ≤ c1) (h : laws_eqStringS.f k l0 l1 = some r) (htrue_ : r = true) :
  Calls Tryd.prog 39 #[.slice A0 l0.length c0,.slice A1 l1.length c1] w fun e w' => e = .returned (.bool r) ∧ y1 w w' := by
 have HR0 := y0.mk hr0
 have HC0 := y0.mk hc0
 clear hr0 hc0
 have HR1 := y0.mk hr1
 have HC1 := y0.mk hc1
 clear hr1 hc1
 have H : (if (l0.length : Int) = (l1.length : Int) then (laws_eqStringS.l0 k l0 l1 0) else (some false)) = some r := h
 clear h
 by_cases c3 : (l0.length : Int) = (l1.length : Int)
 ·rw [if_pos c3] at H
  have c3b0 : ((l0.length : Int) == (l1.length : Int)) = true := beq_iff_eq.mpr c3
  have c3b1 : ((l0.length : Int) != (l1.length : Int)) = false := bne_eq_false_iff_eq.mpr c3
  have c3b2 : (l0.length == l1.length) = true := by first | simpa using c3 | (simp at c3 ⊢; omega)
  clear c3
  have H' := y0.mk H
  clear H
  go_enter Tryd.func39,Tryd.ntmps39
  go_wp2
  repeat (go_quiet (fail); try go_wp2)
  go_loopg [5] k (fun kq v5 w' => ∃ (x5_1 : Int),v5 = .int .i64 x5_1 ∧ y0 (laws_eqStringS.l0 kq l0 l1 x5_1 = some r) ∧ y0 (kq ≤ k) ∧ y1 w w')
  case atStart => exact ⟨(0),qy2,H',⟨Nat.le_refl _⟩,by repeat (first | exact y1.refl _ | apply y1.step)⟩
  case round =>
   clear H'
   (try clear c3b0 c3b1 c3b2)
   obtain ⟨x5_1,rfl,HA,HK1,⟨m1,rfl⟩⟩ := hrel
   cases gk with
   | zero => exact absurd HA.out (by simp [laws_eqStringS.l0])
   | succ k1 =>
    have H := HA.out
    clear HA
    simp only [laws_eqStringS.l0] at H
    by_cases c4 : x5_1 < (l0.length : Int)
    ·rw [if_pos c4] at H
     have c4b0 := decide_eq_true c4
     clear c4
     obtain ⟨c5,H⟩ := qo H
     have c5b0 : decide (0 ≤ x5_1) = true := decide_eq_true c5
     clear c5
     obtain ⟨c6,H⟩ := qo H
     have c6b0 : decide (x5_1 < (l1.length : Int)) = true := decide_eq_true c6
     clear c6
     by_cases c7 : (rdOf ByteArray.empty l0 x5_1).toList = (rdOf ByteArray.empty l1 x5_1).toList
     ·rw [if_pos c7] at H
      have c7b0 : ((rdOf ByteArray.empty l0 x5_1).toList == (rdOf ByteArray.empty l1 x5_1).toList) = true := beq_iff_eq.mpr c7
      have c7b1 : ((rdOf ByteArray.empty l0 x5_1).toList != (rdOf ByteArray.empty l1 x5_1).toList) = false := bne_eq_false_iff_eq.mpr c7
      clear c7
      have H' := y0.mk H
      clear H
      have p260 : 0 ≤ (x5_1 : Int) := of_decide_eq_true qy1
      have q260 : x5_1 < (l0.length : Int) := of_decide_eq_true qy1
      obtain ⟨ad260,e260,hx260_0⟩ := Kd.at_string HR0.out x5_1 p260 q260
      cases e260
      replace p260 := eq_true p260
      replace q260 := eq_true q260
      have p261 : 0 ≤ (x5_1 : Int) := of_decide_eq_true qy1
      have q261 : x5_1 < (l1.length : Int) := of_decide_eq_true qy1
      obtain ⟨ad261,e261,hx261_0⟩ := Kd.at_string HR1.out x5_1 p261 q261
      cases e261
      replace p261 := eq_true p261
      replace q261 := eq_true q261
      go_wp2
      repeat (go_quiet (fail); try go_wp2)
      go_roundg k1
      case measure => have := HK1.out; omega
      exact ⟨(wrap64 (x5_1 + 1)),qy2,H',⟨by have := HK1.out; omega⟩,by repeat (first | exact y1.refl _ | apply y1.step)⟩
     ·rw [if_neg c7] at H
      have c7b0 : ((rdOf ByteArray.empty l0 x5_1).toList == (rdOf ByteArray.empty l1 x5_1).toList) = false := beq_eq_false_iff_ne.mpr c7
      have c7b1 : ((rdOf ByteArray.empty l0 x5_1).toList != (rdOf ByteArray.empty l1 x5_1).toList) = true := bne_iff_ne.mpr c7
      exact absurd ((Option.some.inj H).trans htrue_) (by decide)
    ·rw [if_neg c4] at H
     have c4b0 := decide_eq_false c4
     clear c4
     obtain rfl := Option.some.inj H
     go_wp2
     repeat (go_quiet (fail); try go_wp2)
     go_ret
     exact ⟨by first | rfl | (simp; done) | (simp [*]; done),by repeat (first | exact y1.refl _ | apply y1.step)⟩
 ·rw [if_neg c3] at H
  have c3b0 : ((l0.length : Int) == (l1.length : Int)) = false := beq_eq_false_iff_ne.mpr c3
  have c3b1 : ((l0.length : Int) != (l1.length : Int)) = true := bne_iff_ne.mpr c3
  have c3b2 : (l0.length == l1.length) = false := by first | simpa using c3 | (simp at c3 ⊢; omega)
  exact absurd ((Option.some.inj H).trans htrue_) (by decide)
end Go.Proofs.YtebadckdihgklaaDoor.Pb
end
section
namespace Go.Proofs.YtebadckdihgklaaDoor.Pb
open Go.RowKit Go.Proofs.YtebadckdihgklaaDoorW.PrintWords Go.Proofs.YtebadckdihgklaaDoorW.PrintLast Go.Proofs.YtebadckdihgklaaDoorW.PrintMore
attribute [local go_sem] max2_int min2_int max_two min_two max_three min_three max_four min_four   -- for this text's walks alone
set_option linter.unusedVariables false
set_option linter.unusedSimpArgs false
def spec_TermParts.f (k : Nat) (a0 : ByteArray) : Option (ByteArray × List ByteArray) := (z3_.f k a0).bind fun t277 => (if t277 = 0 then (some ((⟨#[]⟩ : ByteArray),(([] : List ByteArray)))) else (if t277 = 3 then ((z4_.f k a0).bind fun bt281 => (some (bt281.1,bt281.2.1))) else (some (a0,(([] : List ByteArray))))))
set_option maxHeartbeats 8000000 in
set_option maxRecDepth 100000 in
theorem spec_TermParts.calls (k : Nat) (a0 : ByteArray) (r1 : ByteArray) (r2 : List ByteArray) (w : World) (h : spec_TermParts.f k a0 = some (r1,r2)) :
  Calls Tryd.prog 44 #[.string a0] w fun e w' => ∃ v1_ : Value,e = .returned (.tuple #[.string r1,v1_]) ∧ Kd.R Kd.string 9 w' w.heap.size (fun _ => True) v1_ r2 ∧ Below w.heap.size w w' := by
 have HB := y0.mk (Below.refl w.heap.size w)
 have H : ((z3_.f k a0).bind fun t277 => (if t277 = 0 then (some ((⟨#[]⟩ : ByteArray),(([] : List ByteArray)))) else (if t277 = 3 then ((z4_.f k a0).bind fun bt281 => (some (bt281.1,bt281.2.1))) else (some (a0,(([] : List ByteArray))))))) = some (r1,r2) := h
 clear h
 obtain ⟨t277,A2,H⟩ := qB H
 by_cases c3 : t277 = 0
 ·rw [if_pos c3] at H
  have c3b0 : (t277 == 0) = true := beq_iff_eq.mpr c3
  have c3b1 : (t277 != 0) = false := bne_eq_false_iff_eq.mpr c3
  clear c3
  obtain ⟨y278,hy278⟩ : ∃ y_ : List ByteArray,y_ = (([] : List ByteArray)) := ⟨_,rfl⟩
  replace H : (some ((⟨#[]⟩ : ByteArray),y278)) = some (r1,r2) := by first | (rw [hy278]; with_reducible exact H) | (have H2_ := (Option.bind_some _ _).symm.trans H; rw [hy278]; with_reducible exact H2_) | (have H2_ := (Option.bind_some _ _).symm.trans H; with_reducible exact H2_) | with_reducible exact H | (rw [hy278]; exact H) | exact H
  have Ny278 := y0.mk hy278
  clear hy278
  simp only [Option.some.injEq,Prod.mk.injEq] at H
  obtain ⟨rfl,rfl⟩ := H
  go_enter Tryd.func44,Tryd.ntmps44
  go_wp2_with (first | ((with_reducible refine y10 (f := 29) rfl ?_); refine y11 (some 8) rfl rfl Tryd.func29 (by kernel_rfl) rfl #[.string a0] rfl qy0 ?_; (with_reducible refine (z3_.calls k a0 t277 _ A2.out).mono ?_); rintro e w4 ⟨rfl,hb⟩; refine ⟨_,rfl, ?_⟩; replace HB := y0.mk (y5 qb hb); (try clear hb); (try clear hb2); (try clear hk); (try clear hi)) | ((with_reducible refine gate_dst (N := 11) rfl ?_); refine Kd.R_lit Kd.string _ 9 ?hg (N := 11) ?hd (xs := ([] : List ByteArray)) (inner := []) (ok := fun _ => True) (okp := fun _ => True) ?hr ?hp (fun _ hk => hk) trivial (Below.refl _ _) (Nat.le_refl _) (by simp) ?_; (case hd => rfl); (case hg => rfl); (case hr => first | (go_simp; done) | (go_simp; rfl)); (case hp => exact (Reps.none _ _)); intro v279 w5 ho6 hb hg_ hnew_; clear hg_ hnew_; (first | rw [← Ny278.out] at ho6 | (simp only [Int.reduceToNat] at ho6; rw [← Ny278.out] at ho6)); have HO280 := y0.mk (Kd.R_lower ho6 (y4 qb)); replace HB := y0.mk (y5 qb hb); clear hb ho6))
  go_ret2
  exact ⟨_,by first | rfl | (simp [y8,y9] <;> rfl) | (simp [*,y8,y9] <;> rfl),by (with_reducible repeat (first | apply Kd.R_alloc | apply Kd.R_drewN | apply Kd.R_drew)); exact HO280.out,qb⟩
 ·rw [if_neg c3] at H
  have c3b0 : (t277 == 0) = false := beq_eq_false_iff_ne.mpr c3
  have c3b1 : (t277 != 0) = true := bne_iff_ne.mpr c3
  by_cases c7 : t277 = 3
  ·rw [if_pos c7] at H
   have c7b0 : (t277 == 3) = true := beq_iff_eq.mpr c7
   have c7b1 : (t277 != 3) = false := bne_eq_false_iff_eq.mpr c7
   clear c7
   obtain ⟨⟨t281,t282,t283⟩,A8,H⟩ := qB H
   replace H : (some (t281,t282)) = some (r1,r2) := H
   simp only [Option.some.injEq,Prod.mk.injEq] at H
   obtain ⟨rfl,rfl⟩ := H
   go_enter Tryd.func44,Tryd.ntmps44
   go_wp2_with (first | ((with_reducible refine y10 (f := 29) rfl ?_); refine y11 (some 8) rfl rfl Tryd.func29 (by kernel_rfl) rfl #[.string a0] rfl qy0 ?_; (with_reducible refine (z3_.calls k a0 t277 _ A2.out).mono ?_); rintro e w9 ⟨rfl,hb⟩; refine ⟨_,rfl, ?_⟩; replace HB := y0.mk (y5 qb hb); (try clear hb); (try clear hb2); (try clear hk); (try clear hi)) | ((with_reducible refine y10 (f := 74) rfl ?_); refine y11 (some 16) rfl rfl Tryd.func74 (by kernel_rfl) rfl #[.string a0] rfl qy0 ?_; (with_reducible refine (z4_.calls k a0 t281 t282 t283 _ A8.out).mono ?_); rintro e w10 ⟨v284,rfl,ho0,hb⟩; refine ⟨_,rfl, ?_⟩; have HO285 := y0.mk (Kd.R_lower ho0 (y4 qb)); replace HB := y0.mk (y5 qb hb); (try clear hb); (try clear hb2); (try clear hk); (try clear hi); (try clear ho0)))
   go_ret2
   exact ⟨_,by first | rfl | (simp [y8,y9] <;> rfl) | (simp [*,y8,y9] <;> rfl),by (with_reducible repeat (first | apply Kd.R_alloc | apply Kd.R_drewN | apply Kd.R_drew)); exact HO285.out,qb⟩
  ·rw [if_neg c7] at H
   have c7b0 : (t277 == 3) = false := beq_eq_false_iff_ne.mpr c7
   have c7b1 : (t277 != 3) = true := bne_iff_ne.mpr c7
   obtain ⟨y286,hy286⟩ : ∃ y_ : List ByteArray,y_ = (([] : List ByteArray)) := ⟨_,rfl⟩
   replace H : (some (a0,y286)) = some (r1,r2) := by first | (rw [hy286]; with_reducible exact H) | (have H2_ := (Option.bind_some _ _).symm.trans H; rw [hy286]; with_reducible exact H2_) | (have H2_ := (Option.bind_some _ _).symm.trans H; with_reducible exact H2_) | with_reducible exact H | (rw [hy286]; exact H) | exact H
   have Ny286 := y0.mk hy286
   clear hy286
   simp only [Option.some.injEq,Prod.mk.injEq] at H
   obtain ⟨rfl,rfl⟩ := H
   go_enter Tryd.func44,Tryd.ntmps44
   go_wp2_with (first | ((with_reducible refine y10 (f := 29) rfl ?_); refine y11 (some 8) rfl rfl Tryd.func29 (by kernel_rfl) rfl #[.string a0] rfl qy0 ?_; (with_reducible refine (z3_.calls k a0 t277 _ A2.out).mono ?_); rintro e w11 ⟨rfl,hb⟩; refine ⟨_,rfl, ?_⟩; replace HB := y0.mk (y5 qb hb); (try clear hb); (try clear hb2); (try clear hk); (try clear hi)) | ((with_reducible refine gate_dst (N := 23) rfl ?_); refine Kd.R_lit Kd.string _ 9 ?hg (N := 23) ?hd (xs := ([] : List ByteArray)) (inner := []) (ok := fun _ => True) (okp := fun _ => True) ?hr ?hp (fun _ hk => hk) trivial (Below.refl _ _) (Nat.le_refl _) (by simp) ?_; (case hd => rfl); (case hg => rfl); (case hr => first | (go_simp; done) | (go_simp; rfl)); (case hp => exact (Reps.none _ _)); intro v287 w12 ho13 hb hg_ hnew_; clear hg_ hnew_; (first | rw [← Ny286.out] at ho13 | (simp only [Int.reduceToNat] at ho13; rw [← Ny286.out] at ho13)); have HO288 := y0.mk (Kd.R_lower ho13 (y4 qb)); replace HB := y0.mk (y5 qb hb); clear hb ho13))
   go_ret2
   exact ⟨_,by first | rfl | (simp [y8,y9] <;> rfl) | (simp [*,y8,y9] <;> rfl),by (with_reducible repeat (first | apply Kd.R_alloc | apply Kd.R_drewN | apply Kd.R_drew)); exact HO288.out,qb⟩
def strings_Cut.f (a0 a1 : ByteArray) : Option (ByteArray × ByteArray × Bool) := if a0.size < 4294967281 then some (⟨(Lib.cut a0.data.toList a1.data.toList).1.toArray⟩,⟨(Lib.cut a0.data.toList a1.data.toList).2.1.toArray⟩,(Lib.cut a0.data.toList a1.data.toList).2.2) else none
theorem strings_Cut.calls (a0 a1 : ByteArray) (r1 r2 : ByteArray) (r3 : Bool) (w : World) (hT : Tb w) (h : strings_Cut.f a0 a1 = some (r1,r2,r3)) :
  Calls Tryd.prog 107 #[.string a0,.string a1] w fun e w' => e = .returned (.tuple #[.string r1,.string r2,.bool r3]) ∧ y1 w w' := by
 unfold strings_Cut.f at h
 by_cases h0 : a0.size < 4294967281
 ·rw [if_pos h0] at h
  simp only [Option.some.injEq,Prod.mk.injEq] at h
  obtain ⟨rfl,rfl,rfl⟩ := h
  obtain ⟨m,hm⟩ := hT.ml
  refine (Tryd.strings_Cut a0 a1 m w h0 hm).mono ?_
  rintro e w' ⟨rfl,n,rfl⟩
  exact ⟨rfl,⟨⟨n,rfl⟩⟩⟩
 ·rw [if_neg h0] at h
  cases h
def strings_HasPrefix.f (a0 a1 : ByteArray) : Option Bool := some (Lib.hasPrefix a0.data.toList a1.data.toList)
theorem strings_HasPrefix.calls (a0 a1 : ByteArray) (r : Bool) (w : World) (h : strings_HasPrefix.f a0 a1 = some r) :
  Calls Tryd.prog 108 #[.string a0,.string a1] w fun e w' => e = .returned (.bool r) ∧ y1 w w' := by
 obtain rfl := Option.some.inj h
 refine (Tryd.strings_HasPrefix a0 a1 w).mono ?_
 rintro e w' ⟨rfl,rfl⟩
 exact ⟨rfl,y1.refl _⟩
end Go.Proofs.YtebadckdihgklaaDoor.Pb
end
section
namespace Go.Proofs.YtebadckdihgklaaDoor.Pb
open Go.RowKit Go.Proofs.YtebadckdihgklaaDoorW.PrintWords Go.Proofs.YtebadckdihgklaaDoorW.PrintLast Go.Proofs.YtebadckdihgklaaDoorW.PrintMore
attribute [local go_sem] max2_int min2_int max_two min_two max_three min_three max_four min_four   -- for this text's walks alone
set_option linter.unusedVariables false
set_option linter.unusedSimpArgs false
mutual
def z0_.j0 : Nat → ByteArray → ByteArray → ByteArray → Bool → Option (ByteArray × List ByteArray)
 | 0,_,_,_,_ => none
 | k + 1,x0,x4,x5,x22 => if x22 = true then (some (x0,([] : List ByteArray))) else (z0_.l0 k x4 x5 (([] : List ByteArray)))
def z0_.l0 : Nat → ByteArray → ByteArray → List ByteArray → Option (ByteArray × List ByteArray)
 | 0,_,_,_ => none
 | k + 1,x4,x5,x7 => if x5.toList = ([] : List UInt8) then (z0_.j2 k x4 x5 x7 false) else (z0_.j2 k x4 x5 x7 (x5.toList != ([41] : List UInt8)))
def z0_.j2 : Nat → ByteArray → ByteArray → List ByteArray → Bool → Option (ByteArray × List ByteArray)
 | 0,_,_,_,_ => none
 | k + 1,x4,x5,x7,x30 => if x30 = true then ((impl_termAt.f k x5).bind fun bt305 => (if 0 ≤ bt305.2 then (if bt305.2 ≤ (x5.size : Int) then (if x7.length < 8796093022208 then ((some (x7 ++ [x5.extract 0 (bt305.2 : Int).toNat] : List ByteArray)).bind fun y307 => ((strings_HasPrefix.f (x5.extract (bt305.2 : Int).toNat x5.size) (⟨#[44]⟩ : ByteArray)).bind fun t310 => (if t310 = true then (if 1 ≤ ((x5.extract (bt305.2 : Int).toNat x5.size).size : Int) then (z0_.l0 k x4 ((x5.extract (bt305.2 : Int).toNat x5.size).extract 1 (x5.extract (bt305.2 : Int).toNat x5.size).size) y307) else (none)) else (z0_.l0 k x4 (x5.extract (bt305.2 : Int).toNat x5.size) y307)))) else (none)) else (none)) else (none))) else (some (x4,x7))
end
def z0_.f (k : Nat) (a0 : ByteArray) : Option (ByteArray × List ByteArray) := (strings_Cut.f a0 (⟨#[40]⟩ : ByteArray)).bind fun bt298 => ((impl_isBigName.f k bt298.1).bind fun t301 => (if t301 = true then (z0_.j0 k a0 bt298.1 bt298.2.1 (!bt298.2.2)) else (z0_.j0 k a0 bt298.1 bt298.2.1 true)))
set_option maxHeartbeats 8000000 in
set_option maxRecDepth 100000 in
theorem z0_.calls (k : Nat) (a0 : ByteArray) (r1 : ByteArray) (r2 : List ByteArray) (w : World) (hT : Tb w) (h : z0_.f k a0 = some (r1,r2)) :
  Calls Tryd.prog 81 #[.string a0] w fun e w' => ∃ v1_ : Value,e = .returned (.tuple #[.string r1,v1_]) ∧ Kd.R Kd.string 9 w' w.heap.size (fun _ => True) v1_ r2 ∧ Below w.heap.size w w' := by
 have HT := y0.mk hT
 clear hT
 have HB := y0.mk (Below.refl w.heap.size w)
 have H : ((strings_Cut.f a0 (⟨#[40]⟩ : ByteArray)).bind fun bt298 => ((impl_isBigName.f k bt298.1).bind fun t301 => (if t301 = true then (z0_.j0 k a0 bt298.1 bt298.2.1 (!bt298.2.2)) else (z0_.j0 k a0 bt298.1 bt298.2.1 true)))) = some (r1,r2) := h
 clear h
 obtain ⟨⟨t298,t299,t300⟩,A2,H⟩ := qB H
 replace H : ((impl_isBigName.f k t298).bind fun t301 => (if t301 = true then (z0_.j0 k a0 t298 t299 (!t300)) else (z0_.j0 k a0 t298 t299 true))) = some (r1,r2) := H
 have HC3 := y0.mk H
 clear H
 go_enter Tryd.func81,Tryd.ntmps81
 go_upto_region 2 with (first | ((with_reducible refine y10 (f := 107) rfl ?_); refine y11 (some 12) rfl rfl Tryd.func107 (by kernel_rfl) rfl #[.string a0,.string (⟨#[40]⟩ : ByteArray)] rfl qy0 ?_; (with_reducible refine (strings_Cut.calls a0 (⟨#[40]⟩ : ByteArray) t298 t299 t300 _ (by exact Tb.below HT.out qb) A2.out).mono ?_); rintro e w' ⟨rfl,⟨nd,rfl⟩⟩; refine ⟨_,rfl, ?_⟩))
 (try simp only [Act.put,qS_,qZ_,qC_])
 go_cut [22] (fun v22 wc => ∃ (kq : Nat) (x22_2 : Bool),v22 = .bool x22_2 ∧ y0 (z0_.j0 kq a0 t298 t299 x22_2 = some (r1,r2)) ∧ y0 (kq ≤ k) ∧ y0 (Below w.heap.size w wc))
 case first =>
  have H := HC3.out
  clear HC3
  obtain ⟨t301,A4,H⟩ := qB H
  by_cases c5 : t301 = true
  ·subst c5
   replace H := qT H
   have H' := y0.mk H
   clear H
   go_wp2_with (first | ((with_reducible refine y10 (f := 78) rfl ?_); refine y11 (some 17) rfl rfl Tryd.func78 (by kernel_rfl) rfl #[.string t298] rfl qy0 ?_; (with_reducible refine (impl_isBigName.calls k t298 true _ A4.out).mono ?_); rintro e w' ⟨rfl,⟨nd,rfl⟩⟩; refine ⟨_,rfl, ?_⟩))
   go_meet
   exact ⟨_,(!t300),qy2,H',⟨by first | omega | exact Nat.le_refl _⟩,⟨qb⟩⟩
  ·replace c5 := Bool.eq_false_iff.mpr c5
   subst c5
   replace H := qF H
   have H' := y0.mk H
   clear H
   go_wp2_with (first | ((with_reducible refine y10 (f := 78) rfl ?_); refine y11 (some 17) rfl rfl Tryd.func78 (by kernel_rfl) rfl #[.string t298] rfl qy0 ?_; (with_reducible refine (impl_isBigName.calls k t298 false _ A4.out).mono ?_); rintro e w' ⟨rfl,⟨nd,rfl⟩⟩; refine ⟨_,rfl, ?_⟩))
   go_meet
   exact ⟨_,(true),qy2,H',⟨by first | omega | exact Nat.le_refl _⟩,⟨qb⟩⟩
 case rest =>
  clear HC3
  obtain ⟨kq,x22_2,rfl,HA,HJ2,HB⟩ := hcut
  cases kq with
  | zero => exact absurd HA.out (by simp [z0_.j0])
  | succ kj2 =>
   have H := HA.out
   clear HA
   simp only [z0_.j0] at H
   by_cases c6 : x22_2 = true
   ·subst c6
    replace H := qT H
    simp only [Option.some.injEq,Prod.mk.injEq] at H
    obtain ⟨rfl,rfl⟩ := H
    go_wp2
    go_ret2
    exact ⟨_,by first | rfl | (simp [y8,y9] <;> rfl) | (simp [*,y8,y9] <;> rfl),by first | exact Kd.R_nil _ _ _ _ _ | exact Kd.N_nil _ _ _ _ _ | exact Kd.V_nil _ _ _ _ _ | exact Kd.Q_nil _ _ _ _ _ | exact Kd.S_nil _ _ _ _ _,qb⟩
   ·replace c6 := Bool.eq_false_iff.mpr c6
    subst c6
    replace H := qF H
    obtain ⟨y302,hy302⟩ : ∃ y_ : List ByteArray,y_ = (([] : List ByteArray)) := ⟨_,rfl⟩
    replace H : (z0_.l0 kj2 t298 t299 y302) = some (r1,r2) := by first | (rw [hy302]; with_reducible exact H) | (have H2_ := (Option.bind_some _ _).symm.trans H; rw [hy302]; with_reducible exact H2_) | (have H2_ := (Option.bind_some _ _).symm.trans H; with_reducible exact H2_) | with_reducible exact H | (rw [hy302]; exact H) | exact H
    have Ny302 := y0.mk hy302
    clear hy302
    have H' := y0.mk H
    clear H
    go_wp2_with (first | ((with_reducible refine gate_dst (N := 24) rfl ?_); refine Kd.R_lit Kd.string _ 9 ?hg (N := 24) ?hd (xs := ([] : List ByteArray)) (inner := []) (ok := fun _ => True) (okp := fun _ => True) ?hr ?hp (fun _ hk => hk) trivial (Below.refl _ _) (Nat.le_refl _) (by simp) ?_; (case hd => rfl); (case hg => rfl); (case hr => first | (go_simp; done) | (go_simp; rfl)); (case hp => exact (Reps.none _ _)); intro v303 w7 ho8 hb hg_ hnew_; clear hg_ hnew_; (first | rw [← Ny302.out] at ho8 | (simp only [Int.reduceToNat] at ho8; rw [← Ny302.out] at ho8)); have HO304 := y0.mk (Kd.R_lower ho8 (y4 qb)); replace HB := y0.mk (y5 qb hb); clear hb ho8))
    go_loopg [5,7] kj2 (fun kq v5 v7 w' => ∃ (x5_2 : ByteArray) (x7_2 : List ByteArray),v5 = .string x5_2 ∧ y0 (z0_.l0 kq t298 x5_2 x7_2 = some (r1,r2)) ∧ y0 (kq ≤ kj2) ∧ y0 (Kd.R Kd.string 9 w' w.heap.size (fun _ => True) v7 x7_2) ∧ y0 (Below w.heap.size w w'))
    case atStart => exact ⟨(t299),(y302),qy2,H',⟨Nat.le_refl _⟩,⟨qR HO304.out⟩,⟨qb⟩⟩
    case round =>
     clear H'
     (try clear c6)
     obtain ⟨x5_2,x7_2,rfl,HA,HK2,HO_7,HB⟩ := hrel
     cases gk with
     | zero => exact absurd HA.out (by simp [z0_.l0])
     | succ k2 =>
      have H := HA.out
      clear HA
      simp only [z0_.l0] at H
      have HC9 := y0.mk H
      clear H
      go_upto_region 5 with (fail)
      go_cut [30] (fun v30 wc => ∃ (kq : Nat) (x30_8 : Bool),v30 = .bool x30_8 ∧ y0 (z0_.j2 kq t298 x5_2 x7_2 x30_8 = some (r1,r2)) ∧ y0 (kq ≤ k2) ∧ y0 (Kd.R Kd.string 9 wc w.heap.size (fun _ => True) u7 x7_2) ∧ y0 (Below w.heap.size w wc))
      case first =>
       have H := HC9.out
       clear HC9
       by_cases c10 : x5_2.toList = ([] : List UInt8)
       ·rw [if_pos c10] at H
        have c10b0 : (x5_2.toList == ([] : List UInt8)) = true := beq_iff_eq.mpr c10
        have c10b1 : (x5_2.toList != ([] : List UInt8)) = false := bne_eq_false_iff_eq.mpr c10
        clear c10
        (first | rw [c10b0] | (simp only [y13,y12]; rw [c10b0]) | skip)
        have H' := y0.mk H
        clear H
        go_wp2
        go_meet
        exact ⟨_,(false),qy2,H',⟨by have := HJ2.out; have := HK2.out; first | omega | exact Nat.le_refl _⟩,⟨qR HO_7.out⟩,⟨qb⟩⟩
       ·rw [if_neg c10] at H
        have c10b0 : (x5_2.toList == ([] : List UInt8)) = false := beq_eq_false_iff_ne.mpr c10
        have c10b1 : (x5_2.toList != ([] : List UInt8)) = true := bne_iff_ne.mpr c10
        (first | rw [c10b0] | (simp only [y13,y12]; rw [c10b0]) | skip)
        have H' := y0.mk H
        clear H
        go_wp2
        go_meet
        exact ⟨_,((x5_2.toList != ([41] : List UInt8))),qy2,H',⟨by have := HJ2.out; have := HK2.out; first | omega | exact Nat.le_refl _⟩,⟨qR HO_7.out⟩,⟨qb⟩⟩
      case rest =>
       clear HC9
       obtain ⟨kq,x30_8,rfl,HA,HJ8,HO_7,HB⟩ := hcut
       cases kq with
       | zero => exact absurd HA.out (by simp [z0_.j2])
       | succ kj8 =>
        have H := HA.out
        clear HA
        simp only [z0_.j2] at H
        by_cases c11 : x30_8 = true
        ·subst c11
         replace H := qT H
         obtain ⟨⟨t305,t306⟩,A12,H⟩ := qB H
         replace H : (if 0 ≤ t306 then (if t306 ≤ (x5_2.size : Int) then (if x7_2.length < 8796093022208 then ((some (x7_2 ++ [x5_2.extract 0 (t306 : Int).toNat] : List ByteArray)).bind fun y307 => ((strings_HasPrefix.f (x5_2.extract (t306 : Int).toNat x5_2.size) (⟨#[44]⟩ : ByteArray)).bind fun t310 => (if t310 = true then (if 1 ≤ ((x5_2.extract (t306 : Int).toNat x5_2.size).size : Int) then (z0_.l0 kj8 t298 ((x5_2.extract (t306 : Int).toNat x5_2.size).extract 1 (x5_2.extract (t306 : Int).toNat x5_2.size).size) y307) else (none)) else (z0_.l0 kj8 t298 (x5_2.extract (t306 : Int).toNat x5_2.size) y307)))) else (none)) else (none)) else (none)) = some (r1,r2) := H
         obtain ⟨c13,H⟩ := qo H
         have c13b0 := eq_true c13
         have c13b1 := decide_eq_true c13
         clear c13
         obtain ⟨c14,H⟩ := qo H
         have c14b0 := eq_true c14
         have c14b1 := decide_eq_true c14
         clear c14
         obtain ⟨c15,H⟩ := qo H
         have LMc15 := y0.mk c15
         clear c15
         obtain ⟨y307,hy307⟩ : ∃ y_ : List ByteArray,y_ = (x7_2 ++ [x5_2.extract 0 (t306 : Int).toNat]) := ⟨_,rfl⟩
         replace H : ((strings_HasPrefix.f (x5_2.extract (t306 : Int).toNat x5_2.size) (⟨#[44]⟩ : ByteArray)).bind fun t310 => (if t310 = true then (if 1 ≤ ((x5_2.extract (t306 : Int).toNat x5_2.size).size : Int) then (z0_.l0 kj8 t298 ((x5_2.extract (t306 : Int).toNat x5_2.size).extract 1 (x5_2.extract (t306 : Int).toNat x5_2.size).size) y307) else (none)) else (z0_.l0 kj8 t298 (x5_2.extract (t306 : Int).toNat x5_2.size) y307))) = some (r1,r2) := by first | (rw [hy307]; with_reducible exact H) | (have H2_ := (Option.bind_some _ _).symm.trans H; rw [hy307]; with_reducible exact H2_) | (have H2_ := (Option.bind_some _ _).symm.trans H; with_reducible exact H2_) | with_reducible exact H | (rw [hy307]; exact H) | exact H
         have Ny307 := y0.mk hy307
         clear hy307
         have c16b0 := eq_true (of_decide_eq_true qy1 : 0 ≤ t306)
         have c17b0 := eq_true (of_decide_eq_true qy1 : t306 ≤ (x5_2.size : Int))
         obtain ⟨t310,A18,H⟩ := qB H
         by_cases c19 : t310 = true
         ·subst c19
          replace H := qT H
          obtain ⟨c20,H⟩ := qo H
          have c20b0 := eq_true c20
          have c20b1 := decide_eq_true c20
          have c20b4 : ((1 : Int) ≤ ((x5_2.size - (t306 : Int).toNat : Nat) : Int)) = True := eq_true (by have h_ := c20; simp only [ByteArray.size_extract] at h_; omega)
          have c20b5 : (((x5_2.size - (t306 : Int).toNat : Nat) : Int) < 1) = False := eq_false (by have h_ := c20; simp only [ByteArray.size_extract] at h_; omega)
          clear c20
          have H' := y0.mk H
          clear H
          go_wp2_with (first | ((with_reducible refine y10 (f := 101) rfl ?_); refine y11 (some 33) rfl rfl Tryd.func101 (by kernel_rfl) rfl #[.string x5_2] rfl qy0 ?_; (with_reducible refine (impl_termAt.calls kj8 x5_2 t305 t306 _ (by exact Tb.below HT.out qb) A12.out).mono ?_); rintro e w21 ⟨rfl,hb⟩; refine ⟨_,rfl, ?_⟩; replace HO_7 := y0.mk (Kd.R_below (qR HO_7.out) hb); replace HB := y0.mk (y5 qb hb); (try clear hb); (try clear hb2); (try clear hk); (try clear hi)) | ((with_reducible refine gate_builtin (b := .append) (xs := #[.tmp 36,.tmp 40]) rfl ?_); at_builtin; refine Kd.R_append Kd.string (w0 := w) w.heap.size rfl (.tmp 36) (.tmp 40) 31 9 (.string ⟨#[]⟩) 16 rfl Tryd.underlying31 info9 rfl (by decide) (by omega) u7 x7_2 (x5_2.extract 0 (t306 : Int).toNat) [.string (x5_2.extract 0 (t306 : Int).toNat)] (fun _ => True) (fun _ => False) rfl rfl ?aP (fun _ hk => hk.elim) ?aF ?aO ?aB ?aS ?aL ?_; (case aP => exact rfl); (case aB => exact qb); (case aF => exact (fun _ _ => trivial)); (case aO => exact (qR HO_7.out)); (case aS => exact (y4 qb)); (case aL => have := LMc15.out; omega); intro v308 w22 ho hb hg hat; rw [← Ny307.out] at ho; replace HB := y0.mk (hb); have HO309 := y0.mk (ho); clear HO_7; clear ho hb hg hat) | ((with_reducible refine y10 (f := 108) rfl ?_); refine y11 (some 46) rfl rfl Tryd.func108 (by kernel_rfl) rfl #[.string (x5_2.extract (t306 : Int).toNat x5_2.size),.string (⟨#[44]⟩ : ByteArray)] rfl qy0 ?_; (with_reducible refine (strings_HasPrefix.calls (x5_2.extract (t306 : Int).toNat x5_2.size) (⟨#[44]⟩ : ByteArray) true _ A18.out).mono ?_); rintro e w' ⟨rfl,⟨nd,rfl⟩⟩; refine ⟨_,rfl, ?_⟩))
          go_roundg kj8
          case measure => have := HJ2.out; have := HK2.out; have := HJ8.out; omega
          exact ⟨((x5_2.extract (t306 : Int).toNat x5_2.size).extract 1 (x5_2.extract (t306 : Int).toNat x5_2.size).size),(y307),qy2,H',⟨by have := HJ2.out; have := HK2.out; have := HJ8.out; omega⟩,⟨qR HO309.out⟩,⟨qb⟩⟩
         ·replace c19 := Bool.eq_false_iff.mpr c19
          subst c19
          replace H := qF H
          have H' := y0.mk H
          clear H
          go_wp2_with (first | ((with_reducible refine y10 (f := 101) rfl ?_); refine y11 (some 33) rfl rfl Tryd.func101 (by kernel_rfl) rfl #[.string x5_2] rfl qy0 ?_; (with_reducible refine (impl_termAt.calls kj8 x5_2 t305 t306 _ (by exact Tb.below HT.out qb) A12.out).mono ?_); rintro e w23 ⟨rfl,hb⟩; refine ⟨_,rfl, ?_⟩; replace HO_7 := y0.mk (Kd.R_below (qR HO_7.out) hb); replace HB := y0.mk (y5 qb hb); (try clear hb); (try clear hb2); (try clear hk); (try clear hi)) | ((with_reducible refine gate_builtin (b := .append) (xs := #[.tmp 36,.tmp 40]) rfl ?_); at_builtin; refine Kd.R_append Kd.string (w0 := w) w.heap.size rfl (.tmp 36) (.tmp 40) 31 9 (.string ⟨#[]⟩) 16 rfl Tryd.underlying31 info9 rfl (by decide) (by omega) u7 x7_2 (x5_2.extract 0 (t306 : Int).toNat) [.string (x5_2.extract 0 (t306 : Int).toNat)] (fun _ => True) (fun _ => False) rfl rfl ?aP (fun _ hk => hk.elim) ?aF ?aO ?aB ?aS ?aL ?_; (case aP => exact rfl); (case aB => exact qb); (case aF => exact (fun _ _ => trivial)); (case aO => exact (qR HO_7.out)); (case aS => exact (y4 qb)); (case aL => have := LMc15.out; omega); intro v308 w24 ho hb hg hat; rw [← Ny307.out] at ho; replace HB := y0.mk (hb); have HO309 := y0.mk (ho); clear HO_7; clear ho hb hg hat) | ((with_reducible refine y10 (f := 108) rfl ?_); refine y11 (some 46) rfl rfl Tryd.func108 (by kernel_rfl) rfl #[.string (x5_2.extract (t306 : Int).toNat x5_2.size),.string (⟨#[44]⟩ : ByteArray)] rfl qy0 ?_; (with_reducible refine (strings_HasPrefix.calls (x5_2.extract (t306 : Int).toNat x5_2.size) (⟨#[44]⟩ : ByteArray) false _ A18.out).mono ?_); rintro e w' ⟨rfl,⟨nd,rfl⟩⟩; refine ⟨_,rfl, ?_⟩))
          go_roundg kj8
          case measure => have := HJ2.out; have := HK2.out; have := HJ8.out; omega
          exact ⟨(x5_2.extract (t306 : Int).toNat x5_2.size),(y307),qy2,H',⟨by have := HJ2.out; have := HK2.out; have := HJ8.out; omega⟩,⟨qR HO309.out⟩,⟨qb⟩⟩
        ·replace c11 := Bool.eq_false_iff.mpr c11
         subst c11
         replace H := qF H
         simp only [Option.some.injEq,Prod.mk.injEq] at H
         obtain ⟨rfl,rfl⟩ := H
         go_wp2
         go_ret2
         exact ⟨_,by first | rfl | (simp [y8,y9] <;> rfl) | (simp [*,y8,y9] <;> rfl),by (with_reducible repeat (first | apply Kd.R_alloc | apply Kd.R_drewN | apply Kd.R_drew)); exact HO_7.out,qb⟩
end Go.Proofs.YtebadckdihgklaaDoor.Pb
end
section
namespace Go.Proofs.YtebadckdihgklaaDoor.Pb
open Go.RowKit Go.Proofs.YtebadckdihgklaaDoorW.PrintWords Go.Proofs.YtebadckdihgklaaDoorW.PrintLast Go.Proofs.YtebadckdihgklaaDoorW.PrintMore
attribute [local go_sem] max2_int min2_int max_two min_two max_three min_three max_four min_four   -- for this text's walks alone
set_option linter.unusedVariables false
set_option linter.unusedSimpArgs false
def spec_l01Sign.f (a0 : Int) : Option (Int) := if a0 < 0 then (some (-1)) else (if a0 > 0 then (some 1) else (some 0))
set_option maxHeartbeats 8000000 in
set_option maxRecDepth 100000 in
theorem spec_l01Sign.calls (a0 : Int) (r : Int) (w : World) (h : spec_l01Sign.f a0 = some r) :
  Calls Tryd.prog 112 #[.int .i64 a0] w fun e w' => e = .returned (.int .i64 r) ∧ y1 w w' := by
 have H : (if a0 < 0 then (some (-1)) else (if a0 > 0 then (some 1) else (some 0))) = some r := h
 clear h
 by_cases c2 : a0 < 0
 ·rw [if_pos c2] at H
  have c2b0 := decide_eq_true c2
  clear c2
  obtain rfl := Option.some.inj H
  go_enter Tryd.func112,Tryd.ntmps112
  go_wp2
  go_ret
  exact ⟨by first | rfl | (simp; done) | (simp [*]; done),by repeat (first | exact y1.refl _ | apply y1.step)⟩
 ·rw [if_neg c2] at H
  have c2b0 := decide_eq_false c2
  clear c2
  by_cases c3 : a0 > 0
  ·rw [if_pos c3] at H
   have c3b0 : decide (0 < a0) = true := decide_eq_true c3
   clear c3
   obtain rfl := Option.some.inj H
   go_enter Tryd.func112,Tryd.ntmps112
   go_wp2
   go_ret
   exact ⟨by first | rfl | (simp; done) | (simp [*]; done),by repeat (first | exact y1.refl _ | apply y1.step)⟩
  ·rw [if_neg c3] at H
   have c3b0 : decide (0 < a0) = false := decide_eq_false c3
   clear c3
   obtain rfl := Option.some.inj H
   go_enter Tryd.func112,Tryd.ntmps112
   go_wp2
   go_ret
   exact ⟨by first | rfl | (simp; done) | (simp [*]; done),by repeat (first | exact y1.refl _ | apply y1.step)⟩
def spec_l01Texts.f (a0 : ByteArray) (a1 : ByteArray) : Option (Int) := if (Op.bytesLess a0.toList a1.toList) = true then (some (-1)) else (if (Op.bytesLess a1.toList a0.toList) = true then (some 1) else (some 0))
theorem spec_l01Texts.bl : ∀ x y : List UInt8,(!(Op.bytesLess x y || x == y)) = Op.bytesLess y x
 | [],[] => rfl
 | [],b :: y => rfl
 | a :: x,[] => rfl
 | a :: x,b :: y => by
  have ih := spec_l01Texts.bl x y
  have e1 : (decide (a < b)) = (decide (a.toNat < b.toNat)) := rfl
  have e2 : (decide (b < a)) = (decide (b.toNat < a.toNat)) := rfl
  rw [Op.bytesLess,Op.bytesLess,e1,e2,← ih]
  by_cases h : a = b
  ·subst h
   simp
  ·have hn : a.toNat ≠ b.toNat := fun h' => h (UInt8.toNat_inj.1 h')
   have h1 : (a == b) = false := by simpa using h
   have h2 : (b == a) = false := by simpa using fun h' => h (Eq.symm h')
   have h3 : ((a :: x) == (b :: y)) = false := by simp [h]
   rw [h1,h2,h3]
   by_cases hl : a.toNat < b.toNat
   ·have : ¬ b.toNat < a.toNat := by omega
    simp [hl,this]
   ·have : b.toNat < a.toNat := by omega
    simp [hl,this]
theorem spec_l01Texts.gtr (t : TypeId) (a b : ByteArray) : binOp .gtr t (.string a) (.string b) = pure (.bool (Op.bytesLess b.toList a.toList)) := by
 rw [← spec_l01Texts.bl]
 simp [binOp,Op.stringOp]
attribute [local go_sem] spec_l01Texts.gtr
set_option maxHeartbeats 8000000 in
set_option maxRecDepth 100000 in
theorem spec_l01Texts.calls (a0 : ByteArray) (a1 : ByteArray) (r : Int) (w : World) (h : spec_l01Texts.f a0 a1 = some r) :
  Calls Tryd.prog 113 #[.string a0,.string a1] w fun e w' => e = .returned (.int .i64 r) ∧ y1 w w' := by
 have H : (if (Op.bytesLess a0.toList a1.toList) = true then (some (-1)) else (if (Op.bytesLess a1.toList a0.toList) = true then (some 1) else (some 0))) = some r := h
 clear h
 by_cases c3 : (Op.bytesLess a0.toList a1.toList) = true
 ·rw [if_pos c3] at H
  have c3b0 : (Op.bytesLess a0.toList a1.toList) = true := c3
  clear c3
  obtain rfl := Option.some.inj H
  go_enter Tryd.func113,Tryd.ntmps113
  go_wp2
  go_ret
  exact ⟨by first | rfl | (simp; done) | (simp [*]; done),by repeat (first | exact y1.refl _ | apply y1.step)⟩
 ·rw [if_neg c3] at H
  have c3b0 : (Op.bytesLess a0.toList a1.toList) = false := by simpa using c3
  clear c3
  by_cases c4 : (Op.bytesLess a1.toList a0.toList) = true
  ·rw [if_pos c4] at H
   have c4b0 : (Op.bytesLess a1.toList a0.toList) = true := c4
   clear c4
   obtain rfl := Option.some.inj H
   go_enter Tryd.func113,Tryd.ntmps113
   go_wp2
   go_ret
   exact ⟨by first | rfl | (simp; done) | (simp [*]; done),by repeat (first | exact y1.refl _ | apply y1.step)⟩
  ·rw [if_neg c4] at H
   have c4b0 : (Op.bytesLess a1.toList a0.toList) = false := by simpa using c4
   clear c4
   obtain rfl := Option.some.inj H
   go_enter Tryd.func113,Tryd.ntmps113
   go_wp2
   go_ret
   exact ⟨by first | rfl | (simp; done) | (simp [*]; done),by repeat (first | exact y1.refl _ | apply y1.step)⟩
end Go.Proofs.YtebadckdihgklaaDoor.Pb
end

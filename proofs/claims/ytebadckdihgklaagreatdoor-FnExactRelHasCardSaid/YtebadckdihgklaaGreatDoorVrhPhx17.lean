-- Cut by prune.py, a program of this session, out of the texts of this claim: Lean checks it.
import Derived.Test.YtebadckdihgklaaGreatDoorVrhPhx0
import Derived.Test.YtebadckdihgklaaGreatDoorVrhPhx10
import Derived.Test.YtebadckdihgklaaGreatDoorVrhPhx14
section
namespace Go.Proofs.YtebadckdihgklaaGreatDoor.Ph
open Go.RowKit Go.Proofs.YtebadckdihgklaaGreatDoorW.PrintWords Go.Proofs.YtebadckdihgklaaGreatDoorW.PrintLast Go.Proofs.YtebadckdihgklaaGreatDoorW.PrintMore
attribute [local go_sem] max2_int min2_int max_two min_two max_three min_three max_four min_four   -- for this text's walks alone
set_option linter.unusedVariables false
set_option linter.unusedSimpArgs false
mutual
def impl_isRel.j0 : Nat → Bool → Int → List (S35) → Option (Bool)
 | 0,_,_,_ => none
 | k + 1,x14,x333000,x333001 => if x14 = true then (some false) else (impl_isRel.l0 k x333001 (x333001.length : Int) 0 x333000 x333001)
def impl_isRel.l0 : Nat → List (S35) → Int → Int → Int → List (S35) → Option (Bool)
 | 0,_,_,_,_,_ => none
 | k + 1,x16,x17,x18,x333000,x333001 => if x18 < x17 then (if 0 ≤ x18 then (if x18 < (x16.length : Int) then ((impl_isTuple.f k ((y24 x16 x18).f0)).bind fun t336 => (if t336 = true then (if (((y24 x16 x18).f0).length : Int) = x333000 then (if x18 > 0 then (if 0 ≤ (wrap64 (x18 - 1)) then (if (wrap64 (x18 - 1)) < (x333001.length : Int) then ((impl_compareTuples.f k ((y24 x333001 (wrap64 (x18 - 1))).f0) ((y24 x16 x18).f0)).bind fun t338 => (if t338 ≥ 0 then (some false) else (impl_isRel.l0 k x16 x17 (wrap64 (x18 + 1)) x333000 x333001))) else (none)) else (none)) else (impl_isRel.l0 k x16 x17 (wrap64 (x18 + 1)) x333000 x333001)) else (some false)) else (some false))) else (none)) else (none)) else (some true)
end
def impl_isRel.f (k : Nat) (a0_0 : Int) (l0_1 : List (S35)) : Option (Bool) := (impl_in.f a0_0 0 6).bind fun t333 => (if t333 = true then (impl_isRel.j0 k (decide ((l0_1.length : Int) > 400)) a0_0 l0_1) else (impl_isRel.j0 k true a0_0 l0_1))
def impl_isRel.T6 : Bool × List (List Nat × List Nat) := (true,[([],[]),([0],[0]),([1],[1]),([2,1],[2]),([3],[3]),([4,3],[3,4]),([5,3],[3,5]),([3],[3]),([7,3],[3,7]),([6,8,3],[3,6,8]),([3,9],[3,9]),([10,3],[10]),([11],[11]),([12,11],[11,12]),([13,11,11],[11,13]),([14],[14]),([15,14],[14,15]),([14],[14]),([17,14],[14,17]),([16,18,14],[14,16,18]),([19,14],[14,19]),([14],[14]),([20,21,14,14],[14,20,21]),([22,14],[14,22]),([14,23,11],[11,14,23]),([11,24],[11,24])])
def impl_isRel.B6 : List Nat := [0,1,3,7,15,31,63,15,143,511,1023,2047,4095,8191,16383,32767,65535,32767,163839,524287,1048575,32767,4194303,8388607,16777215,33554431]
theorem impl_isRel.tab6 : rtab .any (opsOf Tryz.f48 6) = impl_isRel.T6 := by kernel_rfl
theorem impl_isRel.bits6 : waitsOk impl_isRel.T6.2 impl_isRel.B6 = true := by kernel_rfl
set_option maxHeartbeats 8000000 in
set_option maxRecDepth 100000 in
theorem impl_isRel.calls (k : Nat) (a0_0 : Int) (A0_1 : Option Addr) (c0_1 : Nat) (l0_1 : List (S35)) (r : Bool) (w : World) (hr0_1 : Kd.C k35 w A0_1 l0_1.length l0_1) (hc0_1 : l0_1.length ≤ c0_1) (hT : Tb w) (h : impl_isRel.f k a0_0 l0_1 = some r) :
  Calls Tryz.prog 48 #[.agg #[.int .i64 a0_0,.slice A0_1 l0_1.length c0_1]] w fun e w' => e = .returned (.bool r) ∧ Below w.heap.size w w' := by
 have hu33 := Tryz.underlying33
 have hu35 := Tryz.underlying35
 have HT := y0.mk hT
 clear hT
 have HR0_1 := y0.mk hr0_1
 have HC0_1 := y0.mk hc0_1
 clear hr0_1 hc0_1
 have HB := y0.mk (Below.refl w.heap.size w)
 have H : ((impl_in.f a0_0 0 6).bind fun t333 => (if t333 = true then (impl_isRel.j0 k (decide ((l0_1.length : Int) > 400)) a0_0 l0_1) else (impl_isRel.j0 k true a0_0 l0_1))) = some r := h
 clear h
 have HC2 := y0.mk H
 clear H
 go_enter Tryz.func48,Tryz.ntmps48
 go_upto_region 1 with (first | ((with_reducible refine y18 (N := 1) rfl ?_); (try (refine gate_guard (by rfl) ?_; dsimp only)); refine y14 ?hg (N := 1) ?hd (cs := #[.int .i64 a0_0,.slice A0_1 l0_1.length c0_1]) (t := 33) ?hr ?_; (case hd => rfl); (case hg => rfl); (case hr => first | (go_simp; done) | (go_simp; rfl)); intro gb332 hg w3 hbox hb; have n0_ := y0.mk (y7 (by repeat (first | (with_reducible first | exact HB.out | apply y3 | apply y23 | apply y4) | exact HB.out)) hb); have n1_ := y0.mk (hbox); have n2_ := y0.mk ((by rw [hg]; exact (y6 (by repeat (first | (with_reducible first | exact HB.out | apply y3 | apply y23 | apply y4) | exact HB.out))) : w.heap.size ≤ gb332)); have n3_ := y0.mk ((by rw [hg]; exact (y6 (by repeat (first | (with_reducible first | exact HB.out | apply y3 | apply y23 | apply y4) | exact HB.out))) : w.heap.size ≤ gb332)); clear HB; have HB := n0_; have BK332 := n1_; have GW332 := n2_; have GE332 := n3_; clear n0_ n1_ n2_ n3_; clear hb hbox hg))
 (try simp only [Act.put,qS_,qZ_,qC_])
 go_cut [14] (fun v14 wc => ∃ (kq : Nat) (x14_1 : Bool),v14 = .bool x14_1 ∧ y0 (impl_isRel.j0 kq x14_1 a0_0 l0_1 = some r) ∧ y0 (kq ≤ k) ∧ y0 (wc.heap[gb332]? = some (.cells #[.int .i64 a0_0,(.slice A0_1 l0_1.length c0_1)] 33 (0,0))) ∧ y0 (Below w.heap.size w wc))
 case first =>
  have H := HC2.out
  clear HC2
  replace H := Option.bind_eq_some_iff.mp H
  obtain ⟨t333,A40,H⟩ := H
  replace H : (if t333 = true then (impl_isRel.j0 k (decide ((l0_1.length : Int) > 400)) a0_0 l0_1) else (impl_isRel.j0 k true a0_0 l0_1)) = some r := H
  have A4 := y0.mk A40
  clear A40
  by_cases c5 : t333 = true
  ·subst c5
   have H1 : (impl_isRel.j0 k (decide ((l0_1.length : Int) > 400)) a0_0 l0_1) = some r := by rw [if_pos rfl] at H; exact H
   clear H
   have H := H1
   clear H1
   have H' := y0.mk H
   clear H
   have hcz6_0 : w3.cell? ⟨gb332,0,none⟩ = some (.int .i64 a0_0) := (y10 BK332.out 0).trans rfl
   have hcz6_1 : w3.cell? ⟨gb332,1,none⟩ = some (.slice A0_1 l0_1.length c0_1) := (y10 BK332.out 1).trans rfl
   have hfz6_0 := y13 BK332.out 0
   have hfz6_1 := y13 BK332.out 1
   go_wp2_with (first | ((with_reducible refine y17 (f := 76) rfl ?_); refine y19 (some 7) rfl rfl Tryz.func76 (by kernel_rfl) rfl #[.int .i64 a0_0,.int .i64 0,.int .i64 6] rfl (by (try simp only [qM_,List.map_cons,List.map_nil]); first | done | rfl | (simp only [qD_,qT_]; rfl)) ?_; (with_reducible refine (impl_in.calls a0_0 0 6 true _ A4.out).mono ?_); rintro e w' ⟨rfl,⟨nd,rfl⟩⟩; refine ⟨_,rfl, ?_⟩))
   go_meet
   case rel => exact ⟨_,(decide ((l0_1.length : Int) > 400)),(by first | rfl | (simp; done) | (simp [*]; done)),H',⟨by first | omega | exact Nat.le_refl _⟩,⟨by (with_reducible repeat (first | refine y12 ?_ _ | refine y11 ?_ | refine y8 ?_ _)); exact BK332.out⟩,⟨by repeat (first | (with_reducible first | exact HB.out | apply y3 | apply y23 | apply y4 | refine y5 ?_ GE332.out) | exact HB.out)⟩⟩
  ·replace c5 := Bool.eq_false_iff.mpr c5
   subst c5
   have H1 : (impl_isRel.j0 k true a0_0 l0_1) = some r := by rw [if_neg (show ¬ (false = true) by decide)] at H; exact H
   clear H
   have H := H1
   clear H1
   have H' := y0.mk H
   clear H
   have hcz7_0 : w3.cell? ⟨gb332,0,none⟩ = some (.int .i64 a0_0) := (y10 BK332.out 0).trans rfl
   have hcz7_1 : w3.cell? ⟨gb332,1,none⟩ = some (.slice A0_1 l0_1.length c0_1) := (y10 BK332.out 1).trans rfl
   have hfz7_0 := y13 BK332.out 0
   have hfz7_1 := y13 BK332.out 1
   go_wp2_with (first | ((with_reducible refine y17 (f := 76) rfl ?_); refine y19 (some 7) rfl rfl Tryz.func76 (by kernel_rfl) rfl #[.int .i64 a0_0,.int .i64 0,.int .i64 6] rfl (by (try simp only [qM_,List.map_cons,List.map_nil]); first | done | rfl | (simp only [qD_,qT_]; rfl)) ?_; (with_reducible refine (impl_in.calls a0_0 0 6 false _ A4.out).mono ?_); rintro e w' ⟨rfl,⟨nd,rfl⟩⟩; refine ⟨_,rfl, ?_⟩))
   go_meet
   case rel => exact ⟨_,(true),(by first | rfl | (simp; done) | (simp [*]; done)),H',⟨by first | omega | exact Nat.le_refl _⟩,⟨by (with_reducible repeat (first | refine y12 ?_ _ | refine y11 ?_ | refine y8 ?_ _)); exact BK332.out⟩,⟨by repeat (first | (with_reducible first | exact HB.out | apply y3 | apply y23 | apply y4 | refine y5 ?_ GE332.out) | exact HB.out)⟩⟩
 case rest =>
  clear HC2
  try clear p2
  try clear c4
  try clear c5
  try clear c7
  try clear hcz6_0
  try clear hcz6_1
  try clear hcz7_0
  try clear hcz7_1
  try clear hfz6_0
  try clear hfz6_1
  try clear hfz7_0
  try clear hfz7_1
  obtain ⟨kq,x14_1,rfl,HA,HJ1,BK332,HB⟩ := hcut
  cases kq with
  | zero => exact absurd HA.out (by simp [impl_isRel.j0])
  | succ kj1 =>
   have H := HA.out
   clear HA
   simp only [impl_isRel.j0] at H
   by_cases c8 : x14_1 = true
   ·subst c8
    have H1 : (some false) = some r := by rw [if_pos rfl] at H; exact H
    clear H
    have H := H1
    clear H1
    obtain rfl := Option.some.inj H
    go_wp2
    go_ret
    exact ⟨by first | rfl | (simp [y15,y16] <;> rfl) | (simp [*,y15,y16] <;> rfl),by repeat (first | (with_reducible first | exact HB.out | apply y3 | apply y23 | apply y4 | refine y5 ?_ GE332.out) | exact HB.out)⟩
   ·replace c8 := Bool.eq_false_iff.mpr c8
    subst c8
    have H1 : (impl_isRel.l0 kj1 l0_1 (l0_1.length : Int) 0 a0_0 l0_1) = some r := by rw [if_neg (show ¬ (false = true) by decide)] at H; exact H
    clear H
    have H := H1
    clear H1
    have H' := y0.mk H
    clear H
    have hcz9_0 : wc.cell? ⟨gb332,0,none⟩ = some (.int .i64 a0_0) := (y10 BK332.out 0).trans rfl
    have hcz9_1 : wc.cell? ⟨gb332,1,none⟩ = some (.slice A0_1 l0_1.length c0_1) := (y10 BK332.out 1).trans rfl
    have hfz9_0 := y13 BK332.out 0
    have hfz9_1 := y13 BK332.out 1
    go_wp2
    go_loopg [18] kj1 (fun kq v18 w' => ∃ (x18_2 : Int),v18 = .int .i64 x18_2 ∧ y0 (impl_isRel.l0 kq l0_1 (l0_1.length : Int) x18_2 a0_0 l0_1 = some r) ∧ y0 (kq ≤ kj1) ∧ y0 (w'.heap[gb332]? = some (.cells #[.int .i64 a0_0,(.slice A0_1 l0_1.length c0_1)] 33 (0,0))) ∧ y0 (Below w.heap.size w w'))
    case atStart => exact ⟨(0),(by first | rfl | (simp; done) | (simp [*]; done)),H',⟨Nat.le_refl _⟩,⟨by (with_reducible repeat (first | refine y12 ?_ _ | refine y11 ?_ | refine y8 ?_ _)); exact BK332.out⟩,⟨by repeat (first | (with_reducible first | exact HB.out | apply y3 | apply y23 | apply y4 | refine y5 ?_ GE332.out) | exact HB.out)⟩⟩
    case round =>
     clear H'
     try clear p2
     try clear c4
     try clear c5
     try clear c7
     try clear c8
     try clear hcz6_0
     try clear hcz6_1
     try clear hcz7_0
     try clear hcz7_1
     try clear hcz9_0
     try clear hcz9_1
     try clear hfz6_0
     try clear hfz6_1
     try clear hfz7_0
     try clear hfz7_1
     try clear hfz9_0
     try clear hfz9_1
     try clear p2
     obtain ⟨x18_2,rfl,HA,HK2,BK332,HB⟩ := hrel
     cases gk with
     | zero => exact absurd HA.out (by simp [impl_isRel.l0])
     | succ k2 =>
      have H := HA.out
      clear HA
      simp only [impl_isRel.l0] at H
      by_cases c10 : x18_2 < (l0_1.length : Int)
      ·as_aux_lemma =>
       rw [if_pos c10] at H
       have c10b0 : decide (x18_2 < (l0_1.length : Int)) = true := decide_eq_true c10
       clear c10
       by_cases c11 : 0 ≤ x18_2
       ·as_aux_lemma =>
        rw [if_pos c11] at H
        have c11b0 : decide (0 ≤ x18_2) = true := decide_eq_true c11
        clear c11
        by_cases c12 : x18_2 < (l0_1.length : Int)
        ·as_aux_lemma =>
         rw [if_pos c12] at H
         have c12b0 : decide (x18_2 < (l0_1.length : Int)) = true := decide_eq_true c12
         clear c12
         replace H := Option.bind_eq_some_iff.mp H
         obtain ⟨t336,A130,H⟩ := H
         replace H : (if t336 = true then (if (((y24 l0_1 x18_2).f0).length : Int) = a0_0 then (if x18_2 > 0 then (if 0 ≤ (wrap64 (x18_2 - 1)) then (if (wrap64 (x18_2 - 1)) < (l0_1.length : Int) then ((impl_compareTuples.f k2 ((y24 l0_1 (wrap64 (x18_2 - 1))).f0) ((y24 l0_1 x18_2).f0)).bind fun t338 => (if t338 ≥ 0 then (some false) else (impl_isRel.l0 k2 l0_1 (l0_1.length : Int) (wrap64 (x18_2 + 1)) a0_0 l0_1))) else (none)) else (none)) else (impl_isRel.l0 k2 l0_1 (l0_1.length : Int) (wrap64 (x18_2 + 1)) a0_0 l0_1)) else (some false)) else (some false)) = some r := H
         have A13 := y0.mk A130
         clear A130
         by_cases c14 : t336 = true
         ·subst c14
          have H1 : (if (((y24 l0_1 x18_2).f0).length : Int) = a0_0 then (if x18_2 > 0 then (if 0 ≤ (wrap64 (x18_2 - 1)) then (if (wrap64 (x18_2 - 1)) < (l0_1.length : Int) then ((impl_compareTuples.f k2 ((y24 l0_1 (wrap64 (x18_2 - 1))).f0) ((y24 l0_1 x18_2).f0)).bind fun t338 => (if t338 ≥ 0 then (some false) else (impl_isRel.l0 k2 l0_1 (l0_1.length : Int) (wrap64 (x18_2 + 1)) a0_0 l0_1))) else (none)) else (none)) else (impl_isRel.l0 k2 l0_1 (l0_1.length : Int) (wrap64 (x18_2 + 1)) a0_0 l0_1)) else (some false)) = some r := by rw [if_pos rfl] at H; exact H
          clear H
          have H := H1
          clear H1
          by_cases c15 : (((y24 l0_1 x18_2).f0).length : Int) = a0_0
          ·as_aux_lemma =>
           rw [if_pos c15] at H
           have c15b0 : ((((y24 l0_1 x18_2).f0).length : Int) == a0_0) = true := beq_iff_eq.mpr c15
           have c15b1 : ((((y24 l0_1 x18_2).f0).length : Int) != a0_0) = false := bne_eq_false_iff_eq.mpr c15
           clear c15
           by_cases c16 : x18_2 > 0
           ·as_aux_lemma =>
            rw [if_pos c16] at H
            have c16b0 : decide (0 < x18_2) = true := decide_eq_true c16
            clear c16
            obtain ⟨ji17,hji17⟩ : ∃ j_ : Int,(wrap64 (x18_2 - 1)) = j_ := ⟨_,rfl⟩
            replace H : (if 0 ≤ (ji17) then (if (ji17) < (l0_1.length : Int) then ((impl_compareTuples.f k2 ((y24 l0_1 (ji17)).f0) ((y24 l0_1 x18_2).f0)).bind fun t338 => (if t338 ≥ 0 then (some false) else (impl_isRel.l0 k2 l0_1 (l0_1.length : Int) (wrap64 (x18_2 + 1)) a0_0 l0_1))) else (none)) else (none)) = some r := by first | (rw [hji17] at H; exact H) | (simp only [hji17] at H ⊢; exact H)
            (try rw [hji17] at A13)
            have hji17w : (IntKind.i64.wrap (x18_2 - 1)) = ji17 := (y21 _).trans hji17
            by_cases c18 : 0 ≤ (ji17)
            ·as_aux_lemma =>
             rw [if_pos c18] at H
             have c18b0 : decide (0 ≤ (ji17)) = true := decide_eq_true c18
             clear c18
             by_cases c19 : (ji17) < (l0_1.length : Int)
             ·as_aux_lemma =>
              rw [if_pos c19] at H
              have c19b0 : decide ((ji17) < (l0_1.length : Int)) = true := decide_eq_true c19
              clear c19
              replace H := Option.bind_eq_some_iff.mp H
              obtain ⟨t338,A200,H⟩ := H
              replace H : (if t338 ≥ 0 then (some false) else (impl_isRel.l0 k2 l0_1 (l0_1.length : Int) (wrap64 (x18_2 + 1)) a0_0 l0_1)) = some r := H
              have A20 := y0.mk A200
              clear A200
              by_cases c21 : t338 ≥ 0
              ·as_aux_lemma =>
               rw [if_pos c21] at H
               have c21b0 : decide (0 ≤ t338) = true := decide_eq_true c21
               clear c21
               obtain rfl := Option.some.inj H
               have p334 : 0 ≤ (x18_2 : Int) := of_decide_eq_true (by first | (with_reducible assumption) | assumption)
               have q334 : x18_2 < (l0_1.length : Int) := of_decide_eq_true (by first | (with_reducible assumption) | assumption)
               obtain ⟨ad334,A334_0,c334_0,e334,hx334_0,hl334_0,hi334_0⟩ := at_T35 HR0_1.out x18_2 p334 q334
               cases e334
               replace hx334_0 := (HB.out.cell (World.block_lt_of_cell? w _ hx334_0)).trans hx334_0
               have HR334_0 := y0.mk hi334_0
               have HC334_0 := y0.mk hl334_0
               clear hi334_0 hl334_0
               replace p334 := eq_true p334
               replace q334 := eq_true q334
               try go_wp2_with (first | ((with_reducible refine y18 (N := 4) rfl ?_); (try (refine gate_guard (by rfl) ?_; dsimp only)); refine y14 ?hg (N := 4) ?hd (cs := #[.slice none 0 0]) (t := 35) ?hr ?_; (case hd => rfl); (case hg => rfl); (case hr => first | (go_simp; done) | (go_simp; rfl)); intro gb335 hg w22 hbox hb; have n0_ := y0.mk (y9 (g := gb332) (o := .cells #[.int .i64 a0_0,.slice (some ad334) l0_1.length c0_1] 33 (0,0)) (by (with_reducible repeat (first | refine y12 ?_ _ | refine y11 ?_ | refine y8 ?_ _)); exact BK332.out) hb); have n1_ := y0.mk (y7 (by repeat (first | (with_reducible first | exact HB.out | apply y3 | apply y23 | apply y4 | refine y5 ?_ GE332.out) | exact HB.out)) hb); have n2_ := y0.mk (hbox); have n3_ := y0.mk ((by rw [hg]; exact (y6 (by repeat (first | (with_reducible first | exact HB.out | apply y3 | apply y23 | apply y4 | refine y5 ?_ GE332.out) | exact HB.out))) : w.heap.size ≤ gb335)); have n4_ := y0.mk ((by rw [hg]; exact (y6 (by repeat (first | (with_reducible first | exact HB.out | apply y3 | apply y23 | apply y4 | refine y5 ?_ GE332.out) | exact HB.out))) : w.heap.size ≤ gb335)); have n5_ := y0.mk ((by rw [hg]; exact Nat.ne_of_lt (blk_lt (g := gb332) (o := .cells #[.int .i64 a0_0,.slice (some ad334) l0_1.length c0_1] 33 (0,0)) (by (with_reducible repeat (first | refine y12 ?_ _ | refine y11 ?_ | refine y8 ?_ _)); exact BK332.out)) : gb332 ≠ gb335)); have n6_ := y0.mk ((by rw [hg]; exact Nat.ne_of_gt (blk_lt (g := gb332) (o := .cells #[.int .i64 a0_0,.slice (some ad334) l0_1.length c0_1] 33 (0,0)) (by (with_reducible repeat (first | refine y12 ?_ _ | refine y11 ?_ | refine y8 ?_ _)); exact BK332.out)) : gb335 ≠ gb332)); clear BK332; clear HB; have BK332 := n0_; have HB := n1_; have BK335 := n2_; have GW335 := n3_; have GE335 := n4_; have NB332_335 := n5_; have NB335_332 := n6_; clear n0_ n1_ n2_ n3_ n4_ n5_ n6_; clear hb hbox hg; have hnb23 := NB335_332.out; have hnc23 := NB332_335.out; have hcz24_0 : w22.cell? ⟨gb335,0,none⟩ = some (.slice none 0 0) := (y10 BK335.out 0).trans rfl; have hfz24_0 := y13 BK335.out 0))
               have n0_ : y0 ((w22.setCell ⟨gb335,0,none⟩ (.slice A334_0 ((y24 l0_1 x18_2).f0).length c334_0)).heap[gb332]? = some (.cells #[.int .i64 a0_0,.slice (some ad334) l0_1.length c0_1] 33 (0,0))) := ⟨by (with_reducible repeat (first | refine y12 ?_ _ | refine y11 ?_ | refine y8 ?_ _)); refine blk_far ?_ NB332_335.out _; (with_reducible repeat (first | refine y12 ?_ _ | refine y11 ?_ | refine y8 ?_ _)); exact BK332.out⟩
               have n1_ : y0 ((w22.setCell ⟨gb335,0,none⟩ (.slice A334_0 ((y24 l0_1 x18_2).f0).length c334_0)).heap[gb335]? = some (.cells #[.slice A334_0 ((y24 l0_1 x18_2).f0).length c334_0] 35 (0,0))) := ⟨by (with_reducible repeat (first | refine y12 ?_ _ | refine y11 ?_ | refine y8 ?_ _)); refine blk_put (cs := #[.slice none 0 0]) ?_ 0 _ rfl; (with_reducible repeat (first | refine y12 ?_ _ | refine y11 ?_ | refine y8 ?_ _)); exact BK335.out⟩
               have n2_ : y0 (Below w.heap.size w (w22.setCell ⟨gb335,0,none⟩ (.slice A334_0 ((y24 l0_1 x18_2).f0).length c334_0))) := ⟨by repeat (first | (with_reducible first | exact HB.out | apply y3 | apply y23 | apply y4 | refine y5 ?_ GE332.out | refine y5 ?_ GE335.out) | exact HB.out)⟩
               (try clear BK332)
               (try clear BK335)
               (try clear HB)
               generalize (w22.setCell ⟨gb335,0,none⟩ (.slice A334_0 ((y24 l0_1 x18_2).f0).length c334_0)) = w25 at n0_ n1_ n2_ ⊢
               have BK332 := n0_
               have BK335 := n1_
               have HB := n2_
               clear n0_ n1_ n2_
               have n0_ := y0.mk (y11 BK332.out)
               have n1_ := y0.mk (y11 BK335.out)
               have n2_ := y0.mk (y4 HB.out)
               clear BK332
               clear BK335
               clear HB
               have BK332 := n0_
               have BK335 := n1_
               have HB := n2_
               clear n0_ n1_ n2_
               have p337 : 0 ≤ ((ji17) : Int) := of_decide_eq_true (by first | (with_reducible assumption) | assumption)
               have q337 : (ji17) < (l0_1.length : Int) := of_decide_eq_true (by first | (with_reducible assumption) | assumption)
               obtain ⟨ad337,A337_0,c337_0,e337,hx337_0,hl337_0,hi337_0⟩ := at_T35 HR0_1.out (ji17) p337 q337
               have hw337_0 := hx337_0
               obtain rfl : ad334 = ad337 := (by injection e337)
               replace hx337_0 := (HB.out.cell (World.block_lt_of_cell? w _ hx337_0)).trans hx337_0
               have HR337_0 := y0.mk hi337_0
               have HC337_0 := y0.mk hl337_0
               clear hi337_0 hl337_0
               replace p337 := eq_true p337
               replace q337 := eq_true q337
               refine start_ (n := 26) (S := fun w' => w'.cell? ⟨gb335,0,none⟩ = some (.slice A334_0 ((y24 l0_1 x18_2).f0).length c334_0) ∧ w'.cell? ⟨gb332,0,none⟩ = some (.int .i64 a0_0) ∧ w'.cell? ⟨gb332,1,none⟩ = some (.slice (some ad334) l0_1.length c0_1) ∧ w'.cell? (ad334.add ((ji17)).toNat) = some (.slice A337_0 ((y24 l0_1 (ji17)).f0).length c337_0)) (ds := []) (fl_ 26 0) (by kernel_rfl) rfl rfl ⟨(y10 BK335.out 0).trans rfl,(y10 BK332.out 0).trans rfl,(y10 BK332.out 1).trans rfl,((HB.out.cell (World.block_lt_of_cell? w _ hw337_0)).trans hw337_0)⟩ (fun hHeld => ?_); refine with_tabW impl_isRel.tab6 impl_isRel.bits6 (fun HT_ HW_ => ?_)
               generalize w25.drew = w26 at BK332 BK335 HB HR337_0 hx337_0 hHeld ⊢
               refine take_ (i := 0) (N := some 23) (v := ?_) (a' := ?_) (fl_ 26 1) rfl rfl (y26 HT_.out HW_.out (by kernel_rfl)) (fun _ _ _ h => h) (Or.inl ⟨by rfl, ?_⟩) hHeld ?_ ?_
               rotate_left
               ·rintro w' ⟨s0,s1,s2,s3⟩
                go_simp
                with_reducible rfl
               rotate_left
               ·simp only [Act.put,qS_,qZ_,qC_,y21,y20]
                rfl
               refine one_ (i := 1) (N := some 24) (fl_ 26 3) rfl rfl (one_of HT_.out (by kernel_rfl)) (by decide) (fun K hK => ?_)
               refine goes_ Tryz.func66 (by kernel_rfl) rfl #[.agg #[.slice A334_0 ((y24 l0_1 x18_2).f0).length c334_0]] (by rfl) rfl rfl (by (try simp only [qM_,List.map_cons,List.map_nil]); first | done | rfl | (simp only [qD_,qT_]; rfl)) ?_
               with_reducible refine (impl_isTuple.calls k2 _ _ ((y24 l0_1 x18_2).f0) true _ ?side1 ?side2 ?side3 A13.out).mono ?_
               (case side1 => repeat (first | exact (Kd.C_below HR334_0.out HB.out) | (with_reducible refine Kd.C_alloc ?_ _) | (with_reducible refine Kd.C_drewN ?_ _) | (with_reducible refine Kd.C_drew ?_)))
               (case side2 => exact HC334_0.out)
               (case side3 => exact Tb.below HT.out (by repeat (first | (with_reducible first | exact HB.out | apply y3 | apply y23 | apply y4 | refine y5 ?_ GE332.out | refine y5 ?_ GE335.out) | exact HB.out)))
               rintro e w27 ⟨rfl,hb⟩
               refine ⟨_,rfl, ?_⟩
               have n0_ := y0.mk (y9 (g := gb332) (o := .cells #[.int .i64 a0_0,.slice (some ad334) l0_1.length c0_1] 33 (0,0)) (by (with_reducible repeat (first | refine y12 ?_ _ | refine y11 ?_ | refine y8 ?_ _)); exact BK332.out) hb)
               have n1_ := y0.mk (y9 (g := gb335) (o := .cells #[.slice A334_0 ((y24 l0_1 x18_2).f0).length c334_0] 35 (0,0)) (by (with_reducible repeat (first | refine y12 ?_ _ | refine y11 ?_ | refine y8 ?_ _)); exact BK335.out) hb)
               have n2_ := y0.mk (y7 (by repeat (first | (with_reducible first | exact HB.out | apply y3 | apply y23 | apply y4 | refine y5 ?_ GE332.out | refine y5 ?_ GE335.out) | exact HB.out)) hb)
               clear BK332
               clear BK335
               clear HB
               have BK332 := n0_
               have BK335 := n1_
               have HB := n2_
               clear n0_ n1_ n2_
               (try clear hb)
               (try clear hb2)
               (try clear hk)
               (try clear hi)
               refine hK.out _ _ ⟨(y10 BK335.out 0).trans rfl,(y10 BK332.out 0).trans rfl,(y10 BK332.out 1).trans rfl,((HB.out.cell (World.block_lt_of_cell? w _ hw337_0)).trans hw337_0)⟩ (fun hHeld => ?_)
               clear hK K
               refine norm_ (a' := ?_) ?_ ?_
               rotate_left
               ·show Act.put _ (some 24) _ = _
                simp only [Act.put,qS_,qZ_,qC_,y21,y20]
                rfl
               refine y22 (i := 2) (N := some 25) (v := ?_) (a' := ?_) (fl_ 26 7) rfl rfl (y2 HT_.out (by kernel_rfl)) (fun _ _ _ h => h) (Or.inl ⟨by rfl, ?_⟩) ?_ ?_
               rotate_left
               ·intro w'
                go_simp
                with_reducible rfl
               rotate_left
               ·simp only [Act.put,qS_,qZ_,qC_,y21,y20]
                rfl
               refine y22 (i := 3) (N := some 26) (v := ?_) (a' := ?_) (fl_ 26 15) rfl rfl (y2 HT_.out (by kernel_rfl)) (fun _ _ _ h => h) (Or.inl ⟨by rfl, ?_⟩) ?_ ?_
               rotate_left
               ·intro w'
                go_simp
                with_reducible rfl
               rotate_left
               ·simp only [Act.put,qS_,qZ_,qC_,y21,y20]
                rfl
               refine y22 (i := 4) (N := some 27) (v := ?_) (a' := ?_) (fl_ 26 31) rfl rfl (y2 HT_.out (by kernel_rfl)) (fun _ _ _ h => h) (Or.inl ⟨by rfl, ?_⟩) ?_ ?_
               rotate_left
               ·intro w'
                go_simp
                with_reducible rfl
               rotate_left
               ·simp only [Act.put,qS_,qZ_,qC_,y21,y20]
                rfl
               refine y22 (i := 7) (N := some 30) (v := ?_) (a' := ?_) (fl_ 26 159) rfl rfl (y2 HT_.out (by kernel_rfl)) (fun _ _ _ h => h) (Or.inl ⟨by rfl, ?_⟩) ?_ ?_
               rotate_left
               ·intro w'
                go_simp
                with_reducible rfl
               rotate_left
               ·simp only [Act.put,qS_,qZ_,qC_,y21,y20]
                rfl
               refine take_ (i := 5) (N := some 28) (v := ?_) (a' := ?_) (fl_ 26 191) rfl rfl (y26 HT_.out HW_.out (by kernel_rfl)) (fun _ _ _ h => h) (Or.inl ⟨by rfl, ?_⟩) hHeld ?_ ?_
               rotate_left
               ·rintro w' ⟨s0,s1,s2,s3⟩
                go_simp
                with_reducible rfl
               rotate_left
               ·simp only [Act.put,qS_,qZ_,qC_,y21,y20]
                rfl
               refine y22 (i := 6) (N := some 29) (v := ?_) (a' := ?_) (fl_ 26 255) rfl rfl (y2 HT_.out (by kernel_rfl)) (fun _ _ _ h => h) (Or.inl ⟨by rfl, ?_⟩) ?_ ?_
               rotate_left
               ·intro w'
                go_simp
                with_reducible rfl
               rotate_left
               ·simp only [Act.put,qS_,qZ_,qC_,y21,y20]
                rfl
               refine take_ (i := 8) (N := some 31) (v := ?_) (a' := ?_) (fl_ 26 511) rfl rfl (y26 HT_.out HW_.out (by kernel_rfl)) (fun _ _ _ h => h) (Or.inl ⟨by rfl, ?_⟩) hHeld ?_ ?_
               rotate_left
               ·rintro w' ⟨s0,s1,s2,s3⟩
                go_simp
                with_reducible rfl
               rotate_left
               ·simp only [Act.put,qS_,qZ_,qC_,y21,y20]
                rfl
               refine y22 (i := 9) (N := some 32) (v := ?_) (a' := ?_) (fl_ 26 1023) rfl rfl (y2 HT_.out (by kernel_rfl)) (fun _ _ _ h => h) (Or.inl ⟨by rfl, ?_⟩) ?_ ?_
               rotate_left
               ·intro w'
                go_simp
                with_reducible rfl
               rotate_left
               ·simp only [Act.put,qS_,qZ_,qC_,y21,y20]
                rfl
               refine y22 (i := 10) (N := some 33) (v := ?_) (a' := ?_) (fl_ 26 2047) rfl rfl (y2 HT_.out (by kernel_rfl)) (fun _ _ _ h => h) (Or.inl ⟨by rfl, ?_⟩) ?_ ?_
               rotate_left
               ·intro w'
                go_simp
                with_reducible rfl
               rotate_left
               ·simp only [Act.put,qS_,qZ_,qC_,y21,y20]
                rfl
               refine y22 (i := 11) (N := some 34) (v := ?_) (a' := ?_) (fl_ 26 4095) rfl rfl (y2 HT_.out (by kernel_rfl)) (fun _ _ _ h => h) (Or.inl ⟨by rfl, ?_⟩) ?_ ?_
               rotate_left
               ·intro w'
                go_simp
                with_reducible rfl
               rotate_left
               ·simp only [Act.put,qS_,qZ_,qC_,y21,y20]
                rfl
               refine y22 (i := 12) (N := some 35) (v := ?_) (a' := ?_) (fl_ 26 8191) rfl rfl (y2 HT_.out (by kernel_rfl)) (fun _ _ _ h => h) (Or.inl ⟨by rfl, ?_⟩) ?_ ?_
               rotate_left
               ·intro w'
                go_simp
                with_reducible rfl
               rotate_left
               ·simp only [Act.put,qS_,qZ_,qC_,y21,y20]
                rfl
               refine y22 (i := 13) (N := some 36) (v := ?_) (a' := ?_) (fl_ 26 16383) rfl rfl (y2 HT_.out (by kernel_rfl)) (fun _ _ _ h => h) (Or.inl ⟨by rfl, ?_⟩) ?_ ?_
               rotate_left
               ·intro w'
                go_simp
                with_reducible rfl
               rotate_left
               ·simp only [Act.put,qS_,qZ_,qC_,y21,y20]
                rfl
               refine y22 (i := 14) (N := some 37) (v := ?_) (a' := ?_) (fl_ 26 32767) rfl rfl (y2 HT_.out (by kernel_rfl)) (fun _ _ _ h => h) (Or.inl ⟨by rfl, ?_⟩) ?_ ?_
               rotate_left
               ·intro w'
                go_simp
                with_reducible rfl
               rotate_left
               ·simp only [Act.put,qS_,qZ_,qC_,y21,y20]
                rfl
               refine y22 (i := 15) (N := some 38) (v := ?_) (a' := ?_) (fl_ 26 65535) rfl rfl (y2 HT_.out (by kernel_rfl)) (fun _ _ _ h => h) (Or.inl ⟨by rfl, ?_⟩) ?_ ?_
               rotate_left
               ·intro w'
                go_simp
                with_reducible rfl
               rotate_left
               ·simp only [Act.put,qS_,qZ_,qC_,y21,y20]
                rfl
               refine y22 (i := 17) (N := some 40) (v := ?_) (a' := ?_) (fl_ 26 196607) rfl rfl (y2 HT_.out (by kernel_rfl)) (fun _ _ _ h => h) (Or.inl ⟨by rfl, ?_⟩) ?_ ?_
               rotate_left
               ·intro w'
                go_simp
                with_reducible rfl
               rotate_left
               ·simp only [Act.put,qS_,qZ_,qC_,y21,y20]
                rfl
               refine y22 (i := 18) (N := some 41) (v := ?_) (a' := ?_) (fl_ 26 458751) rfl rfl (y2 HT_.out (by kernel_rfl)) (fun _ _ _ h => h) (Or.inl ⟨by rfl, ?_⟩) ?_ ?_
               rotate_left
               ·intro w'
                go_simp
                with_reducible rfl
               rotate_left
               ·simp only [Act.put,qS_,qZ_,qC_,y21,y20]
                rfl
               refine take_ (i := 16) (N := some 39) (v := ?_) (a' := ?_) (fl_ 26 524287) rfl rfl (y26 HT_.out HW_.out (by kernel_rfl)) (fun _ _ _ h => h) (Or.inl ⟨by rfl, ?_⟩) hHeld ?_ ?_
               rotate_left
               ·rintro w' ⟨s0,s1,s2,s3⟩
                go_simp
                with_reducible rfl
               rotate_left
               ·simp only [Act.put,qS_,qZ_,qC_,y21,y20]
                rfl
               refine y22 (i := 19) (N := some 42) (v := ?_) (a' := ?_) (fl_ 26 1048575) rfl rfl (y2 HT_.out (by kernel_rfl)) (fun _ _ _ h => h) (Or.inl ⟨by rfl, ?_⟩) ?_ ?_
               rotate_left
               ·intro w'
                go_simp
                with_reducible rfl
               rotate_left
               ·simp only [Act.put,qS_,qZ_,qC_,y21,y20]
                rfl
               refine take_ (i := 20) (N := some 43) (v := ?_) (a' := ?_) (fl_ 26 2097151) rfl rfl (y26 HT_.out HW_.out (by kernel_rfl)) (fun _ _ _ h => h) (Or.inl ⟨by rfl, ?_⟩) hHeld ?_ ?_
               rotate_left
               ·rintro w' ⟨s0,s1,s2,s3⟩
                go_simp
                with_reducible rfl
               rotate_left
               ·simp only [Act.put,qS_,qZ_,qC_,y21,y20]
                rfl
               refine take_ (i := 21) (N := some 44) (v := ?_) (a' := ?_) (fl_ 26 4194303) rfl rfl (y26 HT_.out HW_.out (by kernel_rfl)) (fun _ _ _ h => h) (Or.inl ⟨by rfl, ?_⟩) hHeld ?_ ?_
               rotate_left
               ·rintro w' ⟨s0,s1,s2,s3⟩
                go_simp
                with_reducible rfl
               rotate_left
               ·simp only [Act.put,qS_,qZ_,qC_,y21,y20]
                rfl
               refine one_ (i := 22) (N := some 45) (fl_ 26 8388607) rfl rfl (one_of HT_.out (by kernel_rfl)) (by decide) (fun K hK => ?_)
               refine goes_ Tryz.func68 (by kernel_rfl) rfl #[.agg #[.slice A337_0 ((y24 l0_1 (ji17)).f0).length c337_0],.agg #[.slice A334_0 ((y24 l0_1 x18_2).f0).length c334_0]] (by rfl) rfl rfl (by (try simp only [qM_,List.map_cons,List.map_nil]); first | done | (simp only [hji17]; rfl) | rfl | (simp only [qD_,qT_]; rfl)) ?_
               with_reducible refine (impl_compareTuples.calls k2 _ _ ((y24 l0_1 (ji17)).f0) _ _ ((y24 l0_1 x18_2).f0) t338 _ ?side1 ?side2 ?side3 ?side4 ?side5 A20.out).mono ?_
               (case side1 => repeat (first | exact (Kd.C_below HR337_0.out HB.out) | (with_reducible refine Kd.C_alloc ?_ _) | (with_reducible refine Kd.C_drewN ?_ _) | (with_reducible refine Kd.C_drew ?_)))
               (case side2 => exact HC337_0.out)
               (case side3 => repeat (first | exact (Kd.C_below HR334_0.out HB.out) | (with_reducible refine Kd.C_alloc ?_ _) | (with_reducible refine Kd.C_drewN ?_ _) | (with_reducible refine Kd.C_drew ?_)))
               (case side4 => exact HC334_0.out)
               (case side5 => exact Tb.below HT.out (by repeat (first | (with_reducible first | exact HB.out | apply y3 | apply y23 | apply y4 | refine y5 ?_ GE332.out | refine y5 ?_ GE335.out) | exact HB.out)))
               rintro e w28 ⟨rfl,hb⟩
               refine ⟨_,rfl, ?_⟩
               have n0_ := y0.mk (y9 (g := gb332) (o := .cells #[.int .i64 a0_0,.slice (some ad334) l0_1.length c0_1] 33 (0,0)) (by (with_reducible repeat (first | refine y12 ?_ _ | refine y11 ?_ | refine y8 ?_ _)); exact BK332.out) hb)
               have n1_ := y0.mk (y9 (g := gb335) (o := .cells #[.slice A334_0 ((y24 l0_1 x18_2).f0).length c334_0] 35 (0,0)) (by (with_reducible repeat (first | refine y12 ?_ _ | refine y11 ?_ | refine y8 ?_ _)); exact BK335.out) hb)
               have n2_ := y0.mk (y7 (by repeat (first | (with_reducible first | exact HB.out | apply y3 | apply y23 | apply y4 | refine y5 ?_ GE332.out | refine y5 ?_ GE335.out) | exact HB.out)) hb)
               clear BK332
               clear BK335
               clear HB
               have BK332 := n0_
               have BK335 := n1_
               have HB := n2_
               clear n0_ n1_ n2_
               (try clear hb)
               (try clear hb2)
               (try clear hk)
               (try clear hi)
               refine hK.out _ _ ⟨(y10 BK335.out 0).trans rfl,(y10 BK332.out 0).trans rfl,(y10 BK332.out 1).trans rfl,((HB.out.cell (World.block_lt_of_cell? w _ hw337_0)).trans hw337_0)⟩ (fun hHeld => ?_)
               clear hK K
               refine norm_ (a' := ?_) ?_ ?_
               rotate_left
               ·show Act.put _ (some 45) _ = _
                simp only [Act.put,qS_,qZ_,qC_,y21,y20]
                rfl
               refine y22 (i := 23) (N := some 46) (v := ?_) (a' := ?_) (fl_ 26 16777215) rfl rfl (y2 HT_.out (by kernel_rfl)) (fun _ _ _ h => h) (Or.inl ⟨by rfl, ?_⟩) ?_ ?_
               rotate_left
               ·intro w'
                go_simp
                with_reducible rfl
               rotate_left
               ·simp only [Act.put,qS_,qZ_,qC_,y21,y20]
                rfl
               refine y22 (i := 24) (N := some 47) (v := ?_) (a' := ?_) (fl_ 26 33554431) rfl rfl (y2 HT_.out (by kernel_rfl)) (fun _ _ _ h => h) (Or.inl ⟨by rfl, ?_⟩) ?_ ?_
               rotate_left
               ·intro w'
                go_simp
                with_reducible rfl
               rotate_left
               ·simp only [Act.put,qS_,qZ_,qC_,y21,y20]
                rfl
               refine y22 (i := 25) (N := some 48) (v := ?_) (a' := ?_) (fl_ 26 67108863) rfl rfl (y2 HT_.out (by kernel_rfl)) (fun _ _ _ h => h) (Or.inl ⟨by rfl, ?_⟩) ?_ ?_
               rotate_left
               ·intro w'
                go_simp
                with_reducible rfl
               rotate_left
               ·simp only [Act.put,qS_,qZ_,qC_,y21,y20]
                rfl
               refine done_ (done_of HT_.out (by kernel_rfl)) ?_
               try go_wp2
               go_ret
               exact ⟨by first | rfl | (simp [y15,y16] <;> rfl) | (simp only [← hji17]; first | rfl | (simp [y15,y16] <;> rfl)) | (simp [*,y15,y16] <;> rfl),by repeat (first | (with_reducible first | exact HB.out | apply y3 | apply y23 | apply y4 | refine y5 ?_ GE332.out | refine y5 ?_ GE335.out) | exact HB.out)⟩
              ·as_aux_lemma =>
               rw [if_neg c21] at H
               have c21b0 : decide (0 ≤ t338) = false := decide_eq_false c21
               clear c21
               have H' := y0.mk H
               clear H
               have p334 : 0 ≤ (x18_2 : Int) := of_decide_eq_true (by first | (with_reducible assumption) | assumption)
               have q334 : x18_2 < (l0_1.length : Int) := of_decide_eq_true (by first | (with_reducible assumption) | assumption)
               obtain ⟨ad334,A334_0,c334_0,e334,hx334_0,hl334_0,hi334_0⟩ := at_T35 HR0_1.out x18_2 p334 q334
               cases e334
               replace hx334_0 := (HB.out.cell (World.block_lt_of_cell? w _ hx334_0)).trans hx334_0
               have HR334_0 := y0.mk hi334_0
               have HC334_0 := y0.mk hl334_0
               clear hi334_0 hl334_0
               replace p334 := eq_true p334
               replace q334 := eq_true q334
               try go_wp2_with (first | ((with_reducible refine y18 (N := 4) rfl ?_); (try (refine gate_guard (by rfl) ?_; dsimp only)); refine y14 ?hg (N := 4) ?hd (cs := #[.slice none 0 0]) (t := 35) ?hr ?_; (case hd => rfl); (case hg => rfl); (case hr => first | (go_simp; done) | (go_simp; rfl)); intro gb335 hg w29 hbox hb; have n0_ := y0.mk (y9 (g := gb332) (o := .cells #[.int .i64 a0_0,.slice (some ad334) l0_1.length c0_1] 33 (0,0)) (by (with_reducible repeat (first | refine y12 ?_ _ | refine y11 ?_ | refine y8 ?_ _)); exact BK332.out) hb); have n1_ := y0.mk (y7 (by repeat (first | (with_reducible first | exact HB.out | apply y3 | apply y23 | apply y4 | refine y5 ?_ GE332.out) | exact HB.out)) hb); have n2_ := y0.mk (hbox); have n3_ := y0.mk ((by rw [hg]; exact (y6 (by repeat (first | (with_reducible first | exact HB.out | apply y3 | apply y23 | apply y4 | refine y5 ?_ GE332.out) | exact HB.out))) : w.heap.size ≤ gb335)); have n4_ := y0.mk ((by rw [hg]; exact (y6 (by repeat (first | (with_reducible first | exact HB.out | apply y3 | apply y23 | apply y4 | refine y5 ?_ GE332.out) | exact HB.out))) : w.heap.size ≤ gb335)); have n5_ := y0.mk ((by rw [hg]; exact Nat.ne_of_lt (blk_lt (g := gb332) (o := .cells #[.int .i64 a0_0,.slice (some ad334) l0_1.length c0_1] 33 (0,0)) (by (with_reducible repeat (first | refine y12 ?_ _ | refine y11 ?_ | refine y8 ?_ _)); exact BK332.out)) : gb332 ≠ gb335)); have n6_ := y0.mk ((by rw [hg]; exact Nat.ne_of_gt (blk_lt (g := gb332) (o := .cells #[.int .i64 a0_0,.slice (some ad334) l0_1.length c0_1] 33 (0,0)) (by (with_reducible repeat (first | refine y12 ?_ _ | refine y11 ?_ | refine y8 ?_ _)); exact BK332.out)) : gb335 ≠ gb332)); clear BK332; clear HB; have BK332 := n0_; have HB := n1_; have BK335 := n2_; have GW335 := n3_; have GE335 := n4_; have NB332_335 := n5_; have NB335_332 := n6_; clear n0_ n1_ n2_ n3_ n4_ n5_ n6_; clear hb hbox hg; have hnb30 := NB335_332.out; have hnc30 := NB332_335.out; have hcz31_0 : w29.cell? ⟨gb335,0,none⟩ = some (.slice none 0 0) := (y10 BK335.out 0).trans rfl; have hfz31_0 := y13 BK335.out 0))
               have n0_ : y0 ((w29.setCell ⟨gb335,0,none⟩ (.slice A334_0 ((y24 l0_1 x18_2).f0).length c334_0)).heap[gb332]? = some (.cells #[.int .i64 a0_0,.slice (some ad334) l0_1.length c0_1] 33 (0,0))) := ⟨by (with_reducible repeat (first | refine y12 ?_ _ | refine y11 ?_ | refine y8 ?_ _)); refine blk_far ?_ NB332_335.out _; (with_reducible repeat (first | refine y12 ?_ _ | refine y11 ?_ | refine y8 ?_ _)); exact BK332.out⟩
               have n1_ : y0 ((w29.setCell ⟨gb335,0,none⟩ (.slice A334_0 ((y24 l0_1 x18_2).f0).length c334_0)).heap[gb335]? = some (.cells #[.slice A334_0 ((y24 l0_1 x18_2).f0).length c334_0] 35 (0,0))) := ⟨by (with_reducible repeat (first | refine y12 ?_ _ | refine y11 ?_ | refine y8 ?_ _)); refine blk_put (cs := #[.slice none 0 0]) ?_ 0 _ rfl; (with_reducible repeat (first | refine y12 ?_ _ | refine y11 ?_ | refine y8 ?_ _)); exact BK335.out⟩
               have n2_ : y0 (Below w.heap.size w (w29.setCell ⟨gb335,0,none⟩ (.slice A334_0 ((y24 l0_1 x18_2).f0).length c334_0))) := ⟨by repeat (first | (with_reducible first | exact HB.out | apply y3 | apply y23 | apply y4 | refine y5 ?_ GE332.out | refine y5 ?_ GE335.out) | exact HB.out)⟩
               (try clear BK332)
               (try clear BK335)
               (try clear HB)
               generalize (w29.setCell ⟨gb335,0,none⟩ (.slice A334_0 ((y24 l0_1 x18_2).f0).length c334_0)) = w32 at n0_ n1_ n2_ ⊢
               have BK332 := n0_
               have BK335 := n1_
               have HB := n2_
               clear n0_ n1_ n2_
               have n0_ := y0.mk (y11 BK332.out)
               have n1_ := y0.mk (y11 BK335.out)
               have n2_ := y0.mk (y4 HB.out)
               clear BK332
               clear BK335
               clear HB
               have BK332 := n0_
               have BK335 := n1_
               have HB := n2_
               clear n0_ n1_ n2_
               have p337 : 0 ≤ ((ji17) : Int) := of_decide_eq_true (by first | (with_reducible assumption) | assumption)
               have q337 : (ji17) < (l0_1.length : Int) := of_decide_eq_true (by first | (with_reducible assumption) | assumption)
               obtain ⟨ad337,A337_0,c337_0,e337,hx337_0,hl337_0,hi337_0⟩ := at_T35 HR0_1.out (ji17) p337 q337
               have hw337_0 := hx337_0
               obtain rfl : ad334 = ad337 := (by injection e337)
               replace hx337_0 := (HB.out.cell (World.block_lt_of_cell? w _ hx337_0)).trans hx337_0
               have HR337_0 := y0.mk hi337_0
               have HC337_0 := y0.mk hl337_0
               clear hi337_0 hl337_0
               replace p337 := eq_true p337
               replace q337 := eq_true q337
               refine start_ (n := 26) (S := fun w' => w'.cell? ⟨gb335,0,none⟩ = some (.slice A334_0 ((y24 l0_1 x18_2).f0).length c334_0) ∧ w'.cell? ⟨gb332,0,none⟩ = some (.int .i64 a0_0) ∧ w'.cell? ⟨gb332,1,none⟩ = some (.slice (some ad334) l0_1.length c0_1) ∧ w'.cell? (ad334.add ((ji17)).toNat) = some (.slice A337_0 ((y24 l0_1 (ji17)).f0).length c337_0)) (ds := []) (fl_ 26 0) (by kernel_rfl) rfl rfl ⟨(y10 BK335.out 0).trans rfl,(y10 BK332.out 0).trans rfl,(y10 BK332.out 1).trans rfl,((HB.out.cell (World.block_lt_of_cell? w _ hw337_0)).trans hw337_0)⟩ (fun hHeld => ?_); refine with_tabW impl_isRel.tab6 impl_isRel.bits6 (fun HT_ HW_ => ?_)
               generalize w32.drew = w33 at BK332 BK335 HB HR337_0 hx337_0 hHeld ⊢
               refine take_ (i := 0) (N := some 23) (v := ?_) (a' := ?_) (fl_ 26 1) rfl rfl (y26 HT_.out HW_.out (by kernel_rfl)) (fun _ _ _ h => h) (Or.inl ⟨by rfl, ?_⟩) hHeld ?_ ?_
               rotate_left
               ·rintro w' ⟨s0,s1,s2,s3⟩
                go_simp
                with_reducible rfl
               rotate_left
               ·simp only [Act.put,qS_,qZ_,qC_,y21,y20]
                rfl
               refine one_ (i := 1) (N := some 24) (fl_ 26 3) rfl rfl (one_of HT_.out (by kernel_rfl)) (by decide) (fun K hK => ?_)
               refine goes_ Tryz.func66 (by kernel_rfl) rfl #[.agg #[.slice A334_0 ((y24 l0_1 x18_2).f0).length c334_0]] (by rfl) rfl rfl (by (try simp only [qM_,List.map_cons,List.map_nil]); first | done | rfl | (simp only [qD_,qT_]; rfl)) ?_
               with_reducible refine (impl_isTuple.calls k2 _ _ ((y24 l0_1 x18_2).f0) true _ ?side1 ?side2 ?side3 A13.out).mono ?_
               (case side1 => repeat (first | exact (Kd.C_below HR334_0.out HB.out) | (with_reducible refine Kd.C_alloc ?_ _) | (with_reducible refine Kd.C_drewN ?_ _) | (with_reducible refine Kd.C_drew ?_)))
               (case side2 => exact HC334_0.out)
               (case side3 => exact Tb.below HT.out (by repeat (first | (with_reducible first | exact HB.out | apply y3 | apply y23 | apply y4 | refine y5 ?_ GE332.out | refine y5 ?_ GE335.out) | exact HB.out)))
               rintro e w34 ⟨rfl,hb⟩
               refine ⟨_,rfl, ?_⟩
               have n0_ := y0.mk (y9 (g := gb332) (o := .cells #[.int .i64 a0_0,.slice (some ad334) l0_1.length c0_1] 33 (0,0)) (by (with_reducible repeat (first | refine y12 ?_ _ | refine y11 ?_ | refine y8 ?_ _)); exact BK332.out) hb)
               have n1_ := y0.mk (y9 (g := gb335) (o := .cells #[.slice A334_0 ((y24 l0_1 x18_2).f0).length c334_0] 35 (0,0)) (by (with_reducible repeat (first | refine y12 ?_ _ | refine y11 ?_ | refine y8 ?_ _)); exact BK335.out) hb)
               have n2_ := y0.mk (y7 (by repeat (first | (with_reducible first | exact HB.out | apply y3 | apply y23 | apply y4 | refine y5 ?_ GE332.out | refine y5 ?_ GE335.out) | exact HB.out)) hb)
               clear BK332
               clear BK335
               clear HB
               have BK332 := n0_
               have BK335 := n1_
               have HB := n2_
               clear n0_ n1_ n2_
               (try clear hb)
               (try clear hb2)
               (try clear hk)
               (try clear hi)
               refine hK.out _ _ ⟨(y10 BK335.out 0).trans rfl,(y10 BK332.out 0).trans rfl,(y10 BK332.out 1).trans rfl,((HB.out.cell (World.block_lt_of_cell? w _ hw337_0)).trans hw337_0)⟩ (fun hHeld => ?_)
               clear hK K
               refine norm_ (a' := ?_) ?_ ?_
               rotate_left
               ·show Act.put _ (some 24) _ = _
                simp only [Act.put,qS_,qZ_,qC_,y21,y20]
                rfl
               refine y22 (i := 2) (N := some 25) (v := ?_) (a' := ?_) (fl_ 26 7) rfl rfl (y2 HT_.out (by kernel_rfl)) (fun _ _ _ h => h) (Or.inl ⟨by rfl, ?_⟩) ?_ ?_
               rotate_left
               ·intro w'
                go_simp
                with_reducible rfl
               rotate_left
               ·simp only [Act.put,qS_,qZ_,qC_,y21,y20]
                rfl
               refine y22 (i := 3) (N := some 26) (v := ?_) (a' := ?_) (fl_ 26 15) rfl rfl (y2 HT_.out (by kernel_rfl)) (fun _ _ _ h => h) (Or.inl ⟨by rfl, ?_⟩) ?_ ?_
               rotate_left
               ·intro w'
                go_simp
                with_reducible rfl
               rotate_left
               ·simp only [Act.put,qS_,qZ_,qC_,y21,y20]
                rfl
               refine y22 (i := 4) (N := some 27) (v := ?_) (a' := ?_) (fl_ 26 31) rfl rfl (y2 HT_.out (by kernel_rfl)) (fun _ _ _ h => h) (Or.inl ⟨by rfl, ?_⟩) ?_ ?_
               rotate_left
               ·intro w'
                go_simp
                with_reducible rfl
               rotate_left
               ·simp only [Act.put,qS_,qZ_,qC_,y21,y20]
                rfl
               refine y22 (i := 7) (N := some 30) (v := ?_) (a' := ?_) (fl_ 26 159) rfl rfl (y2 HT_.out (by kernel_rfl)) (fun _ _ _ h => h) (Or.inl ⟨by rfl, ?_⟩) ?_ ?_
               rotate_left
               ·intro w'
                go_simp
                with_reducible rfl
               rotate_left
               ·simp only [Act.put,qS_,qZ_,qC_,y21,y20]
                rfl
               refine take_ (i := 5) (N := some 28) (v := ?_) (a' := ?_) (fl_ 26 191) rfl rfl (y26 HT_.out HW_.out (by kernel_rfl)) (fun _ _ _ h => h) (Or.inl ⟨by rfl, ?_⟩) hHeld ?_ ?_
               rotate_left
               ·rintro w' ⟨s0,s1,s2,s3⟩
                go_simp
                with_reducible rfl
               rotate_left
               ·simp only [Act.put,qS_,qZ_,qC_,y21,y20]
                rfl
               refine y22 (i := 6) (N := some 29) (v := ?_) (a' := ?_) (fl_ 26 255) rfl rfl (y2 HT_.out (by kernel_rfl)) (fun _ _ _ h => h) (Or.inl ⟨by rfl, ?_⟩) ?_ ?_
               rotate_left
               ·intro w'
                go_simp
                with_reducible rfl
               rotate_left
               ·simp only [Act.put,qS_,qZ_,qC_,y21,y20]
                rfl
               refine take_ (i := 8) (N := some 31) (v := ?_) (a' := ?_) (fl_ 26 511) rfl rfl (y26 HT_.out HW_.out (by kernel_rfl)) (fun _ _ _ h => h) (Or.inl ⟨by rfl, ?_⟩) hHeld ?_ ?_
               rotate_left
               ·rintro w' ⟨s0,s1,s2,s3⟩
                go_simp
                with_reducible rfl
               rotate_left
               ·simp only [Act.put,qS_,qZ_,qC_,y21,y20]
                rfl
               refine y22 (i := 9) (N := some 32) (v := ?_) (a' := ?_) (fl_ 26 1023) rfl rfl (y2 HT_.out (by kernel_rfl)) (fun _ _ _ h => h) (Or.inl ⟨by rfl, ?_⟩) ?_ ?_
               rotate_left
               ·intro w'
                go_simp
                with_reducible rfl
               rotate_left
               ·simp only [Act.put,qS_,qZ_,qC_,y21,y20]
                rfl
               refine y22 (i := 10) (N := some 33) (v := ?_) (a' := ?_) (fl_ 26 2047) rfl rfl (y2 HT_.out (by kernel_rfl)) (fun _ _ _ h => h) (Or.inl ⟨by rfl, ?_⟩) ?_ ?_
               rotate_left
               ·intro w'
                go_simp
                with_reducible rfl
               rotate_left
               ·simp only [Act.put,qS_,qZ_,qC_,y21,y20]
                rfl
               refine y22 (i := 11) (N := some 34) (v := ?_) (a' := ?_) (fl_ 26 4095) rfl rfl (y2 HT_.out (by kernel_rfl)) (fun _ _ _ h => h) (Or.inl ⟨by rfl, ?_⟩) ?_ ?_
               rotate_left
               ·intro w'
                go_simp
                with_reducible rfl
               rotate_left
               ·simp only [Act.put,qS_,qZ_,qC_,y21,y20]
                rfl
               refine y22 (i := 12) (N := some 35) (v := ?_) (a' := ?_) (fl_ 26 8191) rfl rfl (y2 HT_.out (by kernel_rfl)) (fun _ _ _ h => h) (Or.inl ⟨by rfl, ?_⟩) ?_ ?_
               rotate_left
               ·intro w'
                go_simp
                with_reducible rfl
               rotate_left
               ·simp only [Act.put,qS_,qZ_,qC_,y21,y20]
                rfl
               refine y22 (i := 13) (N := some 36) (v := ?_) (a' := ?_) (fl_ 26 16383) rfl rfl (y2 HT_.out (by kernel_rfl)) (fun _ _ _ h => h) (Or.inl ⟨by rfl, ?_⟩) ?_ ?_
               rotate_left
               ·intro w'
                go_simp
                with_reducible rfl
               rotate_left
               ·simp only [Act.put,qS_,qZ_,qC_,y21,y20]
                rfl
               refine y22 (i := 14) (N := some 37) (v := ?_) (a' := ?_) (fl_ 26 32767) rfl rfl (y2 HT_.out (by kernel_rfl)) (fun _ _ _ h => h) (Or.inl ⟨by rfl, ?_⟩) ?_ ?_
               rotate_left
               ·intro w'
                go_simp
                with_reducible rfl
               rotate_left
               ·simp only [Act.put,qS_,qZ_,qC_,y21,y20]
                rfl
               refine y22 (i := 15) (N := some 38) (v := ?_) (a' := ?_) (fl_ 26 65535) rfl rfl (y2 HT_.out (by kernel_rfl)) (fun _ _ _ h => h) (Or.inl ⟨by rfl, ?_⟩) ?_ ?_
               rotate_left
               ·intro w'
                go_simp
                with_reducible rfl
               rotate_left
               ·simp only [Act.put,qS_,qZ_,qC_,y21,y20]
                rfl
               refine y22 (i := 17) (N := some 40) (v := ?_) (a' := ?_) (fl_ 26 196607) rfl rfl (y2 HT_.out (by kernel_rfl)) (fun _ _ _ h => h) (Or.inl ⟨by rfl, ?_⟩) ?_ ?_
               rotate_left
               ·intro w'
                go_simp
                with_reducible rfl
               rotate_left
               ·simp only [Act.put,qS_,qZ_,qC_,y21,y20]
                rfl
               refine y22 (i := 18) (N := some 41) (v := ?_) (a' := ?_) (fl_ 26 458751) rfl rfl (y2 HT_.out (by kernel_rfl)) (fun _ _ _ h => h) (Or.inl ⟨by rfl, ?_⟩) ?_ ?_
               rotate_left
               ·intro w'
                go_simp
                with_reducible rfl
               rotate_left
               ·simp only [Act.put,qS_,qZ_,qC_,y21,y20]
                rfl
               refine take_ (i := 16) (N := some 39) (v := ?_) (a' := ?_) (fl_ 26 524287) rfl rfl (y26 HT_.out HW_.out (by kernel_rfl)) (fun _ _ _ h => h) (Or.inl ⟨by rfl, ?_⟩) hHeld ?_ ?_
               rotate_left
               ·rintro w' ⟨s0,s1,s2,s3⟩
                go_simp
                with_reducible rfl
               rotate_left
               ·simp only [Act.put,qS_,qZ_,qC_,y21,y20]
                rfl
               refine y22 (i := 19) (N := some 42) (v := ?_) (a' := ?_) (fl_ 26 1048575) rfl rfl (y2 HT_.out (by kernel_rfl)) (fun _ _ _ h => h) (Or.inl ⟨by rfl, ?_⟩) ?_ ?_
               rotate_left
               ·intro w'
                go_simp
                with_reducible rfl
               rotate_left
               ·simp only [Act.put,qS_,qZ_,qC_,y21,y20]
                rfl
               refine take_ (i := 20) (N := some 43) (v := ?_) (a' := ?_) (fl_ 26 2097151) rfl rfl (y26 HT_.out HW_.out (by kernel_rfl)) (fun _ _ _ h => h) (Or.inl ⟨by rfl, ?_⟩) hHeld ?_ ?_
               rotate_left
               ·rintro w' ⟨s0,s1,s2,s3⟩
                go_simp
                with_reducible rfl
               rotate_left
               ·simp only [Act.put,qS_,qZ_,qC_,y21,y20]
                rfl
               refine take_ (i := 21) (N := some 44) (v := ?_) (a' := ?_) (fl_ 26 4194303) rfl rfl (y26 HT_.out HW_.out (by kernel_rfl)) (fun _ _ _ h => h) (Or.inl ⟨by rfl, ?_⟩) hHeld ?_ ?_
               rotate_left
               ·rintro w' ⟨s0,s1,s2,s3⟩
                go_simp
                with_reducible rfl
               rotate_left
               ·simp only [Act.put,qS_,qZ_,qC_,y21,y20]
                rfl
               refine one_ (i := 22) (N := some 45) (fl_ 26 8388607) rfl rfl (one_of HT_.out (by kernel_rfl)) (by decide) (fun K hK => ?_)
               refine goes_ Tryz.func68 (by kernel_rfl) rfl #[.agg #[.slice A337_0 ((y24 l0_1 (ji17)).f0).length c337_0],.agg #[.slice A334_0 ((y24 l0_1 x18_2).f0).length c334_0]] (by rfl) rfl rfl (by (try simp only [qM_,List.map_cons,List.map_nil]); first | done | (simp only [hji17]; rfl) | rfl | (simp only [qD_,qT_]; rfl)) ?_
               with_reducible refine (impl_compareTuples.calls k2 _ _ ((y24 l0_1 (ji17)).f0) _ _ ((y24 l0_1 x18_2).f0) t338 _ ?side1 ?side2 ?side3 ?side4 ?side5 A20.out).mono ?_
               (case side1 => repeat (first | exact (Kd.C_below HR337_0.out HB.out) | (with_reducible refine Kd.C_alloc ?_ _) | (with_reducible refine Kd.C_drewN ?_ _) | (with_reducible refine Kd.C_drew ?_)))
               (case side2 => exact HC337_0.out)
               (case side3 => repeat (first | exact (Kd.C_below HR334_0.out HB.out) | (with_reducible refine Kd.C_alloc ?_ _) | (with_reducible refine Kd.C_drewN ?_ _) | (with_reducible refine Kd.C_drew ?_)))
               (case side4 => exact HC334_0.out)
               (case side5 => exact Tb.below HT.out (by repeat (first | (with_reducible first | exact HB.out | apply y3 | apply y23 | apply y4 | refine y5 ?_ GE332.out | refine y5 ?_ GE335.out) | exact HB.out)))
               rintro e w35 ⟨rfl,hb⟩
               refine ⟨_,rfl, ?_⟩
               have n0_ := y0.mk (y9 (g := gb332) (o := .cells #[.int .i64 a0_0,.slice (some ad334) l0_1.length c0_1] 33 (0,0)) (by (with_reducible repeat (first | refine y12 ?_ _ | refine y11 ?_ | refine y8 ?_ _)); exact BK332.out) hb)
               have n1_ := y0.mk (y9 (g := gb335) (o := .cells #[.slice A334_0 ((y24 l0_1 x18_2).f0).length c334_0] 35 (0,0)) (by (with_reducible repeat (first | refine y12 ?_ _ | refine y11 ?_ | refine y8 ?_ _)); exact BK335.out) hb)
               have n2_ := y0.mk (y7 (by repeat (first | (with_reducible first | exact HB.out | apply y3 | apply y23 | apply y4 | refine y5 ?_ GE332.out | refine y5 ?_ GE335.out) | exact HB.out)) hb)
               clear BK332
               clear BK335
               clear HB
               have BK332 := n0_
               have BK335 := n1_
               have HB := n2_
               clear n0_ n1_ n2_
               (try clear hb)
               (try clear hb2)
               (try clear hk)
               (try clear hi)
               refine hK.out _ _ ⟨(y10 BK335.out 0).trans rfl,(y10 BK332.out 0).trans rfl,(y10 BK332.out 1).trans rfl,((HB.out.cell (World.block_lt_of_cell? w _ hw337_0)).trans hw337_0)⟩ (fun hHeld => ?_)
               clear hK K
               refine norm_ (a' := ?_) ?_ ?_
               rotate_left
               ·show Act.put _ (some 45) _ = _
                simp only [Act.put,qS_,qZ_,qC_,y21,y20]
                rfl
               refine y22 (i := 23) (N := some 46) (v := ?_) (a' := ?_) (fl_ 26 16777215) rfl rfl (y2 HT_.out (by kernel_rfl)) (fun _ _ _ h => h) (Or.inl ⟨by rfl, ?_⟩) ?_ ?_
               rotate_left
               ·intro w'
                go_simp
                with_reducible rfl
               rotate_left
               ·simp only [Act.put,qS_,qZ_,qC_,y21,y20]
                rfl
               refine y22 (i := 24) (N := some 47) (v := ?_) (a' := ?_) (fl_ 26 33554431) rfl rfl (y2 HT_.out (by kernel_rfl)) (fun _ _ _ h => h) (Or.inl ⟨by rfl, ?_⟩) ?_ ?_
               rotate_left
               ·intro w'
                go_simp
                with_reducible rfl
               rotate_left
               ·simp only [Act.put,qS_,qZ_,qC_,y21,y20]
                rfl
               refine y22 (i := 25) (N := some 48) (v := ?_) (a' := ?_) (fl_ 26 67108863) rfl rfl (y2 HT_.out (by kernel_rfl)) (fun _ _ _ h => h) (Or.inl ⟨by rfl, ?_⟩) ?_ ?_
               rotate_left
               ·intro w'
                go_simp
                with_reducible rfl
               rotate_left
               ·simp only [Act.put,qS_,qZ_,qC_,y21,y20]
                rfl
               refine done_ (done_of HT_.out (by kernel_rfl)) ?_
               try go_wp2
               go_roundg k2
               case measure => have := HJ1.out; have := HK2.out; omega
               case rel => exact ⟨(wrap64 (x18_2 + 1)),(by first | rfl | (simp; done) | (simp [*]; done)),H',⟨by have := HJ1.out; have := HK2.out; omega⟩,⟨by (with_reducible repeat (first | refine y12 ?_ _ | refine y11 ?_ | refine y8 ?_ _)); exact BK332.out⟩,⟨by repeat (first | (with_reducible first | exact HB.out | apply y3 | apply y23 | apply y4 | refine y5 ?_ GE332.out | refine y5 ?_ GE335.out) | exact HB.out)⟩⟩
             ·as_aux_lemma =>
              rw [if_neg c19] at H
              exact absurd H (by simp)
            ·as_aux_lemma =>
             rw [if_neg c18] at H
             exact absurd H (by simp)
           ·as_aux_lemma =>
            rw [if_neg c16] at H
            have c16b0 : decide (0 < x18_2) = false := decide_eq_false c16
            clear c16
            have H' := y0.mk H
            clear H
            have p334 : 0 ≤ (x18_2 : Int) := of_decide_eq_true (by first | (with_reducible assumption) | assumption)
            have q334 : x18_2 < (l0_1.length : Int) := of_decide_eq_true (by first | (with_reducible assumption) | assumption)
            obtain ⟨ad334,A334_0,c334_0,e334,hx334_0,hl334_0,hi334_0⟩ := at_T35 HR0_1.out x18_2 p334 q334
            cases e334
            replace hx334_0 := (HB.out.cell (World.block_lt_of_cell? w _ hx334_0)).trans hx334_0
            have HR334_0 := y0.mk hi334_0
            have HC334_0 := y0.mk hl334_0
            clear hi334_0 hl334_0
            replace p334 := eq_true p334
            replace q334 := eq_true q334
            try go_wp2_with (first | ((with_reducible refine y18 (N := 4) rfl ?_); (try (refine gate_guard (by rfl) ?_; dsimp only)); refine y14 ?hg (N := 4) ?hd (cs := #[.slice none 0 0]) (t := 35) ?hr ?_; (case hd => rfl); (case hg => rfl); (case hr => first | (go_simp; done) | (go_simp; rfl)); intro gb335 hg w36 hbox hb; have n0_ := y0.mk (y9 (g := gb332) (o := .cells #[.int .i64 a0_0,.slice (some ad334) l0_1.length c0_1] 33 (0,0)) (by (with_reducible repeat (first | refine y12 ?_ _ | refine y11 ?_ | refine y8 ?_ _)); exact BK332.out) hb); have n1_ := y0.mk (y7 (by repeat (first | (with_reducible first | exact HB.out | apply y3 | apply y23 | apply y4 | refine y5 ?_ GE332.out) | exact HB.out)) hb); have n2_ := y0.mk (hbox); have n3_ := y0.mk ((by rw [hg]; exact (y6 (by repeat (first | (with_reducible first | exact HB.out | apply y3 | apply y23 | apply y4 | refine y5 ?_ GE332.out) | exact HB.out))) : w.heap.size ≤ gb335)); have n4_ := y0.mk ((by rw [hg]; exact (y6 (by repeat (first | (with_reducible first | exact HB.out | apply y3 | apply y23 | apply y4 | refine y5 ?_ GE332.out) | exact HB.out))) : w.heap.size ≤ gb335)); have n5_ := y0.mk ((by rw [hg]; exact Nat.ne_of_lt (blk_lt (g := gb332) (o := .cells #[.int .i64 a0_0,.slice (some ad334) l0_1.length c0_1] 33 (0,0)) (by (with_reducible repeat (first | refine y12 ?_ _ | refine y11 ?_ | refine y8 ?_ _)); exact BK332.out)) : gb332 ≠ gb335)); have n6_ := y0.mk ((by rw [hg]; exact Nat.ne_of_gt (blk_lt (g := gb332) (o := .cells #[.int .i64 a0_0,.slice (some ad334) l0_1.length c0_1] 33 (0,0)) (by (with_reducible repeat (first | refine y12 ?_ _ | refine y11 ?_ | refine y8 ?_ _)); exact BK332.out)) : gb335 ≠ gb332)); clear BK332; clear HB; have BK332 := n0_; have HB := n1_; have BK335 := n2_; have GW335 := n3_; have GE335 := n4_; have NB332_335 := n5_; have NB335_332 := n6_; clear n0_ n1_ n2_ n3_ n4_ n5_ n6_; clear hb hbox hg; have hnb37 := NB335_332.out; have hnc37 := NB332_335.out; have hcz38_0 : w36.cell? ⟨gb335,0,none⟩ = some (.slice none 0 0) := (y10 BK335.out 0).trans rfl; have hfz38_0 := y13 BK335.out 0))
            have n0_ : y0 ((w36.setCell ⟨gb335,0,none⟩ (.slice A334_0 ((y24 l0_1 x18_2).f0).length c334_0)).heap[gb332]? = some (.cells #[.int .i64 a0_0,.slice (some ad334) l0_1.length c0_1] 33 (0,0))) := ⟨by (with_reducible repeat (first | refine y12 ?_ _ | refine y11 ?_ | refine y8 ?_ _)); refine blk_far ?_ NB332_335.out _; (with_reducible repeat (first | refine y12 ?_ _ | refine y11 ?_ | refine y8 ?_ _)); exact BK332.out⟩
            have n1_ : y0 ((w36.setCell ⟨gb335,0,none⟩ (.slice A334_0 ((y24 l0_1 x18_2).f0).length c334_0)).heap[gb335]? = some (.cells #[.slice A334_0 ((y24 l0_1 x18_2).f0).length c334_0] 35 (0,0))) := ⟨by (with_reducible repeat (first | refine y12 ?_ _ | refine y11 ?_ | refine y8 ?_ _)); refine blk_put (cs := #[.slice none 0 0]) ?_ 0 _ rfl; (with_reducible repeat (first | refine y12 ?_ _ | refine y11 ?_ | refine y8 ?_ _)); exact BK335.out⟩
            have n2_ : y0 (Below w.heap.size w (w36.setCell ⟨gb335,0,none⟩ (.slice A334_0 ((y24 l0_1 x18_2).f0).length c334_0))) := ⟨by repeat (first | (with_reducible first | exact HB.out | apply y3 | apply y23 | apply y4 | refine y5 ?_ GE332.out | refine y5 ?_ GE335.out) | exact HB.out)⟩
            (try clear BK332)
            (try clear BK335)
            (try clear HB)
            generalize (w36.setCell ⟨gb335,0,none⟩ (.slice A334_0 ((y24 l0_1 x18_2).f0).length c334_0)) = w39 at n0_ n1_ n2_ ⊢
            have BK332 := n0_
            have BK335 := n1_
            have HB := n2_
            clear n0_ n1_ n2_
            have n0_ := y0.mk (y11 BK332.out)
            have n1_ := y0.mk (y11 BK335.out)
            have n2_ := y0.mk (y4 HB.out)
            clear BK332
            clear BK335
            clear HB
            have BK332 := n0_
            have BK335 := n1_
            have HB := n2_
            clear n0_ n1_ n2_
            refine start_ (n := 26) (S := fun w' => w'.cell? ⟨gb335,0,none⟩ = some (.slice A334_0 ((y24 l0_1 x18_2).f0).length c334_0) ∧ w'.cell? ⟨gb332,0,none⟩ = some (.int .i64 a0_0) ∧ w'.cell? ⟨gb332,1,none⟩ = some (.slice (some ad334) l0_1.length c0_1)) (ds := []) (fl_ 26 0) (by kernel_rfl) rfl rfl ⟨(y10 BK335.out 0).trans rfl,(y10 BK332.out 0).trans rfl,(y10 BK332.out 1).trans rfl⟩ (fun hHeld => ?_); refine with_tabW impl_isRel.tab6 impl_isRel.bits6 (fun HT_ HW_ => ?_)
            generalize w39.drew = w40 at BK332 BK335 HB hHeld ⊢
            refine take_ (i := 0) (N := some 23) (v := ?_) (a' := ?_) (fl_ 26 1) rfl rfl (y26 HT_.out HW_.out (by kernel_rfl)) (fun _ _ _ h => h) (Or.inl ⟨by rfl, ?_⟩) hHeld ?_ ?_
            rotate_left
            ·rintro w' ⟨s0,s1,s2⟩
             go_simp
             with_reducible rfl
            rotate_left
            ·simp only [Act.put,qS_,qZ_,qC_,y21,y20]
             rfl
            refine one_ (i := 1) (N := some 24) (fl_ 26 3) rfl rfl (one_of HT_.out (by kernel_rfl)) (by decide) (fun K hK => ?_)
            refine goes_ Tryz.func66 (by kernel_rfl) rfl #[.agg #[.slice A334_0 ((y24 l0_1 x18_2).f0).length c334_0]] (by rfl) rfl rfl (by (try simp only [qM_,List.map_cons,List.map_nil]); first | done | rfl | (simp only [qD_,qT_]; rfl)) ?_
            with_reducible refine (impl_isTuple.calls k2 _ _ ((y24 l0_1 x18_2).f0) true _ ?side1 ?side2 ?side3 A13.out).mono ?_
            (case side1 => repeat (first | exact (Kd.C_below HR334_0.out HB.out) | (with_reducible refine Kd.C_alloc ?_ _) | (with_reducible refine Kd.C_drewN ?_ _) | (with_reducible refine Kd.C_drew ?_)))
            (case side2 => exact HC334_0.out)
            (case side3 => exact Tb.below HT.out (by repeat (first | (with_reducible first | exact HB.out | apply y3 | apply y23 | apply y4 | refine y5 ?_ GE332.out | refine y5 ?_ GE335.out) | exact HB.out)))
            rintro e w41 ⟨rfl,hb⟩
            refine ⟨_,rfl, ?_⟩
            have n0_ := y0.mk (y9 (g := gb332) (o := .cells #[.int .i64 a0_0,.slice (some ad334) l0_1.length c0_1] 33 (0,0)) (by (with_reducible repeat (first | refine y12 ?_ _ | refine y11 ?_ | refine y8 ?_ _)); exact BK332.out) hb)
            have n1_ := y0.mk (y9 (g := gb335) (o := .cells #[.slice A334_0 ((y24 l0_1 x18_2).f0).length c334_0] 35 (0,0)) (by (with_reducible repeat (first | refine y12 ?_ _ | refine y11 ?_ | refine y8 ?_ _)); exact BK335.out) hb)
            have n2_ := y0.mk (y7 (by repeat (first | (with_reducible first | exact HB.out | apply y3 | apply y23 | apply y4 | refine y5 ?_ GE332.out | refine y5 ?_ GE335.out) | exact HB.out)) hb)
            clear BK332
            clear BK335
            clear HB
            have BK332 := n0_
            have BK335 := n1_
            have HB := n2_
            clear n0_ n1_ n2_
            (try clear hb)
            (try clear hb2)
            (try clear hk)
            (try clear hi)
            refine hK.out _ _ ⟨(y10 BK335.out 0).trans rfl,(y10 BK332.out 0).trans rfl,(y10 BK332.out 1).trans rfl⟩ (fun hHeld => ?_)
            clear hK K
            refine norm_ (a' := ?_) ?_ ?_
            rotate_left
            ·show Act.put _ (some 24) _ = _
             simp only [Act.put,qS_,qZ_,qC_,y21,y20]
             rfl
            refine y22 (i := 2) (N := some 25) (v := ?_) (a' := ?_) (fl_ 26 7) rfl rfl (y2 HT_.out (by kernel_rfl)) (fun _ _ _ h => h) (Or.inl ⟨by rfl, ?_⟩) ?_ ?_
            rotate_left
            ·intro w'
             go_simp
             with_reducible rfl
            rotate_left
            ·simp only [Act.put,qS_,qZ_,qC_,y21,y20]
             rfl
            refine y22 (i := 3) (N := some 26) (v := ?_) (a' := ?_) (fl_ 26 15) rfl rfl (y2 HT_.out (by kernel_rfl)) (fun _ _ _ h => h) (Or.inl ⟨by rfl, ?_⟩) ?_ ?_
            rotate_left
            ·intro w'
             go_simp
             with_reducible rfl
            rotate_left
            ·simp only [Act.put,qS_,qZ_,qC_,y21,y20]
             rfl
            refine y22 (i := 4) (N := some 27) (v := ?_) (a' := ?_) (fl_ 26 31) rfl rfl (y2 HT_.out (by kernel_rfl)) (fun _ _ _ h => h) (Or.inl ⟨by rfl, ?_⟩) ?_ ?_
            rotate_left
            ·intro w'
             go_simp
             with_reducible rfl
            rotate_left
            ·simp only [Act.put,qS_,qZ_,qC_,y21,y20]
             rfl
            refine y22 (i := 7) (N := some 30) (v := ?_) (a' := ?_) (fl_ 26 159) rfl rfl (y2 HT_.out (by kernel_rfl)) (fun _ _ _ h => h) (Or.inl ⟨by rfl, ?_⟩) ?_ ?_
            rotate_left
            ·intro w'
             go_simp
             with_reducible rfl
            rotate_left
            ·simp only [Act.put,qS_,qZ_,qC_,y21,y20]
             rfl
            refine take_ (i := 5) (N := some 28) (v := ?_) (a' := ?_) (fl_ 26 191) rfl rfl (y26 HT_.out HW_.out (by kernel_rfl)) (fun _ _ _ h => h) (Or.inl ⟨by rfl, ?_⟩) hHeld ?_ ?_
            rotate_left
            ·rintro w' ⟨s0,s1,s2⟩
             go_simp
             with_reducible rfl
            rotate_left
            ·simp only [Act.put,qS_,qZ_,qC_,y21,y20]
             rfl
            refine y22 (i := 6) (N := some 29) (v := ?_) (a' := ?_) (fl_ 26 255) rfl rfl (y2 HT_.out (by kernel_rfl)) (fun _ _ _ h => h) (Or.inl ⟨by rfl, ?_⟩) ?_ ?_
            rotate_left
            ·intro w'
             go_simp
             with_reducible rfl
            rotate_left
            ·simp only [Act.put,qS_,qZ_,qC_,y21,y20]
             rfl
            refine take_ (i := 8) (N := some 31) (v := ?_) (a' := ?_) (fl_ 26 511) rfl rfl (y26 HT_.out HW_.out (by kernel_rfl)) (fun _ _ _ h => h) (Or.inl ⟨by rfl, ?_⟩) hHeld ?_ ?_
            rotate_left
            ·rintro w' ⟨s0,s1,s2⟩
             go_simp
             with_reducible rfl
            rotate_left
            ·simp only [Act.put,qS_,qZ_,qC_,y21,y20]
             rfl
            refine y22 (i := 9) (N := some 32) (v := ?_) (a' := ?_) (fl_ 26 1023) rfl rfl (y2 HT_.out (by kernel_rfl)) (fun _ _ _ h => h) (Or.inl ⟨by rfl, ?_⟩) ?_ ?_
            rotate_left
            ·intro w'
             go_simp
             with_reducible rfl
            rotate_left
            ·simp only [Act.put,qS_,qZ_,qC_,y21,y20]
             rfl
            refine y22 (i := 10) (N := some 33) (v := ?_) (a' := ?_) (fl_ 26 2047) rfl rfl (y2 HT_.out (by kernel_rfl)) (fun _ _ _ h => h) (Or.inl ⟨by rfl, ?_⟩) ?_ ?_
            rotate_left
            ·intro w'
             go_simp
             with_reducible rfl
            rotate_left
            ·simp only [Act.put,qS_,qZ_,qC_,y21,y20]
             rfl
            refine y22 (i := 11) (N := some 34) (v := ?_) (a' := ?_) (fl_ 26 4095) rfl rfl (y2 HT_.out (by kernel_rfl)) (fun _ _ _ h => h) (Or.inl ⟨by rfl, ?_⟩) ?_ ?_
            rotate_left
            ·intro w'
             go_simp
             with_reducible rfl
            rotate_left
            ·simp only [Act.put,qS_,qZ_,qC_,y21,y20]
             rfl
            refine y22 (i := 12) (N := some 35) (v := ?_) (a' := ?_) (fl_ 26 8191) rfl rfl (y2 HT_.out (by kernel_rfl)) (fun _ _ _ h => h) (Or.inl ⟨by rfl, ?_⟩) ?_ ?_
            rotate_left
            ·intro w'
             go_simp
             with_reducible rfl
            rotate_left
            ·simp only [Act.put,qS_,qZ_,qC_,y21,y20]
             rfl
            refine y22 (i := 13) (N := some 36) (v := ?_) (a' := ?_) (fl_ 26 16383) rfl rfl (y2 HT_.out (by kernel_rfl)) (fun _ _ _ h => h) (Or.inl ⟨by rfl, ?_⟩) ?_ ?_
            rotate_left
            ·intro w'
             go_simp
             with_reducible rfl
            rotate_left
            ·simp only [Act.put,qS_,qZ_,qC_,y21,y20]
             rfl
            refine y22 (i := 14) (N := some 37) (v := ?_) (a' := ?_) (fl_ 26 32767) rfl rfl (y2 HT_.out (by kernel_rfl)) (fun _ _ _ h => h) (Or.inl ⟨by rfl, ?_⟩) ?_ ?_
            rotate_left
            ·intro w'
             go_simp
             with_reducible rfl
            rotate_left
            ·simp only [Act.put,qS_,qZ_,qC_,y21,y20]
             rfl
            refine y22 (i := 15) (N := some 38) (v := undef) (a' := ?_) (fl_ 26 65535) rfl rfl (y2 HT_.out (by kernel_rfl)) (fun _ _ _ h => h) (Or.inr ⟨by rfl,rfl⟩) ?_ ?_
            rotate_left
            ·simp only [Act.put,qS_,qZ_,qC_,y21,y20]
             rfl
            refine y22 (i := 16) (N := some 39) (v := undef) (a' := ?_) (fl_ 26 131071) rfl rfl (y2 HT_.out (by kernel_rfl)) (fun _ _ _ h => h) (Or.inr ⟨by rfl,rfl⟩) ?_ ?_
            rotate_left
            ·simp only [Act.put,qS_,qZ_,qC_,y21,y20]
             rfl
            refine y22 (i := 17) (N := some 40) (v := undef) (a' := ?_) (fl_ 26 262143) rfl rfl (y2 HT_.out (by kernel_rfl)) (fun _ _ _ h => h) (Or.inr ⟨by rfl,rfl⟩) ?_ ?_
            rotate_left
            ·simp only [Act.put,qS_,qZ_,qC_,y21,y20]
             rfl
            refine y22 (i := 18) (N := some 41) (v := undef) (a' := ?_) (fl_ 26 524287) rfl rfl (y2 HT_.out (by kernel_rfl)) (fun _ _ _ h => h) (Or.inr ⟨by rfl,rfl⟩) ?_ ?_
            rotate_left
            ·simp only [Act.put,qS_,qZ_,qC_,y21,y20]
             rfl
            refine y22 (i := 19) (N := some 42) (v := undef) (a' := ?_) (fl_ 26 1048575) rfl rfl (y2 HT_.out (by kernel_rfl)) (fun _ _ _ h => h) (Or.inr ⟨by rfl,rfl⟩) ?_ ?_
            rotate_left
            ·simp only [Act.put,qS_,qZ_,qC_,y21,y20]
             rfl
            refine y22 (i := 20) (N := some 43) (v := undef) (a' := ?_) (fl_ 26 2097151) rfl rfl (y2 HT_.out (by kernel_rfl)) (fun _ _ _ h => h) (Or.inr ⟨by rfl,rfl⟩) ?_ ?_
            rotate_left
            ·simp only [Act.put,qS_,qZ_,qC_,y21,y20]
             rfl
            refine y22 (i := 21) (N := some 44) (v := undef) (a' := ?_) (fl_ 26 4194303) rfl rfl (y2 HT_.out (by kernel_rfl)) (fun _ _ _ h => h) (Or.inr ⟨by rfl,rfl⟩) ?_ ?_
            rotate_left
            ·simp only [Act.put,qS_,qZ_,qC_,y21,y20]
             rfl
            refine y22 (i := 22) (N := some 45) (v := undef) (a' := ?_) (fl_ 26 8388607) rfl rfl (y2 HT_.out (by kernel_rfl)) (fun _ _ _ h => h) (Or.inr ⟨by rfl,rfl⟩) ?_ ?_
            rotate_left
            ·simp only [Act.put,qS_,qZ_,qC_,y21,y20]
             rfl
            refine y22 (i := 23) (N := some 46) (v := undef) (a' := ?_) (fl_ 26 16777215) rfl rfl (y2 HT_.out (by kernel_rfl)) (fun _ _ _ h => h) (Or.inr ⟨by rfl,rfl⟩) ?_ ?_
            rotate_left
            ·simp only [Act.put,qS_,qZ_,qC_,y21,y20]
             rfl
            refine y22 (i := 24) (N := some 47) (v := ?_) (a' := ?_) (fl_ 26 33554431) rfl rfl (y2 HT_.out (by kernel_rfl)) (fun _ _ _ h => h) (Or.inl ⟨by rfl, ?_⟩) ?_ ?_
            rotate_left
            ·intro w'
             go_simp
             with_reducible rfl
            rotate_left
            ·simp only [Act.put,qS_,qZ_,qC_,y21,y20]
             rfl
            refine y22 (i := 25) (N := some 48) (v := ?_) (a' := ?_) (fl_ 26 67108863) rfl rfl (y2 HT_.out (by kernel_rfl)) (fun _ _ _ h => h) (Or.inl ⟨by rfl, ?_⟩) ?_ ?_
            rotate_left
            ·intro w'
             go_simp
             with_reducible rfl
            rotate_left
            ·simp only [Act.put,qS_,qZ_,qC_,y21,y20]
             rfl
            refine done_ (done_of HT_.out (by kernel_rfl)) ?_
            try go_wp2
            go_roundg k2
            case measure => have := HJ1.out; have := HK2.out; omega
            case rel => exact ⟨(wrap64 (x18_2 + 1)),(by first | rfl | (simp; done) | (simp [*]; done)),H',⟨by have := HJ1.out; have := HK2.out; omega⟩,⟨by (with_reducible repeat (first | refine y12 ?_ _ | refine y11 ?_ | refine y8 ?_ _)); exact BK332.out⟩,⟨by repeat (first | (with_reducible first | exact HB.out | apply y3 | apply y23 | apply y4 | refine y5 ?_ GE332.out | refine y5 ?_ GE335.out) | exact HB.out)⟩⟩
          ·as_aux_lemma =>
           rw [if_neg c15] at H
           have c15b0 : ((((y24 l0_1 x18_2).f0).length : Int) == a0_0) = false := beq_eq_false_iff_ne.mpr c15
           have c15b1 : ((((y24 l0_1 x18_2).f0).length : Int) != a0_0) = true := bne_iff_ne.mpr c15
           obtain rfl := Option.some.inj H
           have p334 : 0 ≤ (x18_2 : Int) := of_decide_eq_true (by first | (with_reducible assumption) | assumption)
           have q334 : x18_2 < (l0_1.length : Int) := of_decide_eq_true (by first | (with_reducible assumption) | assumption)
           obtain ⟨ad334,A334_0,c334_0,e334,hx334_0,hl334_0,hi334_0⟩ := at_T35 HR0_1.out x18_2 p334 q334
           cases e334
           replace hx334_0 := (HB.out.cell (World.block_lt_of_cell? w _ hx334_0)).trans hx334_0
           have HR334_0 := y0.mk hi334_0
           have HC334_0 := y0.mk hl334_0
           clear hi334_0 hl334_0
           replace p334 := eq_true p334
           replace q334 := eq_true q334
           try go_wp2_with (first | ((with_reducible refine y18 (N := 4) rfl ?_); (try (refine gate_guard (by rfl) ?_; dsimp only)); refine y14 ?hg (N := 4) ?hd (cs := #[.slice none 0 0]) (t := 35) ?hr ?_; (case hd => rfl); (case hg => rfl); (case hr => first | (go_simp; done) | (go_simp; rfl)); intro gb335 hg w42 hbox hb; have n0_ := y0.mk (y9 (g := gb332) (o := .cells #[.int .i64 a0_0,.slice (some ad334) l0_1.length c0_1] 33 (0,0)) (by (with_reducible repeat (first | refine y12 ?_ _ | refine y11 ?_ | refine y8 ?_ _)); exact BK332.out) hb); have n1_ := y0.mk (y7 (by repeat (first | (with_reducible first | exact HB.out | apply y3 | apply y23 | apply y4 | refine y5 ?_ GE332.out) | exact HB.out)) hb); have n2_ := y0.mk (hbox); have n3_ := y0.mk ((by rw [hg]; exact (y6 (by repeat (first | (with_reducible first | exact HB.out | apply y3 | apply y23 | apply y4 | refine y5 ?_ GE332.out) | exact HB.out))) : w.heap.size ≤ gb335)); have n4_ := y0.mk ((by rw [hg]; exact (y6 (by repeat (first | (with_reducible first | exact HB.out | apply y3 | apply y23 | apply y4 | refine y5 ?_ GE332.out) | exact HB.out))) : w.heap.size ≤ gb335)); have n5_ := y0.mk ((by rw [hg]; exact Nat.ne_of_lt (blk_lt (g := gb332) (o := .cells #[.int .i64 a0_0,.slice (some ad334) l0_1.length c0_1] 33 (0,0)) (by (with_reducible repeat (first | refine y12 ?_ _ | refine y11 ?_ | refine y8 ?_ _)); exact BK332.out)) : gb332 ≠ gb335)); have n6_ := y0.mk ((by rw [hg]; exact Nat.ne_of_gt (blk_lt (g := gb332) (o := .cells #[.int .i64 a0_0,.slice (some ad334) l0_1.length c0_1] 33 (0,0)) (by (with_reducible repeat (first | refine y12 ?_ _ | refine y11 ?_ | refine y8 ?_ _)); exact BK332.out)) : gb335 ≠ gb332)); clear BK332; clear HB; have BK332 := n0_; have HB := n1_; have BK335 := n2_; have GW335 := n3_; have GE335 := n4_; have NB332_335 := n5_; have NB335_332 := n6_; clear n0_ n1_ n2_ n3_ n4_ n5_ n6_; clear hb hbox hg; have hnb43 := NB335_332.out; have hnc43 := NB332_335.out; have hcz44_0 : w42.cell? ⟨gb335,0,none⟩ = some (.slice none 0 0) := (y10 BK335.out 0).trans rfl; have hfz44_0 := y13 BK335.out 0))
           have n0_ : y0 ((w42.setCell ⟨gb335,0,none⟩ (.slice A334_0 ((y24 l0_1 x18_2).f0).length c334_0)).heap[gb332]? = some (.cells #[.int .i64 a0_0,.slice (some ad334) l0_1.length c0_1] 33 (0,0))) := ⟨by (with_reducible repeat (first | refine y12 ?_ _ | refine y11 ?_ | refine y8 ?_ _)); refine blk_far ?_ NB332_335.out _; (with_reducible repeat (first | refine y12 ?_ _ | refine y11 ?_ | refine y8 ?_ _)); exact BK332.out⟩
           have n1_ : y0 ((w42.setCell ⟨gb335,0,none⟩ (.slice A334_0 ((y24 l0_1 x18_2).f0).length c334_0)).heap[gb335]? = some (.cells #[.slice A334_0 ((y24 l0_1 x18_2).f0).length c334_0] 35 (0,0))) := ⟨by (with_reducible repeat (first | refine y12 ?_ _ | refine y11 ?_ | refine y8 ?_ _)); refine blk_put (cs := #[.slice none 0 0]) ?_ 0 _ rfl; (with_reducible repeat (first | refine y12 ?_ _ | refine y11 ?_ | refine y8 ?_ _)); exact BK335.out⟩
           have n2_ : y0 (Below w.heap.size w (w42.setCell ⟨gb335,0,none⟩ (.slice A334_0 ((y24 l0_1 x18_2).f0).length c334_0))) := ⟨by repeat (first | (with_reducible first | exact HB.out | apply y3 | apply y23 | apply y4 | refine y5 ?_ GE332.out | refine y5 ?_ GE335.out) | exact HB.out)⟩
           (try clear BK332)
           (try clear BK335)
           (try clear HB)
           generalize (w42.setCell ⟨gb335,0,none⟩ (.slice A334_0 ((y24 l0_1 x18_2).f0).length c334_0)) = w45 at n0_ n1_ n2_ ⊢
           have BK332 := n0_
           have BK335 := n1_
           have HB := n2_
           clear n0_ n1_ n2_
           have n0_ := y0.mk (y11 BK332.out)
           have n1_ := y0.mk (y11 BK335.out)
           have n2_ := y0.mk (y4 HB.out)
           clear BK332
           clear BK335
           clear HB
           have BK332 := n0_
           have BK335 := n1_
           have HB := n2_
           clear n0_ n1_ n2_
           refine start_ (n := 26) (S := fun w' => w'.cell? ⟨gb335,0,none⟩ = some (.slice A334_0 ((y24 l0_1 x18_2).f0).length c334_0) ∧ w'.cell? ⟨gb332,0,none⟩ = some (.int .i64 a0_0) ∧ w'.cell? ⟨gb332,1,none⟩ = some (.slice (some ad334) l0_1.length c0_1)) (ds := []) (fl_ 26 0) (by kernel_rfl) rfl rfl ⟨(y10 BK335.out 0).trans rfl,(y10 BK332.out 0).trans rfl,(y10 BK332.out 1).trans rfl⟩ (fun hHeld => ?_); refine with_tabW impl_isRel.tab6 impl_isRel.bits6 (fun HT_ HW_ => ?_)
           generalize w45.drew = w46 at BK332 BK335 HB hHeld ⊢
           refine take_ (i := 0) (N := some 23) (v := ?_) (a' := ?_) (fl_ 26 1) rfl rfl (y26 HT_.out HW_.out (by kernel_rfl)) (fun _ _ _ h => h) (Or.inl ⟨by rfl, ?_⟩) hHeld ?_ ?_
           rotate_left
           ·rintro w' ⟨s0,s1,s2⟩
            go_simp
            with_reducible rfl
           rotate_left
           ·simp only [Act.put,qS_,qZ_,qC_,y21,y20]
            rfl
           refine one_ (i := 1) (N := some 24) (fl_ 26 3) rfl rfl (one_of HT_.out (by kernel_rfl)) (by decide) (fun K hK => ?_)
           refine goes_ Tryz.func66 (by kernel_rfl) rfl #[.agg #[.slice A334_0 ((y24 l0_1 x18_2).f0).length c334_0]] (by rfl) rfl rfl (by (try simp only [qM_,List.map_cons,List.map_nil]); first | done | rfl | (simp only [qD_,qT_]; rfl)) ?_
           with_reducible refine (impl_isTuple.calls k2 _ _ ((y24 l0_1 x18_2).f0) true _ ?side1 ?side2 ?side3 A13.out).mono ?_
           (case side1 => repeat (first | exact (Kd.C_below HR334_0.out HB.out) | (with_reducible refine Kd.C_alloc ?_ _) | (with_reducible refine Kd.C_drewN ?_ _) | (with_reducible refine Kd.C_drew ?_)))
           (case side2 => exact HC334_0.out)
           (case side3 => exact Tb.below HT.out (by repeat (first | (with_reducible first | exact HB.out | apply y3 | apply y23 | apply y4 | refine y5 ?_ GE332.out | refine y5 ?_ GE335.out) | exact HB.out)))
           rintro e w47 ⟨rfl,hb⟩
           refine ⟨_,rfl, ?_⟩
           have n0_ := y0.mk (y9 (g := gb332) (o := .cells #[.int .i64 a0_0,.slice (some ad334) l0_1.length c0_1] 33 (0,0)) (by (with_reducible repeat (first | refine y12 ?_ _ | refine y11 ?_ | refine y8 ?_ _)); exact BK332.out) hb)
           have n1_ := y0.mk (y9 (g := gb335) (o := .cells #[.slice A334_0 ((y24 l0_1 x18_2).f0).length c334_0] 35 (0,0)) (by (with_reducible repeat (first | refine y12 ?_ _ | refine y11 ?_ | refine y8 ?_ _)); exact BK335.out) hb)
           have n2_ := y0.mk (y7 (by repeat (first | (with_reducible first | exact HB.out | apply y3 | apply y23 | apply y4 | refine y5 ?_ GE332.out | refine y5 ?_ GE335.out) | exact HB.out)) hb)
           clear BK332
           clear BK335
           clear HB
           have BK332 := n0_
           have BK335 := n1_
           have HB := n2_
           clear n0_ n1_ n2_
           (try clear hb)
           (try clear hb2)
           (try clear hk)
           (try clear hi)
           refine hK.out _ _ ⟨(y10 BK335.out 0).trans rfl,(y10 BK332.out 0).trans rfl,(y10 BK332.out 1).trans rfl⟩ (fun hHeld => ?_)
           clear hK K
           refine norm_ (a' := ?_) ?_ ?_
           rotate_left
           ·show Act.put _ (some 24) _ = _
            simp only [Act.put,qS_,qZ_,qC_,y21,y20]
            rfl
           refine y22 (i := 2) (N := some 25) (v := ?_) (a' := ?_) (fl_ 26 7) rfl rfl (y2 HT_.out (by kernel_rfl)) (fun _ _ _ h => h) (Or.inl ⟨by rfl, ?_⟩) ?_ ?_
           rotate_left
           ·intro w'
            go_simp
            with_reducible rfl
           rotate_left
           ·simp only [Act.put,qS_,qZ_,qC_,y21,y20]
            rfl
           refine y22 (i := 3) (N := some 26) (v := ?_) (a' := ?_) (fl_ 26 15) rfl rfl (y2 HT_.out (by kernel_rfl)) (fun _ _ _ h => h) (Or.inl ⟨by rfl, ?_⟩) ?_ ?_
           rotate_left
           ·intro w'
            go_simp
            with_reducible rfl
           rotate_left
           ·simp only [Act.put,qS_,qZ_,qC_,y21,y20]
            rfl
           refine y22 (i := 4) (N := some 27) (v := ?_) (a' := ?_) (fl_ 26 31) rfl rfl (y2 HT_.out (by kernel_rfl)) (fun _ _ _ h => h) (Or.inl ⟨by rfl, ?_⟩) ?_ ?_
           rotate_left
           ·intro w'
            go_simp
            with_reducible rfl
           rotate_left
           ·simp only [Act.put,qS_,qZ_,qC_,y21,y20]
            rfl
           refine y22 (i := 7) (N := some 30) (v := ?_) (a' := ?_) (fl_ 26 159) rfl rfl (y2 HT_.out (by kernel_rfl)) (fun _ _ _ h => h) (Or.inl ⟨by rfl, ?_⟩) ?_ ?_
           rotate_left
           ·intro w'
            go_simp
            with_reducible rfl
           rotate_left
           ·simp only [Act.put,qS_,qZ_,qC_,y21,y20]
            rfl
           refine take_ (i := 5) (N := some 28) (v := ?_) (a' := ?_) (fl_ 26 191) rfl rfl (y26 HT_.out HW_.out (by kernel_rfl)) (fun _ _ _ h => h) (Or.inl ⟨by rfl, ?_⟩) hHeld ?_ ?_
           rotate_left
           ·rintro w' ⟨s0,s1,s2⟩
            go_simp
            with_reducible rfl
           rotate_left
           ·simp only [Act.put,qS_,qZ_,qC_,y21,y20]
            rfl
           refine y22 (i := 6) (N := some 29) (v := ?_) (a' := ?_) (fl_ 26 255) rfl rfl (y2 HT_.out (by kernel_rfl)) (fun _ _ _ h => h) (Or.inl ⟨by rfl, ?_⟩) ?_ ?_
           rotate_left
           ·intro w'
            go_simp
            with_reducible rfl
           rotate_left
           ·simp only [Act.put,qS_,qZ_,qC_,y21,y20]
            rfl
           refine take_ (i := 8) (N := some 31) (v := ?_) (a' := ?_) (fl_ 26 511) rfl rfl (y26 HT_.out HW_.out (by kernel_rfl)) (fun _ _ _ h => h) (Or.inl ⟨by rfl, ?_⟩) hHeld ?_ ?_
           rotate_left
           ·rintro w' ⟨s0,s1,s2⟩
            go_simp
            with_reducible rfl
           rotate_left
           ·simp only [Act.put,qS_,qZ_,qC_,y21,y20]
            rfl
           refine y22 (i := 9) (N := some 32) (v := ?_) (a' := ?_) (fl_ 26 1023) rfl rfl (y2 HT_.out (by kernel_rfl)) (fun _ _ _ h => h) (Or.inl ⟨by rfl, ?_⟩) ?_ ?_
           rotate_left
           ·intro w'
            go_simp
            with_reducible rfl
           rotate_left
           ·simp only [Act.put,qS_,qZ_,qC_,y21,y20]
            rfl
           refine y22 (i := 10) (N := some 33) (v := ?_) (a' := ?_) (fl_ 26 2047) rfl rfl (y2 HT_.out (by kernel_rfl)) (fun _ _ _ h => h) (Or.inl ⟨by rfl, ?_⟩) ?_ ?_
           rotate_left
           ·intro w'
            go_simp
            with_reducible rfl
           rotate_left
           ·simp only [Act.put,qS_,qZ_,qC_,y21,y20]
            rfl
           refine y22 (i := 11) (N := some 34) (v := ?_) (a' := ?_) (fl_ 26 4095) rfl rfl (y2 HT_.out (by kernel_rfl)) (fun _ _ _ h => h) (Or.inl ⟨by rfl, ?_⟩) ?_ ?_
           rotate_left
           ·intro w'
            go_simp
            with_reducible rfl
           rotate_left
           ·simp only [Act.put,qS_,qZ_,qC_,y21,y20]
            rfl
           refine y22 (i := 12) (N := some 35) (v := undef) (a' := ?_) (fl_ 26 8191) rfl rfl (y2 HT_.out (by kernel_rfl)) (fun _ _ _ h => h) (Or.inr ⟨by rfl,rfl⟩) ?_ ?_
           rotate_left
           ·simp only [Act.put,qS_,qZ_,qC_,y21,y20]
            rfl
           refine y22 (i := 13) (N := some 36) (v := undef) (a' := ?_) (fl_ 26 16383) rfl rfl (y2 HT_.out (by kernel_rfl)) (fun _ _ _ h => h) (Or.inr ⟨by rfl,rfl⟩) ?_ ?_
           rotate_left
           ·simp only [Act.put,qS_,qZ_,qC_,y21,y20]
            rfl
           refine y22 (i := 14) (N := some 37) (v := undef) (a' := ?_) (fl_ 26 32767) rfl rfl (y2 HT_.out (by kernel_rfl)) (fun _ _ _ h => h) (Or.inr ⟨by rfl,rfl⟩) ?_ ?_
           rotate_left
           ·simp only [Act.put,qS_,qZ_,qC_,y21,y20]
            rfl
           refine y22 (i := 15) (N := some 38) (v := undef) (a' := ?_) (fl_ 26 65535) rfl rfl (y2 HT_.out (by kernel_rfl)) (fun _ _ _ h => h) (Or.inr ⟨by rfl,rfl⟩) ?_ ?_
           rotate_left
           ·simp only [Act.put,qS_,qZ_,qC_,y21,y20]
            rfl
           refine y22 (i := 16) (N := some 39) (v := undef) (a' := ?_) (fl_ 26 131071) rfl rfl (y2 HT_.out (by kernel_rfl)) (fun _ _ _ h => h) (Or.inr ⟨by rfl,rfl⟩) ?_ ?_
           rotate_left
           ·simp only [Act.put,qS_,qZ_,qC_,y21,y20]
            rfl
           refine y22 (i := 17) (N := some 40) (v := undef) (a' := ?_) (fl_ 26 262143) rfl rfl (y2 HT_.out (by kernel_rfl)) (fun _ _ _ h => h) (Or.inr ⟨by rfl,rfl⟩) ?_ ?_
           rotate_left
           ·simp only [Act.put,qS_,qZ_,qC_,y21,y20]
            rfl
           refine y22 (i := 18) (N := some 41) (v := undef) (a' := ?_) (fl_ 26 524287) rfl rfl (y2 HT_.out (by kernel_rfl)) (fun _ _ _ h => h) (Or.inr ⟨by rfl,rfl⟩) ?_ ?_
           rotate_left
           ·simp only [Act.put,qS_,qZ_,qC_,y21,y20]
            rfl
           refine y22 (i := 19) (N := some 42) (v := undef) (a' := ?_) (fl_ 26 1048575) rfl rfl (y2 HT_.out (by kernel_rfl)) (fun _ _ _ h => h) (Or.inr ⟨by rfl,rfl⟩) ?_ ?_
           rotate_left
           ·simp only [Act.put,qS_,qZ_,qC_,y21,y20]
            rfl
           refine y22 (i := 20) (N := some 43) (v := undef) (a' := ?_) (fl_ 26 2097151) rfl rfl (y2 HT_.out (by kernel_rfl)) (fun _ _ _ h => h) (Or.inr ⟨by rfl,rfl⟩) ?_ ?_
           rotate_left
           ·simp only [Act.put,qS_,qZ_,qC_,y21,y20]
            rfl
           refine y22 (i := 21) (N := some 44) (v := undef) (a' := ?_) (fl_ 26 4194303) rfl rfl (y2 HT_.out (by kernel_rfl)) (fun _ _ _ h => h) (Or.inr ⟨by rfl,rfl⟩) ?_ ?_
           rotate_left
           ·simp only [Act.put,qS_,qZ_,qC_,y21,y20]
            rfl
           refine y22 (i := 22) (N := some 45) (v := undef) (a' := ?_) (fl_ 26 8388607) rfl rfl (y2 HT_.out (by kernel_rfl)) (fun _ _ _ h => h) (Or.inr ⟨by rfl,rfl⟩) ?_ ?_
           rotate_left
           ·simp only [Act.put,qS_,qZ_,qC_,y21,y20]
            rfl
           refine y22 (i := 23) (N := some 46) (v := undef) (a' := ?_) (fl_ 26 16777215) rfl rfl (y2 HT_.out (by kernel_rfl)) (fun _ _ _ h => h) (Or.inr ⟨by rfl,rfl⟩) ?_ ?_
           rotate_left
           ·simp only [Act.put,qS_,qZ_,qC_,y21,y20]
            rfl
           refine y22 (i := 24) (N := some 47) (v := undef) (a' := ?_) (fl_ 26 33554431) rfl rfl (y2 HT_.out (by kernel_rfl)) (fun _ _ _ h => h) (Or.inr ⟨by rfl,rfl⟩) ?_ ?_
           rotate_left
           ·simp only [Act.put,qS_,qZ_,qC_,y21,y20]
            rfl
           refine y22 (i := 25) (N := some 48) (v := ?_) (a' := ?_) (fl_ 26 67108863) rfl rfl (y2 HT_.out (by kernel_rfl)) (fun _ _ _ h => h) (Or.inl ⟨by rfl, ?_⟩) ?_ ?_
           rotate_left
           ·intro w'
            go_simp
            with_reducible rfl
           rotate_left
           ·simp only [Act.put,qS_,qZ_,qC_,y21,y20]
            rfl
           refine done_ (done_of HT_.out (by kernel_rfl)) ?_
           try go_wp2
           go_ret
           exact ⟨by first | rfl | (simp [y15,y16] <;> rfl) | (simp [*,y15,y16] <;> rfl),by repeat (first | (with_reducible first | exact HB.out | apply y3 | apply y23 | apply y4 | refine y5 ?_ GE332.out | refine y5 ?_ GE335.out) | exact HB.out)⟩
         ·replace c14 := Bool.eq_false_iff.mpr c14
          subst c14
          have H1 : (some false) = some r := by rw [if_neg (show ¬ (false = true) by decide)] at H; exact H
          clear H
          have H := H1
          clear H1
          obtain rfl := Option.some.inj H
          have p334 : 0 ≤ (x18_2 : Int) := of_decide_eq_true (by first | (with_reducible assumption) | assumption)
          have q334 : x18_2 < (l0_1.length : Int) := of_decide_eq_true (by first | (with_reducible assumption) | assumption)
          obtain ⟨ad334,A334_0,c334_0,e334,hx334_0,hl334_0,hi334_0⟩ := at_T35 HR0_1.out x18_2 p334 q334
          cases e334
          replace hx334_0 := (HB.out.cell (World.block_lt_of_cell? w _ hx334_0)).trans hx334_0
          have HR334_0 := y0.mk hi334_0
          have HC334_0 := y0.mk hl334_0
          clear hi334_0 hl334_0
          replace p334 := eq_true p334
          replace q334 := eq_true q334
          try go_wp2_with (first | ((with_reducible refine y18 (N := 4) rfl ?_); (try (refine gate_guard (by rfl) ?_; dsimp only)); refine y14 ?hg (N := 4) ?hd (cs := #[.slice none 0 0]) (t := 35) ?hr ?_; (case hd => rfl); (case hg => rfl); (case hr => first | (go_simp; done) | (go_simp; rfl)); intro gb335 hg w48 hbox hb; have n0_ := y0.mk (y9 (g := gb332) (o := .cells #[.int .i64 a0_0,.slice (some ad334) l0_1.length c0_1] 33 (0,0)) (by (with_reducible repeat (first | refine y12 ?_ _ | refine y11 ?_ | refine y8 ?_ _)); exact BK332.out) hb); have n1_ := y0.mk (y7 (by repeat (first | (with_reducible first | exact HB.out | apply y3 | apply y23 | apply y4 | refine y5 ?_ GE332.out) | exact HB.out)) hb); have n2_ := y0.mk (hbox); have n3_ := y0.mk ((by rw [hg]; exact (y6 (by repeat (first | (with_reducible first | exact HB.out | apply y3 | apply y23 | apply y4 | refine y5 ?_ GE332.out) | exact HB.out))) : w.heap.size ≤ gb335)); have n4_ := y0.mk ((by rw [hg]; exact (y6 (by repeat (first | (with_reducible first | exact HB.out | apply y3 | apply y23 | apply y4 | refine y5 ?_ GE332.out) | exact HB.out))) : w.heap.size ≤ gb335)); have n5_ := y0.mk ((by rw [hg]; exact Nat.ne_of_lt (blk_lt (g := gb332) (o := .cells #[.int .i64 a0_0,.slice (some ad334) l0_1.length c0_1] 33 (0,0)) (by (with_reducible repeat (first | refine y12 ?_ _ | refine y11 ?_ | refine y8 ?_ _)); exact BK332.out)) : gb332 ≠ gb335)); have n6_ := y0.mk ((by rw [hg]; exact Nat.ne_of_gt (blk_lt (g := gb332) (o := .cells #[.int .i64 a0_0,.slice (some ad334) l0_1.length c0_1] 33 (0,0)) (by (with_reducible repeat (first | refine y12 ?_ _ | refine y11 ?_ | refine y8 ?_ _)); exact BK332.out)) : gb335 ≠ gb332)); clear BK332; clear HB; have BK332 := n0_; have HB := n1_; have BK335 := n2_; have GW335 := n3_; have GE335 := n4_; have NB332_335 := n5_; have NB335_332 := n6_; clear n0_ n1_ n2_ n3_ n4_ n5_ n6_; clear hb hbox hg; have hnb49 := NB335_332.out; have hnc49 := NB332_335.out; have hcz50_0 : w48.cell? ⟨gb335,0,none⟩ = some (.slice none 0 0) := (y10 BK335.out 0).trans rfl; have hfz50_0 := y13 BK335.out 0))
          have n0_ : y0 ((w48.setCell ⟨gb335,0,none⟩ (.slice A334_0 ((y24 l0_1 x18_2).f0).length c334_0)).heap[gb332]? = some (.cells #[.int .i64 a0_0,.slice (some ad334) l0_1.length c0_1] 33 (0,0))) := ⟨by (with_reducible repeat (first | refine y12 ?_ _ | refine y11 ?_ | refine y8 ?_ _)); refine blk_far ?_ NB332_335.out _; (with_reducible repeat (first | refine y12 ?_ _ | refine y11 ?_ | refine y8 ?_ _)); exact BK332.out⟩
          have n1_ : y0 ((w48.setCell ⟨gb335,0,none⟩ (.slice A334_0 ((y24 l0_1 x18_2).f0).length c334_0)).heap[gb335]? = some (.cells #[.slice A334_0 ((y24 l0_1 x18_2).f0).length c334_0] 35 (0,0))) := ⟨by (with_reducible repeat (first | refine y12 ?_ _ | refine y11 ?_ | refine y8 ?_ _)); refine blk_put (cs := #[.slice none 0 0]) ?_ 0 _ rfl; (with_reducible repeat (first | refine y12 ?_ _ | refine y11 ?_ | refine y8 ?_ _)); exact BK335.out⟩
          have n2_ : y0 (Below w.heap.size w (w48.setCell ⟨gb335,0,none⟩ (.slice A334_0 ((y24 l0_1 x18_2).f0).length c334_0))) := ⟨by repeat (first | (with_reducible first | exact HB.out | apply y3 | apply y23 | apply y4 | refine y5 ?_ GE332.out | refine y5 ?_ GE335.out) | exact HB.out)⟩
          (try clear BK332)
          (try clear BK335)
          (try clear HB)
          generalize (w48.setCell ⟨gb335,0,none⟩ (.slice A334_0 ((y24 l0_1 x18_2).f0).length c334_0)) = w51 at n0_ n1_ n2_ ⊢
          have BK332 := n0_
          have BK335 := n1_
          have HB := n2_
          clear n0_ n1_ n2_
          have n0_ := y0.mk (y11 BK332.out)
          have n1_ := y0.mk (y11 BK335.out)
          have n2_ := y0.mk (y4 HB.out)
          clear BK332
          clear BK335
          clear HB
          have BK332 := n0_
          have BK335 := n1_
          have HB := n2_
          clear n0_ n1_ n2_
          refine start_ (n := 26) (S := fun w' => w'.cell? ⟨gb335,0,none⟩ = some (.slice A334_0 ((y24 l0_1 x18_2).f0).length c334_0)) (ds := []) (fl_ 26 0) (by kernel_rfl) rfl rfl ((y10 BK335.out 0).trans rfl) (fun hHeld => ?_); refine with_tabW impl_isRel.tab6 impl_isRel.bits6 (fun HT_ HW_ => ?_)
          generalize w51.drew = w52 at BK332 BK335 HB hHeld ⊢
          refine take_ (i := 0) (N := some 23) (v := ?_) (a' := ?_) (fl_ 26 1) rfl rfl (y26 HT_.out HW_.out (by kernel_rfl)) (fun _ _ _ h => h) (Or.inl ⟨by rfl, ?_⟩) hHeld ?_ ?_
          rotate_left
          ·intro w' s0
           go_simp
           with_reducible rfl
          rotate_left
          ·simp only [Act.put,qS_,qZ_,qC_,y21,y20]
           rfl
          refine one_ (i := 1) (N := some 24) (fl_ 26 3) rfl rfl (one_of HT_.out (by kernel_rfl)) (by decide) (fun K hK => ?_)
          refine goes_ Tryz.func66 (by kernel_rfl) rfl #[.agg #[.slice A334_0 ((y24 l0_1 x18_2).f0).length c334_0]] (by rfl) rfl rfl (by (try simp only [qM_,List.map_cons,List.map_nil]); first | done | rfl | (simp only [qD_,qT_]; rfl)) ?_
          with_reducible refine (impl_isTuple.calls k2 _ _ ((y24 l0_1 x18_2).f0) false _ ?side1 ?side2 ?side3 A13.out).mono ?_
          (case side1 => repeat (first | exact (Kd.C_below HR334_0.out HB.out) | (with_reducible refine Kd.C_alloc ?_ _) | (with_reducible refine Kd.C_drewN ?_ _) | (with_reducible refine Kd.C_drew ?_)))
          (case side2 => exact HC334_0.out)
          (case side3 => exact Tb.below HT.out (by repeat (first | (with_reducible first | exact HB.out | apply y3 | apply y23 | apply y4 | refine y5 ?_ GE332.out | refine y5 ?_ GE335.out) | exact HB.out)))
          rintro e w53 ⟨rfl,hb⟩
          refine ⟨_,rfl, ?_⟩
          have n0_ := y0.mk (y9 (g := gb332) (o := .cells #[.int .i64 a0_0,.slice (some ad334) l0_1.length c0_1] 33 (0,0)) (by (with_reducible repeat (first | refine y12 ?_ _ | refine y11 ?_ | refine y8 ?_ _)); exact BK332.out) hb)
          have n1_ := y0.mk (y9 (g := gb335) (o := .cells #[.slice A334_0 ((y24 l0_1 x18_2).f0).length c334_0] 35 (0,0)) (by (with_reducible repeat (first | refine y12 ?_ _ | refine y11 ?_ | refine y8 ?_ _)); exact BK335.out) hb)
          have n2_ := y0.mk (y7 (by repeat (first | (with_reducible first | exact HB.out | apply y3 | apply y23 | apply y4 | refine y5 ?_ GE332.out | refine y5 ?_ GE335.out) | exact HB.out)) hb)
          clear BK332
          clear BK335
          clear HB
          have BK332 := n0_
          have BK335 := n1_
          have HB := n2_
          clear n0_ n1_ n2_
          (try clear hb)
          (try clear hb2)
          (try clear hk)
          (try clear hi)
          refine hK.out _ _ ((y10 BK335.out 0).trans rfl) (fun hHeld => ?_)
          clear hK K
          refine norm_ (a' := ?_) ?_ ?_
          rotate_left
          ·show Act.put _ (some 24) _ = _
           simp only [Act.put,qS_,qZ_,qC_,y21,y20]
           rfl
          refine y22 (i := 2) (N := some 25) (v := ?_) (a' := ?_) (fl_ 26 7) rfl rfl (y2 HT_.out (by kernel_rfl)) (fun _ _ _ h => h) (Or.inl ⟨by rfl, ?_⟩) ?_ ?_
          rotate_left
          ·intro w'
           go_simp
           with_reducible rfl
          rotate_left
          ·simp only [Act.put,qS_,qZ_,qC_,y21,y20]
           rfl
          refine y22 (i := 3) (N := some 26) (v := ?_) (a' := ?_) (fl_ 26 15) rfl rfl (y2 HT_.out (by kernel_rfl)) (fun _ _ _ h => h) (Or.inl ⟨by rfl, ?_⟩) ?_ ?_
          rotate_left
          ·intro w'
           go_simp
           with_reducible rfl
          rotate_left
          ·simp only [Act.put,qS_,qZ_,qC_,y21,y20]
           rfl
          refine y22 (i := 4) (N := some 27) (v := undef) (a' := ?_) (fl_ 26 31) rfl rfl (y2 HT_.out (by kernel_rfl)) (fun _ _ _ h => h) (Or.inr ⟨by rfl,rfl⟩) ?_ ?_
          rotate_left
          ·simp only [Act.put,qS_,qZ_,qC_,y21,y20]
           rfl
          refine y22 (i := 5) (N := some 28) (v := undef) (a' := ?_) (fl_ 26 63) rfl rfl (y2 HT_.out (by kernel_rfl)) (fun _ _ _ h => h) (Or.inr ⟨by rfl,rfl⟩) ?_ ?_
          rotate_left
          ·simp only [Act.put,qS_,qZ_,qC_,y21,y20]
           rfl
          refine y22 (i := 6) (N := some 29) (v := undef) (a' := ?_) (fl_ 26 127) rfl rfl (y2 HT_.out (by kernel_rfl)) (fun _ _ _ h => h) (Or.inr ⟨by rfl,rfl⟩) ?_ ?_
          rotate_left
          ·simp only [Act.put,qS_,qZ_,qC_,y21,y20]
           rfl
          refine y22 (i := 7) (N := some 30) (v := undef) (a' := ?_) (fl_ 26 255) rfl rfl (y2 HT_.out (by kernel_rfl)) (fun _ _ _ h => h) (Or.inr ⟨by rfl,rfl⟩) ?_ ?_
          rotate_left
          ·simp only [Act.put,qS_,qZ_,qC_,y21,y20]
           rfl
          refine y22 (i := 8) (N := some 31) (v := undef) (a' := ?_) (fl_ 26 511) rfl rfl (y2 HT_.out (by kernel_rfl)) (fun _ _ _ h => h) (Or.inr ⟨by rfl,rfl⟩) ?_ ?_
          rotate_left
          ·simp only [Act.put,qS_,qZ_,qC_,y21,y20]
           rfl
          refine y22 (i := 9) (N := some 32) (v := undef) (a' := ?_) (fl_ 26 1023) rfl rfl (y2 HT_.out (by kernel_rfl)) (fun _ _ _ h => h) (Or.inr ⟨by rfl,rfl⟩) ?_ ?_
          rotate_left
          ·simp only [Act.put,qS_,qZ_,qC_,y21,y20]
           rfl
          refine y22 (i := 10) (N := some 33) (v := ?_) (a' := ?_) (fl_ 26 2047) rfl rfl (y2 HT_.out (by kernel_rfl)) (fun _ _ _ h => h) (Or.inl ⟨by rfl, ?_⟩) ?_ ?_
          rotate_left
          ·intro w'
           go_simp
           with_reducible rfl
          rotate_left
          ·simp only [Act.put,qS_,qZ_,qC_,y21,y20]
           rfl
          refine y22 (i := 11) (N := some 34) (v := ?_) (a' := ?_) (fl_ 26 4095) rfl rfl (y2 HT_.out (by kernel_rfl)) (fun _ _ _ h => h) (Or.inl ⟨by rfl, ?_⟩) ?_ ?_
          rotate_left
          ·intro w'
           go_simp
           with_reducible rfl
          rotate_left
          ·simp only [Act.put,qS_,qZ_,qC_,y21,y20]
           rfl
          refine y22 (i := 12) (N := some 35) (v := undef) (a' := ?_) (fl_ 26 8191) rfl rfl (y2 HT_.out (by kernel_rfl)) (fun _ _ _ h => h) (Or.inr ⟨by rfl,rfl⟩) ?_ ?_
          rotate_left
          ·simp only [Act.put,qS_,qZ_,qC_,y21,y20]
           rfl
          refine y22 (i := 13) (N := some 36) (v := undef) (a' := ?_) (fl_ 26 16383) rfl rfl (y2 HT_.out (by kernel_rfl)) (fun _ _ _ h => h) (Or.inr ⟨by rfl,rfl⟩) ?_ ?_
          rotate_left
          ·simp only [Act.put,qS_,qZ_,qC_,y21,y20]
           rfl
          refine y22 (i := 14) (N := some 37) (v := undef) (a' := ?_) (fl_ 26 32767) rfl rfl (y2 HT_.out (by kernel_rfl)) (fun _ _ _ h => h) (Or.inr ⟨by rfl,rfl⟩) ?_ ?_
          rotate_left
          ·simp only [Act.put,qS_,qZ_,qC_,y21,y20]
           rfl
          refine y22 (i := 15) (N := some 38) (v := undef) (a' := ?_) (fl_ 26 65535) rfl rfl (y2 HT_.out (by kernel_rfl)) (fun _ _ _ h => h) (Or.inr ⟨by rfl,rfl⟩) ?_ ?_
          rotate_left
          ·simp only [Act.put,qS_,qZ_,qC_,y21,y20]
           rfl
          refine y22 (i := 16) (N := some 39) (v := undef) (a' := ?_) (fl_ 26 131071) rfl rfl (y2 HT_.out (by kernel_rfl)) (fun _ _ _ h => h) (Or.inr ⟨by rfl,rfl⟩) ?_ ?_
          rotate_left
          ·simp only [Act.put,qS_,qZ_,qC_,y21,y20]
           rfl
          refine y22 (i := 17) (N := some 40) (v := undef) (a' := ?_) (fl_ 26 262143) rfl rfl (y2 HT_.out (by kernel_rfl)) (fun _ _ _ h => h) (Or.inr ⟨by rfl,rfl⟩) ?_ ?_
          rotate_left
          ·simp only [Act.put,qS_,qZ_,qC_,y21,y20]
           rfl
          refine y22 (i := 18) (N := some 41) (v := undef) (a' := ?_) (fl_ 26 524287) rfl rfl (y2 HT_.out (by kernel_rfl)) (fun _ _ _ h => h) (Or.inr ⟨by rfl,rfl⟩) ?_ ?_
          rotate_left
          ·simp only [Act.put,qS_,qZ_,qC_,y21,y20]
           rfl
          refine y22 (i := 19) (N := some 42) (v := undef) (a' := ?_) (fl_ 26 1048575) rfl rfl (y2 HT_.out (by kernel_rfl)) (fun _ _ _ h => h) (Or.inr ⟨by rfl,rfl⟩) ?_ ?_
          rotate_left
          ·simp only [Act.put,qS_,qZ_,qC_,y21,y20]
           rfl
          refine y22 (i := 20) (N := some 43) (v := undef) (a' := ?_) (fl_ 26 2097151) rfl rfl (y2 HT_.out (by kernel_rfl)) (fun _ _ _ h => h) (Or.inr ⟨by rfl,rfl⟩) ?_ ?_
          rotate_left
          ·simp only [Act.put,qS_,qZ_,qC_,y21,y20]
           rfl
          refine y22 (i := 21) (N := some 44) (v := undef) (a' := ?_) (fl_ 26 4194303) rfl rfl (y2 HT_.out (by kernel_rfl)) (fun _ _ _ h => h) (Or.inr ⟨by rfl,rfl⟩) ?_ ?_
          rotate_left
          ·simp only [Act.put,qS_,qZ_,qC_,y21,y20]
           rfl
          refine y22 (i := 22) (N := some 45) (v := undef) (a' := ?_) (fl_ 26 8388607) rfl rfl (y2 HT_.out (by kernel_rfl)) (fun _ _ _ h => h) (Or.inr ⟨by rfl,rfl⟩) ?_ ?_
          rotate_left
          ·simp only [Act.put,qS_,qZ_,qC_,y21,y20]
           rfl
          refine y22 (i := 23) (N := some 46) (v := undef) (a' := ?_) (fl_ 26 16777215) rfl rfl (y2 HT_.out (by kernel_rfl)) (fun _ _ _ h => h) (Or.inr ⟨by rfl,rfl⟩) ?_ ?_
          rotate_left
          ·simp only [Act.put,qS_,qZ_,qC_,y21,y20]
           rfl
          refine y22 (i := 24) (N := some 47) (v := undef) (a' := ?_) (fl_ 26 33554431) rfl rfl (y2 HT_.out (by kernel_rfl)) (fun _ _ _ h => h) (Or.inr ⟨by rfl,rfl⟩) ?_ ?_
          rotate_left
          ·simp only [Act.put,qS_,qZ_,qC_,y21,y20]
           rfl
          refine y22 (i := 25) (N := some 48) (v := ?_) (a' := ?_) (fl_ 26 67108863) rfl rfl (y2 HT_.out (by kernel_rfl)) (fun _ _ _ h => h) (Or.inl ⟨by rfl, ?_⟩) ?_ ?_
          rotate_left
          ·intro w'
           go_simp
           with_reducible rfl
          rotate_left
          ·simp only [Act.put,qS_,qZ_,qC_,y21,y20]
           rfl
          refine done_ (done_of HT_.out (by kernel_rfl)) ?_
          try go_wp2
          go_ret
          exact ⟨by first | rfl | (simp [y15,y16] <;> rfl) | (simp [*,y15,y16] <;> rfl),by repeat (first | (with_reducible first | exact HB.out | apply y3 | apply y23 | apply y4 | refine y5 ?_ GE332.out | refine y5 ?_ GE335.out) | exact HB.out)⟩
        ·as_aux_lemma =>
         rw [if_neg c12] at H
         exact absurd H (by simp)
       ·as_aux_lemma =>
        rw [if_neg c11] at H
        exact absurd H (by simp)
      ·as_aux_lemma =>
       rw [if_neg c10] at H
       have c10b0 : decide (x18_2 < (l0_1.length : Int)) = false := decide_eq_false c10
       clear c10
       obtain rfl := Option.some.inj H
       go_wp2
       go_ret
       exact ⟨by first | rfl | (simp [y15,y16] <;> rfl) | (simp [*,y15,y16] <;> rfl),by repeat (first | (with_reducible first | exact HB.out | apply y3 | apply y23 | apply y4 | refine y5 ?_ GE332.out) | exact HB.out)⟩
end Go.Proofs.YtebadckdihgklaaGreatDoor.Ph
end
section
namespace Go.Proofs.YtebadckdihgklaaGreatDoor.Ph
open Go.RowKit Go.Proofs.YtebadckdihgklaaGreatDoorW.PrintWords Go.Proofs.YtebadckdihgklaaGreatDoorW.PrintLast Go.Proofs.YtebadckdihgklaaGreatDoorW.PrintMore
attribute [local go_sem] max2_int min2_int max_two min_two max_three min_three max_four min_four   -- for this text's walks alone
set_option linter.unusedVariables false
set_option linter.unusedSimpArgs false
def slices_Equal_string_string.l0 : Nat → List ByteArray → List ByteArray → Int → Int → Option (Bool)
 | 0,_,_,_,_ => none
 | k + 1,x0,x1,x12,x13 => if x13 < x12 then (if 0 ≤ x13 then (if x13 < (x0.length : Int) then (if x13 < (x1.length : Int) then (if (rdOf ByteArray.empty x0 x13).toList = (rdOf ByteArray.empty x1 x13).toList then (slices_Equal_string_string.l0 k x0 x1 x12 (wrap64 (x13 + 1))) else (some false)) else (none)) else (none)) else (none)) else (some true)
def slices_Equal_string_string.f (k : Nat) (l0 : List ByteArray) (l1 : List ByteArray) : Option (Bool) := if (l0.length : Int) = (l1.length : Int) then (slices_Equal_string_string.l0 k l0 l1 (l0.length : Int) 0) else (some false)
set_option maxHeartbeats 8000000 in
set_option maxRecDepth 100000 in
theorem slices_Equal_string_string.calls (k : Nat) (A0 : Option Addr) (c0 : Nat) (l0 : List ByteArray) (A1 : Option Addr) (c1 : Nat) (l1 : List ByteArray) (r : Bool) (w : World) (hr0 : Kd.C Kd.string w A0 l0.length l0) (hc0 : l0.length ≤ c0) (hr1 : Kd.C Kd.string w A1 l1.length l1) (hc1 : l1.length ≤ c1) (h : slices_Equal_string_string.f k l0 l1 = some r) :
  Calls Tryz.prog 53 #[.slice A0 l0.length c0,.slice A1 l1.length c1] w fun e w' => e = .returned (.bool r) ∧ y1 w w' := by
 have HR0 := y0.mk hr0
 have HC0 := y0.mk hc0
 clear hr0 hc0
 have HR1 := y0.mk hr1
 have HC1 := y0.mk hc1
 clear hr1 hc1
 have H : (if (l0.length : Int) = (l1.length : Int) then (slices_Equal_string_string.l0 k l0 l1 (l0.length : Int) 0) else (some false)) = some r := h
 clear h
 by_cases c3 : (l0.length : Int) = (l1.length : Int)
 ·rw [if_pos c3] at H
  have c3b0 : ((l0.length : Int) == (l1.length : Int)) = true := beq_iff_eq.mpr c3
  have c3b1 : ((l0.length : Int) != (l1.length : Int)) = false := bne_eq_false_iff_eq.mpr c3
  have c3b2 : (l0.length == l1.length) = true := by first | simpa using c3 | (simp at c3 ⊢; omega)
  clear c3
  have H' := y0.mk H
  clear H
  go_enter Tryz.func53,Tryz.ntmps53
  go_wp2
  repeat (go_quiet (fail); try go_wp2)
  go_loopg [13] k (fun kq v13 w' => ∃ (x13_1 : Int),v13 = .int .i64 x13_1 ∧ y0 (slices_Equal_string_string.l0 kq l0 l1 (l0.length : Int) x13_1 = some r) ∧ y0 (kq ≤ k) ∧ y1 w w')
  case atStart => exact ⟨(0),(by first | rfl | (simp; done) | (simp [*]; done)),H',⟨Nat.le_refl _⟩,by repeat (first | exact y1.refl _ | apply y1.step)⟩
  case round =>
   clear H'
   try clear c1
   try clear p2
   try clear c3
   try clear c3b0
   try clear c3b1
   try clear c3b2
   obtain ⟨x13_1,rfl,HA,HK1,⟨m1,rfl⟩⟩ := hrel
   cases gk with
   | zero => exact absurd HA.out (by simp [slices_Equal_string_string.l0])
   | succ k1 =>
    have H := HA.out
    clear HA
    simp only [slices_Equal_string_string.l0] at H
    by_cases c4 : x13_1 < (l0.length : Int)
    ·rw [if_pos c4] at H
     have c4b0 : decide (x13_1 < (l0.length : Int)) = true := decide_eq_true c4
     clear c4
     by_cases c5 : 0 ≤ x13_1
     ·rw [if_pos c5] at H
      have c5b0 : decide (0 ≤ x13_1) = true := decide_eq_true c5
      clear c5
      by_cases c6 : x13_1 < (l0.length : Int)
      ·rw [if_pos c6] at H
       have c6b0 : decide (x13_1 < (l0.length : Int)) = true := decide_eq_true c6
       clear c6
       by_cases c7 : x13_1 < (l1.length : Int)
       ·rw [if_pos c7] at H
        have c7b0 : decide (x13_1 < (l1.length : Int)) = true := decide_eq_true c7
        clear c7
        by_cases c8 : (rdOf ByteArray.empty l0 x13_1).toList = (rdOf ByteArray.empty l1 x13_1).toList
        ·rw [if_pos c8] at H
         have c8b0 : ((rdOf ByteArray.empty l0 x13_1).toList == (rdOf ByteArray.empty l1 x13_1).toList) = true := beq_iff_eq.mpr c8
         have c8b1 : ((rdOf ByteArray.empty l0 x13_1).toList != (rdOf ByteArray.empty l1 x13_1).toList) = false := bne_eq_false_iff_eq.mpr c8
         clear c8
         have H' := y0.mk H
         clear H
         have p339 : 0 ≤ (x13_1 : Int) := of_decide_eq_true (by first | (with_reducible assumption) | assumption)
         have q339 : x13_1 < (l0.length : Int) := of_decide_eq_true (by first | (with_reducible assumption) | assumption)
         obtain ⟨ad339,e339,hx339_0⟩ := Kd.at_string HR0.out x13_1 p339 q339
         cases e339
         replace p339 := eq_true p339
         replace q339 := eq_true q339
         have p340 : 0 ≤ (x13_1 : Int) := of_decide_eq_true (by first | (with_reducible assumption) | assumption)
         have q340 : x13_1 < (l1.length : Int) := of_decide_eq_true (by first | (with_reducible assumption) | assumption)
         obtain ⟨ad340,e340,hx340_0⟩ := Kd.at_string HR1.out x13_1 p340 q340
         cases e340
         replace p340 := eq_true p340
         replace q340 := eq_true q340
         go_wp2
         repeat (go_quiet (fail); try go_wp2)
         go_roundg k1
         case measure => have := HK1.out; omega
         case rel => exact ⟨(wrap64 (x13_1 + 1)),(by first | rfl | (simp; done) | (simp [*]; done)),H',⟨by have := HK1.out; omega⟩,by repeat (first | exact y1.refl _ | apply y1.step)⟩
        ·rw [if_neg c8] at H
         have c8b0 : ((rdOf ByteArray.empty l0 x13_1).toList == (rdOf ByteArray.empty l1 x13_1).toList) = false := beq_eq_false_iff_ne.mpr c8
         have c8b1 : ((rdOf ByteArray.empty l0 x13_1).toList != (rdOf ByteArray.empty l1 x13_1).toList) = true := bne_iff_ne.mpr c8
         obtain rfl := Option.some.inj H
         have p339 : 0 ≤ (x13_1 : Int) := of_decide_eq_true (by first | (with_reducible assumption) | assumption)
         have q339 : x13_1 < (l0.length : Int) := of_decide_eq_true (by first | (with_reducible assumption) | assumption)
         obtain ⟨ad339,e339,hx339_0⟩ := Kd.at_string HR0.out x13_1 p339 q339
         cases e339
         replace p339 := eq_true p339
         replace q339 := eq_true q339
         have p340 : 0 ≤ (x13_1 : Int) := of_decide_eq_true (by first | (with_reducible assumption) | assumption)
         have q340 : x13_1 < (l1.length : Int) := of_decide_eq_true (by first | (with_reducible assumption) | assumption)
         obtain ⟨ad340,e340,hx340_0⟩ := Kd.at_string HR1.out x13_1 p340 q340
         cases e340
         replace p340 := eq_true p340
         replace q340 := eq_true q340
         go_wp2
         repeat (go_quiet (fail); try go_wp2)
         go_ret
         exact ⟨by first | rfl | (simp; done) | (simp [*]; done),by repeat (first | exact y1.refl _ | apply y1.step)⟩
       ·rw [if_neg c7] at H
        exact absurd H (by simp)
      ·rw [if_neg c6] at H
       exact absurd H (by simp)
     ·rw [if_neg c5] at H
      exact absurd H (by simp)
    ·rw [if_neg c4] at H
     have c4b0 : decide (x13_1 < (l0.length : Int)) = false := decide_eq_false c4
     clear c4
     obtain rfl := Option.some.inj H
     go_wp2
     repeat (go_quiet (fail); try go_wp2)
     go_ret
     exact ⟨by first | rfl | (simp; done) | (simp [*]; done),by repeat (first | exact y1.refl _ | apply y1.step)⟩
 ·rw [if_neg c3] at H
  have c3b0 : ((l0.length : Int) == (l1.length : Int)) = false := beq_eq_false_iff_ne.mpr c3
  have c3b1 : ((l0.length : Int) != (l1.length : Int)) = true := bne_iff_ne.mpr c3
  have c3b2 : (l0.length == l1.length) = false := by first | simpa using c3 | (simp at c3 ⊢; omega)
  obtain rfl := Option.some.inj H
  go_enter Tryz.func53,Tryz.ntmps53
  go_wp2
  repeat (go_quiet (fail); try go_wp2)
  go_ret
  exact ⟨by first | rfl | (simp; done) | (simp [*]; done),by repeat (first | exact y1.refl _ | apply y1.step)⟩
def impl_sameTuple.f (k : Nat) (l0_0 : List ByteArray) (l1_0 : List ByteArray) : Option (Bool) := (slices_Equal_string_string.f k l0_0 l1_0).bind fun t343 => (some t343)
set_option maxHeartbeats 8000000 in
set_option maxRecDepth 100000 in
theorem impl_sameTuple.calls (k : Nat) (A0_0 : Option Addr) (c0_0 : Nat) (l0_0 : List ByteArray) (A1_0 : Option Addr) (c1_0 : Nat) (l1_0 : List ByteArray) (r : Bool) (w : World) (hr0_0 : Kd.C Kd.string w A0_0 l0_0.length l0_0) (hc0_0 : l0_0.length ≤ c0_0) (hr1_0 : Kd.C Kd.string w A1_0 l1_0.length l1_0) (hc1_0 : l1_0.length ≤ c1_0) (h : impl_sameTuple.f k l0_0 l1_0 = some r) :
  Calls Tryz.prog 74 #[.agg #[.slice A0_0 l0_0.length c0_0],.agg #[.slice A1_0 l1_0.length c1_0]] w fun e w' => e = .returned (.bool r) ∧ Below w.heap.size w w' := by
 have hu35 := Tryz.underlying35
 have HR0_0 := y0.mk hr0_0
 have HC0_0 := y0.mk hc0_0
 clear hr0_0 hc0_0
 have HR1_0 := y0.mk hr1_0
 have HC1_0 := y0.mk hc1_0
 clear hr1_0 hc1_0
 have HB := y0.mk (Below.refl w.heap.size w)
 have H : ((slices_Equal_string_string.f k l0_0 l1_0).bind fun t343 => (some t343)) = some r := h
 clear h
 replace H := Option.bind_eq_some_iff.mp H
 obtain ⟨t343,A30,H⟩ := H
 replace H : (some t343) = some r := H
 have A3 := y0.mk A30
 clear A30
 obtain rfl := Option.some.inj H
 go_enter Tryz.func74,Tryz.ntmps74
 go_wp2_with (first | ((with_reducible refine y18 (N := 2) rfl ?_); refine y14 ?hg (N := 2) ?hd (cs := #[.slice A0_0 l0_0.length c0_0]) (t := 35) ?hr ?_; (case hd => rfl); (case hg => rfl); (case hr => first | (go_simp; done) | (go_simp; rfl)); intro gb341 hg w4 hbox hb; have n0_ := y0.mk (y7 (by repeat (first | (with_reducible first | exact HB.out | apply y3 | apply y23 | apply y4) | exact HB.out)) hb); have n1_ := y0.mk (hbox); have n2_ := y0.mk ((by rw [hg]; exact (y6 (by repeat (first | (with_reducible first | exact HB.out | apply y3 | apply y23 | apply y4) | exact HB.out))) : w.heap.size ≤ gb341)); have n3_ := y0.mk ((by rw [hg]; exact (y6 (by repeat (first | (with_reducible first | exact HB.out | apply y3 | apply y23 | apply y4) | exact HB.out))) : w.heap.size ≤ gb341)); clear HB; have HB := n0_; have BK341 := n1_; have GW341 := n2_; have GE341 := n3_; clear n0_ n1_ n2_ n3_; clear hb hbox hg) | ((with_reducible refine y18 (N := 3) rfl ?_); refine y14 ?hg (N := 3) ?hd (cs := #[.slice A1_0 l1_0.length c1_0]) (t := 35) ?hr ?_; (case hd => rfl); (case hg => rfl); (case hr => first | (go_simp; done) | (go_simp; rfl)); intro gb342 hg w5 hbox hb; have n0_ := y0.mk (y9 (g := gb341) (o := .cells #[.slice A0_0 l0_0.length c0_0] 35 (0,0)) (by (with_reducible repeat (first | refine y12 ?_ _ | refine y11 ?_ | refine y8 ?_ _)); exact BK341.out) hb); have n1_ := y0.mk (y7 (by repeat (first | (with_reducible first | exact HB.out | apply y3 | apply y23 | apply y4 | refine y5 ?_ GE341.out) | exact HB.out)) hb); have n2_ := y0.mk (hbox); have n3_ := y0.mk ((by rw [hg]; exact (y6 (by repeat (first | (with_reducible first | exact HB.out | apply y3 | apply y23 | apply y4 | refine y5 ?_ GE341.out) | exact HB.out))) : w.heap.size ≤ gb342)); have n4_ := y0.mk ((by rw [hg]; exact (y6 (by repeat (first | (with_reducible first | exact HB.out | apply y3 | apply y23 | apply y4 | refine y5 ?_ GE341.out) | exact HB.out))) : w.heap.size ≤ gb342)); have n5_ := y0.mk ((by rw [hg]; exact Nat.ne_of_lt (blk_lt (g := gb341) (o := .cells #[.slice A0_0 l0_0.length c0_0] 35 (0,0)) (by (with_reducible repeat (first | refine y12 ?_ _ | refine y11 ?_ | refine y8 ?_ _)); exact BK341.out)) : gb341 ≠ gb342)); have n6_ := y0.mk ((by rw [hg]; exact Nat.ne_of_gt (blk_lt (g := gb341) (o := .cells #[.slice A0_0 l0_0.length c0_0] 35 (0,0)) (by (with_reducible repeat (first | refine y12 ?_ _ | refine y11 ?_ | refine y8 ?_ _)); exact BK341.out)) : gb342 ≠ gb341)); clear BK341; clear HB; have BK341 := n0_; have HB := n1_; have BK342 := n2_; have GW342 := n3_; have GE342 := n4_; have NB341_342 := n5_; have NB342_341 := n6_; clear n0_ n1_ n2_ n3_ n4_ n5_ n6_; clear hb hbox hg; have hnb6 := NB341_342.out; have hnc6 := NB342_341.out; have hcz7_0 : w5.cell? ⟨gb341,0,none⟩ = some (.slice A0_0 l0_0.length c0_0) := (y10 BK341.out 0).trans rfl; have hfz7_0 := y13 BK341.out 0; have hcz8_0 : w5.cell? ⟨gb342,0,none⟩ = some (.slice A1_0 l1_0.length c1_0) := (y10 BK342.out 0).trans rfl; have hfz8_0 := y13 BK342.out 0) | ((with_reducible refine y17 (f := 53) rfl ?_); refine y19 (some 9) rfl rfl Tryz.func53 (by kernel_rfl) rfl #[.slice A0_0 l0_0.length c0_0,.slice A1_0 l1_0.length c1_0] rfl (by (try simp only [qM_,List.map_cons,List.map_nil]); first | done | rfl | (simp only [qD_,qT_]; rfl)) ?_; (with_reducible refine (slices_Equal_string_string.calls k _ _ l0_0 _ _ l1_0 t343 _ ?side1 ?side2 ?side3 ?side4 A3.out).mono ?_); (case side1 => repeat (first | exact (Kd.C_below HR0_0.out HB.out) | (with_reducible refine Kd.C_alloc ?_ _) | (with_reducible refine Kd.C_drewN ?_ _) | (with_reducible refine Kd.C_drew ?_))); (case side2 => exact HC0_0.out); (case side3 => repeat (first | exact (Kd.C_below HR1_0.out HB.out) | (with_reducible refine Kd.C_alloc ?_ _) | (with_reducible refine Kd.C_drewN ?_ _) | (with_reducible refine Kd.C_drew ?_))); (case side4 => exact HC1_0.out); rintro e w' ⟨rfl,⟨nd,rfl⟩⟩; refine ⟨_,rfl, ?_⟩))
 go_ret
 exact ⟨by first | rfl | (simp [y15,y16] <;> rfl) | (simp [*,y15,y16] <;> rfl),by repeat (first | (with_reducible first | exact HB.out | apply y3 | apply y23 | apply y4 | refine y5 ?_ GE341.out | refine y5 ?_ GE342.out) | exact HB.out)⟩
/-- Two tuples of the same texts. -/
def sameT (a b : List ByteArray) : Bool := decide (a.map (·.data.toList) = b.map (·.data.toList))
theorem bl_of_pw {B : Nat} {w w' : World} (h : Below B w w') {g : Nat} {o : Obj} (hg : g < B) (hb : w.heap[g]? = some o) : w'.heap[g]? = some o := (h.block g hg).trans hb
theorem blk_lt' {w : World} {g : Nat} {o : Obj} (hb : w.heap[g]? = some o) : g < w.heap.size := (Array.getElem?_eq_some_iff.1 hb).1
set_option maxHeartbeats 8000000 in
set_option maxRecDepth 100000 in
theorem impl_Rel_has_1.calls (A0 : Option Addr) (c0 : Nat) (l0 : List ByteArray) (g : Nat) (A1 : Option Addr) (c1 : Nat) (l1 : List ByteArray) (w : World) (hr0 : Kd.C Kd.string w A0 l0.length l0) (hc0 : l0.length ≤ c0) (hr1 : Kd.C Kd.string w A1 l1.length l1) (hc1 : l1.length ≤ c1)
  (hb1 : w.heap[g]? = some (.cells #[.slice A1 l1.length c1] 35 (0,0))) (hsame : ∃ k,impl_sameTuple.f k l0 l1 = some (sameT l0 l1)) :
  Calls Tryz.prog 78 #[.agg #[.slice A0 l0.length c0],.pointer (some ⟨g,0,none⟩)] w fun e w' => e = .returned (.bool (sameT l0 l1)) ∧ Below w.heap.size w w' := by
 have hu35 := Tryz.underlying35
 obtain ⟨k,A3⟩ := hsame
 have HB := y0.mk (Below.refl w.heap.size w)
 have hlt := blk_lt' hb1
 have hr0a := y0.mk hr0
 have hr1a := y0.mk hr1
 go_enter Tryz.func78,Tryz.ntmps78
 go_wp2_with (first
  | ((with_reducible refine y18 (N := 2) rfl ?_); refine y14 ?hg (N := 2) ?hd (cs := #[.slice A0 l0.length c0]) (t := 35) ?hr ?_; (case hd => rfl); (case hg => rfl); (case hr => first | (go_simp; done) | (go_simp; rfl)); intro gb hg w4 hbox hb; have n0_ := y0.mk (y7 (by repeat (first | (with_reducible first | exact HB.out | apply y3 | apply y23 | apply y4) | exact HB.out)) hb); have n2_ := bl_of_pw (by repeat (first | (with_reducible first | exact HB.out | apply y3 | apply y23 | apply y4) | exact HB.out)) hlt hb1; have n3_ := bl_of_pw n0_.out hlt hb1; clear HB; have HB := n0_; clear n0_ n2_ hg; have hcz0 : w4.cell? ⟨gb,0,none⟩ = some (.slice A0 l0.length c0) := (y10 hbox 0).trans rfl; have hfz0 := y13 hbox 0; have hcz1 : w4.cell? ⟨g,0,none⟩ = some (.slice A1 l1.length c1) := (y10 n3_ 0).trans rfl; have hfz1 := y13 n3_ 0; clear hbox hb n3_)
  | ((with_reducible refine y17 (f := 74) rfl ?_); refine y19 (some 6) rfl rfl Tryz.func74 (by kernel_rfl) rfl #[.agg #[.slice A0 l0.length c0],.agg #[.slice A1 l1.length c1]] rfl (by (try simp only [qM_,List.map_cons,List.map_nil]); first | done | rfl | (simp only [qD_,qT_]; rfl)) ?_; (with_reducible refine (impl_sameTuple.calls k _ _ l0 _ _ l1 (sameT l0 l1) _ ?side1 hc0 ?side3 hc1 A3).mono ?_); (case side1 => exact Kd.C_below hr0a.out HB.out); (case side3 => exact Kd.C_below hr1a.out HB.out); rintro e w5 ⟨rfl,hb⟩; refine ⟨_,rfl, ?_⟩; have n0_ := y0.mk (y7 (by repeat (first | (with_reducible first | exact HB.out | apply y3 | apply y23 | apply y4) | exact HB.out)) hb); clear HB; have HB := n0_; clear n0_; (try clear hb)))
 go_ret
 exact ⟨by first | rfl | (simp [y15,y16] <;> rfl),by repeat (first | (with_reducible first | exact HB.out | apply y3 | apply y23 | apply y4) | exact HB.out)⟩
/-- The loop: the first row, from a place on, that is the tuple. -/
def impl_Rel_has.l0 (lt : List ByteArray) : Nat → List S35 → Int → Option Int
 | 0,_,_ => none
 | k + 1,x0,x8 => if x8 < (x0.length : Int) then (if 0 ≤ x8 then (if sameT (y24 x0 x8).f0 lt = true then (some x8) else impl_Rel_has.l0 lt k x0 (wrap64 (x8 + 1))) else none) else (some (-1))
set_option maxHeartbeats 8000000 in
set_option maxRecDepth 100000 in
theorem slices_IndexFunc_has.calls (k : Nat) (A0 : Option Addr) (c0 : Nat) (l0 : List (S35)) (g : Nat) (A1 : Option Addr) (c1 : Nat) (l1 : List ByteArray) (r : Int) (w : World) (hr0 : Kd.C k35 w A0 l0.length l0) (hc0 : l0.length ≤ c0) (hr1 : Kd.C Kd.string w A1 l1.length l1) (hc1 : l1.length ≤ c1)
  (hb1 : w.heap[g]? = some (.cells #[.slice A1 l1.length c1] 35 (0,0))) (hsame : ∀ l : List ByteArray,∃ k,impl_sameTuple.f k l l1 = some (sameT l l1)) (h : impl_Rel_has.l0 l1 k l0 0 = some r) :
  Calls Tryz.prog 85 #[.slice A0 l0.length c0,.func (.func 78) #[] #[.pointer (some ⟨g,0,none⟩)]] w fun e w' => e = .returned (.int .i64 r) ∧ Below w.heap.size w w' := by
 have hu35 := Tryz.underlying35
 have hlt := blk_lt' hb1
 have HR0 := y0.mk hr0
 have HC0 := y0.mk hc0
 have HR1 := y0.mk hr1
 have HC1 := y0.mk hc1
 have HB1 := y0.mk hb1
 have HS := y0.mk hsame
 clear hr0 hc0 hr1 hc1 hb1 hsame
 have HB := y0.mk (Below.refl w.heap.size w)
 have H' := y0.mk h
 clear h
 go_enter Tryz.func85,Tryz.ntmps85
 go_wp2
 go_loopg [8] k (fun kq v8 w' => ∃ (x8_1 : Int),v8 = .int .i64 x8_1 ∧ y0 (impl_Rel_has.l0 l1 kq l0 x8_1 = some r) ∧ y0 (kq ≤ k) ∧ y0 (Below w.heap.size w w'))
 case atStart => exact ⟨(0),(by first | rfl | (simp; done) | (simp [*]; done)),H',⟨Nat.le_refl _⟩,⟨by repeat (first | (with_reducible first | exact HB.out | apply y3 | apply y23 | apply y4) | exact HB.out)⟩⟩
 case round =>
  clear H'
  obtain ⟨x8_1,rfl,HA,HK1,HB⟩ := hrel
  cases gk with
  | zero => exact absurd HA.out (by simp [impl_Rel_has.l0])
  | succ k1 =>
   have H := HA.out
   clear HA
   simp only [impl_Rel_has.l0] at H
   by_cases c3 : x8_1 < (l0.length : Int)
   ·rw [if_pos c3] at H
    have c3b0 : decide (x8_1 < (l0.length : Int)) = true := decide_eq_true c3
    clear c3
    by_cases c4 : 0 ≤ x8_1
    ·rw [if_pos c4] at H
     have c4b0 : decide (0 ≤ x8_1) = true := decide_eq_true c4
     clear c4
     have p274 : 0 ≤ (x8_1 : Int) := of_decide_eq_true (by first | (with_reducible assumption) | assumption)
     have q274 : x8_1 < (l0.length : Int) := of_decide_eq_true (by first | (with_reducible assumption) | assumption)
     obtain ⟨ad274,A2,c2,e274,hx274_0,hl274,hi274⟩ := at_T35 HR0.out x8_1 p274 q274
     cases e274
     replace hx274_0 := (HB.out.cell (World.block_lt_of_cell? w _ hx274_0)).trans hx274_0
     have HI := y0.mk hi274
     have HL := y0.mk hl274
     clear hi274 hl274
     replace p274 := eq_true p274
     replace q274 := eq_true q274
     obtain ⟨b,hbb⟩ : ∃ b,sameT (y24 l0 x8_1).f0 l1 = b := ⟨_,rfl⟩
     rw [hbb] at H
     have HBB := y0.mk hbb
     clear hbb
     have step : ∀ (w1 : World),Below w.heap.size w w1 → Calls Tryz.prog 78 #[.agg #[.slice A2 (y24 l0 x8_1).f0.length c2],.pointer (some ⟨g,0,none⟩)] w1 fun e w' => e = .returned (.bool b) ∧ Below w1.heap.size w1 w' := by
      intro w1 hb
      rw [← HBB.out]
      exact impl_Rel_has_1.calls A2 c2 _ g A1 c1 l1 w1 (Kd.C_below HI.out hb) HL.out (Kd.C_below HR1.out hb) HC1.out (bl_of_pw hb hlt HB1.out) (HS.out _)
     have HSt := y0.mk step
     clear step
     cases b with
     | true =>
      rw [if_pos rfl] at H
      obtain rfl := Option.some.inj H
      go_wp2_with (first | (go_at_call 78; (with_reducible refine (HSt.out _ (by repeat (first | (with_reducible first | exact HB.out | apply y3 | apply y23 | apply y4) | exact HB.out))).mono ?_); rintro e w8 ⟨rfl,hb⟩; have n0_ := y0.mk (y7 (by repeat (first | (with_reducible first | exact HB.out | apply y3 | apply y23 | apply y4) | exact HB.out)) hb); clear HB; have HB := n0_; clear n0_; (try clear hb)))
      go_ret
      exact ⟨by first | rfl | (simp [y15,y16] <;> rfl),by repeat (first | (with_reducible first | exact HB.out | apply y3 | apply y23 | apply y4) | exact HB.out)⟩
     | false =>
      rw [if_neg (by decide)] at H
      have H' := y0.mk H
      clear H
      go_wp2_with (first | (go_at_call 78; (with_reducible refine (HSt.out _ (by repeat (first | (with_reducible first | exact HB.out | apply y3 | apply y23 | apply y4) | exact HB.out))).mono ?_); rintro e w9 ⟨rfl,hb⟩; have n0_ := y0.mk (y7 (by repeat (first | (with_reducible first | exact HB.out | apply y3 | apply y23 | apply y4) | exact HB.out)) hb); clear HB; have HB := n0_; clear n0_; (try clear hb)))
      go_roundg k1
      case measure => have := HK1.out; omega
      case rel => exact ⟨(wrap64 (x8_1 + 1)),(by first | rfl | (simp; done) | (simp [*]; done)),H',⟨by have := HK1.out; omega⟩,⟨by repeat (first | (with_reducible first | exact HB.out | apply y3 | apply y23 | apply y4) | exact HB.out)⟩⟩
    ·rw [if_neg c4] at H
     exact absurd H (by simp)
   ·rw [if_neg c3] at H
    have c3b0 : decide (x8_1 < (l0.length : Int)) = false := decide_eq_false c3
    clear c3
    obtain rfl := Option.some.inj H
    go_wp2
    go_ret
    exact ⟨by first | rfl | (simp [y15,y16] <;> rfl),by repeat (first | (with_reducible first | exact HB.out | apply y3 | apply y23 | apply y4) | exact HB.out)⟩
set_option maxHeartbeats 8000000 in
set_option maxRecDepth 100000 in
theorem slices_ContainsFunc_has.calls (k : Nat) (A0 : Option Addr) (c0 : Nat) (l0 : List (S35)) (g : Nat) (A1 : Option Addr) (c1 : Nat) (l1 : List ByteArray) (r : Int) (w : World) (hr0 : Kd.C k35 w A0 l0.length l0) (hc0 : l0.length ≤ c0) (hr1 : Kd.C Kd.string w A1 l1.length l1) (hc1 : l1.length ≤ c1)
  (hb1 : w.heap[g]? = some (.cells #[.slice A1 l1.length c1] 35 (0,0))) (hsame : ∀ l : List ByteArray,∃ k,impl_sameTuple.f k l l1 = some (sameT l l1)) (h : impl_Rel_has.l0 l1 k l0 0 = some r) :
  Calls Tryz.prog 77 #[.slice A0 l0.length c0,.func (.func 78) #[] #[.pointer (some ⟨g,0,none⟩)]] w fun e w' => e = .returned (.bool (decide (r ≥ 0))) ∧ Below w.heap.size w w' := by
 have HC := y0.mk (slices_IndexFunc_has.calls k A0 c0 l0 g A1 c1 l1 r w hr0 hc0 hr1 hc1 hb1 hsame h)
 have HB := y0.mk (Below.refl w.heap.size w)
 clear h hsame hb1 hr0 hr1
 go_enter Tryz.func77,Tryz.ntmps77
 go_wp2_with (first | ((with_reducible refine y17 (f := 85) rfl ?_); refine y19 (some 7) rfl rfl Tryz.func85 (by kernel_rfl) rfl #[.slice A0 l0.length c0,.func (.func 78) #[] #[.pointer (some ⟨g,0,none⟩)]] rfl (by (try simp only [qM_,List.map_cons,List.map_nil]); first | done | rfl | (simp only [qD_,qT_]; rfl)) ?_; (with_reducible refine HC.out.mono ?_); rintro e w4 ⟨rfl,hb⟩; refine ⟨_,rfl, ?_⟩; have n0_ := y0.mk (y7 (by repeat (first | (with_reducible first | exact HB.out | apply y3 | apply y23 | apply y4) | exact HB.out)) hb); clear HB; have HB := n0_; clear n0_; (try clear hb)))
 go_ret
 exact ⟨by first | rfl | (simp [y15,y16] <;> rfl),by repeat (first | (with_reducible first | exact HB.out | apply y3 | apply y23 | apply y4) | exact HB.out)⟩
theorem toList_data (s : ByteArray) : s.toList = s.data.toList := by
 obtain ⟨a⟩ := s
 obtain ⟨l⟩ := a
 exact ByteArray.toList_mk l
theorem sameT_cons (a b : ByteArray) (l m : List ByteArray) : sameT (a :: l) (b :: m) = (decide (a.data.toList = b.data.toList) && sameT l m) := by
 unfold sameT
 rw [List.map_cons,List.map_cons,← Bool.decide_and]
 exact decide_eq_decide.2 (by rw [List.cons.injEq])
theorem sameT_len {l m : List ByteArray} (h : l.length ≠ m.length) : sameT l m = false :=
 decide_eq_false (fun e => h (by have := congrArg List.length e; rwa [List.length_map,List.length_map] at this))
theorem rdOf_at (xs : List ByteArray) (i : Nat) (h : i < xs.length) : rdOf ByteArray.empty xs (i : Int) = xs[i] := by
 unfold rdOf
 rw [show ((i : Int)).toNat = i from rfl,List.getD_eq_getElem?_getD,List.getElem?_eq_getElem h]
 rfl
theorem wrap_up {i : Nat} (h : i ≤ 281474976710656) : wrap64 ((i : Int) + 1) = ((i + 1 : Nat) : Int) := by
 unfold wrap64
 omega
theorem same_l (l m : List ByteArray) (hl : l.length = m.length) (hn : l.length ≤ 281474976710656) : ∀ (d i k : Nat),i + d = l.length → d < k → slices_Equal_string_string.l0 k l m (l.length : Int) (i : Int) = some (sameT (l.drop i) (m.drop i))
 | d,i,0,_,hk => absurd hk (Nat.not_lt_zero d)
 | 0,i,k + 1,h,_ => by
  rw [slices_Equal_string_string.l0,if_neg (by omega),List.drop_of_length_le (by omega),List.drop_of_length_le (by omega)]
  rfl
 | d + 1,i,k + 1,h,hk => by
  have hi : i < l.length := by omega
  have hj : i < m.length := by omega
  rw [slices_Equal_string_string.l0,if_pos (by omega),if_pos (by omega),if_pos (by omega),if_pos (by omega),rdOf_at l i hi,rdOf_at m i hj,toList_data,toList_data,List.drop_eq_getElem_cons hi,List.drop_eq_getElem_cons hj,sameT_cons]
  by_cases e : l[i].data.toList = m[i].data.toList
  ·rw [if_pos e,wrap_up (by omega),same_l l m hl hn d (i + 1) k (by omega) (by omega),decide_eq_true e,Bool.true_and]
  ·rw [if_neg e,decide_eq_false e,Bool.false_and]
theorem same_f (m : List ByteArray) (hn : m.length ≤ 281474976710656) (l : List ByteArray) : ∃ k,impl_sameTuple.f k l m = some (sameT l m) := by
 refine ⟨l.length + 1, ?_⟩
 unfold impl_sameTuple.f slices_Equal_string_string.f
 by_cases hl : l.length = m.length
 ·rw [if_pos (by omega),show (0 : Int) = ((0 : Nat) : Int) from rfl,same_l l m hl (by omega) l.length 0 _ (by omega) (by omega)]
  rfl
 ·rw [if_neg (by omega),sameT_len hl]
  rfl
/-- Whether a tuple is one of the rows. -/
def hasT (l0 : List S35) (l1 : List ByteArray) : Bool := l0.any fun o => sameT o.f0 l1
theorem rd_at (xs : List S35) (i : Nat) (h : i < xs.length) : y24 xs (i : Int) = xs[i] := by
 unfold y24
 rw [show ((i : Int)).toNat = i from rfl,List.getD_eq_getElem?_getD,List.getElem?_eq_getElem h]
 rfl
theorem has_l (l1 : List ByteArray) (l0 : List S35) (hn : l0.length ≤ 281474976710656) : ∀ (d i : Nat),i + d = l0.length → ∃ r,impl_Rel_has.l0 l1 (d + 1) l0 (i : Int) = some r ∧ decide (r ≥ 0) = hasT (l0.drop i) l1
 | 0,i,h => by
  refine ⟨-1, ?_, ?_⟩
  ·rw [impl_Rel_has.l0,if_neg (by omega)]
  ·rw [List.drop_of_length_le (by omega)]
   rfl
 | d + 1,i,h => by
  have hi : i < l0.length := by omega
  rw [impl_Rel_has.l0,if_pos (by omega),if_pos (by omega),rd_at l0 i hi,List.drop_eq_getElem_cons hi]
  by_cases e : sameT l0[i].f0 l1 = true
  ·rw [if_pos e]
   refine ⟨_,rfl, ?_⟩
   unfold hasT
   rw [List.any_cons,e,Bool.true_or]
   exact decide_eq_true (by omega)
  ·rw [if_neg e,wrap_up (by omega)]
   obtain ⟨r,h1,h2⟩ := has_l l1 l0 hn d (i + 1) (by omega)
   refine ⟨r,h1, ?_⟩
   rw [h2]
   unfold hasT
   rw [List.any_cons,Bool.eq_false_iff.2 e,Bool.false_or]
def impl_Rel_has.f (a0_0 : Int) (l0_1 : List (S35)) (l1_0 : List ByteArray) : Option Bool := if l0_1.length ≤ 281474976710656 then (if l1_0.length ≤ 281474976710656 then some (hasT l0_1 l1_0) else none) else none
set_option maxHeartbeats 8000000 in
set_option maxRecDepth 100000 in
theorem impl_Rel_has.calls (a0_0 : Int) (A0_1 : Option Addr) (c0_1 : Nat) (l0_1 : List (S35)) (A1_0 : Option Addr) (c1_0 : Nat) (l1_0 : List ByteArray) (r : Bool) (w : World) (hr0_1 : Kd.C k35 w A0_1 l0_1.length l0_1) (hc0_1 : l0_1.length ≤ c0_1) (hr1_0 : Kd.C Kd.string w A1_0 l1_0.length l1_0) (hc1_0 : l1_0.length ≤ c1_0) (h : impl_Rel_has.f a0_0 l0_1 l1_0 = some r) :
  Calls Tryz.prog 49 #[.agg #[.int .i64 a0_0,.slice A0_1 l0_1.length c0_1],.agg #[.slice A1_0 l1_0.length c1_0]] w fun e w' => e = .returned (.bool r) ∧ Below w.heap.size w w' := by
 have hu35 := Tryz.underlying35
 have hu33 := Tryz.underlying33
 unfold impl_Rel_has.f at h
 by_cases h1 : l0_1.length ≤ 281474976710656
 ·rw [if_pos h1] at h
  by_cases h2 : l1_0.length ≤ 281474976710656
  ·rw [if_pos h2] at h
   obtain rfl := Option.some.inj h
   clear h
   obtain ⟨r',g1,g2⟩ := has_l l1_0 l0_1 h1 l0_1.length 0 (by omega)
   rw [List.drop_zero] at g2
   replace g1 : impl_Rel_has.l0 l1_0 (l0_1.length + 1) l0_1 0 = some r' := g1
   rw [← g2]
   have HG := y0.mk g1
   clear g1 g2
   have HS := y0.mk (same_f l1_0 h2)
   clear h1 h2
   have HR0 := y0.mk hr0_1
   have HC0 := y0.mk hc0_1
   have HR1 := y0.mk hr1_0
   have HC1 := y0.mk hc1_0
   clear hr0_1 hc0_1 hr1_0 hc1_0
   have HB := y0.mk (Below.refl w.heap.size w)
   go_enter Tryz.func49,Tryz.ntmps49
   go_wp2_with (first
    | ((with_reducible refine y18 (N := 2) rfl ?_); refine y14 ?hg (N := 2) ?hd (cs := #[.int .i64 a0_0,.slice A0_1 l0_1.length c0_1]) (t := 33) ?hr ?_; (case hd => rfl); (case hg => rfl); (case hr => first | (go_simp; done) | (go_simp; rfl)); intro ga hg w4 hbox hb; have n0_ := y0.mk (y7 (by repeat (first | (with_reducible first | exact HB.out | apply y3 | apply y23 | apply y4) | exact HB.out)) hb); have BKA := y0.mk hbox; have hlta := blk_lt' hbox; clear HB; have HB := n0_; clear n0_ hg hbox hb)
    | ((with_reducible refine y18 (N := 3) rfl ?_); refine y14 ?hg (N := 3) ?hd (cs := #[.slice A1_0 l1_0.length c1_0]) (t := 35) ?hr ?_; (case hd => rfl); (case hg => rfl); (case hr => first | (go_simp; done) | (go_simp; rfl)); intro gb hg w5 hbox hb; have n0_ := y0.mk (y7 (by repeat (first | (with_reducible first | exact HB.out | apply y3 | apply y23 | apply y4) | exact HB.out)) hb); have n1_ := y0.mk (y9 (g := ga) (o := .cells #[.int .i64 a0_0,.slice A0_1 l0_1.length c0_1] 33 (0,0)) (by (with_reducible repeat (first | refine y12 ?_ _ | refine y11 ?_ | refine y8 ?_ _)); exact BKA.out) hb); have BKB := y0.mk hbox; clear BKA; have BKA := n1_; clear HB; have HB := n0_; clear n0_ n1_ hg hbox hb; have hcz0 : w5.cell? ⟨ga,0,none⟩ = some (.int .i64 a0_0) := (y10 BKA.out 0).trans rfl; have hcz1 : w5.cell? ⟨ga,1,none⟩ = some (.slice A0_1 l0_1.length c0_1) := (y10 BKA.out 1).trans rfl; have hfz0 := y13 BKA.out 0; have hfz1 := y13 BKA.out 1)
    | (go_at_call 77; (with_reducible refine (slices_ContainsFunc_has.calls (l0_1.length + 1) _ _ l0_1 gb A1_0 c1_0 l1_0 r' _ ?side1 HC0.out ?side3 HC1.out ?side5 HS.out HG.out).mono ?_); (case side1 => exact Kd.C_below HR0.out (by repeat (first | (with_reducible first | exact HB.out | apply y3 | apply y23 | apply y4) | exact HB.out))); (case side3 => exact Kd.C_below HR1.out (by repeat (first | (with_reducible first | exact HB.out | apply y3 | apply y23 | apply y4) | exact HB.out))); (case side5 => (with_reducible repeat (first | refine y12 ?_ _ | refine y11 ?_ | refine y8 ?_ _)); exact BKB.out); rintro e w6 ⟨rfl,hb⟩; have n0_ := y0.mk (y7 (by repeat (first | (with_reducible first | exact HB.out | apply y3 | apply y23 | apply y4) | exact HB.out)) hb); clear HB; have HB := n0_; clear n0_; (try clear hb)))
   go_ret
   exact ⟨by first | rfl | (simp [y15,y16] <;> rfl),by repeat (first | (with_reducible first | exact HB.out | apply y3 | apply y23 | apply y4) | exact HB.out)⟩
  ·rw [if_neg h2] at h
   cases h
 ·rw [if_neg h1] at h
  cases h
def impl_RelHas.f (k : Nat) (a0_0 : Int) (l0_1 : List (S35)) (l1_0 : List ByteArray) : Option (Bool) := (impl_isRel.f k a0_0 l0_1).bind fun t346 => (if t346 = true then ((impl_Rel_has.f a0_0 l0_1 l1_0).bind fun t347 => (some t347)) else (some false))
set_option maxHeartbeats 8000000 in
set_option maxRecDepth 100000 in
theorem impl_RelHas.calls (k : Nat) (a0_0 : Int) (A0_1 : Option Addr) (c0_1 : Nat) (l0_1 : List (S35)) (A1_0 : Option Addr) (c1_0 : Nat) (l1_0 : List ByteArray) (r : Bool) (w : World) (hr0_1 : Kd.C k35 w A0_1 l0_1.length l0_1) (hc0_1 : l0_1.length ≤ c0_1) (hr1_0 : Kd.C Kd.string w A1_0 l1_0.length l1_0) (hc1_0 : l1_0.length ≤ c1_0) (hT : Tb w) (h : impl_RelHas.f k a0_0 l0_1 l1_0 = some r) :
  Calls Tryz.prog 16 #[.agg #[.int .i64 a0_0,.slice A0_1 l0_1.length c0_1],.agg #[.slice A1_0 l1_0.length c1_0]] w fun e w' => e = .returned (.bool r) ∧ Below w.heap.size w w' := by
 have hu33 := Tryz.underlying33
 have hu35 := Tryz.underlying35
 have HT := y0.mk hT
 clear hT
 have HR0_1 := y0.mk hr0_1
 have HC0_1 := y0.mk hc0_1
 clear hr0_1 hc0_1
 have HR1_0 := y0.mk hr1_0
 have HC1_0 := y0.mk hc1_0
 clear hr1_0 hc1_0
 have HB := y0.mk (Below.refl w.heap.size w)
 have H : ((impl_isRel.f k a0_0 l0_1).bind fun t346 => (if t346 = true then ((impl_Rel_has.f a0_0 l0_1 l1_0).bind fun t347 => (some t347)) else (some false))) = some r := h
 clear h
 replace H := Option.bind_eq_some_iff.mp H
 obtain ⟨t346,A30,H⟩ := H
 replace H : (if t346 = true then ((impl_Rel_has.f a0_0 l0_1 l1_0).bind fun t347 => (some t347)) else (some false)) = some r := H
 have A3 := y0.mk A30
 clear A30
 by_cases c4 : t346 = true
 ·subst c4
  have H1 : ((impl_Rel_has.f a0_0 l0_1 l1_0).bind fun t347 => (some t347)) = some r := by rw [if_pos rfl] at H; exact H
  clear H
  have H := H1
  clear H1
  replace H := Option.bind_eq_some_iff.mp H
  obtain ⟨t347,A50,H⟩ := H
  replace H : (some t347) = some r := H
  have A5 := y0.mk A50
  clear A50
  obtain rfl := Option.some.inj H
  go_enter Tryz.func16,Tryz.ntmps16
  go_wp2_with (first | ((with_reducible refine y18 (N := 2) rfl ?_); refine y14 ?hg (N := 2) ?hd (cs := #[.int .i64 a0_0,.slice A0_1 l0_1.length c0_1]) (t := 33) ?hr ?_; (case hd => rfl); (case hg => rfl); (case hr => first | (go_simp; done) | (go_simp; rfl)); intro gb344 hg w6 hbox hb; have n0_ := y0.mk (y7 (by repeat (first | (with_reducible first | exact HB.out | apply y3 | apply y23 | apply y4) | exact HB.out)) hb); have n1_ := y0.mk (hbox); have n2_ := y0.mk ((by rw [hg]; exact (y6 (by repeat (first | (with_reducible first | exact HB.out | apply y3 | apply y23 | apply y4) | exact HB.out))) : w.heap.size ≤ gb344)); have n3_ := y0.mk ((by rw [hg]; exact (y6 (by repeat (first | (with_reducible first | exact HB.out | apply y3 | apply y23 | apply y4) | exact HB.out))) : w.heap.size ≤ gb344)); clear HB; have HB := n0_; have BK344 := n1_; have GW344 := n2_; have GE344 := n3_; clear n0_ n1_ n2_ n3_; clear hb hbox hg) | ((with_reducible refine y18 (N := 3) rfl ?_); refine y14 ?hg (N := 3) ?hd (cs := #[.slice A1_0 l1_0.length c1_0]) (t := 35) ?hr ?_; (case hd => rfl); (case hg => rfl); (case hr => first | (go_simp; done) | (go_simp; rfl)); intro gb345 hg w7 hbox hb; have n0_ := y0.mk (y9 (g := gb344) (o := .cells #[.int .i64 a0_0,.slice A0_1 l0_1.length c0_1] 33 (0,0)) (by (with_reducible repeat (first | refine y12 ?_ _ | refine y11 ?_ | refine y8 ?_ _)); exact BK344.out) hb); have n1_ := y0.mk (y7 (by repeat (first | (with_reducible first | exact HB.out | apply y3 | apply y23 | apply y4 | refine y5 ?_ GE344.out) | exact HB.out)) hb); have n2_ := y0.mk (hbox); have n3_ := y0.mk ((by rw [hg]; exact (y6 (by repeat (first | (with_reducible first | exact HB.out | apply y3 | apply y23 | apply y4 | refine y5 ?_ GE344.out) | exact HB.out))) : w.heap.size ≤ gb345)); have n4_ := y0.mk ((by rw [hg]; exact (y6 (by repeat (first | (with_reducible first | exact HB.out | apply y3 | apply y23 | apply y4 | refine y5 ?_ GE344.out) | exact HB.out))) : w.heap.size ≤ gb345)); have n5_ := y0.mk ((by rw [hg]; exact Nat.ne_of_lt (blk_lt (g := gb344) (o := .cells #[.int .i64 a0_0,.slice A0_1 l0_1.length c0_1] 33 (0,0)) (by (with_reducible repeat (first | refine y12 ?_ _ | refine y11 ?_ | refine y8 ?_ _)); exact BK344.out)) : gb344 ≠ gb345)); have n6_ := y0.mk ((by rw [hg]; exact Nat.ne_of_gt (blk_lt (g := gb344) (o := .cells #[.int .i64 a0_0,.slice A0_1 l0_1.length c0_1] 33 (0,0)) (by (with_reducible repeat (first | refine y12 ?_ _ | refine y11 ?_ | refine y8 ?_ _)); exact BK344.out)) : gb345 ≠ gb344)); clear BK344; clear HB; have BK344 := n0_; have HB := n1_; have BK345 := n2_; have GW345 := n3_; have GE345 := n4_; have NB344_345 := n5_; have NB345_344 := n6_; clear n0_ n1_ n2_ n3_ n4_ n5_ n6_; clear hb hbox hg; have hnb8 := NB344_345.out; have hnc8 := NB345_344.out; have hcz9_0 : w7.cell? ⟨gb344,0,none⟩ = some (.int .i64 a0_0) := (y10 BK344.out 0).trans rfl; have hcz9_1 : w7.cell? ⟨gb344,1,none⟩ = some (.slice A0_1 l0_1.length c0_1) := (y10 BK344.out 1).trans rfl; have hfz9_0 := y13 BK344.out 0; have hfz9_1 := y13 BK344.out 1) | ((with_reducible refine y17 (f := 48) rfl ?_); refine y19 (some 6) rfl rfl Tryz.func48 (by kernel_rfl) rfl #[.agg #[.int .i64 a0_0,.slice A0_1 l0_1.length c0_1]] rfl (by (try simp only [qM_,List.map_cons,List.map_nil]); first | done | rfl | (simp only [qD_,qT_]; rfl)) ?_; (with_reducible refine (impl_isRel.calls k a0_0 _ _ l0_1 true _ ?side1 ?side2 ?side3 A3.out).mono ?_); (case side1 => repeat (first | exact (Kd.C_below HR0_1.out HB.out) | (with_reducible refine Kd.C_alloc ?_ _) | (with_reducible refine Kd.C_drewN ?_ _) | (with_reducible refine Kd.C_drew ?_))); (case side2 => exact HC0_1.out); (case side3 => exact Tb.below HT.out (by repeat (first | (with_reducible first | exact HB.out | apply y3 | apply y23 | apply y4 | refine y5 ?_ GE344.out | refine y5 ?_ GE345.out) | exact HB.out))); rintro e w10 ⟨rfl,hb⟩; refine ⟨_,rfl, ?_⟩; have n0_ := y0.mk (y9 (g := gb344) (o := .cells #[.int .i64 a0_0,.slice A0_1 l0_1.length c0_1] 33 (0,0)) (by (with_reducible repeat (first | refine y12 ?_ _ | refine y11 ?_ | refine y8 ?_ _)); exact BK344.out) hb); have n1_ := y0.mk (y9 (g := gb345) (o := .cells #[.slice A1_0 l1_0.length c1_0] 35 (0,0)) (by (with_reducible repeat (first | refine y12 ?_ _ | refine y11 ?_ | refine y8 ?_ _)); exact BK345.out) hb); have n2_ := y0.mk (y7 (by repeat (first | (with_reducible first | exact HB.out | apply y3 | apply y23 | apply y4 | refine y5 ?_ GE344.out | refine y5 ?_ GE345.out) | exact HB.out)) hb); clear BK344; clear BK345; clear HB; have BK344 := n0_; have BK345 := n1_; have HB := n2_; clear n0_ n1_ n2_; (try clear hb); (try clear hb2); (try clear hk); (try clear hi); have hcz11_0 : w10.cell? ⟨gb344,0,none⟩ = some (.int .i64 a0_0) := (y10 BK344.out 0).trans rfl; have hcz11_1 : w10.cell? ⟨gb344,1,none⟩ = some (.slice A0_1 l0_1.length c0_1) := (y10 BK344.out 1).trans rfl; have hfz11_0 := y13 BK344.out 0; have hfz11_1 := y13 BK344.out 1; have hcz12_0 : w10.cell? ⟨gb345,0,none⟩ = some (.slice A1_0 l1_0.length c1_0) := (y10 BK345.out 0).trans rfl; have hfz12_0 := y13 BK345.out 0) | (go_at_call 49; (with_reducible refine (impl_Rel_has.calls a0_0 _ _ l0_1 _ _ l1_0 t347 _ ?side1 ?side2 ?side3 ?side4 A5.out).mono ?_); (case side1 => repeat (first | exact (Kd.C_below HR0_1.out HB.out) | (with_reducible refine Kd.C_alloc ?_ _) | (with_reducible refine Kd.C_drewN ?_ _) | (with_reducible refine Kd.C_drew ?_))); (case side2 => exact HC0_1.out); (case side3 => repeat (first | exact (Kd.C_below HR1_0.out HB.out) | (with_reducible refine Kd.C_alloc ?_ _) | (with_reducible refine Kd.C_drewN ?_ _) | (with_reducible refine Kd.C_drew ?_))); (case side4 => exact HC1_0.out); rintro e w13 ⟨rfl,hb⟩; have n0_ := y0.mk (y9 (g := gb344) (o := .cells #[.int .i64 a0_0,.slice A0_1 l0_1.length c0_1] 33 (0,0)) (by (with_reducible repeat (first | refine y12 ?_ _ | refine y11 ?_ | refine y8 ?_ _)); exact BK344.out) hb); have n1_ := y0.mk (y9 (g := gb345) (o := .cells #[.slice A1_0 l1_0.length c1_0] 35 (0,0)) (by (with_reducible repeat (first | refine y12 ?_ _ | refine y11 ?_ | refine y8 ?_ _)); exact BK345.out) hb); have n2_ := y0.mk (y7 (by repeat (first | (with_reducible first | exact HB.out | apply y3 | apply y23 | apply y4 | refine y5 ?_ GE344.out | refine y5 ?_ GE345.out) | exact HB.out)) hb); clear BK344; clear BK345; clear HB; have BK344 := n0_; have BK345 := n1_; have HB := n2_; clear n0_ n1_ n2_; (try clear hb); (try clear hb2); (try clear hk); (try clear hi)))
  go_ret
  exact ⟨by first | rfl | (simp [y15,y16] <;> rfl) | (simp [*,y15,y16] <;> rfl),by repeat (first | (with_reducible first | exact HB.out | apply y3 | apply y23 | apply y4 | refine y5 ?_ GE344.out | refine y5 ?_ GE345.out) | exact HB.out)⟩
 ·replace c4 := Bool.eq_false_iff.mpr c4
  subst c4
  have H1 : (some false) = some r := by rw [if_neg (show ¬ (false = true) by decide)] at H; exact H
  clear H
  have H := H1
  clear H1
  obtain rfl := Option.some.inj H
  go_enter Tryz.func16,Tryz.ntmps16
  go_wp2_with (first | ((with_reducible refine y18 (N := 2) rfl ?_); refine y14 ?hg (N := 2) ?hd (cs := #[.int .i64 a0_0,.slice A0_1 l0_1.length c0_1]) (t := 33) ?hr ?_; (case hd => rfl); (case hg => rfl); (case hr => first | (go_simp; done) | (go_simp; rfl)); intro gb344 hg w14 hbox hb; have n0_ := y0.mk (y7 (by repeat (first | (with_reducible first | exact HB.out | apply y3 | apply y23 | apply y4) | exact HB.out)) hb); have n1_ := y0.mk (hbox); have n2_ := y0.mk ((by rw [hg]; exact (y6 (by repeat (first | (with_reducible first | exact HB.out | apply y3 | apply y23 | apply y4) | exact HB.out))) : w.heap.size ≤ gb344)); have n3_ := y0.mk ((by rw [hg]; exact (y6 (by repeat (first | (with_reducible first | exact HB.out | apply y3 | apply y23 | apply y4) | exact HB.out))) : w.heap.size ≤ gb344)); clear HB; have HB := n0_; have BK344 := n1_; have GW344 := n2_; have GE344 := n3_; clear n0_ n1_ n2_ n3_; clear hb hbox hg) | ((with_reducible refine y18 (N := 3) rfl ?_); refine y14 ?hg (N := 3) ?hd (cs := #[.slice A1_0 l1_0.length c1_0]) (t := 35) ?hr ?_; (case hd => rfl); (case hg => rfl); (case hr => first | (go_simp; done) | (go_simp; rfl)); intro gb345 hg w15 hbox hb; have n0_ := y0.mk (y9 (g := gb344) (o := .cells #[.int .i64 a0_0,.slice A0_1 l0_1.length c0_1] 33 (0,0)) (by (with_reducible repeat (first | refine y12 ?_ _ | refine y11 ?_ | refine y8 ?_ _)); exact BK344.out) hb); have n1_ := y0.mk (y7 (by repeat (first | (with_reducible first | exact HB.out | apply y3 | apply y23 | apply y4 | refine y5 ?_ GE344.out) | exact HB.out)) hb); have n2_ := y0.mk (hbox); have n3_ := y0.mk ((by rw [hg]; exact (y6 (by repeat (first | (with_reducible first | exact HB.out | apply y3 | apply y23 | apply y4 | refine y5 ?_ GE344.out) | exact HB.out))) : w.heap.size ≤ gb345)); have n4_ := y0.mk ((by rw [hg]; exact (y6 (by repeat (first | (with_reducible first | exact HB.out | apply y3 | apply y23 | apply y4 | refine y5 ?_ GE344.out) | exact HB.out))) : w.heap.size ≤ gb345)); have n5_ := y0.mk ((by rw [hg]; exact Nat.ne_of_lt (blk_lt (g := gb344) (o := .cells #[.int .i64 a0_0,.slice A0_1 l0_1.length c0_1] 33 (0,0)) (by (with_reducible repeat (first | refine y12 ?_ _ | refine y11 ?_ | refine y8 ?_ _)); exact BK344.out)) : gb344 ≠ gb345)); have n6_ := y0.mk ((by rw [hg]; exact Nat.ne_of_gt (blk_lt (g := gb344) (o := .cells #[.int .i64 a0_0,.slice A0_1 l0_1.length c0_1] 33 (0,0)) (by (with_reducible repeat (first | refine y12 ?_ _ | refine y11 ?_ | refine y8 ?_ _)); exact BK344.out)) : gb345 ≠ gb344)); clear BK344; clear HB; have BK344 := n0_; have HB := n1_; have BK345 := n2_; have GW345 := n3_; have GE345 := n4_; have NB344_345 := n5_; have NB345_344 := n6_; clear n0_ n1_ n2_ n3_ n4_ n5_ n6_; clear hb hbox hg; have hnb16 := NB344_345.out; have hnc16 := NB345_344.out; have hcz17_0 : w15.cell? ⟨gb344,0,none⟩ = some (.int .i64 a0_0) := (y10 BK344.out 0).trans rfl; have hcz17_1 : w15.cell? ⟨gb344,1,none⟩ = some (.slice A0_1 l0_1.length c0_1) := (y10 BK344.out 1).trans rfl; have hfz17_0 := y13 BK344.out 0; have hfz17_1 := y13 BK344.out 1) | ((with_reducible refine y17 (f := 48) rfl ?_); refine y19 (some 6) rfl rfl Tryz.func48 (by kernel_rfl) rfl #[.agg #[.int .i64 a0_0,.slice A0_1 l0_1.length c0_1]] rfl (by (try simp only [qM_,List.map_cons,List.map_nil]); first | done | rfl | (simp only [qD_,qT_]; rfl)) ?_; (with_reducible refine (impl_isRel.calls k a0_0 _ _ l0_1 false _ ?side1 ?side2 ?side3 A3.out).mono ?_); (case side1 => repeat (first | exact (Kd.C_below HR0_1.out HB.out) | (with_reducible refine Kd.C_alloc ?_ _) | (with_reducible refine Kd.C_drewN ?_ _) | (with_reducible refine Kd.C_drew ?_))); (case side2 => exact HC0_1.out); (case side3 => exact Tb.below HT.out (by repeat (first | (with_reducible first | exact HB.out | apply y3 | apply y23 | apply y4 | refine y5 ?_ GE344.out | refine y5 ?_ GE345.out) | exact HB.out))); rintro e w18 ⟨rfl,hb⟩; refine ⟨_,rfl, ?_⟩; have n0_ := y0.mk (y9 (g := gb344) (o := .cells #[.int .i64 a0_0,.slice A0_1 l0_1.length c0_1] 33 (0,0)) (by (with_reducible repeat (first | refine y12 ?_ _ | refine y11 ?_ | refine y8 ?_ _)); exact BK344.out) hb); have n1_ := y0.mk (y9 (g := gb345) (o := .cells #[.slice A1_0 l1_0.length c1_0] 35 (0,0)) (by (with_reducible repeat (first | refine y12 ?_ _ | refine y11 ?_ | refine y8 ?_ _)); exact BK345.out) hb); have n2_ := y0.mk (y7 (by repeat (first | (with_reducible first | exact HB.out | apply y3 | apply y23 | apply y4 | refine y5 ?_ GE344.out | refine y5 ?_ GE345.out) | exact HB.out)) hb); clear BK344; clear BK345; clear HB; have BK344 := n0_; have BK345 := n1_; have HB := n2_; clear n0_ n1_ n2_; (try clear hb); (try clear hb2); (try clear hk); (try clear hi)))
  go_ret
  exact ⟨by first | rfl | (simp [y15,y16] <;> rfl) | (simp [*,y15,y16] <;> rfl),by repeat (first | (with_reducible first | exact HB.out | apply y3 | apply y23 | apply y4 | refine y5 ?_ GE344.out | refine y5 ?_ GE345.out) | exact HB.out)⟩
def laws_eqStringS.l0 : Nat → List ByteArray → List ByteArray → Int → Option (Bool)
 | 0,_,_,_ => none
 | k + 1,x0,x1,x5 => if x5 < (x0.length : Int) then (if 0 ≤ x5 then (if x5 < (x1.length : Int) then (if (rdOf ByteArray.empty x0 x5).toList = (rdOf ByteArray.empty x1 x5).toList then (laws_eqStringS.l0 k x0 x1 (wrap64 (x5 + 1))) else (some false)) else (none)) else (none)) else (some true)
def laws_eqStringS.f (k : Nat) (l0 : List ByteArray) (l1 : List ByteArray) : Option (Bool) := if (l0.length : Int) = (l1.length : Int) then (laws_eqStringS.l0 k l0 l1 0) else (some false)
set_option maxHeartbeats 8000000 in
set_option maxRecDepth 100000 in
theorem laws_eqStringS.calls (k : Nat) (A0 : Option Addr) (c0 : Nat) (l0 : List ByteArray) (A1 : Option Addr) (c1 : Nat) (l1 : List ByteArray) (r : Bool) (w : World) (hr0 : Kd.C Kd.string w A0 l0.length l0) (hc0 : l0.length ≤ c0) (hr1 : Kd.C Kd.string w A1 l1.length l1) (hc1 : l1.length ≤ c1) (h : laws_eqStringS.f k l0 l1 = some r) (htrue_ : r = true) :
  Calls Tryz.prog 28 #[.slice A0 l0.length c0,.slice A1 l1.length c1] w fun e w' => e = .returned (.bool r) ∧ y1 w w' := by
 have HR0 := y0.mk hr0
 have HC0 := y0.mk hc0
 clear hr0 hc0
 have HR1 := y0.mk hr1
 have HC1 := y0.mk hc1
 clear hr1 hc1
 have H : (if (l0.length : Int) = (l1.length : Int) then (laws_eqStringS.l0 k l0 l1 0) else (some false)) = some r := h
 clear h
 by_cases c3 : (l0.length : Int) = (l1.length : Int)
 ·rw [if_pos c3] at H
  have c3b0 : ((l0.length : Int) == (l1.length : Int)) = true := beq_iff_eq.mpr c3
  have c3b1 : ((l0.length : Int) != (l1.length : Int)) = false := bne_eq_false_iff_eq.mpr c3
  have c3b2 : (l0.length == l1.length) = true := by first | simpa using c3 | (simp at c3 ⊢; omega)
  clear c3
  have H' := y0.mk H
  clear H
  go_enter Tryz.func28,Tryz.ntmps28
  go_wp2
  repeat (go_quiet (fail); try go_wp2)
  go_loopg [5] k (fun kq v5 w' => ∃ (x5_1 : Int),v5 = .int .i64 x5_1 ∧ y0 (laws_eqStringS.l0 kq l0 l1 x5_1 = some r) ∧ y0 (kq ≤ k) ∧ y1 w w')
  case atStart => exact ⟨(0),(by first | rfl | (simp; done) | (simp [*]; done)),H',⟨Nat.le_refl _⟩,by repeat (first | exact y1.refl _ | apply y1.step)⟩
  case round =>
   clear H'
   try clear c1
   try clear c2
   try clear p2
   try clear c3
   try clear c3b0
   try clear c3b1
   try clear c3b2
   obtain ⟨x5_1,rfl,HA,HK1,⟨m1,rfl⟩⟩ := hrel
   cases gk with
   | zero => exact absurd HA.out (by simp [laws_eqStringS.l0])
   | succ k1 =>
    have H := HA.out
    clear HA
    simp only [laws_eqStringS.l0] at H
    by_cases c4 : x5_1 < (l0.length : Int)
    ·rw [if_pos c4] at H
     have c4b0 : decide (x5_1 < (l0.length : Int)) = true := decide_eq_true c4
     clear c4
     by_cases c5 : 0 ≤ x5_1
     ·rw [if_pos c5] at H
      have c5b0 : decide (0 ≤ x5_1) = true := decide_eq_true c5
      clear c5
      by_cases c6 : x5_1 < (l1.length : Int)
      ·rw [if_pos c6] at H
       have c6b0 : decide (x5_1 < (l1.length : Int)) = true := decide_eq_true c6
       clear c6
       by_cases c7 : (rdOf ByteArray.empty l0 x5_1).toList = (rdOf ByteArray.empty l1 x5_1).toList
       ·rw [if_pos c7] at H
        have c7b0 : ((rdOf ByteArray.empty l0 x5_1).toList == (rdOf ByteArray.empty l1 x5_1).toList) = true := beq_iff_eq.mpr c7
        have c7b1 : ((rdOf ByteArray.empty l0 x5_1).toList != (rdOf ByteArray.empty l1 x5_1).toList) = false := bne_eq_false_iff_eq.mpr c7
        clear c7
        have H' := y0.mk H
        clear H
        have p348 : 0 ≤ (x5_1 : Int) := of_decide_eq_true (by first | (with_reducible assumption) | assumption)
        have q348 : x5_1 < (l0.length : Int) := of_decide_eq_true (by first | (with_reducible assumption) | assumption)
        obtain ⟨ad348,e348,hx348_0⟩ := Kd.at_string HR0.out x5_1 p348 q348
        cases e348
        replace p348 := eq_true p348
        replace q348 := eq_true q348
        have p349 : 0 ≤ (x5_1 : Int) := of_decide_eq_true (by first | (with_reducible assumption) | assumption)
        have q349 : x5_1 < (l1.length : Int) := of_decide_eq_true (by first | (with_reducible assumption) | assumption)
        obtain ⟨ad349,e349,hx349_0⟩ := Kd.at_string HR1.out x5_1 p349 q349
        cases e349
        replace p349 := eq_true p349
        replace q349 := eq_true q349
        go_wp2
        repeat (go_quiet (fail); try go_wp2)
        go_roundg k1
        case measure => have := HK1.out; omega
        case rel => exact ⟨(wrap64 (x5_1 + 1)),(by first | rfl | (simp; done) | (simp [*]; done)),H',⟨by have := HK1.out; omega⟩,by repeat (first | exact y1.refl _ | apply y1.step)⟩
       ·rw [if_neg c7] at H
        have c7b0 : ((rdOf ByteArray.empty l0 x5_1).toList == (rdOf ByteArray.empty l1 x5_1).toList) = false := beq_eq_false_iff_ne.mpr c7
        have c7b1 : ((rdOf ByteArray.empty l0 x5_1).toList != (rdOf ByteArray.empty l1 x5_1).toList) = true := bne_iff_ne.mpr c7
        exact absurd ((Option.some.inj H).trans htrue_) (by decide)
      ·rw [if_neg c6] at H
       exact absurd H (by simp)
     ·rw [if_neg c5] at H
      exact absurd H (by simp)
    ·rw [if_neg c4] at H
     have c4b0 : decide (x5_1 < (l0.length : Int)) = false := decide_eq_false c4
     clear c4
     obtain rfl := Option.some.inj H
     go_wp2
     repeat (go_quiet (fail); try go_wp2)
     go_ret
     exact ⟨by first | rfl | (simp; done) | (simp [*]; done),by repeat (first | exact y1.refl _ | apply y1.step)⟩
 ·rw [if_neg c3] at H
  have c3b0 : ((l0.length : Int) == (l1.length : Int)) = false := beq_eq_false_iff_ne.mpr c3
  have c3b1 : ((l0.length : Int) != (l1.length : Int)) = true := bne_iff_ne.mpr c3
  have c3b2 : (l0.length == l1.length) = false := by first | simpa using c3 | (simp at c3 ⊢; omega)
  exact absurd ((Option.some.inj H).trans htrue_) (by decide)
def laws_eqTuple.f (k : Nat) (l0_0 : List ByteArray) (l1_0 : List ByteArray) : Option (Bool) := (laws_eqStringS.f k l0_0 l1_0).bind fun t352 => (if t352 = true then (some true) else (some false))
set_option maxHeartbeats 8000000 in
set_option maxRecDepth 100000 in
theorem laws_eqTuple.calls (k : Nat) (A0_0 : Option Addr) (c0_0 : Nat) (l0_0 : List ByteArray) (A1_0 : Option Addr) (c1_0 : Nat) (l1_0 : List ByteArray) (r : Bool) (w : World) (hr0_0 : Kd.C Kd.string w A0_0 l0_0.length l0_0) (hc0_0 : l0_0.length ≤ c0_0) (hr1_0 : Kd.C Kd.string w A1_0 l1_0.length l1_0) (hc1_0 : l1_0.length ≤ c1_0) (h : laws_eqTuple.f k l0_0 l1_0 = some r) (htrue_ : r = true) :
  Calls Tryz.prog 18 #[.agg #[.slice A0_0 l0_0.length c0_0],.agg #[.slice A1_0 l1_0.length c1_0]] w fun e w' => e = .returned (.bool r) ∧ Below w.heap.size w w' := by
 have hu35 := Tryz.underlying35
 have HR0_0 := y0.mk hr0_0
 have HC0_0 := y0.mk hc0_0
 clear hr0_0 hc0_0
 have HR1_0 := y0.mk hr1_0
 have HC1_0 := y0.mk hc1_0
 clear hr1_0 hc1_0
 have HB := y0.mk (Below.refl w.heap.size w)
 have H : ((laws_eqStringS.f k l0_0 l1_0).bind fun t352 => (if t352 = true then (some true) else (some false))) = some r := h
 clear h
 replace H := Option.bind_eq_some_iff.mp H
 obtain ⟨t352,A30,H⟩ := H
 replace H : (if t352 = true then (some true) else (some false)) = some r := H
 have A3 := y0.mk A30
 clear A30
 by_cases c4 : t352 = true
 ·subst c4
  have H1 : (some true) = some r := by rw [if_pos rfl] at H; exact H
  clear H
  have H := H1
  clear H1
  obtain rfl := Option.some.inj H
  go_enter Tryz.func18,Tryz.ntmps18
  go_wp2_with (first | ((with_reducible refine y18 (N := 2) rfl ?_); refine y14 ?hg (N := 2) ?hd (cs := #[.slice A0_0 l0_0.length c0_0]) (t := 35) ?hr ?_; (case hd => rfl); (case hg => rfl); (case hr => first | (go_simp; done) | (go_simp; rfl)); intro gb350 hg w5 hbox hb; have n0_ := y0.mk (y7 (by repeat (first | (with_reducible first | exact HB.out | apply y3 | apply y23 | apply y4) | exact HB.out)) hb); have n1_ := y0.mk (hbox); have n2_ := y0.mk ((by rw [hg]; exact (y6 (by repeat (first | (with_reducible first | exact HB.out | apply y3 | apply y23 | apply y4) | exact HB.out))) : w.heap.size ≤ gb350)); have n3_ := y0.mk ((by rw [hg]; exact (y6 (by repeat (first | (with_reducible first | exact HB.out | apply y3 | apply y23 | apply y4) | exact HB.out))) : w.heap.size ≤ gb350)); clear HB; have HB := n0_; have BK350 := n1_; have GW350 := n2_; have GE350 := n3_; clear n0_ n1_ n2_ n3_; clear hb hbox hg) | ((with_reducible refine y18 (N := 3) rfl ?_); refine y14 ?hg (N := 3) ?hd (cs := #[.slice A1_0 l1_0.length c1_0]) (t := 35) ?hr ?_; (case hd => rfl); (case hg => rfl); (case hr => first | (go_simp; done) | (go_simp; rfl)); intro gb351 hg w6 hbox hb; have n0_ := y0.mk (y9 (g := gb350) (o := .cells #[.slice A0_0 l0_0.length c0_0] 35 (0,0)) (by (with_reducible repeat (first | refine y12 ?_ _ | refine y11 ?_ | refine y8 ?_ _)); exact BK350.out) hb); have n1_ := y0.mk (y7 (by repeat (first | (with_reducible first | exact HB.out | apply y3 | apply y23 | apply y4 | refine y5 ?_ GE350.out) | exact HB.out)) hb); have n2_ := y0.mk (hbox); have n3_ := y0.mk ((by rw [hg]; exact (y6 (by repeat (first | (with_reducible first | exact HB.out | apply y3 | apply y23 | apply y4 | refine y5 ?_ GE350.out) | exact HB.out))) : w.heap.size ≤ gb351)); have n4_ := y0.mk ((by rw [hg]; exact (y6 (by repeat (first | (with_reducible first | exact HB.out | apply y3 | apply y23 | apply y4 | refine y5 ?_ GE350.out) | exact HB.out))) : w.heap.size ≤ gb351)); have n5_ := y0.mk ((by rw [hg]; exact Nat.ne_of_lt (blk_lt (g := gb350) (o := .cells #[.slice A0_0 l0_0.length c0_0] 35 (0,0)) (by (with_reducible repeat (first | refine y12 ?_ _ | refine y11 ?_ | refine y8 ?_ _)); exact BK350.out)) : gb350 ≠ gb351)); have n6_ := y0.mk ((by rw [hg]; exact Nat.ne_of_gt (blk_lt (g := gb350) (o := .cells #[.slice A0_0 l0_0.length c0_0] 35 (0,0)) (by (with_reducible repeat (first | refine y12 ?_ _ | refine y11 ?_ | refine y8 ?_ _)); exact BK350.out)) : gb351 ≠ gb350)); clear BK350; clear HB; have BK350 := n0_; have HB := n1_; have BK351 := n2_; have GW351 := n3_; have GE351 := n4_; have NB350_351 := n5_; have NB351_350 := n6_; clear n0_ n1_ n2_ n3_ n4_ n5_ n6_; clear hb hbox hg; have hnb7 := NB350_351.out; have hnc7 := NB351_350.out; have hcz8_0 : w6.cell? ⟨gb350,0,none⟩ = some (.slice A0_0 l0_0.length c0_0) := (y10 BK350.out 0).trans rfl; have hfz8_0 := y13 BK350.out 0; have hcz9_0 : w6.cell? ⟨gb351,0,none⟩ = some (.slice A1_0 l1_0.length c1_0) := (y10 BK351.out 0).trans rfl; have hfz9_0 := y13 BK351.out 0) | ((with_reducible refine y17 (f := 28) rfl ?_); refine y19 (some 9) rfl rfl Tryz.func28 (by kernel_rfl) rfl #[.slice A0_0 l0_0.length c0_0,.slice A1_0 l1_0.length c1_0] rfl (by (try simp only [qM_,List.map_cons,List.map_nil]); first | done | rfl | (simp only [qD_,qT_]; rfl)) ?_; (with_reducible refine (laws_eqStringS.calls k _ _ l0_0 _ _ l1_0 true _ ?side1 ?side2 ?side3 ?side4 A3.out rfl).mono ?_); (case side1 => repeat (first | exact (Kd.C_below HR0_0.out HB.out) | (with_reducible refine Kd.C_alloc ?_ _) | (with_reducible refine Kd.C_drewN ?_ _) | (with_reducible refine Kd.C_drew ?_))); (case side2 => exact HC0_0.out); (case side3 => repeat (first | exact (Kd.C_below HR1_0.out HB.out) | (with_reducible refine Kd.C_alloc ?_ _) | (with_reducible refine Kd.C_drewN ?_ _) | (with_reducible refine Kd.C_drew ?_))); (case side4 => exact HC1_0.out); rintro e w' ⟨rfl,⟨nd,rfl⟩⟩; refine ⟨_,rfl, ?_⟩))
  go_ret
  exact ⟨by first | rfl | (simp [y15,y16] <;> rfl) | (simp [*,y15,y16] <;> rfl),by repeat (first | (with_reducible first | exact HB.out | apply y3 | apply y23 | apply y4 | refine y5 ?_ GE350.out | refine y5 ?_ GE351.out) | exact HB.out)⟩
 ·replace c4 := Bool.eq_false_iff.mpr c4
  subst c4
  have H1 : (some false) = some r := by rw [if_neg (show ¬ (false = true) by decide)] at H; exact H
  clear H
  have H := H1
  clear H1
  exact absurd ((Option.some.inj H).trans htrue_) (by decide)
end Go.Proofs.YtebadckdihgklaaGreatDoor.Ph
end
section
namespace Go.Proofs.YtebadckdihgklaaGreatDoor.Ph
open Go.RowKit Go.Proofs.YtebadckdihgklaaGreatDoorW.PrintWords Go.Proofs.YtebadckdihgklaaGreatDoorW.PrintLast Go.Proofs.YtebadckdihgklaaGreatDoorW.PrintMore
attribute [local go_sem] max2_int min2_int max_two min_two max_three min_three max_four min_four   -- for this text's walks alone
set_option linter.unusedVariables false
set_option linter.unusedSimpArgs false
def laws_eqTupleS.l0 : Nat → List (S35) → List (S35) → Int → Option (Bool)
 | 0,_,_,_ => none
 | k + 1,x0,x1,x5 => if x5 < (x0.length : Int) then (if 0 ≤ x5 then (if x5 < (x1.length : Int) then ((laws_eqTuple.f k ((y24 x0 x5).f0) ((y24 x1 x5).f0)).bind fun t355 => (if t355 = true then (laws_eqTupleS.l0 k x0 x1 (wrap64 (x5 + 1))) else (some false))) else (none)) else (none)) else (some true)
def laws_eqTupleS.f (k : Nat) (l0 : List (S35)) (l1 : List (S35)) : Option (Bool) := if (l0.length : Int) = (l1.length : Int) then (laws_eqTupleS.l0 k l0 l1 0) else (some false)
def laws_eqTupleS.T6 : Bool × List (List Nat × List Nat) := (true,[([],[]),([],[]),([0,1],[0,1]),([2],[2]),([],[]),([],[]),([4,5],[4,5]),([6],[6]),([3,7],[3,7]),([8],[8])])
def laws_eqTupleS.B6 : List Nat := [0,0,3,7,0,0,48,112,255,511]
theorem laws_eqTupleS.tab6 : rtab .any (opsOf Tryz.f27 6) = laws_eqTupleS.T6 := by kernel_rfl
theorem laws_eqTupleS.bits6 : waitsOk laws_eqTupleS.T6.2 laws_eqTupleS.B6 = true := by kernel_rfl
set_option maxHeartbeats 8000000 in
set_option maxRecDepth 100000 in
theorem laws_eqTupleS.calls (k : Nat) (A0 : Option Addr) (c0 : Nat) (l0 : List (S35)) (A1 : Option Addr) (c1 : Nat) (l1 : List (S35)) (r : Bool) (w : World) (hr0 : Kd.C k35 w A0 l0.length l0) (hc0 : l0.length ≤ c0) (hr1 : Kd.C k35 w A1 l1.length l1) (hc1 : l1.length ≤ c1) (h : laws_eqTupleS.f k l0 l1 = some r) (htrue_ : r = true) :
  Calls Tryz.prog 27 #[.slice A0 l0.length c0,.slice A1 l1.length c1] w fun e w' => e = .returned (.bool r) ∧ Below w.heap.size w w' := by
 have hu35 := Tryz.underlying35
 have HR0 := y0.mk hr0
 have HC0 := y0.mk hc0
 clear hr0 hc0
 have HR1 := y0.mk hr1
 have HC1 := y0.mk hc1
 clear hr1 hc1
 have HB := y0.mk (Below.refl w.heap.size w)
 have H : (if (l0.length : Int) = (l1.length : Int) then (laws_eqTupleS.l0 k l0 l1 0) else (some false)) = some r := h
 clear h
 by_cases c3 : (l0.length : Int) = (l1.length : Int)
 ·rw [if_pos c3] at H
  have c3b0 : ((l0.length : Int) == (l1.length : Int)) = true := beq_iff_eq.mpr c3
  have c3b1 : ((l0.length : Int) != (l1.length : Int)) = false := bne_eq_false_iff_eq.mpr c3
  have c3b2 : (l0.length == l1.length) = true := by first | simpa using c3 | (simp at c3 ⊢; omega)
  clear c3
  have H' := y0.mk H
  clear H
  go_enter Tryz.func27,Tryz.ntmps27
  go_wp2
  go_loopg [5] k (fun kq v5 w' => ∃ (x5_1 : Int),v5 = .int .i64 x5_1 ∧ y0 (laws_eqTupleS.l0 kq l0 l1 x5_1 = some r) ∧ y0 (kq ≤ k) ∧ y0 (Below w.heap.size w w'))
  case atStart => exact ⟨(0),(by first | rfl | (simp; done) | (simp [*]; done)),H',⟨Nat.le_refl _⟩,⟨by repeat (first | (with_reducible first | exact HB.out | apply y3 | apply y23 | apply y4) | exact HB.out)⟩⟩
  case round =>
   clear H'
   try clear c1
   try clear c2
   try clear p2
   try clear c3
   try clear c3b0
   try clear c3b1
   try clear c3b2
   obtain ⟨x5_1,rfl,HA,HK1,HB⟩ := hrel
   cases gk with
   | zero => exact absurd HA.out (by simp [laws_eqTupleS.l0])
   | succ k1 =>
    have H := HA.out
    clear HA
    simp only [laws_eqTupleS.l0] at H
    by_cases c4 : x5_1 < (l0.length : Int)
    ·rw [if_pos c4] at H
     have c4b0 : decide (x5_1 < (l0.length : Int)) = true := decide_eq_true c4
     clear c4
     by_cases c5 : 0 ≤ x5_1
     ·rw [if_pos c5] at H
      have c5b0 : decide (0 ≤ x5_1) = true := decide_eq_true c5
      clear c5
      by_cases c6 : x5_1 < (l1.length : Int)
      ·rw [if_pos c6] at H
       have c6b0 : decide (x5_1 < (l1.length : Int)) = true := decide_eq_true c6
       clear c6
       replace H := Option.bind_eq_some_iff.mp H
       obtain ⟨t355,A70,H⟩ := H
       replace H : (if t355 = true then (laws_eqTupleS.l0 k1 l0 l1 (wrap64 (x5_1 + 1))) else (some false)) = some r := H
       have A7 := y0.mk A70
       clear A70
       by_cases c8 : t355 = true
       ·subst c8
        have H1 : (laws_eqTupleS.l0 k1 l0 l1 (wrap64 (x5_1 + 1))) = some r := by rw [if_pos rfl] at H; exact H
        clear H
        have H := H1
        clear H1
        have H' := y0.mk H
        clear H
        try go_wp2
        have n0_ := y0.mk (y4 HB.out)
        clear HB
        have HB := n0_
        clear n0_
        have p353 : 0 ≤ (x5_1 : Int) := of_decide_eq_true (by first | (with_reducible assumption) | assumption)
        have q353 : x5_1 < (l0.length : Int) := of_decide_eq_true (by first | (with_reducible assumption) | assumption)
        obtain ⟨ad353,A353_0,c353_0,e353,hx353_0,hl353_0,hi353_0⟩ := at_T35 HR0.out x5_1 p353 q353
        have hw353_0 := hx353_0
        cases e353
        replace hx353_0 := (HB.out.cell (World.block_lt_of_cell? w _ hx353_0)).trans hx353_0
        have HR353_0 := y0.mk hi353_0
        have HC353_0 := y0.mk hl353_0
        clear hi353_0 hl353_0
        replace p353 := eq_true p353
        replace q353 := eq_true q353
        have p354 : 0 ≤ (x5_1 : Int) := of_decide_eq_true (by first | (with_reducible assumption) | assumption)
        have q354 : x5_1 < (l1.length : Int) := of_decide_eq_true (by first | (with_reducible assumption) | assumption)
        obtain ⟨ad354,A354_0,c354_0,e354,hx354_0,hl354_0,hi354_0⟩ := at_T35 HR1.out x5_1 p354 q354
        have hw354_0 := hx354_0
        cases e354
        replace hx354_0 := (HB.out.cell (World.block_lt_of_cell? w _ hx354_0)).trans hx354_0
        have HR354_0 := y0.mk hi354_0
        have HC354_0 := y0.mk hl354_0
        clear hi354_0 hl354_0
        replace p354 := eq_true p354
        replace q354 := eq_true q354
        refine start_ (n := 10) (S := fun w' => w'.cell? (ad353.add (x5_1).toNat) = some (.slice A353_0 ((y24 l0 x5_1).f0).length c353_0) ∧ w'.cell? (ad354.add (x5_1).toNat) = some (.slice A354_0 ((y24 l1 x5_1).f0).length c354_0)) (ds := []) (fl_ 10 0) (by kernel_rfl) rfl rfl ⟨((HB.out.cell (World.block_lt_of_cell? w _ hw353_0)).trans hw353_0),((HB.out.cell (World.block_lt_of_cell? w _ hw354_0)).trans hw354_0)⟩ (fun hHeld => ?_); refine with_tabW laws_eqTupleS.tab6 laws_eqTupleS.bits6 (fun HT_ HW_ => ?_)
        generalize wr.drew = w9 at HB HR353_0 HR354_0 hx353_0 hx354_0 hHeld ⊢
        refine y22 (i := 0) (N := some 17) (v := ?_) (a' := ?_) (fl_ 10 1) rfl rfl (y2 HT_.out (by kernel_rfl)) (fun _ _ _ h => h) (Or.inl ⟨by rfl, ?_⟩) ?_ ?_
        rotate_left
        ·intro w'
         go_simp
         with_reducible rfl
        rotate_left
        ·simp only [Act.put,qS_,qZ_,qC_,y21,y20]
         rfl
        refine y22 (i := 1) (N := some 18) (v := ?_) (a' := ?_) (fl_ 10 3) rfl rfl (y2 HT_.out (by kernel_rfl)) (fun _ _ _ h => h) (Or.inl ⟨by rfl, ?_⟩) ?_ ?_
        rotate_left
        ·intro w'
         go_simp
         with_reducible rfl
        rotate_left
        ·simp only [Act.put,qS_,qZ_,qC_,y21,y20]
         rfl
        refine y22 (i := 2) (N := some 19) (v := ?_) (a' := ?_) (fl_ 10 7) rfl rfl (y2 HT_.out (by kernel_rfl)) (fun _ _ _ h => h) (Or.inl ⟨by rfl, ?_⟩) ?_ ?_
        rotate_left
        ·intro w'
         go_simp
         with_reducible rfl
        rotate_left
        ·simp only [Act.put,qS_,qZ_,qC_,y21,y20]
         rfl
        refine y22 (i := 4) (N := some 21) (v := ?_) (a' := ?_) (fl_ 10 23) rfl rfl (y2 HT_.out (by kernel_rfl)) (fun _ _ _ h => h) (Or.inl ⟨by rfl, ?_⟩) ?_ ?_
        rotate_left
        ·intro w'
         go_simp
         with_reducible rfl
        rotate_left
        ·simp only [Act.put,qS_,qZ_,qC_,y21,y20]
         rfl
        refine y22 (i := 5) (N := some 22) (v := ?_) (a' := ?_) (fl_ 10 55) rfl rfl (y2 HT_.out (by kernel_rfl)) (fun _ _ _ h => h) (Or.inl ⟨by rfl, ?_⟩) ?_ ?_
        rotate_left
        ·intro w'
         go_simp
         with_reducible rfl
        rotate_left
        ·simp only [Act.put,qS_,qZ_,qC_,y21,y20]
         rfl
        refine y22 (i := 6) (N := some 23) (v := ?_) (a' := ?_) (fl_ 10 119) rfl rfl (y2 HT_.out (by kernel_rfl)) (fun _ _ _ h => h) (Or.inl ⟨by rfl, ?_⟩) ?_ ?_
        rotate_left
        ·intro w'
         go_simp
         with_reducible rfl
        rotate_left
        ·simp only [Act.put,qS_,qZ_,qC_,y21,y20]
         rfl
        refine take_ (i := 3) (N := some 20) (v := ?_) (a' := ?_) (fl_ 10 127) rfl rfl (y26 HT_.out HW_.out (by kernel_rfl)) (fun _ _ _ h => h) (Or.inl ⟨by rfl, ?_⟩) hHeld ?_ ?_
        rotate_left
        ·rintro w' ⟨s0,s1⟩
         go_simp
         with_reducible rfl
        rotate_left
        ·simp only [Act.put,qS_,qZ_,qC_,y21,y20]
         rfl
        refine take_ (i := 7) (N := some 24) (v := ?_) (a' := ?_) (fl_ 10 255) rfl rfl (y26 HT_.out HW_.out (by kernel_rfl)) (fun _ _ _ h => h) (Or.inl ⟨by rfl, ?_⟩) hHeld ?_ ?_
        rotate_left
        ·rintro w' ⟨s0,s1⟩
         go_simp
         with_reducible rfl
        rotate_left
        ·simp only [Act.put,qS_,qZ_,qC_,y21,y20]
         rfl
        refine one_ (i := 8) (N := some 25) (fl_ 10 511) rfl rfl (one_of HT_.out (by kernel_rfl)) (by decide) (fun K hK => ?_)
        refine goes_ Tryz.func18 (by kernel_rfl) rfl #[.agg #[.slice A353_0 ((y24 l0 x5_1).f0).length c353_0],.agg #[.slice A354_0 ((y24 l1 x5_1).f0).length c354_0]] (by rfl) rfl rfl (by (try simp only [qM_,List.map_cons,List.map_nil]); first | done | rfl | (simp only [qD_,qT_]; rfl)) ?_
        with_reducible refine (laws_eqTuple.calls k1 _ _ ((y24 l0 x5_1).f0) _ _ ((y24 l1 x5_1).f0) true _ ?side1 ?side2 ?side3 ?side4 A7.out rfl).mono ?_
        (case side1 => repeat (first | exact (Kd.C_below HR353_0.out HB.out) | (with_reducible refine Kd.C_alloc ?_ _) | (with_reducible refine Kd.C_drewN ?_ _) | (with_reducible refine Kd.C_drew ?_)))
        (case side2 => exact HC353_0.out)
        (case side3 => repeat (first | exact (Kd.C_below HR354_0.out HB.out) | (with_reducible refine Kd.C_alloc ?_ _) | (with_reducible refine Kd.C_drewN ?_ _) | (with_reducible refine Kd.C_drew ?_)))
        (case side4 => exact HC354_0.out)
        rintro e w10 ⟨rfl,hb⟩
        refine ⟨_,rfl, ?_⟩
        have n0_ := y0.mk (y7 (by repeat (first | (with_reducible first | exact HB.out | apply y3 | apply y23 | apply y4) | exact HB.out)) hb)
        clear HB
        have HB := n0_
        clear n0_
        (try clear hb)
        (try clear hb2)
        (try clear hk)
        (try clear hi)
        refine hK.out _ _ ⟨((HB.out.cell (World.block_lt_of_cell? w _ hw353_0)).trans hw353_0),((HB.out.cell (World.block_lt_of_cell? w _ hw354_0)).trans hw354_0)⟩ (fun hHeld => ?_)
        clear hK K
        refine norm_ (a' := ?_) ?_ ?_
        rotate_left
        ·show Act.put _ (some 25) _ = _
         simp only [Act.put,qS_,qZ_,qC_,y21,y20]
         rfl
        refine y22 (i := 9) (N := some 26) (v := ?_) (a' := ?_) (fl_ 10 1023) rfl rfl (y2 HT_.out (by kernel_rfl)) (fun _ _ _ h => h) (Or.inl ⟨by rfl, ?_⟩) ?_ ?_
        rotate_left
        ·intro w'
         go_simp
         with_reducible rfl
        rotate_left
        ·simp only [Act.put,qS_,qZ_,qC_,y21,y20]
         rfl
        refine done_ (done_of HT_.out (by kernel_rfl)) ?_
        try go_wp2
        go_roundg k1
        case measure => have := HK1.out; omega
        case rel => exact ⟨(wrap64 (x5_1 + 1)),(by first | rfl | (simp; done) | (simp [*]; done)),H',⟨by have := HK1.out; omega⟩,⟨by repeat (first | (with_reducible first | exact HB.out | apply y3 | apply y23 | apply y4) | exact HB.out)⟩⟩
       ·replace c8 := Bool.eq_false_iff.mpr c8
        subst c8
        have H1 : (some false) = some r := by rw [if_neg (show ¬ (false = true) by decide)] at H; exact H
        clear H
        have H := H1
        clear H1
        exact absurd ((Option.some.inj H).trans htrue_) (by decide)
      ·rw [if_neg c6] at H
       exact absurd H (by simp)
     ·rw [if_neg c5] at H
      exact absurd H (by simp)
    ·rw [if_neg c4] at H
     have c4b0 : decide (x5_1 < (l0.length : Int)) = false := decide_eq_false c4
     clear c4
     obtain rfl := Option.some.inj H
     go_wp2
     go_ret
     exact ⟨by first | rfl | (simp [y15,y16] <;> rfl) | (simp [*,y15,y16] <;> rfl),by repeat (first | (with_reducible first | exact HB.out | apply y3 | apply y23 | apply y4) | exact HB.out)⟩
 ·rw [if_neg c3] at H
  have c3b0 : ((l0.length : Int) == (l1.length : Int)) = false := beq_eq_false_iff_ne.mpr c3
  have c3b1 : ((l0.length : Int) != (l1.length : Int)) = true := bne_iff_ne.mpr c3
  have c3b2 : (l0.length == l1.length) = false := by first | simpa using c3 | (simp at c3 ⊢; omega)
  exact absurd ((Option.some.inj H).trans htrue_) (by decide)
def laws_eqRel.f (k : Nat) (a0_0 : Int) (l0_1 : List (S35)) (a1_0 : Int) (l1_1 : List (S35)) : Option (Bool) := if a0_0 = a1_0 then ((laws_eqTupleS.f k l0_1 l1_1).bind fun t358 => (if t358 = true then (some true) else (some false))) else (some false)
set_option maxHeartbeats 8000000 in
set_option maxRecDepth 100000 in
theorem laws_eqRel.calls (k : Nat) (a0_0 : Int) (A0_1 : Option Addr) (c0_1 : Nat) (l0_1 : List (S35)) (a1_0 : Int) (A1_1 : Option Addr) (c1_1 : Nat) (l1_1 : List (S35)) (r : Bool) (w : World) (hr0_1 : Kd.C k35 w A0_1 l0_1.length l0_1) (hc0_1 : l0_1.length ≤ c0_1) (hr1_1 : Kd.C k35 w A1_1 l1_1.length l1_1) (hc1_1 : l1_1.length ≤ c1_1) (h : laws_eqRel.f k a0_0 l0_1 a1_0 l1_1 = some r) (htrue_ : r = true) :
  Calls Tryz.prog 17 #[.agg #[.int .i64 a0_0,.slice A0_1 l0_1.length c0_1],.agg #[.int .i64 a1_0,.slice A1_1 l1_1.length c1_1]] w fun e w' => e = .returned (.bool r) ∧ Below w.heap.size w w' := by
 have hu33 := Tryz.underlying33
 have HR0_1 := y0.mk hr0_1
 have HC0_1 := y0.mk hc0_1
 clear hr0_1 hc0_1
 have HR1_1 := y0.mk hr1_1
 have HC1_1 := y0.mk hc1_1
 clear hr1_1 hc1_1
 have HB := y0.mk (Below.refl w.heap.size w)
 have H : (if a0_0 = a1_0 then ((laws_eqTupleS.f k l0_1 l1_1).bind fun t358 => (if t358 = true then (some true) else (some false))) else (some false)) = some r := h
 clear h
 by_cases c3 : a0_0 = a1_0
 ·rw [if_pos c3] at H
  have c3b0 : (a0_0 == a1_0) = true := beq_iff_eq.mpr c3
  have c3b1 : (a0_0 != a1_0) = false := bne_eq_false_iff_eq.mpr c3
  clear c3
  replace H := Option.bind_eq_some_iff.mp H
  obtain ⟨t358,A40,H⟩ := H
  replace H : (if t358 = true then (some true) else (some false)) = some r := H
  have A4 := y0.mk A40
  clear A40
  by_cases c5 : t358 = true
  ·subst c5
   have H1 : (some true) = some r := by rw [if_pos rfl] at H; exact H
   clear H
   have H := H1
   clear H1
   obtain rfl := Option.some.inj H
   go_enter Tryz.func17,Tryz.ntmps17
   go_wp2_with (first | ((with_reducible refine y18 (N := 2) rfl ?_); refine y14 ?hg (N := 2) ?hd (cs := #[.int .i64 a0_0,.slice A0_1 l0_1.length c0_1]) (t := 33) ?hr ?_; (case hd => rfl); (case hg => rfl); (case hr => first | (go_simp; done) | (go_simp; rfl)); intro gb356 hg w6 hbox hb; have n0_ := y0.mk (y7 (by repeat (first | (with_reducible first | exact HB.out | apply y3 | apply y23 | apply y4) | exact HB.out)) hb); have n1_ := y0.mk (hbox); have n2_ := y0.mk ((by rw [hg]; exact (y6 (by repeat (first | (with_reducible first | exact HB.out | apply y3 | apply y23 | apply y4) | exact HB.out))) : w.heap.size ≤ gb356)); have n3_ := y0.mk ((by rw [hg]; exact (y6 (by repeat (first | (with_reducible first | exact HB.out | apply y3 | apply y23 | apply y4) | exact HB.out))) : w.heap.size ≤ gb356)); clear HB; have HB := n0_; have BK356 := n1_; have GW356 := n2_; have GE356 := n3_; clear n0_ n1_ n2_ n3_; clear hb hbox hg) | ((with_reducible refine y18 (N := 3) rfl ?_); refine y14 ?hg (N := 3) ?hd (cs := #[.int .i64 a1_0,.slice A1_1 l1_1.length c1_1]) (t := 33) ?hr ?_; (case hd => rfl); (case hg => rfl); (case hr => first | (go_simp; done) | (go_simp; rfl)); intro gb357 hg w7 hbox hb; have n0_ := y0.mk (y9 (g := gb356) (o := .cells #[.int .i64 a0_0,.slice A0_1 l0_1.length c0_1] 33 (0,0)) (by (with_reducible repeat (first | refine y12 ?_ _ | refine y11 ?_ | refine y8 ?_ _)); exact BK356.out) hb); have n1_ := y0.mk (y7 (by repeat (first | (with_reducible first | exact HB.out | apply y3 | apply y23 | apply y4 | refine y5 ?_ GE356.out) | exact HB.out)) hb); have n2_ := y0.mk (hbox); have n3_ := y0.mk ((by rw [hg]; exact (y6 (by repeat (first | (with_reducible first | exact HB.out | apply y3 | apply y23 | apply y4 | refine y5 ?_ GE356.out) | exact HB.out))) : w.heap.size ≤ gb357)); have n4_ := y0.mk ((by rw [hg]; exact (y6 (by repeat (first | (with_reducible first | exact HB.out | apply y3 | apply y23 | apply y4 | refine y5 ?_ GE356.out) | exact HB.out))) : w.heap.size ≤ gb357)); have n5_ := y0.mk ((by rw [hg]; exact Nat.ne_of_lt (blk_lt (g := gb356) (o := .cells #[.int .i64 a0_0,.slice A0_1 l0_1.length c0_1] 33 (0,0)) (by (with_reducible repeat (first | refine y12 ?_ _ | refine y11 ?_ | refine y8 ?_ _)); exact BK356.out)) : gb356 ≠ gb357)); have n6_ := y0.mk ((by rw [hg]; exact Nat.ne_of_gt (blk_lt (g := gb356) (o := .cells #[.int .i64 a0_0,.slice A0_1 l0_1.length c0_1] 33 (0,0)) (by (with_reducible repeat (first | refine y12 ?_ _ | refine y11 ?_ | refine y8 ?_ _)); exact BK356.out)) : gb357 ≠ gb356)); clear BK356; clear HB; have BK356 := n0_; have HB := n1_; have BK357 := n2_; have GW357 := n3_; have GE357 := n4_; have NB356_357 := n5_; have NB357_356 := n6_; clear n0_ n1_ n2_ n3_ n4_ n5_ n6_; clear hb hbox hg; have hnb8 := NB356_357.out; have hnc8 := NB357_356.out; have hcz9_0 : w7.cell? ⟨gb356,0,none⟩ = some (.int .i64 a0_0) := (y10 BK356.out 0).trans rfl; have hcz9_1 : w7.cell? ⟨gb356,1,none⟩ = some (.slice A0_1 l0_1.length c0_1) := (y10 BK356.out 1).trans rfl; have hfz9_0 := y13 BK356.out 0; have hfz9_1 := y13 BK356.out 1; have hcz10_0 : w7.cell? ⟨gb357,0,none⟩ = some (.int .i64 a1_0) := (y10 BK357.out 0).trans rfl; have hcz10_1 : w7.cell? ⟨gb357,1,none⟩ = some (.slice A1_1 l1_1.length c1_1) := (y10 BK357.out 1).trans rfl; have hfz10_0 := y13 BK357.out 0; have hfz10_1 := y13 BK357.out 1) | ((with_reducible refine y17 (f := 27) rfl ?_); refine y19 (some 14) rfl rfl Tryz.func27 (by kernel_rfl) rfl #[.slice A0_1 l0_1.length c0_1,.slice A1_1 l1_1.length c1_1] rfl (by (try simp only [qM_,List.map_cons,List.map_nil]); first | done | rfl | (simp only [qD_,qT_]; rfl)) ?_; (with_reducible refine (laws_eqTupleS.calls k _ _ l0_1 _ _ l1_1 true _ ?side1 ?side2 ?side3 ?side4 A4.out rfl).mono ?_); (case side1 => repeat (first | exact (Kd.C_below HR0_1.out HB.out) | (with_reducible refine Kd.C_alloc ?_ _) | (with_reducible refine Kd.C_drewN ?_ _) | (with_reducible refine Kd.C_drew ?_))); (case side2 => exact HC0_1.out); (case side3 => repeat (first | exact (Kd.C_below HR1_1.out HB.out) | (with_reducible refine Kd.C_alloc ?_ _) | (with_reducible refine Kd.C_drewN ?_ _) | (with_reducible refine Kd.C_drew ?_))); (case side4 => exact HC1_1.out); rintro e w11 ⟨rfl,hb⟩; refine ⟨_,rfl, ?_⟩; have n0_ := y0.mk (y9 (g := gb356) (o := .cells #[.int .i64 a0_0,.slice A0_1 l0_1.length c0_1] 33 (0,0)) (by (with_reducible repeat (first | refine y12 ?_ _ | refine y11 ?_ | refine y8 ?_ _)); exact BK356.out) hb); have n1_ := y0.mk (y9 (g := gb357) (o := .cells #[.int .i64 a1_0,.slice A1_1 l1_1.length c1_1] 33 (0,0)) (by (with_reducible repeat (first | refine y12 ?_ _ | refine y11 ?_ | refine y8 ?_ _)); exact BK357.out) hb); have n2_ := y0.mk (y7 (by repeat (first | (with_reducible first | exact HB.out | apply y3 | apply y23 | apply y4 | refine y5 ?_ GE356.out | refine y5 ?_ GE357.out) | exact HB.out)) hb); clear BK356; clear BK357; clear HB; have BK356 := n0_; have BK357 := n1_; have HB := n2_; clear n0_ n1_ n2_; (try clear hb); (try clear hb2); (try clear hk); (try clear hi)))
   go_ret
   exact ⟨by first | rfl | (simp [y15,y16] <;> rfl) | (simp [*,y15,y16] <;> rfl),by repeat (first | (with_reducible first | exact HB.out | apply y3 | apply y23 | apply y4 | refine y5 ?_ GE356.out | refine y5 ?_ GE357.out) | exact HB.out)⟩
  ·replace c5 := Bool.eq_false_iff.mpr c5
   subst c5
   have H1 : (some false) = some r := by rw [if_neg (show ¬ (false = true) by decide)] at H; exact H
   clear H
   have H := H1
   clear H1
   exact absurd ((Option.some.inj H).trans htrue_) (by decide)
 ·rw [if_neg c3] at H
  have c3b0 : (a0_0 == a1_0) = false := beq_eq_false_iff_ne.mpr c3
  have c3b1 : (a0_0 != a1_0) = true := bne_iff_ne.mpr c3
  exact absurd ((Option.some.inj H).trans htrue_) (by decide)
end Go.Proofs.YtebadckdihgklaaGreatDoor.Ph
end

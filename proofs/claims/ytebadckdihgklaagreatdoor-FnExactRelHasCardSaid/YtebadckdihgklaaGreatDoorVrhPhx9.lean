-- Cut by prune.py, a program of this session, out of the texts of this claim: Lean checks it.
import Derived.Test.YtebadckdihgklaaGreatDoorVrhPhx0
import Derived.Test.YtebadckdihgklaaGreatDoorVrhPhx7
namespace Go.Proofs.YtebadckdihgklaaGreatDoor.Ph
open Go.RowKit Go.Proofs.YtebadckdihgklaaGreatDoorW.PrintWords Go.Proofs.YtebadckdihgklaaGreatDoorW.PrintLast Go.Proofs.YtebadckdihgklaaGreatDoorW.PrintMore
attribute [local go_sem] max2_int min2_int max_two min_two max_three min_three max_four min_four   -- for this text's walks alone
set_option linter.unusedVariables false
set_option linter.unusedSimpArgs false
mutual
def spec_RelOk.j0 : Nat → Bool → Int → List (S35) → Option (Bool)
 | 0,_,_,_ => none
 | k + 1,x13,x213000,x213001 => if x13 = true then (some false) else (spec_RelOk.l0 k 0 x213000 x213001)
def spec_RelOk.l0 : Nat → Int → Int → List (S35) → Option (Bool)
 | 0,_,_,_ => none
 | k + 1,x3,x213000,x213001 => if x3 < (x213001.length : Int) then (if 0 ≤ x3 then (if (((y24 x213001 x3).f0).length : Int) = x213000 then ((spec_TupleOk.f k ((y24 x213001 x3).f0)).bind fun t216 => (if t216 = true then (if x3 > 0 then (if 0 ≤ (wrap64 (x3 - 1)) then (if (wrap64 (x3 - 1)) < (x213001.length : Int) then ((spec_l02Cmp.f k ((y24 x213001 (wrap64 (x3 - 1))).f0) ((y24 x213001 x3).f0)).bind fun t219 => (if t219 ≥ 0 then (some false) else (spec_RelOk.l0 k (wrap64 (x3 + 1)) x213000 x213001))) else (none)) else (none)) else (spec_RelOk.l0 k (wrap64 (x3 + 1)) x213000 x213001)) else (some false))) else (some false)) else (none)) else (some true)
end
def spec_RelOk.f (k : Nat) (a0_0 : Int) (l0_1 : List (S35)) : Option (Bool) := (spec_l01Between.f a0_0 0 6).bind fun t213 => (if t213 = true then (spec_RelOk.j0 k (decide ((l0_1.length : Int) > 400)) a0_0 l0_1) else (spec_RelOk.j0 k true a0_0 l0_1))
def spec_RelOk.T6 : Bool × List (List Nat × List Nat) := (true,[([],[]),([0],[0]),([],[]),([1,2],[1,2]),([3],[3]),([4],[4]),([5],[5]),([],[]),([7],[7]),([6,8],[6,8]),([9],[9]),([10],[10]),([11,10],[10,11]),([10],[10]),([12,13,10],[10,12,13]),([14,10],[10,14]),([15,10,10],[10,15]),([16,10],[10,16]),([10,17],[10,17]),([18,16],[18]),([19],[19]),([20,19],[19,20]),([21,19,19],[19,21]),([22],[22]),([23,22],[22,23]),([22],[22]),([25,22],[22,25]),([24,26,22],[22,24,26]),([27,22],[22,27]),([22],[22]),([29,22],[22,29]),([22],[22]),([30,31,22],[22,30,31]),([32,22],[22,32]),([28,33,22,22],[22,28,33]),([34,22],[22,34]),([22,35,19],[19,22,35]),([19,36],[19,36])])
def spec_RelOk.B6 : List Nat := [0,1,0,7,15,31,63,0,128,511,1023,2047,4095,2047,16383,32767,65535,131071,262143,524287,1048575,2097151,4194303,8388607,16777215,8388607,41943039,134217727,268435455,8388607,545259519,8388607,3766484991,8061452287,17179869183,34359738367,68719476735,137438953471]
theorem spec_RelOk.tab6 : rtab .any (opsOf Tryz.f22 6) = spec_RelOk.T6 := by kernel_rfl
theorem spec_RelOk.bits6 : waitsOk spec_RelOk.T6.2 spec_RelOk.B6 = true := by kernel_rfl
set_option maxHeartbeats 8000000 in
set_option maxRecDepth 100000 in
theorem spec_RelOk.calls (k : Nat) (a0_0 : Int) (A0_1 : Option Addr) (c0_1 : Nat) (l0_1 : List (S35)) (r : Bool) (w : World) (hr0_1 : Kd.C k35 w A0_1 l0_1.length l0_1) (hc0_1 : l0_1.length ≤ c0_1) (h : spec_RelOk.f k a0_0 l0_1 = some r) :
  Calls Tryz.prog 22 #[.agg #[.int .i64 a0_0,.slice A0_1 l0_1.length c0_1]] w fun e w' => e = .returned (.bool r) ∧ Below w.heap.size w w' := by
 have hu33 := Tryz.underlying33
 have hu35 := Tryz.underlying35
 have HR0_1 := y0.mk hr0_1
 have HC0_1 := y0.mk hc0_1
 clear hr0_1 hc0_1
 have HB := y0.mk (Below.refl w.heap.size w)
 have H : ((spec_l01Between.f a0_0 0 6).bind fun t213 => (if t213 = true then (spec_RelOk.j0 k (decide ((l0_1.length : Int) > 400)) a0_0 l0_1) else (spec_RelOk.j0 k true a0_0 l0_1))) = some r := h
 clear h
 have HC2 := y0.mk H
 clear H
 go_enter Tryz.func22,Tryz.ntmps22
 go_upto_region 1 with (first | ((with_reducible refine y18 (N := 1) rfl ?_); (try (refine gate_guard (by rfl) ?_; dsimp only)); refine y14 ?hg (N := 1) ?hd (cs := #[.int .i64 a0_0,.slice A0_1 l0_1.length c0_1]) (t := 33) ?hr ?_; (case hd => rfl); (case hg => rfl); (case hr => first | (go_simp; done) | (go_simp; rfl)); intro gb212 hg w3 hbox hb; have n0_ := y0.mk (y7 (by repeat (first | (with_reducible first | exact HB.out | apply y3 | apply y23 | apply y4) | exact HB.out)) hb); have n1_ := y0.mk (hbox); have n2_ := y0.mk ((by rw [hg]; exact (y6 (by repeat (first | (with_reducible first | exact HB.out | apply y3 | apply y23 | apply y4) | exact HB.out))) : w.heap.size ≤ gb212)); have n3_ := y0.mk ((by rw [hg]; exact (y6 (by repeat (first | (with_reducible first | exact HB.out | apply y3 | apply y23 | apply y4) | exact HB.out))) : w.heap.size ≤ gb212)); clear HB; have HB := n0_; have BK212 := n1_; have GW212 := n2_; have GE212 := n3_; clear n0_ n1_ n2_ n3_; clear hb hbox hg))
 (try simp only [Act.put,qS_,qZ_,qC_])
 go_cut [13] (fun v13 wc => ∃ (kq : Nat) (x13_1 : Bool),v13 = .bool x13_1 ∧ y0 (spec_RelOk.j0 kq x13_1 a0_0 l0_1 = some r) ∧ y0 (kq ≤ k) ∧ y0 (wc.heap[gb212]? = some (.cells #[.int .i64 a0_0,(.slice A0_1 l0_1.length c0_1)] 33 (0,0))) ∧ y0 (Below w.heap.size w wc))
 case first =>
  have H := HC2.out
  clear HC2
  replace H := Option.bind_eq_some_iff.mp H
  obtain ⟨t213,A40,H⟩ := H
  replace H : (if t213 = true then (spec_RelOk.j0 k (decide ((l0_1.length : Int) > 400)) a0_0 l0_1) else (spec_RelOk.j0 k true a0_0 l0_1)) = some r := H
  have A4 := y0.mk A40
  clear A40
  by_cases c5 : t213 = true
  ·subst c5
   have H1 : (spec_RelOk.j0 k (decide ((l0_1.length : Int) > 400)) a0_0 l0_1) = some r := by rw [if_pos rfl] at H; exact H
   clear H
   have H := H1
   clear H1
   have H' := y0.mk H
   clear H
   have hcz6_0 : w3.cell? ⟨gb212,0,none⟩ = some (.int .i64 a0_0) := (y10 BK212.out 0).trans rfl
   have hcz6_1 : w3.cell? ⟨gb212,1,none⟩ = some (.slice A0_1 l0_1.length c0_1) := (y10 BK212.out 1).trans rfl
   have hfz6_0 := y13 BK212.out 0
   have hfz6_1 := y13 BK212.out 1
   go_wp2_with (first | ((with_reducible refine y17 (f := 55) rfl ?_); refine y19 (some 6) rfl rfl Tryz.func55 (by kernel_rfl) rfl #[.int .i64 a0_0,.int .i64 0,.int .i64 6] rfl (by (try simp only [qM_,List.map_cons,List.map_nil]); first | done | rfl | (simp only [qD_,qT_]; rfl)) ?_; (with_reducible refine (spec_l01Between.calls a0_0 0 6 true _ A4.out).mono ?_); rintro e w' ⟨rfl,⟨nd,rfl⟩⟩; refine ⟨_,rfl, ?_⟩))
   go_meet
   case rel => exact ⟨_,(decide ((l0_1.length : Int) > 400)),(by first | rfl | (simp; done) | (simp [*]; done)),H',⟨by first | omega | exact Nat.le_refl _⟩,⟨by (with_reducible repeat (first | refine y12 ?_ _ | refine y11 ?_ | refine y8 ?_ _)); exact BK212.out⟩,⟨by repeat (first | (with_reducible first | exact HB.out | apply y3 | apply y23 | apply y4 | refine y5 ?_ GE212.out) | exact HB.out)⟩⟩
  ·replace c5 := Bool.eq_false_iff.mpr c5
   subst c5
   have H1 : (spec_RelOk.j0 k true a0_0 l0_1) = some r := by rw [if_neg (show ¬ (false = true) by decide)] at H; exact H
   clear H
   have H := H1
   clear H1
   have H' := y0.mk H
   clear H
   have hcz7_0 : w3.cell? ⟨gb212,0,none⟩ = some (.int .i64 a0_0) := (y10 BK212.out 0).trans rfl
   have hcz7_1 : w3.cell? ⟨gb212,1,none⟩ = some (.slice A0_1 l0_1.length c0_1) := (y10 BK212.out 1).trans rfl
   have hfz7_0 := y13 BK212.out 0
   have hfz7_1 := y13 BK212.out 1
   go_wp2_with (first | ((with_reducible refine y17 (f := 55) rfl ?_); refine y19 (some 6) rfl rfl Tryz.func55 (by kernel_rfl) rfl #[.int .i64 a0_0,.int .i64 0,.int .i64 6] rfl (by (try simp only [qM_,List.map_cons,List.map_nil]); first | done | rfl | (simp only [qD_,qT_]; rfl)) ?_; (with_reducible refine (spec_l01Between.calls a0_0 0 6 false _ A4.out).mono ?_); rintro e w' ⟨rfl,⟨nd,rfl⟩⟩; refine ⟨_,rfl, ?_⟩))
   go_meet
   case rel => exact ⟨_,(true),(by first | rfl | (simp; done) | (simp [*]; done)),H',⟨by first | omega | exact Nat.le_refl _⟩,⟨by (with_reducible repeat (first | refine y12 ?_ _ | refine y11 ?_ | refine y8 ?_ _)); exact BK212.out⟩,⟨by repeat (first | (with_reducible first | exact HB.out | apply y3 | apply y23 | apply y4 | refine y5 ?_ GE212.out) | exact HB.out)⟩⟩
 case rest =>
  clear HC2
  try clear c2
  try clear p2
  try clear c5
  try clear hcz6_0
  try clear hcz6_1
  try clear hcz7_0
  try clear hcz7_1
  try clear hfz6_0
  try clear hfz6_1
  try clear hfz7_0
  try clear hfz7_1
  obtain ⟨kq,x13_1,rfl,HA,HJ1,BK212,HB⟩ := hcut
  cases kq with
  | zero => exact absurd HA.out (by simp [spec_RelOk.j0])
  | succ kj1 =>
   have H := HA.out
   clear HA
   simp only [spec_RelOk.j0] at H
   by_cases c8 : x13_1 = true
   ·subst c8
    have H1 : (some false) = some r := by rw [if_pos rfl] at H; exact H
    clear H
    have H := H1
    clear H1
    obtain rfl := Option.some.inj H
    go_wp2
    go_ret
    exact ⟨by first | rfl | (simp [y15,y16] <;> rfl) | (simp [*,y15,y16] <;> rfl),by repeat (first | (with_reducible first | exact HB.out | apply y3 | apply y23 | apply y4 | refine y5 ?_ GE212.out) | exact HB.out)⟩
   ·replace c8 := Bool.eq_false_iff.mpr c8
    subst c8
    have H1 : (spec_RelOk.l0 kj1 0 a0_0 l0_1) = some r := by rw [if_neg (show ¬ (false = true) by decide)] at H; exact H
    clear H
    have H := H1
    clear H1
    have H' := y0.mk H
    clear H
    go_wp2
    go_loopg [3] kj1 (fun kq v3 w' => ∃ (x3_2 : Int),v3 = .int .i64 x3_2 ∧ y0 (spec_RelOk.l0 kq x3_2 a0_0 l0_1 = some r) ∧ y0 (kq ≤ kj1) ∧ y0 (w'.heap[gb212]? = some (.cells #[.int .i64 a0_0,(.slice A0_1 l0_1.length c0_1)] 33 (0,0))) ∧ y0 (Below w.heap.size w w'))
    case atStart => exact ⟨(0),(by first | rfl | (simp; done) | (simp [*]; done)),H',⟨Nat.le_refl _⟩,⟨by (with_reducible repeat (first | refine y12 ?_ _ | refine y11 ?_ | refine y8 ?_ _)); exact BK212.out⟩,⟨by repeat (first | (with_reducible first | exact HB.out | apply y3 | apply y23 | apply y4 | refine y5 ?_ GE212.out) | exact HB.out)⟩⟩
    case round =>
     clear H'
     try clear c2
     try clear p2
     try clear c5
     try clear c8
     try clear hcz6_0
     try clear hcz6_1
     try clear hcz7_0
     try clear hcz7_1
     try clear hfz6_0
     try clear hfz6_1
     try clear hfz7_0
     try clear hfz7_1
     try clear p2
     obtain ⟨x3_2,rfl,HA,HK2,BK212,HB⟩ := hrel
     cases gk with
     | zero => exact absurd HA.out (by simp [spec_RelOk.l0])
     | succ k2 =>
      have H := HA.out
      clear HA
      simp only [spec_RelOk.l0] at H
      by_cases c9 : x3_2 < (l0_1.length : Int)
      ·as_aux_lemma =>
       rw [if_pos c9] at H
       have c9b0 : decide (x3_2 < (l0_1.length : Int)) = true := decide_eq_true c9
       clear c9
       by_cases c10 : 0 ≤ x3_2
       ·as_aux_lemma =>
        rw [if_pos c10] at H
        have c10b0 : decide (0 ≤ x3_2) = true := decide_eq_true c10
        clear c10
        by_cases c11 : (((y24 l0_1 x3_2).f0).length : Int) = a0_0
        ·as_aux_lemma =>
         rw [if_pos c11] at H
         have c11b0 : ((((y24 l0_1 x3_2).f0).length : Int) == a0_0) = true := beq_iff_eq.mpr c11
         have c11b1 : ((((y24 l0_1 x3_2).f0).length : Int) != a0_0) = false := bne_eq_false_iff_eq.mpr c11
         clear c11
         replace H := Option.bind_eq_some_iff.mp H
         obtain ⟨t216,A120,H⟩ := H
         replace H : (if t216 = true then (if x3_2 > 0 then (if 0 ≤ (wrap64 (x3_2 - 1)) then (if (wrap64 (x3_2 - 1)) < (l0_1.length : Int) then ((spec_l02Cmp.f k2 ((y24 l0_1 (wrap64 (x3_2 - 1))).f0) ((y24 l0_1 x3_2).f0)).bind fun t219 => (if t219 ≥ 0 then (some false) else (spec_RelOk.l0 k2 (wrap64 (x3_2 + 1)) a0_0 l0_1))) else (none)) else (none)) else (spec_RelOk.l0 k2 (wrap64 (x3_2 + 1)) a0_0 l0_1)) else (some false)) = some r := H
         have A12 := y0.mk A120
         clear A120
         by_cases c13 : t216 = true
         ·subst c13
          have H1 : (if x3_2 > 0 then (if 0 ≤ (wrap64 (x3_2 - 1)) then (if (wrap64 (x3_2 - 1)) < (l0_1.length : Int) then ((spec_l02Cmp.f k2 ((y24 l0_1 (wrap64 (x3_2 - 1))).f0) ((y24 l0_1 x3_2).f0)).bind fun t219 => (if t219 ≥ 0 then (some false) else (spec_RelOk.l0 k2 (wrap64 (x3_2 + 1)) a0_0 l0_1))) else (none)) else (none)) else (spec_RelOk.l0 k2 (wrap64 (x3_2 + 1)) a0_0 l0_1)) = some r := by rw [if_pos rfl] at H; exact H
          clear H
          have H := H1
          clear H1
          by_cases c14 : x3_2 > 0
          ·as_aux_lemma =>
           rw [if_pos c14] at H
           have c14b0 : decide (0 < x3_2) = true := decide_eq_true c14
           clear c14
           obtain ⟨ji15,hji15⟩ : ∃ j_ : Int,(wrap64 (x3_2 - 1)) = j_ := ⟨_,rfl⟩
           replace H : (if 0 ≤ (ji15) then (if (ji15) < (l0_1.length : Int) then ((spec_l02Cmp.f k2 ((y24 l0_1 (ji15)).f0) ((y24 l0_1 x3_2).f0)).bind fun t219 => (if t219 ≥ 0 then (some false) else (spec_RelOk.l0 k2 (wrap64 (x3_2 + 1)) a0_0 l0_1))) else (none)) else (none)) = some r := by first | (rw [hji15] at H; exact H) | (simp only [hji15] at H ⊢; exact H)
           (try rw [hji15] at A12)
           have hji15w : (IntKind.i64.wrap (x3_2 - 1)) = ji15 := (y21 _).trans hji15
           by_cases c16 : 0 ≤ (ji15)
           ·as_aux_lemma =>
            rw [if_pos c16] at H
            have c16b0 : decide (0 ≤ (ji15)) = true := decide_eq_true c16
            clear c16
            by_cases c17 : (ji15) < (l0_1.length : Int)
            ·as_aux_lemma =>
             rw [if_pos c17] at H
             have c17b0 : decide ((ji15) < (l0_1.length : Int)) = true := decide_eq_true c17
             clear c17
             replace H := Option.bind_eq_some_iff.mp H
             obtain ⟨t219,A180,H⟩ := H
             replace H : (if t219 ≥ 0 then (some false) else (spec_RelOk.l0 k2 (wrap64 (x3_2 + 1)) a0_0 l0_1)) = some r := H
             have A18 := y0.mk A180
             clear A180
             by_cases c19 : t219 ≥ 0
             ·as_aux_lemma =>
              rw [if_pos c19] at H
              have c19b0 : decide (0 ≤ t219) = true := decide_eq_true c19
              clear c19
              obtain rfl := Option.some.inj H
              have hcz20_0 : wr.cell? ⟨gb212,0,none⟩ = some (.int .i64 a0_0) := (y10 BK212.out 0).trans rfl
              have hcz20_1 : wr.cell? ⟨gb212,1,none⟩ = some (.slice A0_1 l0_1.length c0_1) := (y10 BK212.out 1).trans rfl
              have hfz20_0 := y13 BK212.out 0
              have hfz20_1 := y13 BK212.out 1
              try go_wp2
              have n0_ := y0.mk (y11 BK212.out)
              have n1_ := y0.mk (y4 HB.out)
              clear BK212
              clear HB
              have BK212 := n0_
              have HB := n1_
              clear n0_ n1_
              have p214 : 0 ≤ (x3_2 : Int) := of_decide_eq_true (by first | (with_reducible assumption) | assumption)
              have q214 : x3_2 < (l0_1.length : Int) := of_decide_eq_true (by first | (with_reducible assumption) | assumption)
              obtain ⟨ad214,A214_0,c214_0,e214,hx214_0,hl214_0,hi214_0⟩ := at_T35 HR0_1.out x3_2 p214 q214
              have hw214_0 := hx214_0
              cases e214
              replace hx214_0 := (HB.out.cell (World.block_lt_of_cell? w _ hx214_0)).trans hx214_0
              have HR214_0 := y0.mk hi214_0
              have HC214_0 := y0.mk hl214_0
              clear hi214_0 hl214_0
              replace p214 := eq_true p214
              replace q214 := eq_true q214
              have p215 : 0 ≤ (x3_2 : Int) := of_decide_eq_true (by first | (with_reducible assumption) | assumption)
              have q215 : x3_2 < (l0_1.length : Int) := of_decide_eq_true (by first | (with_reducible assumption) | assumption)
              obtain ⟨ad215,A215_0,c215_0,e215,hx215_0,hl215_0,hi215_0⟩ := at_T35 HR0_1.out x3_2 p215 q215
              have hw215_0 := hx215_0
              obtain rfl : ad214 = ad215 := (by injection e215)
              replace hx215_0 := (HB.out.cell (World.block_lt_of_cell? w _ hx215_0)).trans hx215_0
              have HR215_0 := y0.mk hi215_0
              have HC215_0 := y0.mk hl215_0
              clear hi215_0 hl215_0
              replace p215 := eq_true p215
              replace q215 := eq_true q215
              have ea_ := Option.some.inj (hx214_0.symm.trans hx215_0)
              injection ea_ with ea_ en_ ec_
              subst ea_
              subst ec_
              clear en_
              have p217 : 0 ≤ ((ji15) : Int) := of_decide_eq_true (by first | (with_reducible assumption) | assumption)
              have q217 : (ji15) < (l0_1.length : Int) := of_decide_eq_true (by first | (with_reducible assumption) | assumption)
              obtain ⟨ad217,A217_0,c217_0,e217,hx217_0,hl217_0,hi217_0⟩ := at_T35 HR0_1.out (ji15) p217 q217
              have hw217_0 := hx217_0
              obtain rfl : ad214 = ad217 := (by injection e217)
              replace hx217_0 := (HB.out.cell (World.block_lt_of_cell? w _ hx217_0)).trans hx217_0
              have HR217_0 := y0.mk hi217_0
              have HC217_0 := y0.mk hl217_0
              clear hi217_0 hl217_0
              replace p217 := eq_true p217
              replace q217 := eq_true q217
              have p218 : 0 ≤ (x3_2 : Int) := of_decide_eq_true (by first | (with_reducible assumption) | assumption)
              have q218 : x3_2 < (l0_1.length : Int) := of_decide_eq_true (by first | (with_reducible assumption) | assumption)
              obtain ⟨ad218,A218_0,c218_0,e218,hx218_0,hl218_0,hi218_0⟩ := at_T35 HR0_1.out x3_2 p218 q218
              have hw218_0 := hx218_0
              obtain rfl : ad214 = ad218 := (by injection e218)
              replace hx218_0 := (HB.out.cell (World.block_lt_of_cell? w _ hx218_0)).trans hx218_0
              have HR218_0 := y0.mk hi218_0
              have HC218_0 := y0.mk hl218_0
              clear hi218_0 hl218_0
              replace p218 := eq_true p218
              replace q218 := eq_true q218
              refine start_ (n := 38) (S := fun w' => w'.cell? ⟨gb212,0,none⟩ = some (.int .i64 a0_0) ∧ w'.cell? ⟨gb212,1,none⟩ = some (.slice (some ad214) l0_1.length c0_1) ∧ w'.cell? (ad214.add (x3_2).toNat) = some (.slice A214_0 ((y24 l0_1 x3_2).f0).length c214_0) ∧ w'.cell? (ad214.add (x3_2).toNat) = some (.slice A214_0 ((y24 l0_1 x3_2).f0).length c214_0) ∧ w'.cell? (ad214.add ((ji15)).toNat) = some (.slice A217_0 ((y24 l0_1 (ji15)).f0).length c217_0) ∧ w'.cell? (ad214.add (x3_2).toNat) = some (.slice A218_0 ((y24 l0_1 x3_2).f0).length c218_0)) (ds := []) (fl_ 38 0) (by kernel_rfl) rfl rfl ⟨(y10 BK212.out 0).trans rfl,(y10 BK212.out 1).trans rfl,((HB.out.cell (World.block_lt_of_cell? w _ hw214_0)).trans hw214_0),((HB.out.cell (World.block_lt_of_cell? w _ hw215_0)).trans hw215_0),((HB.out.cell (World.block_lt_of_cell? w _ hw217_0)).trans hw217_0),((HB.out.cell (World.block_lt_of_cell? w _ hw218_0)).trans hw218_0)⟩ (fun hHeld => ?_); refine with_tabW spec_RelOk.tab6 spec_RelOk.bits6 (fun HT_ HW_ => ?_)
              generalize wr.drew = w21 at BK212 HB HR214_0 HR215_0 HR217_0 HR218_0 hx214_0 hx215_0 hx217_0 hx218_0 hHeld ⊢
              refine y22 (i := 0) (N := some 21) (v := ?_) (a' := ?_) (fl_ 38 1) rfl rfl (y2 HT_.out (by kernel_rfl)) (fun _ _ _ h => h) (Or.inl ⟨by rfl, ?_⟩) ?_ ?_
              rotate_left
              ·intro w'
               go_simp
               with_reducible rfl
              rotate_left
              ·simp only [Act.put,qS_,qZ_,qC_,y21,y20]
               rfl
              refine y22 (i := 2) (N := some 23) (v := ?_) (a' := ?_) (fl_ 38 5) rfl rfl (y2 HT_.out (by kernel_rfl)) (fun _ _ _ h => h) (Or.inl ⟨by rfl, ?_⟩) ?_ ?_
              rotate_left
              ·intro w'
               go_simp
               with_reducible rfl
              rotate_left
              ·simp only [Act.put,qS_,qZ_,qC_,y21,y20]
               rfl
              refine y22 (i := 7) (N := some 28) (v := ?_) (a' := ?_) (fl_ 38 133) rfl rfl (y2 HT_.out (by kernel_rfl)) (fun _ _ _ h => h) (Or.inl ⟨by rfl, ?_⟩) ?_ ?_
              rotate_left
              ·intro w'
               go_simp
               with_reducible rfl
              rotate_left
              ·simp only [Act.put,qS_,qZ_,qC_,y21,y20]
               rfl
              refine take_ (i := 1) (N := some 22) (v := ?_) (a' := ?_) (fl_ 38 135) rfl rfl (y26 HT_.out HW_.out (by kernel_rfl)) (fun _ _ _ h => h) (Or.inl ⟨by rfl, ?_⟩) hHeld ?_ ?_
              rotate_left
              ·rintro w' ⟨s0,s1,s2,s3,s4,s5⟩
               go_simp
               with_reducible rfl
              rotate_left
              ·simp only [Act.put,qS_,qZ_,qC_,y21,y20]
               rfl
              refine y22 (i := 3) (N := some 24) (v := ?_) (a' := ?_) (fl_ 38 143) rfl rfl (y2 HT_.out (by kernel_rfl)) (fun _ _ _ h => h) (Or.inl ⟨by rfl, ?_⟩) ?_ ?_
              rotate_left
              ·intro w'
               go_simp
               with_reducible rfl
              rotate_left
              ·simp only [Act.put,qS_,qZ_,qC_,y21,y20]
               rfl
              refine y22 (i := 4) (N := some 25) (v := ?_) (a' := ?_) (fl_ 38 159) rfl rfl (y2 HT_.out (by kernel_rfl)) (fun _ _ _ h => h) (Or.inl ⟨by rfl, ?_⟩) ?_ ?_
              rotate_left
              ·intro w'
               go_simp
               with_reducible rfl
              rotate_left
              ·simp only [Act.put,qS_,qZ_,qC_,y21,y20]
               rfl
              refine take_ (i := 5) (N := some 26) (v := ?_) (a' := ?_) (fl_ 38 191) rfl rfl (y26 HT_.out HW_.out (by kernel_rfl)) (fun _ _ _ h => h) (Or.inl ⟨by rfl, ?_⟩) hHeld ?_ ?_
              rotate_left
              ·rintro w' ⟨s0,s1,s2,s3,s4,s5⟩
               go_simp
               with_reducible rfl
              rotate_left
              ·simp only [Act.put,qS_,qZ_,qC_,y21,y20]
               rfl
              refine y22 (i := 6) (N := some 27) (v := ?_) (a' := ?_) (fl_ 38 255) rfl rfl (y2 HT_.out (by kernel_rfl)) (fun _ _ _ h => h) (Or.inl ⟨by rfl, ?_⟩) ?_ ?_
              rotate_left
              ·intro w'
               go_simp
               with_reducible rfl
              rotate_left
              ·simp only [Act.put,qS_,qZ_,qC_,y21,y20]
               rfl
              refine take_ (i := 8) (N := some 29) (v := ?_) (a' := ?_) (fl_ 38 511) rfl rfl (y26 HT_.out HW_.out (by kernel_rfl)) (fun _ _ _ h => h) (Or.inl ⟨by rfl, ?_⟩) hHeld ?_ ?_
              rotate_left
              ·rintro w' ⟨s0,s1,s2,s3,s4,s5⟩
               go_simp
               with_reducible rfl
              rotate_left
              ·simp only [Act.put,qS_,qZ_,qC_,y21,y20]
               rfl
              refine y22 (i := 9) (N := some 30) (v := ?_) (a' := ?_) (fl_ 38 1023) rfl rfl (y2 HT_.out (by kernel_rfl)) (fun _ _ _ h => h) (Or.inl ⟨by rfl, ?_⟩) ?_ ?_
              rotate_left
              ·intro w'
               go_simp
               with_reducible rfl
              rotate_left
              ·simp only [Act.put,qS_,qZ_,qC_,y21,y20]
               rfl
              refine y22 (i := 10) (N := some 31) (v := ?_) (a' := ?_) (fl_ 38 2047) rfl rfl (y2 HT_.out (by kernel_rfl)) (fun _ _ _ h => h) (Or.inl ⟨by rfl, ?_⟩) ?_ ?_
              rotate_left
              ·intro w'
               go_simp
               with_reducible rfl
              rotate_left
              ·simp only [Act.put,qS_,qZ_,qC_,y21,y20]
               rfl
              refine y22 (i := 11) (N := some 32) (v := ?_) (a' := ?_) (fl_ 38 4095) rfl rfl (y2 HT_.out (by kernel_rfl)) (fun _ _ _ h => h) (Or.inl ⟨by rfl, ?_⟩) ?_ ?_
              rotate_left
              ·intro w'
               go_simp
               with_reducible rfl
              rotate_left
              ·simp only [Act.put,qS_,qZ_,qC_,y21,y20]
               rfl
              refine y22 (i := 13) (N := some 34) (v := ?_) (a' := ?_) (fl_ 38 12287) rfl rfl (y2 HT_.out (by kernel_rfl)) (fun _ _ _ h => h) (Or.inl ⟨by rfl, ?_⟩) ?_ ?_
              rotate_left
              ·intro w'
               go_simp
               with_reducible rfl
              rotate_left
              ·simp only [Act.put,qS_,qZ_,qC_,y21,y20]
               rfl
              refine take_ (i := 12) (N := some 33) (v := ?_) (a' := ?_) (fl_ 38 16383) rfl rfl (y26 HT_.out HW_.out (by kernel_rfl)) (fun _ _ _ h => h) (Or.inl ⟨by rfl, ?_⟩) hHeld ?_ ?_
              rotate_left
              ·rintro w' ⟨s0,s1,s2,s3,s4,s5⟩
               go_simp
               with_reducible rfl
              rotate_left
              ·simp only [Act.put,qS_,qZ_,qC_,y21,y20]
               rfl
              refine y22 (i := 14) (N := some 35) (v := ?_) (a' := ?_) (fl_ 38 32767) rfl rfl (y2 HT_.out (by kernel_rfl)) (fun _ _ _ h => h) (Or.inl ⟨by rfl, ?_⟩) ?_ ?_
              rotate_left
              ·intro w'
               go_simp
               with_reducible rfl
              rotate_left
              ·simp only [Act.put,qS_,qZ_,qC_,y21,y20]
               rfl
              refine take_ (i := 15) (N := some 36) (v := ?_) (a' := ?_) (fl_ 38 65535) rfl rfl (y26 HT_.out HW_.out (by kernel_rfl)) (fun _ _ _ h => h) (Or.inl ⟨by rfl, ?_⟩) hHeld ?_ ?_
              rotate_left
              ·rintro w' ⟨s0,s1,s2,s3,s4,s5⟩
               go_simp
               with_reducible rfl
              rotate_left
              ·simp only [Act.put,qS_,qZ_,qC_,y21,y20]
               rfl
              refine one_ (i := 16) (N := some 37) (fl_ 38 131071) rfl rfl (one_of HT_.out (by kernel_rfl)) (by decide) (fun K hK => ?_)
              refine goes_ Tryz.func56 (by kernel_rfl) rfl #[.agg #[.slice A214_0 ((y24 l0_1 x3_2).f0).length c214_0]] (by rfl) rfl rfl (by (try simp only [qM_,List.map_cons,List.map_nil]); first | done | rfl | (simp only [qD_,qT_]; rfl)) ?_
              with_reducible refine (spec_TupleOk.calls k2 _ _ ((y24 l0_1 x3_2).f0) true _ ?side1 ?side2 A12.out).mono ?_
              (case side1 => repeat (first | exact (Kd.C_below HR215_0.out HB.out) | (with_reducible refine Kd.C_alloc ?_ _) | (with_reducible refine Kd.C_drewN ?_ _) | (with_reducible refine Kd.C_drew ?_)))
              (case side2 => exact HC215_0.out)
              rintro e w22 ⟨rfl,hb⟩
              refine ⟨_,rfl, ?_⟩
              have n0_ := y0.mk (y9 (g := gb212) (o := .cells #[.int .i64 a0_0,.slice (some ad214) l0_1.length c0_1] 33 (0,0)) (by (with_reducible repeat (first | refine y12 ?_ _ | refine y11 ?_ | refine y8 ?_ _)); exact BK212.out) hb)
              have n1_ := y0.mk (y7 (by repeat (first | (with_reducible first | exact HB.out | apply y3 | apply y23 | apply y4 | refine y5 ?_ GE212.out) | exact HB.out)) hb)
              clear BK212
              clear HB
              have BK212 := n0_
              have HB := n1_
              clear n0_ n1_
              (try clear hb)
              (try clear hb2)
              (try clear hk)
              (try clear hi)
              refine hK.out _ _ ⟨(y10 BK212.out 0).trans rfl,(y10 BK212.out 1).trans rfl,((HB.out.cell (World.block_lt_of_cell? w _ hw214_0)).trans hw214_0),((HB.out.cell (World.block_lt_of_cell? w _ hw215_0)).trans hw215_0),((HB.out.cell (World.block_lt_of_cell? w _ hw217_0)).trans hw217_0),((HB.out.cell (World.block_lt_of_cell? w _ hw218_0)).trans hw218_0)⟩ (fun hHeld => ?_)
              clear hK K
              refine norm_ (a' := ?_) ?_ ?_
              rotate_left
              ·show Act.put _ (some 37) _ = _
               simp only [Act.put,qS_,qZ_,qC_,y21,y20]
               rfl
              refine y22 (i := 17) (N := some 38) (v := ?_) (a' := ?_) (fl_ 38 262143) rfl rfl (y2 HT_.out (by kernel_rfl)) (fun _ _ _ h => h) (Or.inl ⟨by rfl, ?_⟩) ?_ ?_
              rotate_left
              ·intro w'
               go_simp
               with_reducible rfl
              rotate_left
              ·simp only [Act.put,qS_,qZ_,qC_,y21,y20]
               rfl
              refine y22 (i := 18) (N := some 39) (v := ?_) (a' := ?_) (fl_ 38 524287) rfl rfl (y2 HT_.out (by kernel_rfl)) (fun _ _ _ h => h) (Or.inl ⟨by rfl, ?_⟩) ?_ ?_
              rotate_left
              ·intro w'
               go_simp
               with_reducible rfl
              rotate_left
              ·simp only [Act.put,qS_,qZ_,qC_,y21,y20]
               rfl
              refine y22 (i := 19) (N := some 40) (v := ?_) (a' := ?_) (fl_ 38 1048575) rfl rfl (y2 HT_.out (by kernel_rfl)) (fun _ _ _ h => h) (Or.inl ⟨by rfl, ?_⟩) ?_ ?_
              rotate_left
              ·intro w'
               go_simp
               with_reducible rfl
              rotate_left
              ·simp only [Act.put,qS_,qZ_,qC_,y21,y20]
               rfl
              refine y22 (i := 20) (N := some 41) (v := ?_) (a' := ?_) (fl_ 38 2097151) rfl rfl (y2 HT_.out (by kernel_rfl)) (fun _ _ _ h => h) (Or.inl ⟨by rfl, ?_⟩) ?_ ?_
              rotate_left
              ·intro w'
               go_simp
               with_reducible rfl
              rotate_left
              ·simp only [Act.put,qS_,qZ_,qC_,y21,y20]
               rfl
              refine y22 (i := 21) (N := some 42) (v := ?_) (a' := ?_) (fl_ 38 4194303) rfl rfl (y2 HT_.out (by kernel_rfl)) (fun _ _ _ h => h) (Or.inl ⟨by rfl, ?_⟩) ?_ ?_
              rotate_left
              ·intro w'
               go_simp
               with_reducible rfl
              rotate_left
              ·simp only [Act.put,qS_,qZ_,qC_,y21,y20]
               rfl
              refine y22 (i := 22) (N := some 43) (v := ?_) (a' := ?_) (fl_ 38 8388607) rfl rfl (y2 HT_.out (by kernel_rfl)) (fun _ _ _ h => h) (Or.inl ⟨by rfl, ?_⟩) ?_ ?_
              rotate_left
              ·intro w'
               go_simp
               with_reducible rfl
              rotate_left
              ·simp only [Act.put,qS_,qZ_,qC_,y21,y20]
               rfl
              refine y22 (i := 23) (N := some 44) (v := ?_) (a' := ?_) (fl_ 38 16777215) rfl rfl (y2 HT_.out (by kernel_rfl)) (fun _ _ _ h => h) (Or.inl ⟨by rfl, ?_⟩) ?_ ?_
              rotate_left
              ·intro w'
               go_simp
               with_reducible rfl
              rotate_left
              ·simp only [Act.put,qS_,qZ_,qC_,y21,y20]
               rfl
              refine y22 (i := 25) (N := some 46) (v := ?_) (a' := ?_) (fl_ 38 50331647) rfl rfl (y2 HT_.out (by kernel_rfl)) (fun _ _ _ h => h) (Or.inl ⟨by rfl, ?_⟩) ?_ ?_
              rotate_left
              ·intro w'
               go_simp
               with_reducible rfl
              rotate_left
              ·simp only [Act.put,qS_,qZ_,qC_,y21,y20]
               rfl
              refine y22 (i := 26) (N := some 47) (v := ?_) (a' := ?_) (fl_ 38 117440511) rfl rfl (y2 HT_.out (by kernel_rfl)) (fun _ _ _ h => h) (Or.inl ⟨by rfl, ?_⟩) ?_ ?_
              rotate_left
              ·intro w'
               go_simp
               with_reducible rfl
              rotate_left
              ·simp only [Act.put,qS_,qZ_,qC_,y21,y20]
               rfl
              refine y22 (i := 29) (N := some 50) (v := ?_) (a' := ?_) (fl_ 38 654311423) rfl rfl (y2 HT_.out (by kernel_rfl)) (fun _ _ _ h => h) (Or.inl ⟨by rfl, ?_⟩) ?_ ?_
              rotate_left
              ·intro w'
               go_simp
               with_reducible rfl
              rotate_left
              ·simp only [Act.put,qS_,qZ_,qC_,y21,y20]
               rfl
              refine y22 (i := 31) (N := some 52) (v := ?_) (a' := ?_) (fl_ 38 2801795071) rfl rfl (y2 HT_.out (by kernel_rfl)) (fun _ _ _ h => h) (Or.inl ⟨by rfl, ?_⟩) ?_ ?_
              rotate_left
              ·intro w'
               go_simp
               with_reducible rfl
              rotate_left
              ·simp only [Act.put,qS_,qZ_,qC_,y21,y20]
               rfl
              refine take_ (i := 24) (N := some 45) (v := ?_) (a' := ?_) (fl_ 38 2818572287) rfl rfl (y26 HT_.out HW_.out (by kernel_rfl)) (fun _ _ _ h => h) (Or.inl ⟨by rfl, ?_⟩) hHeld ?_ ?_
              rotate_left
              ·rintro w' ⟨s0,s1,s2,s3,s4,s5⟩
               go_simp
               with_reducible rfl
              rotate_left
              ·simp only [Act.put,qS_,qZ_,qC_,y21,y20]
               rfl
              refine y22 (i := 27) (N := some 48) (v := ?_) (a' := ?_) (fl_ 38 2952790015) rfl rfl (y2 HT_.out (by kernel_rfl)) (fun _ _ _ h => h) (Or.inl ⟨by rfl, ?_⟩) ?_ ?_
              rotate_left
              ·intro w'
               go_simp
               with_reducible rfl
              rotate_left
              ·simp only [Act.put,qS_,qZ_,qC_,y21,y20]
               rfl
              refine take_ (i := 28) (N := some 49) (v := ?_) (a' := ?_) (fl_ 38 3221225471) rfl rfl (y26 HT_.out HW_.out (by kernel_rfl)) (fun _ _ _ h => h) (Or.inl ⟨by rfl, ?_⟩) hHeld ?_ ?_
              rotate_left
              ·rintro w' ⟨s0,s1,s2,s3,s4,s5⟩
               go_simp
               with_reducible rfl
              rotate_left
              ·simp only [Act.put,qS_,qZ_,qC_,y21,y20]
               rfl
              refine take_ (i := 30) (N := some 51) (v := ?_) (a' := ?_) (fl_ 38 4294967295) rfl rfl (y26 HT_.out HW_.out (by kernel_rfl)) (fun _ _ _ h => h) (Or.inl ⟨by rfl, ?_⟩) hHeld ?_ ?_
              rotate_left
              ·rintro w' ⟨s0,s1,s2,s3,s4,s5⟩
               go_simp
               with_reducible rfl
              rotate_left
              ·simp only [Act.put,qS_,qZ_,qC_,y21,y20]
               rfl
              refine y22 (i := 32) (N := some 53) (v := ?_) (a' := ?_) (fl_ 38 8589934591) rfl rfl (y2 HT_.out (by kernel_rfl)) (fun _ _ _ h => h) (Or.inl ⟨by rfl, ?_⟩) ?_ ?_
              rotate_left
              ·intro w'
               go_simp
               with_reducible rfl
              rotate_left
              ·simp only [Act.put,qS_,qZ_,qC_,y21,y20]
               rfl
              refine take_ (i := 33) (N := some 54) (v := ?_) (a' := ?_) (fl_ 38 17179869183) rfl rfl (y26 HT_.out HW_.out (by kernel_rfl)) (fun _ _ _ h => h) (Or.inl ⟨by rfl, ?_⟩) hHeld ?_ ?_
              rotate_left
              ·rintro w' ⟨s0,s1,s2,s3,s4,s5⟩
               go_simp
               with_reducible rfl
              rotate_left
              ·simp only [Act.put,qS_,qZ_,qC_,y21,y20]
               rfl
              refine one_ (i := 34) (N := some 55) (fl_ 38 34359738367) rfl rfl (one_of HT_.out (by kernel_rfl)) (by decide) (fun K hK => ?_)
              refine goes_ Tryz.func57 (by kernel_rfl) rfl #[.agg #[.slice A217_0 ((y24 l0_1 (ji15)).f0).length c217_0],.agg #[.slice A218_0 ((y24 l0_1 x3_2).f0).length c218_0]] (by rfl) rfl rfl (by (try simp only [qM_,List.map_cons,List.map_nil]); first | done | (have e9_ := hx214_0.symm.trans hx218_0; simp only [Option.some.injEq,Value.slice.injEq] at e9_; obtain ⟨e1_,_,e2_⟩ := e9_; subst e1_; subst e2_; rfl) | (simp only [hji15]; rfl) | rfl | (simp only [qD_,qT_]; rfl)) ?_
              with_reducible refine (spec_l02Cmp.calls k2 _ _ ((y24 l0_1 (ji15)).f0) _ _ ((y24 l0_1 x3_2).f0) t219 _ ?side1 ?side2 ?side3 ?side4 A18.out).mono ?_
              (case side1 => repeat (first | exact (Kd.C_below HR217_0.out HB.out) | (with_reducible refine Kd.C_alloc ?_ _) | (with_reducible refine Kd.C_drewN ?_ _) | (with_reducible refine Kd.C_drew ?_)))
              (case side2 => exact HC217_0.out)
              (case side3 => repeat (first | exact (Kd.C_below HR218_0.out HB.out) | (with_reducible refine Kd.C_alloc ?_ _) | (with_reducible refine Kd.C_drewN ?_ _) | (with_reducible refine Kd.C_drew ?_)))
              (case side4 => exact HC218_0.out)
              rintro e w23 ⟨rfl,hb⟩
              refine ⟨_,rfl, ?_⟩
              have n0_ := y0.mk (y9 (g := gb212) (o := .cells #[.int .i64 a0_0,.slice (some ad214) l0_1.length c0_1] 33 (0,0)) (by (with_reducible repeat (first | refine y12 ?_ _ | refine y11 ?_ | refine y8 ?_ _)); exact BK212.out) hb)
              have n1_ := y0.mk (y7 (by repeat (first | (with_reducible first | exact HB.out | apply y3 | apply y23 | apply y4 | refine y5 ?_ GE212.out) | exact HB.out)) hb)
              clear BK212
              clear HB
              have BK212 := n0_
              have HB := n1_
              clear n0_ n1_
              (try clear hb)
              (try clear hb2)
              (try clear hk)
              (try clear hi)
              refine hK.out _ _ ⟨(y10 BK212.out 0).trans rfl,(y10 BK212.out 1).trans rfl,((HB.out.cell (World.block_lt_of_cell? w _ hw214_0)).trans hw214_0),((HB.out.cell (World.block_lt_of_cell? w _ hw215_0)).trans hw215_0),((HB.out.cell (World.block_lt_of_cell? w _ hw217_0)).trans hw217_0),((HB.out.cell (World.block_lt_of_cell? w _ hw218_0)).trans hw218_0)⟩ (fun hHeld => ?_)
              clear hK K
              refine norm_ (a' := ?_) ?_ ?_
              rotate_left
              ·show Act.put _ (some 55) _ = _
               simp only [Act.put,qS_,qZ_,qC_,y21,y20]
               rfl
              refine y22 (i := 35) (N := some 56) (v := ?_) (a' := ?_) (fl_ 38 68719476735) rfl rfl (y2 HT_.out (by kernel_rfl)) (fun _ _ _ h => h) (Or.inl ⟨by rfl, ?_⟩) ?_ ?_
              rotate_left
              ·intro w'
               go_simp
               with_reducible rfl
              rotate_left
              ·simp only [Act.put,qS_,qZ_,qC_,y21,y20]
               rfl
              refine y22 (i := 36) (N := some 57) (v := ?_) (a' := ?_) (fl_ 38 137438953471) rfl rfl (y2 HT_.out (by kernel_rfl)) (fun _ _ _ h => h) (Or.inl ⟨by rfl, ?_⟩) ?_ ?_
              rotate_left
              ·intro w'
               go_simp
               with_reducible rfl
              rotate_left
              ·simp only [Act.put,qS_,qZ_,qC_,y21,y20]
               rfl
              refine y22 (i := 37) (N := some 58) (v := ?_) (a' := ?_) (fl_ 38 274877906943) rfl rfl (y2 HT_.out (by kernel_rfl)) (fun _ _ _ h => h) (Or.inl ⟨by rfl, ?_⟩) ?_ ?_
              rotate_left
              ·intro w'
               go_simp
               with_reducible rfl
              rotate_left
              ·simp only [Act.put,qS_,qZ_,qC_,y21,y20]
               rfl
              refine done_ (done_of HT_.out (by kernel_rfl)) ?_
              try go_wp2
              go_ret
              exact ⟨by first | rfl | (simp [y15,y16] <;> rfl) | (simp only [← hji15]; first | rfl | (simp [y15,y16] <;> rfl)) | (simp [*,y15,y16] <;> rfl),by repeat (first | (with_reducible first | exact HB.out | apply y3 | apply y23 | apply y4 | refine y5 ?_ GE212.out) | exact HB.out)⟩
             ·as_aux_lemma =>
              rw [if_neg c19] at H
              have c19b0 : decide (0 ≤ t219) = false := decide_eq_false c19
              clear c19
              have H' := y0.mk H
              clear H
              have hcz24_0 : wr.cell? ⟨gb212,0,none⟩ = some (.int .i64 a0_0) := (y10 BK212.out 0).trans rfl
              have hcz24_1 : wr.cell? ⟨gb212,1,none⟩ = some (.slice A0_1 l0_1.length c0_1) := (y10 BK212.out 1).trans rfl
              have hfz24_0 := y13 BK212.out 0
              have hfz24_1 := y13 BK212.out 1
              try go_wp2
              have n0_ := y0.mk (y11 BK212.out)
              have n1_ := y0.mk (y4 HB.out)
              clear BK212
              clear HB
              have BK212 := n0_
              have HB := n1_
              clear n0_ n1_
              have p214 : 0 ≤ (x3_2 : Int) := of_decide_eq_true (by first | (with_reducible assumption) | assumption)
              have q214 : x3_2 < (l0_1.length : Int) := of_decide_eq_true (by first | (with_reducible assumption) | assumption)
              obtain ⟨ad214,A214_0,c214_0,e214,hx214_0,hl214_0,hi214_0⟩ := at_T35 HR0_1.out x3_2 p214 q214
              have hw214_0 := hx214_0
              cases e214
              replace hx214_0 := (HB.out.cell (World.block_lt_of_cell? w _ hx214_0)).trans hx214_0
              have HR214_0 := y0.mk hi214_0
              have HC214_0 := y0.mk hl214_0
              clear hi214_0 hl214_0
              replace p214 := eq_true p214
              replace q214 := eq_true q214
              have p215 : 0 ≤ (x3_2 : Int) := of_decide_eq_true (by first | (with_reducible assumption) | assumption)
              have q215 : x3_2 < (l0_1.length : Int) := of_decide_eq_true (by first | (with_reducible assumption) | assumption)
              obtain ⟨ad215,A215_0,c215_0,e215,hx215_0,hl215_0,hi215_0⟩ := at_T35 HR0_1.out x3_2 p215 q215
              have hw215_0 := hx215_0
              obtain rfl : ad214 = ad215 := (by injection e215)
              replace hx215_0 := (HB.out.cell (World.block_lt_of_cell? w _ hx215_0)).trans hx215_0
              have HR215_0 := y0.mk hi215_0
              have HC215_0 := y0.mk hl215_0
              clear hi215_0 hl215_0
              replace p215 := eq_true p215
              replace q215 := eq_true q215
              have ea_ := Option.some.inj (hx214_0.symm.trans hx215_0)
              injection ea_ with ea_ en_ ec_
              subst ea_
              subst ec_
              clear en_
              have p217 : 0 ≤ ((ji15) : Int) := of_decide_eq_true (by first | (with_reducible assumption) | assumption)
              have q217 : (ji15) < (l0_1.length : Int) := of_decide_eq_true (by first | (with_reducible assumption) | assumption)
              obtain ⟨ad217,A217_0,c217_0,e217,hx217_0,hl217_0,hi217_0⟩ := at_T35 HR0_1.out (ji15) p217 q217
              have hw217_0 := hx217_0
              obtain rfl : ad214 = ad217 := (by injection e217)
              replace hx217_0 := (HB.out.cell (World.block_lt_of_cell? w _ hx217_0)).trans hx217_0
              have HR217_0 := y0.mk hi217_0
              have HC217_0 := y0.mk hl217_0
              clear hi217_0 hl217_0
              replace p217 := eq_true p217
              replace q217 := eq_true q217
              have p218 : 0 ≤ (x3_2 : Int) := of_decide_eq_true (by first | (with_reducible assumption) | assumption)
              have q218 : x3_2 < (l0_1.length : Int) := of_decide_eq_true (by first | (with_reducible assumption) | assumption)
              obtain ⟨ad218,A218_0,c218_0,e218,hx218_0,hl218_0,hi218_0⟩ := at_T35 HR0_1.out x3_2 p218 q218
              have hw218_0 := hx218_0
              obtain rfl : ad214 = ad218 := (by injection e218)
              replace hx218_0 := (HB.out.cell (World.block_lt_of_cell? w _ hx218_0)).trans hx218_0
              have HR218_0 := y0.mk hi218_0
              have HC218_0 := y0.mk hl218_0
              clear hi218_0 hl218_0
              replace p218 := eq_true p218
              replace q218 := eq_true q218
              refine start_ (n := 38) (S := fun w' => w'.cell? ⟨gb212,0,none⟩ = some (.int .i64 a0_0) ∧ w'.cell? ⟨gb212,1,none⟩ = some (.slice (some ad214) l0_1.length c0_1) ∧ w'.cell? (ad214.add (x3_2).toNat) = some (.slice A214_0 ((y24 l0_1 x3_2).f0).length c214_0) ∧ w'.cell? (ad214.add (x3_2).toNat) = some (.slice A214_0 ((y24 l0_1 x3_2).f0).length c214_0) ∧ w'.cell? (ad214.add ((ji15)).toNat) = some (.slice A217_0 ((y24 l0_1 (ji15)).f0).length c217_0) ∧ w'.cell? (ad214.add (x3_2).toNat) = some (.slice A218_0 ((y24 l0_1 x3_2).f0).length c218_0)) (ds := []) (fl_ 38 0) (by kernel_rfl) rfl rfl ⟨(y10 BK212.out 0).trans rfl,(y10 BK212.out 1).trans rfl,((HB.out.cell (World.block_lt_of_cell? w _ hw214_0)).trans hw214_0),((HB.out.cell (World.block_lt_of_cell? w _ hw215_0)).trans hw215_0),((HB.out.cell (World.block_lt_of_cell? w _ hw217_0)).trans hw217_0),((HB.out.cell (World.block_lt_of_cell? w _ hw218_0)).trans hw218_0)⟩ (fun hHeld => ?_); refine with_tabW spec_RelOk.tab6 spec_RelOk.bits6 (fun HT_ HW_ => ?_)
              generalize wr.drew = w25 at BK212 HB HR214_0 HR215_0 HR217_0 HR218_0 hx214_0 hx215_0 hx217_0 hx218_0 hHeld ⊢
              refine y22 (i := 0) (N := some 21) (v := ?_) (a' := ?_) (fl_ 38 1) rfl rfl (y2 HT_.out (by kernel_rfl)) (fun _ _ _ h => h) (Or.inl ⟨by rfl, ?_⟩) ?_ ?_
              rotate_left
              ·intro w'
               go_simp
               with_reducible rfl
              rotate_left
              ·simp only [Act.put,qS_,qZ_,qC_,y21,y20]
               rfl
              refine y22 (i := 2) (N := some 23) (v := ?_) (a' := ?_) (fl_ 38 5) rfl rfl (y2 HT_.out (by kernel_rfl)) (fun _ _ _ h => h) (Or.inl ⟨by rfl, ?_⟩) ?_ ?_
              rotate_left
              ·intro w'
               go_simp
               with_reducible rfl
              rotate_left
              ·simp only [Act.put,qS_,qZ_,qC_,y21,y20]
               rfl
              refine y22 (i := 7) (N := some 28) (v := ?_) (a' := ?_) (fl_ 38 133) rfl rfl (y2 HT_.out (by kernel_rfl)) (fun _ _ _ h => h) (Or.inl ⟨by rfl, ?_⟩) ?_ ?_
              rotate_left
              ·intro w'
               go_simp
               with_reducible rfl
              rotate_left
              ·simp only [Act.put,qS_,qZ_,qC_,y21,y20]
               rfl
              refine take_ (i := 1) (N := some 22) (v := ?_) (a' := ?_) (fl_ 38 135) rfl rfl (y26 HT_.out HW_.out (by kernel_rfl)) (fun _ _ _ h => h) (Or.inl ⟨by rfl, ?_⟩) hHeld ?_ ?_
              rotate_left
              ·rintro w' ⟨s0,s1,s2,s3,s4,s5⟩
               go_simp
               with_reducible rfl
              rotate_left
              ·simp only [Act.put,qS_,qZ_,qC_,y21,y20]
               rfl
              refine y22 (i := 3) (N := some 24) (v := ?_) (a' := ?_) (fl_ 38 143) rfl rfl (y2 HT_.out (by kernel_rfl)) (fun _ _ _ h => h) (Or.inl ⟨by rfl, ?_⟩) ?_ ?_
              rotate_left
              ·intro w'
               go_simp
               with_reducible rfl
              rotate_left
              ·simp only [Act.put,qS_,qZ_,qC_,y21,y20]
               rfl
              refine y22 (i := 4) (N := some 25) (v := ?_) (a' := ?_) (fl_ 38 159) rfl rfl (y2 HT_.out (by kernel_rfl)) (fun _ _ _ h => h) (Or.inl ⟨by rfl, ?_⟩) ?_ ?_
              rotate_left
              ·intro w'
               go_simp
               with_reducible rfl
              rotate_left
              ·simp only [Act.put,qS_,qZ_,qC_,y21,y20]
               rfl
              refine take_ (i := 5) (N := some 26) (v := ?_) (a' := ?_) (fl_ 38 191) rfl rfl (y26 HT_.out HW_.out (by kernel_rfl)) (fun _ _ _ h => h) (Or.inl ⟨by rfl, ?_⟩) hHeld ?_ ?_
              rotate_left
              ·rintro w' ⟨s0,s1,s2,s3,s4,s5⟩
               go_simp
               with_reducible rfl
              rotate_left
              ·simp only [Act.put,qS_,qZ_,qC_,y21,y20]
               rfl
              refine y22 (i := 6) (N := some 27) (v := ?_) (a' := ?_) (fl_ 38 255) rfl rfl (y2 HT_.out (by kernel_rfl)) (fun _ _ _ h => h) (Or.inl ⟨by rfl, ?_⟩) ?_ ?_
              rotate_left
              ·intro w'
               go_simp
               with_reducible rfl
              rotate_left
              ·simp only [Act.put,qS_,qZ_,qC_,y21,y20]
               rfl
              refine take_ (i := 8) (N := some 29) (v := ?_) (a' := ?_) (fl_ 38 511) rfl rfl (y26 HT_.out HW_.out (by kernel_rfl)) (fun _ _ _ h => h) (Or.inl ⟨by rfl, ?_⟩) hHeld ?_ ?_
              rotate_left
              ·rintro w' ⟨s0,s1,s2,s3,s4,s5⟩
               go_simp
               with_reducible rfl
              rotate_left
              ·simp only [Act.put,qS_,qZ_,qC_,y21,y20]
               rfl
              refine y22 (i := 9) (N := some 30) (v := ?_) (a' := ?_) (fl_ 38 1023) rfl rfl (y2 HT_.out (by kernel_rfl)) (fun _ _ _ h => h) (Or.inl ⟨by rfl, ?_⟩) ?_ ?_
              rotate_left
              ·intro w'
               go_simp
               with_reducible rfl
              rotate_left
              ·simp only [Act.put,qS_,qZ_,qC_,y21,y20]
               rfl
              refine y22 (i := 10) (N := some 31) (v := ?_) (a' := ?_) (fl_ 38 2047) rfl rfl (y2 HT_.out (by kernel_rfl)) (fun _ _ _ h => h) (Or.inl ⟨by rfl, ?_⟩) ?_ ?_
              rotate_left
              ·intro w'
               go_simp
               with_reducible rfl
              rotate_left
              ·simp only [Act.put,qS_,qZ_,qC_,y21,y20]
               rfl
              refine y22 (i := 11) (N := some 32) (v := ?_) (a' := ?_) (fl_ 38 4095) rfl rfl (y2 HT_.out (by kernel_rfl)) (fun _ _ _ h => h) (Or.inl ⟨by rfl, ?_⟩) ?_ ?_
              rotate_left
              ·intro w'
               go_simp
               with_reducible rfl
              rotate_left
              ·simp only [Act.put,qS_,qZ_,qC_,y21,y20]
               rfl
              refine y22 (i := 13) (N := some 34) (v := ?_) (a' := ?_) (fl_ 38 12287) rfl rfl (y2 HT_.out (by kernel_rfl)) (fun _ _ _ h => h) (Or.inl ⟨by rfl, ?_⟩) ?_ ?_
              rotate_left
              ·intro w'
               go_simp
               with_reducible rfl
              rotate_left
              ·simp only [Act.put,qS_,qZ_,qC_,y21,y20]
               rfl
              refine take_ (i := 12) (N := some 33) (v := ?_) (a' := ?_) (fl_ 38 16383) rfl rfl (y26 HT_.out HW_.out (by kernel_rfl)) (fun _ _ _ h => h) (Or.inl ⟨by rfl, ?_⟩) hHeld ?_ ?_
              rotate_left
              ·rintro w' ⟨s0,s1,s2,s3,s4,s5⟩
               go_simp
               with_reducible rfl
              rotate_left
              ·simp only [Act.put,qS_,qZ_,qC_,y21,y20]
               rfl
              refine y22 (i := 14) (N := some 35) (v := ?_) (a' := ?_) (fl_ 38 32767) rfl rfl (y2 HT_.out (by kernel_rfl)) (fun _ _ _ h => h) (Or.inl ⟨by rfl, ?_⟩) ?_ ?_
              rotate_left
              ·intro w'
               go_simp
               with_reducible rfl
              rotate_left
              ·simp only [Act.put,qS_,qZ_,qC_,y21,y20]
               rfl
              refine take_ (i := 15) (N := some 36) (v := ?_) (a' := ?_) (fl_ 38 65535) rfl rfl (y26 HT_.out HW_.out (by kernel_rfl)) (fun _ _ _ h => h) (Or.inl ⟨by rfl, ?_⟩) hHeld ?_ ?_
              rotate_left
              ·rintro w' ⟨s0,s1,s2,s3,s4,s5⟩
               go_simp
               with_reducible rfl
              rotate_left
              ·simp only [Act.put,qS_,qZ_,qC_,y21,y20]
               rfl
              refine one_ (i := 16) (N := some 37) (fl_ 38 131071) rfl rfl (one_of HT_.out (by kernel_rfl)) (by decide) (fun K hK => ?_)
              refine goes_ Tryz.func56 (by kernel_rfl) rfl #[.agg #[.slice A214_0 ((y24 l0_1 x3_2).f0).length c214_0]] (by rfl) rfl rfl (by (try simp only [qM_,List.map_cons,List.map_nil]); first | done | rfl | (simp only [qD_,qT_]; rfl)) ?_
              with_reducible refine (spec_TupleOk.calls k2 _ _ ((y24 l0_1 x3_2).f0) true _ ?side1 ?side2 A12.out).mono ?_
              (case side1 => repeat (first | exact (Kd.C_below HR215_0.out HB.out) | (with_reducible refine Kd.C_alloc ?_ _) | (with_reducible refine Kd.C_drewN ?_ _) | (with_reducible refine Kd.C_drew ?_)))
              (case side2 => exact HC215_0.out)
              rintro e w26 ⟨rfl,hb⟩
              refine ⟨_,rfl, ?_⟩
              have n0_ := y0.mk (y9 (g := gb212) (o := .cells #[.int .i64 a0_0,.slice (some ad214) l0_1.length c0_1] 33 (0,0)) (by (with_reducible repeat (first | refine y12 ?_ _ | refine y11 ?_ | refine y8 ?_ _)); exact BK212.out) hb)
              have n1_ := y0.mk (y7 (by repeat (first | (with_reducible first | exact HB.out | apply y3 | apply y23 | apply y4 | refine y5 ?_ GE212.out) | exact HB.out)) hb)
              clear BK212
              clear HB
              have BK212 := n0_
              have HB := n1_
              clear n0_ n1_
              (try clear hb)
              (try clear hb2)
              (try clear hk)
              (try clear hi)
              refine hK.out _ _ ⟨(y10 BK212.out 0).trans rfl,(y10 BK212.out 1).trans rfl,((HB.out.cell (World.block_lt_of_cell? w _ hw214_0)).trans hw214_0),((HB.out.cell (World.block_lt_of_cell? w _ hw215_0)).trans hw215_0),((HB.out.cell (World.block_lt_of_cell? w _ hw217_0)).trans hw217_0),((HB.out.cell (World.block_lt_of_cell? w _ hw218_0)).trans hw218_0)⟩ (fun hHeld => ?_)
              clear hK K
              refine norm_ (a' := ?_) ?_ ?_
              rotate_left
              ·show Act.put _ (some 37) _ = _
               simp only [Act.put,qS_,qZ_,qC_,y21,y20]
               rfl
              refine y22 (i := 17) (N := some 38) (v := ?_) (a' := ?_) (fl_ 38 262143) rfl rfl (y2 HT_.out (by kernel_rfl)) (fun _ _ _ h => h) (Or.inl ⟨by rfl, ?_⟩) ?_ ?_
              rotate_left
              ·intro w'
               go_simp
               with_reducible rfl
              rotate_left
              ·simp only [Act.put,qS_,qZ_,qC_,y21,y20]
               rfl
              refine y22 (i := 18) (N := some 39) (v := ?_) (a' := ?_) (fl_ 38 524287) rfl rfl (y2 HT_.out (by kernel_rfl)) (fun _ _ _ h => h) (Or.inl ⟨by rfl, ?_⟩) ?_ ?_
              rotate_left
              ·intro w'
               go_simp
               with_reducible rfl
              rotate_left
              ·simp only [Act.put,qS_,qZ_,qC_,y21,y20]
               rfl
              refine y22 (i := 19) (N := some 40) (v := ?_) (a' := ?_) (fl_ 38 1048575) rfl rfl (y2 HT_.out (by kernel_rfl)) (fun _ _ _ h => h) (Or.inl ⟨by rfl, ?_⟩) ?_ ?_
              rotate_left
              ·intro w'
               go_simp
               with_reducible rfl
              rotate_left
              ·simp only [Act.put,qS_,qZ_,qC_,y21,y20]
               rfl
              refine y22 (i := 20) (N := some 41) (v := ?_) (a' := ?_) (fl_ 38 2097151) rfl rfl (y2 HT_.out (by kernel_rfl)) (fun _ _ _ h => h) (Or.inl ⟨by rfl, ?_⟩) ?_ ?_
              rotate_left
              ·intro w'
               go_simp
               with_reducible rfl
              rotate_left
              ·simp only [Act.put,qS_,qZ_,qC_,y21,y20]
               rfl
              refine y22 (i := 21) (N := some 42) (v := ?_) (a' := ?_) (fl_ 38 4194303) rfl rfl (y2 HT_.out (by kernel_rfl)) (fun _ _ _ h => h) (Or.inl ⟨by rfl, ?_⟩) ?_ ?_
              rotate_left
              ·intro w'
               go_simp
               with_reducible rfl
              rotate_left
              ·simp only [Act.put,qS_,qZ_,qC_,y21,y20]
               rfl
              refine y22 (i := 22) (N := some 43) (v := ?_) (a' := ?_) (fl_ 38 8388607) rfl rfl (y2 HT_.out (by kernel_rfl)) (fun _ _ _ h => h) (Or.inl ⟨by rfl, ?_⟩) ?_ ?_
              rotate_left
              ·intro w'
               go_simp
               with_reducible rfl
              rotate_left
              ·simp only [Act.put,qS_,qZ_,qC_,y21,y20]
               rfl
              refine y22 (i := 23) (N := some 44) (v := ?_) (a' := ?_) (fl_ 38 16777215) rfl rfl (y2 HT_.out (by kernel_rfl)) (fun _ _ _ h => h) (Or.inl ⟨by rfl, ?_⟩) ?_ ?_
              rotate_left
              ·intro w'
               go_simp
               with_reducible rfl
              rotate_left
              ·simp only [Act.put,qS_,qZ_,qC_,y21,y20]
               rfl
              refine y22 (i := 25) (N := some 46) (v := ?_) (a' := ?_) (fl_ 38 50331647) rfl rfl (y2 HT_.out (by kernel_rfl)) (fun _ _ _ h => h) (Or.inl ⟨by rfl, ?_⟩) ?_ ?_
              rotate_left
              ·intro w'
               go_simp
               with_reducible rfl
              rotate_left
              ·simp only [Act.put,qS_,qZ_,qC_,y21,y20]
               rfl
              refine y22 (i := 26) (N := some 47) (v := ?_) (a' := ?_) (fl_ 38 117440511) rfl rfl (y2 HT_.out (by kernel_rfl)) (fun _ _ _ h => h) (Or.inl ⟨by rfl, ?_⟩) ?_ ?_
              rotate_left
              ·intro w'
               go_simp
               with_reducible rfl
              rotate_left
              ·simp only [Act.put,qS_,qZ_,qC_,y21,y20]
               rfl
              refine y22 (i := 29) (N := some 50) (v := ?_) (a' := ?_) (fl_ 38 654311423) rfl rfl (y2 HT_.out (by kernel_rfl)) (fun _ _ _ h => h) (Or.inl ⟨by rfl, ?_⟩) ?_ ?_
              rotate_left
              ·intro w'
               go_simp
               with_reducible rfl
              rotate_left
              ·simp only [Act.put,qS_,qZ_,qC_,y21,y20]
               rfl
              refine y22 (i := 31) (N := some 52) (v := ?_) (a' := ?_) (fl_ 38 2801795071) rfl rfl (y2 HT_.out (by kernel_rfl)) (fun _ _ _ h => h) (Or.inl ⟨by rfl, ?_⟩) ?_ ?_
              rotate_left
              ·intro w'
               go_simp
               with_reducible rfl
              rotate_left
              ·simp only [Act.put,qS_,qZ_,qC_,y21,y20]
               rfl
              refine take_ (i := 24) (N := some 45) (v := ?_) (a' := ?_) (fl_ 38 2818572287) rfl rfl (y26 HT_.out HW_.out (by kernel_rfl)) (fun _ _ _ h => h) (Or.inl ⟨by rfl, ?_⟩) hHeld ?_ ?_
              rotate_left
              ·rintro w' ⟨s0,s1,s2,s3,s4,s5⟩
               go_simp
               with_reducible rfl
              rotate_left
              ·simp only [Act.put,qS_,qZ_,qC_,y21,y20]
               rfl
              refine y22 (i := 27) (N := some 48) (v := ?_) (a' := ?_) (fl_ 38 2952790015) rfl rfl (y2 HT_.out (by kernel_rfl)) (fun _ _ _ h => h) (Or.inl ⟨by rfl, ?_⟩) ?_ ?_
              rotate_left
              ·intro w'
               go_simp
               with_reducible rfl
              rotate_left
              ·simp only [Act.put,qS_,qZ_,qC_,y21,y20]
               rfl
              refine take_ (i := 28) (N := some 49) (v := ?_) (a' := ?_) (fl_ 38 3221225471) rfl rfl (y26 HT_.out HW_.out (by kernel_rfl)) (fun _ _ _ h => h) (Or.inl ⟨by rfl, ?_⟩) hHeld ?_ ?_
              rotate_left
              ·rintro w' ⟨s0,s1,s2,s3,s4,s5⟩
               go_simp
               with_reducible rfl
              rotate_left
              ·simp only [Act.put,qS_,qZ_,qC_,y21,y20]
               rfl
              refine take_ (i := 30) (N := some 51) (v := ?_) (a' := ?_) (fl_ 38 4294967295) rfl rfl (y26 HT_.out HW_.out (by kernel_rfl)) (fun _ _ _ h => h) (Or.inl ⟨by rfl, ?_⟩) hHeld ?_ ?_
              rotate_left
              ·rintro w' ⟨s0,s1,s2,s3,s4,s5⟩
               go_simp
               with_reducible rfl
              rotate_left
              ·simp only [Act.put,qS_,qZ_,qC_,y21,y20]
               rfl
              refine y22 (i := 32) (N := some 53) (v := ?_) (a' := ?_) (fl_ 38 8589934591) rfl rfl (y2 HT_.out (by kernel_rfl)) (fun _ _ _ h => h) (Or.inl ⟨by rfl, ?_⟩) ?_ ?_
              rotate_left
              ·intro w'
               go_simp
               with_reducible rfl
              rotate_left
              ·simp only [Act.put,qS_,qZ_,qC_,y21,y20]
               rfl
              refine take_ (i := 33) (N := some 54) (v := ?_) (a' := ?_) (fl_ 38 17179869183) rfl rfl (y26 HT_.out HW_.out (by kernel_rfl)) (fun _ _ _ h => h) (Or.inl ⟨by rfl, ?_⟩) hHeld ?_ ?_
              rotate_left
              ·rintro w' ⟨s0,s1,s2,s3,s4,s5⟩
               go_simp
               with_reducible rfl
              rotate_left
              ·simp only [Act.put,qS_,qZ_,qC_,y21,y20]
               rfl
              refine one_ (i := 34) (N := some 55) (fl_ 38 34359738367) rfl rfl (one_of HT_.out (by kernel_rfl)) (by decide) (fun K hK => ?_)
              refine goes_ Tryz.func57 (by kernel_rfl) rfl #[.agg #[.slice A217_0 ((y24 l0_1 (ji15)).f0).length c217_0],.agg #[.slice A218_0 ((y24 l0_1 x3_2).f0).length c218_0]] (by rfl) rfl rfl (by (try simp only [qM_,List.map_cons,List.map_nil]); first | done | (have e9_ := hx214_0.symm.trans hx218_0; simp only [Option.some.injEq,Value.slice.injEq] at e9_; obtain ⟨e1_,_,e2_⟩ := e9_; subst e1_; subst e2_; rfl) | (simp only [hji15]; rfl) | rfl | (simp only [qD_,qT_]; rfl)) ?_
              with_reducible refine (spec_l02Cmp.calls k2 _ _ ((y24 l0_1 (ji15)).f0) _ _ ((y24 l0_1 x3_2).f0) t219 _ ?side1 ?side2 ?side3 ?side4 A18.out).mono ?_
              (case side1 => repeat (first | exact (Kd.C_below HR217_0.out HB.out) | (with_reducible refine Kd.C_alloc ?_ _) | (with_reducible refine Kd.C_drewN ?_ _) | (with_reducible refine Kd.C_drew ?_)))
              (case side2 => exact HC217_0.out)
              (case side3 => repeat (first | exact (Kd.C_below HR218_0.out HB.out) | (with_reducible refine Kd.C_alloc ?_ _) | (with_reducible refine Kd.C_drewN ?_ _) | (with_reducible refine Kd.C_drew ?_)))
              (case side4 => exact HC218_0.out)
              rintro e w27 ⟨rfl,hb⟩
              refine ⟨_,rfl, ?_⟩
              have n0_ := y0.mk (y9 (g := gb212) (o := .cells #[.int .i64 a0_0,.slice (some ad214) l0_1.length c0_1] 33 (0,0)) (by (with_reducible repeat (first | refine y12 ?_ _ | refine y11 ?_ | refine y8 ?_ _)); exact BK212.out) hb)
              have n1_ := y0.mk (y7 (by repeat (first | (with_reducible first | exact HB.out | apply y3 | apply y23 | apply y4 | refine y5 ?_ GE212.out) | exact HB.out)) hb)
              clear BK212
              clear HB
              have BK212 := n0_
              have HB := n1_
              clear n0_ n1_
              (try clear hb)
              (try clear hb2)
              (try clear hk)
              (try clear hi)
              refine hK.out _ _ ⟨(y10 BK212.out 0).trans rfl,(y10 BK212.out 1).trans rfl,((HB.out.cell (World.block_lt_of_cell? w _ hw214_0)).trans hw214_0),((HB.out.cell (World.block_lt_of_cell? w _ hw215_0)).trans hw215_0),((HB.out.cell (World.block_lt_of_cell? w _ hw217_0)).trans hw217_0),((HB.out.cell (World.block_lt_of_cell? w _ hw218_0)).trans hw218_0)⟩ (fun hHeld => ?_)
              clear hK K
              refine norm_ (a' := ?_) ?_ ?_
              rotate_left
              ·show Act.put _ (some 55) _ = _
               simp only [Act.put,qS_,qZ_,qC_,y21,y20]
               rfl
              refine y22 (i := 35) (N := some 56) (v := ?_) (a' := ?_) (fl_ 38 68719476735) rfl rfl (y2 HT_.out (by kernel_rfl)) (fun _ _ _ h => h) (Or.inl ⟨by rfl, ?_⟩) ?_ ?_
              rotate_left
              ·intro w'
               go_simp
               with_reducible rfl
              rotate_left
              ·simp only [Act.put,qS_,qZ_,qC_,y21,y20]
               rfl
              refine y22 (i := 36) (N := some 57) (v := ?_) (a' := ?_) (fl_ 38 137438953471) rfl rfl (y2 HT_.out (by kernel_rfl)) (fun _ _ _ h => h) (Or.inl ⟨by rfl, ?_⟩) ?_ ?_
              rotate_left
              ·intro w'
               go_simp
               with_reducible rfl
              rotate_left
              ·simp only [Act.put,qS_,qZ_,qC_,y21,y20]
               rfl
              refine y22 (i := 37) (N := some 58) (v := ?_) (a' := ?_) (fl_ 38 274877906943) rfl rfl (y2 HT_.out (by kernel_rfl)) (fun _ _ _ h => h) (Or.inl ⟨by rfl, ?_⟩) ?_ ?_
              rotate_left
              ·intro w'
               go_simp
               with_reducible rfl
              rotate_left
              ·simp only [Act.put,qS_,qZ_,qC_,y21,y20]
               rfl
              refine done_ (done_of HT_.out (by kernel_rfl)) ?_
              try go_wp2
              go_roundg k2
              case measure => have := HJ1.out; have := HK2.out; omega
              case rel => exact ⟨(wrap64 (x3_2 + 1)),(by first | rfl | (simp; done) | (simp [*]; done)),H',⟨by have := HJ1.out; have := HK2.out; omega⟩,⟨by (with_reducible repeat (first | refine y12 ?_ _ | refine y11 ?_ | refine y8 ?_ _)); exact BK212.out⟩,⟨by repeat (first | (with_reducible first | exact HB.out | apply y3 | apply y23 | apply y4 | refine y5 ?_ GE212.out) | exact HB.out)⟩⟩
            ·as_aux_lemma =>
             rw [if_neg c17] at H
             exact absurd H (by simp)
           ·as_aux_lemma =>
            rw [if_neg c16] at H
            exact absurd H (by simp)
          ·as_aux_lemma =>
           rw [if_neg c14] at H
           have c14b0 : decide (0 < x3_2) = false := decide_eq_false c14
           clear c14
           have H' := y0.mk H
           clear H
           have hcz28_0 : wr.cell? ⟨gb212,0,none⟩ = some (.int .i64 a0_0) := (y10 BK212.out 0).trans rfl
           have hcz28_1 : wr.cell? ⟨gb212,1,none⟩ = some (.slice A0_1 l0_1.length c0_1) := (y10 BK212.out 1).trans rfl
           have hfz28_0 := y13 BK212.out 0
           have hfz28_1 := y13 BK212.out 1
           try go_wp2
           have n0_ := y0.mk (y11 BK212.out)
           have n1_ := y0.mk (y4 HB.out)
           clear BK212
           clear HB
           have BK212 := n0_
           have HB := n1_
           clear n0_ n1_
           have p214 : 0 ≤ (x3_2 : Int) := of_decide_eq_true (by first | (with_reducible assumption) | assumption)
           have q214 : x3_2 < (l0_1.length : Int) := of_decide_eq_true (by first | (with_reducible assumption) | assumption)
           obtain ⟨ad214,A214_0,c214_0,e214,hx214_0,hl214_0,hi214_0⟩ := at_T35 HR0_1.out x3_2 p214 q214
           have hw214_0 := hx214_0
           cases e214
           replace hx214_0 := (HB.out.cell (World.block_lt_of_cell? w _ hx214_0)).trans hx214_0
           have HR214_0 := y0.mk hi214_0
           have HC214_0 := y0.mk hl214_0
           clear hi214_0 hl214_0
           replace p214 := eq_true p214
           replace q214 := eq_true q214
           have p215 : 0 ≤ (x3_2 : Int) := of_decide_eq_true (by first | (with_reducible assumption) | assumption)
           have q215 : x3_2 < (l0_1.length : Int) := of_decide_eq_true (by first | (with_reducible assumption) | assumption)
           obtain ⟨ad215,A215_0,c215_0,e215,hx215_0,hl215_0,hi215_0⟩ := at_T35 HR0_1.out x3_2 p215 q215
           have hw215_0 := hx215_0
           obtain rfl : ad214 = ad215 := (by injection e215)
           replace hx215_0 := (HB.out.cell (World.block_lt_of_cell? w _ hx215_0)).trans hx215_0
           have HR215_0 := y0.mk hi215_0
           have HC215_0 := y0.mk hl215_0
           clear hi215_0 hl215_0
           replace p215 := eq_true p215
           replace q215 := eq_true q215
           have ea_ := Option.some.inj (hx214_0.symm.trans hx215_0)
           injection ea_ with ea_ en_ ec_
           subst ea_
           subst ec_
           clear en_
           refine start_ (n := 38) (S := fun w' => w'.cell? ⟨gb212,0,none⟩ = some (.int .i64 a0_0) ∧ w'.cell? ⟨gb212,1,none⟩ = some (.slice (some ad214) l0_1.length c0_1) ∧ w'.cell? (ad214.add (x3_2).toNat) = some (.slice A214_0 ((y24 l0_1 x3_2).f0).length c214_0) ∧ w'.cell? (ad214.add (x3_2).toNat) = some (.slice A214_0 ((y24 l0_1 x3_2).f0).length c214_0)) (ds := []) (fl_ 38 0) (by kernel_rfl) rfl rfl ⟨(y10 BK212.out 0).trans rfl,(y10 BK212.out 1).trans rfl,((HB.out.cell (World.block_lt_of_cell? w _ hw214_0)).trans hw214_0),((HB.out.cell (World.block_lt_of_cell? w _ hw215_0)).trans hw215_0)⟩ (fun hHeld => ?_); refine with_tabW spec_RelOk.tab6 spec_RelOk.bits6 (fun HT_ HW_ => ?_)
           generalize wr.drew = w29 at BK212 HB HR214_0 HR215_0 hx214_0 hx215_0 hHeld ⊢
           refine y22 (i := 0) (N := some 21) (v := ?_) (a' := ?_) (fl_ 38 1) rfl rfl (y2 HT_.out (by kernel_rfl)) (fun _ _ _ h => h) (Or.inl ⟨by rfl, ?_⟩) ?_ ?_
           rotate_left
           ·intro w'
            go_simp
            with_reducible rfl
           rotate_left
           ·simp only [Act.put,qS_,qZ_,qC_,y21,y20]
            rfl
           refine y22 (i := 2) (N := some 23) (v := ?_) (a' := ?_) (fl_ 38 5) rfl rfl (y2 HT_.out (by kernel_rfl)) (fun _ _ _ h => h) (Or.inl ⟨by rfl, ?_⟩) ?_ ?_
           rotate_left
           ·intro w'
            go_simp
            with_reducible rfl
           rotate_left
           ·simp only [Act.put,qS_,qZ_,qC_,y21,y20]
            rfl
           refine y22 (i := 7) (N := some 28) (v := ?_) (a' := ?_) (fl_ 38 133) rfl rfl (y2 HT_.out (by kernel_rfl)) (fun _ _ _ h => h) (Or.inl ⟨by rfl, ?_⟩) ?_ ?_
           rotate_left
           ·intro w'
            go_simp
            with_reducible rfl
           rotate_left
           ·simp only [Act.put,qS_,qZ_,qC_,y21,y20]
            rfl
           refine take_ (i := 1) (N := some 22) (v := ?_) (a' := ?_) (fl_ 38 135) rfl rfl (y26 HT_.out HW_.out (by kernel_rfl)) (fun _ _ _ h => h) (Or.inl ⟨by rfl, ?_⟩) hHeld ?_ ?_
           rotate_left
           ·rintro w' ⟨s0,s1,s2,s3⟩
            go_simp
            with_reducible rfl
           rotate_left
           ·simp only [Act.put,qS_,qZ_,qC_,y21,y20]
            rfl
           refine y22 (i := 3) (N := some 24) (v := ?_) (a' := ?_) (fl_ 38 143) rfl rfl (y2 HT_.out (by kernel_rfl)) (fun _ _ _ h => h) (Or.inl ⟨by rfl, ?_⟩) ?_ ?_
           rotate_left
           ·intro w'
            go_simp
            with_reducible rfl
           rotate_left
           ·simp only [Act.put,qS_,qZ_,qC_,y21,y20]
            rfl
           refine y22 (i := 4) (N := some 25) (v := ?_) (a' := ?_) (fl_ 38 159) rfl rfl (y2 HT_.out (by kernel_rfl)) (fun _ _ _ h => h) (Or.inl ⟨by rfl, ?_⟩) ?_ ?_
           rotate_left
           ·intro w'
            go_simp
            with_reducible rfl
           rotate_left
           ·simp only [Act.put,qS_,qZ_,qC_,y21,y20]
            rfl
           refine take_ (i := 5) (N := some 26) (v := ?_) (a' := ?_) (fl_ 38 191) rfl rfl (y26 HT_.out HW_.out (by kernel_rfl)) (fun _ _ _ h => h) (Or.inl ⟨by rfl, ?_⟩) hHeld ?_ ?_
           rotate_left
           ·rintro w' ⟨s0,s1,s2,s3⟩
            go_simp
            with_reducible rfl
           rotate_left
           ·simp only [Act.put,qS_,qZ_,qC_,y21,y20]
            rfl
           refine y22 (i := 6) (N := some 27) (v := ?_) (a' := ?_) (fl_ 38 255) rfl rfl (y2 HT_.out (by kernel_rfl)) (fun _ _ _ h => h) (Or.inl ⟨by rfl, ?_⟩) ?_ ?_
           rotate_left
           ·intro w'
            go_simp
            with_reducible rfl
           rotate_left
           ·simp only [Act.put,qS_,qZ_,qC_,y21,y20]
            rfl
           refine take_ (i := 8) (N := some 29) (v := ?_) (a' := ?_) (fl_ 38 511) rfl rfl (y26 HT_.out HW_.out (by kernel_rfl)) (fun _ _ _ h => h) (Or.inl ⟨by rfl, ?_⟩) hHeld ?_ ?_
           rotate_left
           ·rintro w' ⟨s0,s1,s2,s3⟩
            go_simp
            with_reducible rfl
           rotate_left
           ·simp only [Act.put,qS_,qZ_,qC_,y21,y20]
            rfl
           refine y22 (i := 9) (N := some 30) (v := ?_) (a' := ?_) (fl_ 38 1023) rfl rfl (y2 HT_.out (by kernel_rfl)) (fun _ _ _ h => h) (Or.inl ⟨by rfl, ?_⟩) ?_ ?_
           rotate_left
           ·intro w'
            go_simp
            with_reducible rfl
           rotate_left
           ·simp only [Act.put,qS_,qZ_,qC_,y21,y20]
            rfl
           refine y22 (i := 10) (N := some 31) (v := ?_) (a' := ?_) (fl_ 38 2047) rfl rfl (y2 HT_.out (by kernel_rfl)) (fun _ _ _ h => h) (Or.inl ⟨by rfl, ?_⟩) ?_ ?_
           rotate_left
           ·intro w'
            go_simp
            with_reducible rfl
           rotate_left
           ·simp only [Act.put,qS_,qZ_,qC_,y21,y20]
            rfl
           refine y22 (i := 11) (N := some 32) (v := ?_) (a' := ?_) (fl_ 38 4095) rfl rfl (y2 HT_.out (by kernel_rfl)) (fun _ _ _ h => h) (Or.inl ⟨by rfl, ?_⟩) ?_ ?_
           rotate_left
           ·intro w'
            go_simp
            with_reducible rfl
           rotate_left
           ·simp only [Act.put,qS_,qZ_,qC_,y21,y20]
            rfl
           refine y22 (i := 13) (N := some 34) (v := ?_) (a' := ?_) (fl_ 38 12287) rfl rfl (y2 HT_.out (by kernel_rfl)) (fun _ _ _ h => h) (Or.inl ⟨by rfl, ?_⟩) ?_ ?_
           rotate_left
           ·intro w'
            go_simp
            with_reducible rfl
           rotate_left
           ·simp only [Act.put,qS_,qZ_,qC_,y21,y20]
            rfl
           refine take_ (i := 12) (N := some 33) (v := ?_) (a' := ?_) (fl_ 38 16383) rfl rfl (y26 HT_.out HW_.out (by kernel_rfl)) (fun _ _ _ h => h) (Or.inl ⟨by rfl, ?_⟩) hHeld ?_ ?_
           rotate_left
           ·rintro w' ⟨s0,s1,s2,s3⟩
            go_simp
            with_reducible rfl
           rotate_left
           ·simp only [Act.put,qS_,qZ_,qC_,y21,y20]
            rfl
           refine y22 (i := 14) (N := some 35) (v := ?_) (a' := ?_) (fl_ 38 32767) rfl rfl (y2 HT_.out (by kernel_rfl)) (fun _ _ _ h => h) (Or.inl ⟨by rfl, ?_⟩) ?_ ?_
           rotate_left
           ·intro w'
            go_simp
            with_reducible rfl
           rotate_left
           ·simp only [Act.put,qS_,qZ_,qC_,y21,y20]
            rfl
           refine take_ (i := 15) (N := some 36) (v := ?_) (a' := ?_) (fl_ 38 65535) rfl rfl (y26 HT_.out HW_.out (by kernel_rfl)) (fun _ _ _ h => h) (Or.inl ⟨by rfl, ?_⟩) hHeld ?_ ?_
           rotate_left
           ·rintro w' ⟨s0,s1,s2,s3⟩
            go_simp
            with_reducible rfl
           rotate_left
           ·simp only [Act.put,qS_,qZ_,qC_,y21,y20]
            rfl
           refine one_ (i := 16) (N := some 37) (fl_ 38 131071) rfl rfl (one_of HT_.out (by kernel_rfl)) (by decide) (fun K hK => ?_)
           refine goes_ Tryz.func56 (by kernel_rfl) rfl #[.agg #[.slice A214_0 ((y24 l0_1 x3_2).f0).length c214_0]] (by rfl) rfl rfl (by (try simp only [qM_,List.map_cons,List.map_nil]); first | done | rfl | (simp only [qD_,qT_]; rfl)) ?_
           with_reducible refine (spec_TupleOk.calls k2 _ _ ((y24 l0_1 x3_2).f0) true _ ?side1 ?side2 A12.out).mono ?_
           (case side1 => repeat (first | exact (Kd.C_below HR215_0.out HB.out) | (with_reducible refine Kd.C_alloc ?_ _) | (with_reducible refine Kd.C_drewN ?_ _) | (with_reducible refine Kd.C_drew ?_)))
           (case side2 => exact HC215_0.out)
           rintro e w30 ⟨rfl,hb⟩
           refine ⟨_,rfl, ?_⟩
           have n0_ := y0.mk (y9 (g := gb212) (o := .cells #[.int .i64 a0_0,.slice (some ad214) l0_1.length c0_1] 33 (0,0)) (by (with_reducible repeat (first | refine y12 ?_ _ | refine y11 ?_ | refine y8 ?_ _)); exact BK212.out) hb)
           have n1_ := y0.mk (y7 (by repeat (first | (with_reducible first | exact HB.out | apply y3 | apply y23 | apply y4 | refine y5 ?_ GE212.out) | exact HB.out)) hb)
           clear BK212
           clear HB
           have BK212 := n0_
           have HB := n1_
           clear n0_ n1_
           (try clear hb)
           (try clear hb2)
           (try clear hk)
           (try clear hi)
           refine hK.out _ _ ⟨(y10 BK212.out 0).trans rfl,(y10 BK212.out 1).trans rfl,((HB.out.cell (World.block_lt_of_cell? w _ hw214_0)).trans hw214_0),((HB.out.cell (World.block_lt_of_cell? w _ hw215_0)).trans hw215_0)⟩ (fun hHeld => ?_)
           clear hK K
           refine norm_ (a' := ?_) ?_ ?_
           rotate_left
           ·show Act.put _ (some 37) _ = _
            simp only [Act.put,qS_,qZ_,qC_,y21,y20]
            rfl
           refine y22 (i := 17) (N := some 38) (v := ?_) (a' := ?_) (fl_ 38 262143) rfl rfl (y2 HT_.out (by kernel_rfl)) (fun _ _ _ h => h) (Or.inl ⟨by rfl, ?_⟩) ?_ ?_
           rotate_left
           ·intro w'
            go_simp
            with_reducible rfl
           rotate_left
           ·simp only [Act.put,qS_,qZ_,qC_,y21,y20]
            rfl
           refine y22 (i := 18) (N := some 39) (v := ?_) (a' := ?_) (fl_ 38 524287) rfl rfl (y2 HT_.out (by kernel_rfl)) (fun _ _ _ h => h) (Or.inl ⟨by rfl, ?_⟩) ?_ ?_
           rotate_left
           ·intro w'
            go_simp
            with_reducible rfl
           rotate_left
           ·simp only [Act.put,qS_,qZ_,qC_,y21,y20]
            rfl
           refine y22 (i := 19) (N := some 40) (v := ?_) (a' := ?_) (fl_ 38 1048575) rfl rfl (y2 HT_.out (by kernel_rfl)) (fun _ _ _ h => h) (Or.inl ⟨by rfl, ?_⟩) ?_ ?_
           rotate_left
           ·intro w'
            go_simp
            with_reducible rfl
           rotate_left
           ·simp only [Act.put,qS_,qZ_,qC_,y21,y20]
            rfl
           refine y22 (i := 20) (N := some 41) (v := ?_) (a' := ?_) (fl_ 38 2097151) rfl rfl (y2 HT_.out (by kernel_rfl)) (fun _ _ _ h => h) (Or.inl ⟨by rfl, ?_⟩) ?_ ?_
           rotate_left
           ·intro w'
            go_simp
            with_reducible rfl
           rotate_left
           ·simp only [Act.put,qS_,qZ_,qC_,y21,y20]
            rfl
           refine y22 (i := 21) (N := some 42) (v := ?_) (a' := ?_) (fl_ 38 4194303) rfl rfl (y2 HT_.out (by kernel_rfl)) (fun _ _ _ h => h) (Or.inl ⟨by rfl, ?_⟩) ?_ ?_
           rotate_left
           ·intro w'
            go_simp
            with_reducible rfl
           rotate_left
           ·simp only [Act.put,qS_,qZ_,qC_,y21,y20]
            rfl
           refine y22 (i := 22) (N := some 43) (v := ?_) (a' := ?_) (fl_ 38 8388607) rfl rfl (y2 HT_.out (by kernel_rfl)) (fun _ _ _ h => h) (Or.inl ⟨by rfl, ?_⟩) ?_ ?_
           rotate_left
           ·intro w'
            go_simp
            with_reducible rfl
           rotate_left
           ·simp only [Act.put,qS_,qZ_,qC_,y21,y20]
            rfl
           refine y22 (i := 23) (N := some 44) (v := undef) (a' := ?_) (fl_ 38 16777215) rfl rfl (y2 HT_.out (by kernel_rfl)) (fun _ _ _ h => h) (Or.inr ⟨by rfl,rfl⟩) ?_ ?_
           rotate_left
           ·simp only [Act.put,qS_,qZ_,qC_,y21,y20]
            rfl
           refine y22 (i := 24) (N := some 45) (v := undef) (a' := ?_) (fl_ 38 33554431) rfl rfl (y2 HT_.out (by kernel_rfl)) (fun _ _ _ h => h) (Or.inr ⟨by rfl,rfl⟩) ?_ ?_
           rotate_left
           ·simp only [Act.put,qS_,qZ_,qC_,y21,y20]
            rfl
           refine y22 (i := 25) (N := some 46) (v := undef) (a' := ?_) (fl_ 38 67108863) rfl rfl (y2 HT_.out (by kernel_rfl)) (fun _ _ _ h => h) (Or.inr ⟨by rfl,rfl⟩) ?_ ?_
           rotate_left
           ·simp only [Act.put,qS_,qZ_,qC_,y21,y20]
            rfl
           refine y22 (i := 26) (N := some 47) (v := undef) (a' := ?_) (fl_ 38 134217727) rfl rfl (y2 HT_.out (by kernel_rfl)) (fun _ _ _ h => h) (Or.inr ⟨by rfl,rfl⟩) ?_ ?_
           rotate_left
           ·simp only [Act.put,qS_,qZ_,qC_,y21,y20]
            rfl
           refine y22 (i := 27) (N := some 48) (v := undef) (a' := ?_) (fl_ 38 268435455) rfl rfl (y2 HT_.out (by kernel_rfl)) (fun _ _ _ h => h) (Or.inr ⟨by rfl,rfl⟩) ?_ ?_
           rotate_left
           ·simp only [Act.put,qS_,qZ_,qC_,y21,y20]
            rfl
           refine y22 (i := 28) (N := some 49) (v := undef) (a' := ?_) (fl_ 38 536870911) rfl rfl (y2 HT_.out (by kernel_rfl)) (fun _ _ _ h => h) (Or.inr ⟨by rfl,rfl⟩) ?_ ?_
           rotate_left
           ·simp only [Act.put,qS_,qZ_,qC_,y21,y20]
            rfl
           refine y22 (i := 29) (N := some 50) (v := undef) (a' := ?_) (fl_ 38 1073741823) rfl rfl (y2 HT_.out (by kernel_rfl)) (fun _ _ _ h => h) (Or.inr ⟨by rfl,rfl⟩) ?_ ?_
           rotate_left
           ·simp only [Act.put,qS_,qZ_,qC_,y21,y20]
            rfl
           refine y22 (i := 30) (N := some 51) (v := undef) (a' := ?_) (fl_ 38 2147483647) rfl rfl (y2 HT_.out (by kernel_rfl)) (fun _ _ _ h => h) (Or.inr ⟨by rfl,rfl⟩) ?_ ?_
           rotate_left
           ·simp only [Act.put,qS_,qZ_,qC_,y21,y20]
            rfl
           refine y22 (i := 31) (N := some 52) (v := undef) (a' := ?_) (fl_ 38 4294967295) rfl rfl (y2 HT_.out (by kernel_rfl)) (fun _ _ _ h => h) (Or.inr ⟨by rfl,rfl⟩) ?_ ?_
           rotate_left
           ·simp only [Act.put,qS_,qZ_,qC_,y21,y20]
            rfl
           refine y22 (i := 32) (N := some 53) (v := undef) (a' := ?_) (fl_ 38 8589934591) rfl rfl (y2 HT_.out (by kernel_rfl)) (fun _ _ _ h => h) (Or.inr ⟨by rfl,rfl⟩) ?_ ?_
           rotate_left
           ·simp only [Act.put,qS_,qZ_,qC_,y21,y20]
            rfl
           refine y22 (i := 33) (N := some 54) (v := undef) (a' := ?_) (fl_ 38 17179869183) rfl rfl (y2 HT_.out (by kernel_rfl)) (fun _ _ _ h => h) (Or.inr ⟨by rfl,rfl⟩) ?_ ?_
           rotate_left
           ·simp only [Act.put,qS_,qZ_,qC_,y21,y20]
            rfl
           refine y22 (i := 34) (N := some 55) (v := undef) (a' := ?_) (fl_ 38 34359738367) rfl rfl (y2 HT_.out (by kernel_rfl)) (fun _ _ _ h => h) (Or.inr ⟨by rfl,rfl⟩) ?_ ?_
           rotate_left
           ·simp only [Act.put,qS_,qZ_,qC_,y21,y20]
            rfl
           refine y22 (i := 35) (N := some 56) (v := undef) (a' := ?_) (fl_ 38 68719476735) rfl rfl (y2 HT_.out (by kernel_rfl)) (fun _ _ _ h => h) (Or.inr ⟨by rfl,rfl⟩) ?_ ?_
           rotate_left
           ·simp only [Act.put,qS_,qZ_,qC_,y21,y20]
            rfl
           refine y22 (i := 36) (N := some 57) (v := ?_) (a' := ?_) (fl_ 38 137438953471) rfl rfl (y2 HT_.out (by kernel_rfl)) (fun _ _ _ h => h) (Or.inl ⟨by rfl, ?_⟩) ?_ ?_
           rotate_left
           ·intro w'
            go_simp
            with_reducible rfl
           rotate_left
           ·simp only [Act.put,qS_,qZ_,qC_,y21,y20]
            rfl
           refine y22 (i := 37) (N := some 58) (v := ?_) (a' := ?_) (fl_ 38 274877906943) rfl rfl (y2 HT_.out (by kernel_rfl)) (fun _ _ _ h => h) (Or.inl ⟨by rfl, ?_⟩) ?_ ?_
           rotate_left
           ·intro w'
            go_simp
            with_reducible rfl
           rotate_left
           ·simp only [Act.put,qS_,qZ_,qC_,y21,y20]
            rfl
           refine done_ (done_of HT_.out (by kernel_rfl)) ?_
           try go_wp2
           go_roundg k2
           case measure => have := HJ1.out; have := HK2.out; omega
           case rel => exact ⟨(wrap64 (x3_2 + 1)),(by first | rfl | (simp; done) | (simp [*]; done)),H',⟨by have := HJ1.out; have := HK2.out; omega⟩,⟨by (with_reducible repeat (first | refine y12 ?_ _ | refine y11 ?_ | refine y8 ?_ _)); exact BK212.out⟩,⟨by repeat (first | (with_reducible first | exact HB.out | apply y3 | apply y23 | apply y4 | refine y5 ?_ GE212.out) | exact HB.out)⟩⟩
         ·replace c13 := Bool.eq_false_iff.mpr c13
          subst c13
          have H1 : (some false) = some r := by rw [if_neg (show ¬ (false = true) by decide)] at H; exact H
          clear H
          have H := H1
          clear H1
          obtain rfl := Option.some.inj H
          have hcz31_0 : wr.cell? ⟨gb212,0,none⟩ = some (.int .i64 a0_0) := (y10 BK212.out 0).trans rfl
          have hcz31_1 : wr.cell? ⟨gb212,1,none⟩ = some (.slice A0_1 l0_1.length c0_1) := (y10 BK212.out 1).trans rfl
          have hfz31_0 := y13 BK212.out 0
          have hfz31_1 := y13 BK212.out 1
          try go_wp2
          have n0_ := y0.mk (y11 BK212.out)
          have n1_ := y0.mk (y4 HB.out)
          clear BK212
          clear HB
          have BK212 := n0_
          have HB := n1_
          clear n0_ n1_
          have p214 : 0 ≤ (x3_2 : Int) := of_decide_eq_true (by first | (with_reducible assumption) | assumption)
          have q214 : x3_2 < (l0_1.length : Int) := of_decide_eq_true (by first | (with_reducible assumption) | assumption)
          obtain ⟨ad214,A214_0,c214_0,e214,hx214_0,hl214_0,hi214_0⟩ := at_T35 HR0_1.out x3_2 p214 q214
          have hw214_0 := hx214_0
          cases e214
          replace hx214_0 := (HB.out.cell (World.block_lt_of_cell? w _ hx214_0)).trans hx214_0
          have HR214_0 := y0.mk hi214_0
          have HC214_0 := y0.mk hl214_0
          clear hi214_0 hl214_0
          replace p214 := eq_true p214
          replace q214 := eq_true q214
          have p215 : 0 ≤ (x3_2 : Int) := of_decide_eq_true (by first | (with_reducible assumption) | assumption)
          have q215 : x3_2 < (l0_1.length : Int) := of_decide_eq_true (by first | (with_reducible assumption) | assumption)
          obtain ⟨ad215,A215_0,c215_0,e215,hx215_0,hl215_0,hi215_0⟩ := at_T35 HR0_1.out x3_2 p215 q215
          have hw215_0 := hx215_0
          obtain rfl : ad214 = ad215 := (by injection e215)
          replace hx215_0 := (HB.out.cell (World.block_lt_of_cell? w _ hx215_0)).trans hx215_0
          have HR215_0 := y0.mk hi215_0
          have HC215_0 := y0.mk hl215_0
          clear hi215_0 hl215_0
          replace p215 := eq_true p215
          replace q215 := eq_true q215
          have ea_ := Option.some.inj (hx214_0.symm.trans hx215_0)
          injection ea_ with ea_ en_ ec_
          subst ea_
          subst ec_
          clear en_
          refine start_ (n := 38) (S := fun w' => w'.cell? ⟨gb212,0,none⟩ = some (.int .i64 a0_0) ∧ w'.cell? ⟨gb212,1,none⟩ = some (.slice (some ad214) l0_1.length c0_1) ∧ w'.cell? (ad214.add (x3_2).toNat) = some (.slice A214_0 ((y24 l0_1 x3_2).f0).length c214_0) ∧ w'.cell? (ad214.add (x3_2).toNat) = some (.slice A214_0 ((y24 l0_1 x3_2).f0).length c214_0)) (ds := []) (fl_ 38 0) (by kernel_rfl) rfl rfl ⟨(y10 BK212.out 0).trans rfl,(y10 BK212.out 1).trans rfl,((HB.out.cell (World.block_lt_of_cell? w _ hw214_0)).trans hw214_0),((HB.out.cell (World.block_lt_of_cell? w _ hw215_0)).trans hw215_0)⟩ (fun hHeld => ?_); refine with_tabW spec_RelOk.tab6 spec_RelOk.bits6 (fun HT_ HW_ => ?_)
          generalize wr.drew = w32 at BK212 HB HR214_0 HR215_0 hx214_0 hx215_0 hHeld ⊢
          refine y22 (i := 0) (N := some 21) (v := ?_) (a' := ?_) (fl_ 38 1) rfl rfl (y2 HT_.out (by kernel_rfl)) (fun _ _ _ h => h) (Or.inl ⟨by rfl, ?_⟩) ?_ ?_
          rotate_left
          ·intro w'
           go_simp
           with_reducible rfl
          rotate_left
          ·simp only [Act.put,qS_,qZ_,qC_,y21,y20]
           rfl
          refine y22 (i := 2) (N := some 23) (v := ?_) (a' := ?_) (fl_ 38 5) rfl rfl (y2 HT_.out (by kernel_rfl)) (fun _ _ _ h => h) (Or.inl ⟨by rfl, ?_⟩) ?_ ?_
          rotate_left
          ·intro w'
           go_simp
           with_reducible rfl
          rotate_left
          ·simp only [Act.put,qS_,qZ_,qC_,y21,y20]
           rfl
          refine y22 (i := 7) (N := some 28) (v := ?_) (a' := ?_) (fl_ 38 133) rfl rfl (y2 HT_.out (by kernel_rfl)) (fun _ _ _ h => h) (Or.inl ⟨by rfl, ?_⟩) ?_ ?_
          rotate_left
          ·intro w'
           go_simp
           with_reducible rfl
          rotate_left
          ·simp only [Act.put,qS_,qZ_,qC_,y21,y20]
           rfl
          refine take_ (i := 1) (N := some 22) (v := ?_) (a' := ?_) (fl_ 38 135) rfl rfl (y26 HT_.out HW_.out (by kernel_rfl)) (fun _ _ _ h => h) (Or.inl ⟨by rfl, ?_⟩) hHeld ?_ ?_
          rotate_left
          ·rintro w' ⟨s0,s1,s2,s3⟩
           go_simp
           with_reducible rfl
          rotate_left
          ·simp only [Act.put,qS_,qZ_,qC_,y21,y20]
           rfl
          refine y22 (i := 3) (N := some 24) (v := ?_) (a' := ?_) (fl_ 38 143) rfl rfl (y2 HT_.out (by kernel_rfl)) (fun _ _ _ h => h) (Or.inl ⟨by rfl, ?_⟩) ?_ ?_
          rotate_left
          ·intro w'
           go_simp
           with_reducible rfl
          rotate_left
          ·simp only [Act.put,qS_,qZ_,qC_,y21,y20]
           rfl
          refine y22 (i := 4) (N := some 25) (v := ?_) (a' := ?_) (fl_ 38 159) rfl rfl (y2 HT_.out (by kernel_rfl)) (fun _ _ _ h => h) (Or.inl ⟨by rfl, ?_⟩) ?_ ?_
          rotate_left
          ·intro w'
           go_simp
           with_reducible rfl
          rotate_left
          ·simp only [Act.put,qS_,qZ_,qC_,y21,y20]
           rfl
          refine take_ (i := 5) (N := some 26) (v := ?_) (a' := ?_) (fl_ 38 191) rfl rfl (y26 HT_.out HW_.out (by kernel_rfl)) (fun _ _ _ h => h) (Or.inl ⟨by rfl, ?_⟩) hHeld ?_ ?_
          rotate_left
          ·rintro w' ⟨s0,s1,s2,s3⟩
           go_simp
           with_reducible rfl
          rotate_left
          ·simp only [Act.put,qS_,qZ_,qC_,y21,y20]
           rfl
          refine y22 (i := 6) (N := some 27) (v := ?_) (a' := ?_) (fl_ 38 255) rfl rfl (y2 HT_.out (by kernel_rfl)) (fun _ _ _ h => h) (Or.inl ⟨by rfl, ?_⟩) ?_ ?_
          rotate_left
          ·intro w'
           go_simp
           with_reducible rfl
          rotate_left
          ·simp only [Act.put,qS_,qZ_,qC_,y21,y20]
           rfl
          refine take_ (i := 8) (N := some 29) (v := ?_) (a' := ?_) (fl_ 38 511) rfl rfl (y26 HT_.out HW_.out (by kernel_rfl)) (fun _ _ _ h => h) (Or.inl ⟨by rfl, ?_⟩) hHeld ?_ ?_
          rotate_left
          ·rintro w' ⟨s0,s1,s2,s3⟩
           go_simp
           with_reducible rfl
          rotate_left
          ·simp only [Act.put,qS_,qZ_,qC_,y21,y20]
           rfl
          refine y22 (i := 9) (N := some 30) (v := ?_) (a' := ?_) (fl_ 38 1023) rfl rfl (y2 HT_.out (by kernel_rfl)) (fun _ _ _ h => h) (Or.inl ⟨by rfl, ?_⟩) ?_ ?_
          rotate_left
          ·intro w'
           go_simp
           with_reducible rfl
          rotate_left
          ·simp only [Act.put,qS_,qZ_,qC_,y21,y20]
           rfl
          refine y22 (i := 10) (N := some 31) (v := ?_) (a' := ?_) (fl_ 38 2047) rfl rfl (y2 HT_.out (by kernel_rfl)) (fun _ _ _ h => h) (Or.inl ⟨by rfl, ?_⟩) ?_ ?_
          rotate_left
          ·intro w'
           go_simp
           with_reducible rfl
          rotate_left
          ·simp only [Act.put,qS_,qZ_,qC_,y21,y20]
           rfl
          refine y22 (i := 11) (N := some 32) (v := ?_) (a' := ?_) (fl_ 38 4095) rfl rfl (y2 HT_.out (by kernel_rfl)) (fun _ _ _ h => h) (Or.inl ⟨by rfl, ?_⟩) ?_ ?_
          rotate_left
          ·intro w'
           go_simp
           with_reducible rfl
          rotate_left
          ·simp only [Act.put,qS_,qZ_,qC_,y21,y20]
           rfl
          refine y22 (i := 13) (N := some 34) (v := ?_) (a' := ?_) (fl_ 38 12287) rfl rfl (y2 HT_.out (by kernel_rfl)) (fun _ _ _ h => h) (Or.inl ⟨by rfl, ?_⟩) ?_ ?_
          rotate_left
          ·intro w'
           go_simp
           with_reducible rfl
          rotate_left
          ·simp only [Act.put,qS_,qZ_,qC_,y21,y20]
           rfl
          refine take_ (i := 12) (N := some 33) (v := ?_) (a' := ?_) (fl_ 38 16383) rfl rfl (y26 HT_.out HW_.out (by kernel_rfl)) (fun _ _ _ h => h) (Or.inl ⟨by rfl, ?_⟩) hHeld ?_ ?_
          rotate_left
          ·rintro w' ⟨s0,s1,s2,s3⟩
           go_simp
           with_reducible rfl
          rotate_left
          ·simp only [Act.put,qS_,qZ_,qC_,y21,y20]
           rfl
          refine y22 (i := 14) (N := some 35) (v := ?_) (a' := ?_) (fl_ 38 32767) rfl rfl (y2 HT_.out (by kernel_rfl)) (fun _ _ _ h => h) (Or.inl ⟨by rfl, ?_⟩) ?_ ?_
          rotate_left
          ·intro w'
           go_simp
           with_reducible rfl
          rotate_left
          ·simp only [Act.put,qS_,qZ_,qC_,y21,y20]
           rfl
          refine take_ (i := 15) (N := some 36) (v := ?_) (a' := ?_) (fl_ 38 65535) rfl rfl (y26 HT_.out HW_.out (by kernel_rfl)) (fun _ _ _ h => h) (Or.inl ⟨by rfl, ?_⟩) hHeld ?_ ?_
          rotate_left
          ·rintro w' ⟨s0,s1,s2,s3⟩
           go_simp
           with_reducible rfl
          rotate_left
          ·simp only [Act.put,qS_,qZ_,qC_,y21,y20]
           rfl
          refine one_ (i := 16) (N := some 37) (fl_ 38 131071) rfl rfl (one_of HT_.out (by kernel_rfl)) (by decide) (fun K hK => ?_)
          refine goes_ Tryz.func56 (by kernel_rfl) rfl #[.agg #[.slice A214_0 ((y24 l0_1 x3_2).f0).length c214_0]] (by rfl) rfl rfl (by (try simp only [qM_,List.map_cons,List.map_nil]); first | done | rfl | (simp only [qD_,qT_]; rfl)) ?_
          with_reducible refine (spec_TupleOk.calls k2 _ _ ((y24 l0_1 x3_2).f0) false _ ?side1 ?side2 A12.out).mono ?_
          (case side1 => repeat (first | exact (Kd.C_below HR215_0.out HB.out) | (with_reducible refine Kd.C_alloc ?_ _) | (with_reducible refine Kd.C_drewN ?_ _) | (with_reducible refine Kd.C_drew ?_)))
          (case side2 => exact HC215_0.out)
          rintro e w33 ⟨rfl,hb⟩
          refine ⟨_,rfl, ?_⟩
          have n0_ := y0.mk (y9 (g := gb212) (o := .cells #[.int .i64 a0_0,.slice (some ad214) l0_1.length c0_1] 33 (0,0)) (by (with_reducible repeat (first | refine y12 ?_ _ | refine y11 ?_ | refine y8 ?_ _)); exact BK212.out) hb)
          have n1_ := y0.mk (y7 (by repeat (first | (with_reducible first | exact HB.out | apply y3 | apply y23 | apply y4 | refine y5 ?_ GE212.out) | exact HB.out)) hb)
          clear BK212
          clear HB
          have BK212 := n0_
          have HB := n1_
          clear n0_ n1_
          (try clear hb)
          (try clear hb2)
          (try clear hk)
          (try clear hi)
          refine hK.out _ _ ⟨(y10 BK212.out 0).trans rfl,(y10 BK212.out 1).trans rfl,((HB.out.cell (World.block_lt_of_cell? w _ hw214_0)).trans hw214_0),((HB.out.cell (World.block_lt_of_cell? w _ hw215_0)).trans hw215_0)⟩ (fun hHeld => ?_)
          clear hK K
          refine norm_ (a' := ?_) ?_ ?_
          rotate_left
          ·show Act.put _ (some 37) _ = _
           simp only [Act.put,qS_,qZ_,qC_,y21,y20]
           rfl
          refine y22 (i := 17) (N := some 38) (v := ?_) (a' := ?_) (fl_ 38 262143) rfl rfl (y2 HT_.out (by kernel_rfl)) (fun _ _ _ h => h) (Or.inl ⟨by rfl, ?_⟩) ?_ ?_
          rotate_left
          ·intro w'
           go_simp
           with_reducible rfl
          rotate_left
          ·simp only [Act.put,qS_,qZ_,qC_,y21,y20]
           rfl
          refine y22 (i := 18) (N := some 39) (v := ?_) (a' := ?_) (fl_ 38 524287) rfl rfl (y2 HT_.out (by kernel_rfl)) (fun _ _ _ h => h) (Or.inl ⟨by rfl, ?_⟩) ?_ ?_
          rotate_left
          ·intro w'
           go_simp
           with_reducible rfl
          rotate_left
          ·simp only [Act.put,qS_,qZ_,qC_,y21,y20]
           rfl
          refine y22 (i := 19) (N := some 40) (v := ?_) (a' := ?_) (fl_ 38 1048575) rfl rfl (y2 HT_.out (by kernel_rfl)) (fun _ _ _ h => h) (Or.inl ⟨by rfl, ?_⟩) ?_ ?_
          rotate_left
          ·intro w'
           go_simp
           with_reducible rfl
          rotate_left
          ·simp only [Act.put,qS_,qZ_,qC_,y21,y20]
           rfl
          refine y22 (i := 20) (N := some 41) (v := undef) (a' := ?_) (fl_ 38 2097151) rfl rfl (y2 HT_.out (by kernel_rfl)) (fun _ _ _ h => h) (Or.inr ⟨by rfl,rfl⟩) ?_ ?_
          rotate_left
          ·simp only [Act.put,qS_,qZ_,qC_,y21,y20]
           rfl
          refine y22 (i := 21) (N := some 42) (v := undef) (a' := ?_) (fl_ 38 4194303) rfl rfl (y2 HT_.out (by kernel_rfl)) (fun _ _ _ h => h) (Or.inr ⟨by rfl,rfl⟩) ?_ ?_
          rotate_left
          ·simp only [Act.put,qS_,qZ_,qC_,y21,y20]
           rfl
          refine y22 (i := 22) (N := some 43) (v := undef) (a' := ?_) (fl_ 38 8388607) rfl rfl (y2 HT_.out (by kernel_rfl)) (fun _ _ _ h => h) (Or.inr ⟨by rfl,rfl⟩) ?_ ?_
          rotate_left
          ·simp only [Act.put,qS_,qZ_,qC_,y21,y20]
           rfl
          refine y22 (i := 23) (N := some 44) (v := undef) (a' := ?_) (fl_ 38 16777215) rfl rfl (y2 HT_.out (by kernel_rfl)) (fun _ _ _ h => h) (Or.inr ⟨by rfl,rfl⟩) ?_ ?_
          rotate_left
          ·simp only [Act.put,qS_,qZ_,qC_,y21,y20]
           rfl
          refine y22 (i := 24) (N := some 45) (v := undef) (a' := ?_) (fl_ 38 33554431) rfl rfl (y2 HT_.out (by kernel_rfl)) (fun _ _ _ h => h) (Or.inr ⟨by rfl,rfl⟩) ?_ ?_
          rotate_left
          ·simp only [Act.put,qS_,qZ_,qC_,y21,y20]
           rfl
          refine y22 (i := 25) (N := some 46) (v := undef) (a' := ?_) (fl_ 38 67108863) rfl rfl (y2 HT_.out (by kernel_rfl)) (fun _ _ _ h => h) (Or.inr ⟨by rfl,rfl⟩) ?_ ?_
          rotate_left
          ·simp only [Act.put,qS_,qZ_,qC_,y21,y20]
           rfl
          refine y22 (i := 26) (N := some 47) (v := undef) (a' := ?_) (fl_ 38 134217727) rfl rfl (y2 HT_.out (by kernel_rfl)) (fun _ _ _ h => h) (Or.inr ⟨by rfl,rfl⟩) ?_ ?_
          rotate_left
          ·simp only [Act.put,qS_,qZ_,qC_,y21,y20]
           rfl
          refine y22 (i := 27) (N := some 48) (v := undef) (a' := ?_) (fl_ 38 268435455) rfl rfl (y2 HT_.out (by kernel_rfl)) (fun _ _ _ h => h) (Or.inr ⟨by rfl,rfl⟩) ?_ ?_
          rotate_left
          ·simp only [Act.put,qS_,qZ_,qC_,y21,y20]
           rfl
          refine y22 (i := 28) (N := some 49) (v := undef) (a' := ?_) (fl_ 38 536870911) rfl rfl (y2 HT_.out (by kernel_rfl)) (fun _ _ _ h => h) (Or.inr ⟨by rfl,rfl⟩) ?_ ?_
          rotate_left
          ·simp only [Act.put,qS_,qZ_,qC_,y21,y20]
           rfl
          refine y22 (i := 29) (N := some 50) (v := undef) (a' := ?_) (fl_ 38 1073741823) rfl rfl (y2 HT_.out (by kernel_rfl)) (fun _ _ _ h => h) (Or.inr ⟨by rfl,rfl⟩) ?_ ?_
          rotate_left
          ·simp only [Act.put,qS_,qZ_,qC_,y21,y20]
           rfl
          refine y22 (i := 30) (N := some 51) (v := undef) (a' := ?_) (fl_ 38 2147483647) rfl rfl (y2 HT_.out (by kernel_rfl)) (fun _ _ _ h => h) (Or.inr ⟨by rfl,rfl⟩) ?_ ?_
          rotate_left
          ·simp only [Act.put,qS_,qZ_,qC_,y21,y20]
           rfl
          refine y22 (i := 31) (N := some 52) (v := undef) (a' := ?_) (fl_ 38 4294967295) rfl rfl (y2 HT_.out (by kernel_rfl)) (fun _ _ _ h => h) (Or.inr ⟨by rfl,rfl⟩) ?_ ?_
          rotate_left
          ·simp only [Act.put,qS_,qZ_,qC_,y21,y20]
           rfl
          refine y22 (i := 32) (N := some 53) (v := undef) (a' := ?_) (fl_ 38 8589934591) rfl rfl (y2 HT_.out (by kernel_rfl)) (fun _ _ _ h => h) (Or.inr ⟨by rfl,rfl⟩) ?_ ?_
          rotate_left
          ·simp only [Act.put,qS_,qZ_,qC_,y21,y20]
           rfl
          refine y22 (i := 33) (N := some 54) (v := undef) (a' := ?_) (fl_ 38 17179869183) rfl rfl (y2 HT_.out (by kernel_rfl)) (fun _ _ _ h => h) (Or.inr ⟨by rfl,rfl⟩) ?_ ?_
          rotate_left
          ·simp only [Act.put,qS_,qZ_,qC_,y21,y20]
           rfl
          refine y22 (i := 34) (N := some 55) (v := undef) (a' := ?_) (fl_ 38 34359738367) rfl rfl (y2 HT_.out (by kernel_rfl)) (fun _ _ _ h => h) (Or.inr ⟨by rfl,rfl⟩) ?_ ?_
          rotate_left
          ·simp only [Act.put,qS_,qZ_,qC_,y21,y20]
           rfl
          refine y22 (i := 35) (N := some 56) (v := undef) (a' := ?_) (fl_ 38 68719476735) rfl rfl (y2 HT_.out (by kernel_rfl)) (fun _ _ _ h => h) (Or.inr ⟨by rfl,rfl⟩) ?_ ?_
          rotate_left
          ·simp only [Act.put,qS_,qZ_,qC_,y21,y20]
           rfl
          refine y22 (i := 36) (N := some 57) (v := undef) (a' := ?_) (fl_ 38 137438953471) rfl rfl (y2 HT_.out (by kernel_rfl)) (fun _ _ _ h => h) (Or.inr ⟨by rfl,rfl⟩) ?_ ?_
          rotate_left
          ·simp only [Act.put,qS_,qZ_,qC_,y21,y20]
           rfl
          refine y22 (i := 37) (N := some 58) (v := ?_) (a' := ?_) (fl_ 38 274877906943) rfl rfl (y2 HT_.out (by kernel_rfl)) (fun _ _ _ h => h) (Or.inl ⟨by rfl, ?_⟩) ?_ ?_
          rotate_left
          ·intro w'
           go_simp
           with_reducible rfl
          rotate_left
          ·simp only [Act.put,qS_,qZ_,qC_,y21,y20]
           rfl
          refine done_ (done_of HT_.out (by kernel_rfl)) ?_
          try go_wp2
          go_ret
          exact ⟨by first | rfl | (simp [y15,y16] <;> rfl) | (simp [*,y15,y16] <;> rfl),by repeat (first | (with_reducible first | exact HB.out | apply y3 | apply y23 | apply y4 | refine y5 ?_ GE212.out) | exact HB.out)⟩
        ·as_aux_lemma =>
         rw [if_neg c11] at H
         have c11b0 : ((((y24 l0_1 x3_2).f0).length : Int) == a0_0) = false := beq_eq_false_iff_ne.mpr c11
         have c11b1 : ((((y24 l0_1 x3_2).f0).length : Int) != a0_0) = true := bne_iff_ne.mpr c11
         obtain rfl := Option.some.inj H
         have hcz34_0 : wr.cell? ⟨gb212,0,none⟩ = some (.int .i64 a0_0) := (y10 BK212.out 0).trans rfl
         have hcz34_1 : wr.cell? ⟨gb212,1,none⟩ = some (.slice A0_1 l0_1.length c0_1) := (y10 BK212.out 1).trans rfl
         have hfz34_0 := y13 BK212.out 0
         have hfz34_1 := y13 BK212.out 1
         try go_wp2
         have n0_ := y0.mk (y11 BK212.out)
         have n1_ := y0.mk (y4 HB.out)
         clear BK212
         clear HB
         have BK212 := n0_
         have HB := n1_
         clear n0_ n1_
         have p214 : 0 ≤ (x3_2 : Int) := of_decide_eq_true (by first | (with_reducible assumption) | assumption)
         have q214 : x3_2 < (l0_1.length : Int) := of_decide_eq_true (by first | (with_reducible assumption) | assumption)
         obtain ⟨ad214,A214_0,c214_0,e214,hx214_0,hl214_0,hi214_0⟩ := at_T35 HR0_1.out x3_2 p214 q214
         have hw214_0 := hx214_0
         cases e214
         replace hx214_0 := (HB.out.cell (World.block_lt_of_cell? w _ hx214_0)).trans hx214_0
         have HR214_0 := y0.mk hi214_0
         have HC214_0 := y0.mk hl214_0
         clear hi214_0 hl214_0
         replace p214 := eq_true p214
         replace q214 := eq_true q214
         refine start_ (n := 38) (S := fun w' => w'.cell? ⟨gb212,0,none⟩ = some (.int .i64 a0_0) ∧ w'.cell? ⟨gb212,1,none⟩ = some (.slice (some ad214) l0_1.length c0_1) ∧ w'.cell? (ad214.add (x3_2).toNat) = some (.slice A214_0 ((y24 l0_1 x3_2).f0).length c214_0)) (ds := []) (fl_ 38 0) (by kernel_rfl) rfl rfl ⟨(y10 BK212.out 0).trans rfl,(y10 BK212.out 1).trans rfl,((HB.out.cell (World.block_lt_of_cell? w _ hw214_0)).trans hw214_0)⟩ (fun hHeld => ?_); refine with_tabW spec_RelOk.tab6 spec_RelOk.bits6 (fun HT_ HW_ => ?_)
         generalize wr.drew = w35 at BK212 HB HR214_0 hx214_0 hHeld ⊢
         refine y22 (i := 0) (N := some 21) (v := ?_) (a' := ?_) (fl_ 38 1) rfl rfl (y2 HT_.out (by kernel_rfl)) (fun _ _ _ h => h) (Or.inl ⟨by rfl, ?_⟩) ?_ ?_
         rotate_left
         ·intro w'
          go_simp
          with_reducible rfl
         rotate_left
         ·simp only [Act.put,qS_,qZ_,qC_,y21,y20]
          rfl
         refine y22 (i := 2) (N := some 23) (v := ?_) (a' := ?_) (fl_ 38 5) rfl rfl (y2 HT_.out (by kernel_rfl)) (fun _ _ _ h => h) (Or.inl ⟨by rfl, ?_⟩) ?_ ?_
         rotate_left
         ·intro w'
          go_simp
          with_reducible rfl
         rotate_left
         ·simp only [Act.put,qS_,qZ_,qC_,y21,y20]
          rfl
         refine y22 (i := 7) (N := some 28) (v := ?_) (a' := ?_) (fl_ 38 133) rfl rfl (y2 HT_.out (by kernel_rfl)) (fun _ _ _ h => h) (Or.inl ⟨by rfl, ?_⟩) ?_ ?_
         rotate_left
         ·intro w'
          go_simp
          with_reducible rfl
         rotate_left
         ·simp only [Act.put,qS_,qZ_,qC_,y21,y20]
          rfl
         refine take_ (i := 1) (N := some 22) (v := ?_) (a' := ?_) (fl_ 38 135) rfl rfl (y26 HT_.out HW_.out (by kernel_rfl)) (fun _ _ _ h => h) (Or.inl ⟨by rfl, ?_⟩) hHeld ?_ ?_
         rotate_left
         ·rintro w' ⟨s0,s1,s2⟩
          go_simp
          with_reducible rfl
         rotate_left
         ·simp only [Act.put,qS_,qZ_,qC_,y21,y20]
          rfl
         refine y22 (i := 3) (N := some 24) (v := ?_) (a' := ?_) (fl_ 38 143) rfl rfl (y2 HT_.out (by kernel_rfl)) (fun _ _ _ h => h) (Or.inl ⟨by rfl, ?_⟩) ?_ ?_
         rotate_left
         ·intro w'
          go_simp
          with_reducible rfl
         rotate_left
         ·simp only [Act.put,qS_,qZ_,qC_,y21,y20]
          rfl
         refine y22 (i := 4) (N := some 25) (v := ?_) (a' := ?_) (fl_ 38 159) rfl rfl (y2 HT_.out (by kernel_rfl)) (fun _ _ _ h => h) (Or.inl ⟨by rfl, ?_⟩) ?_ ?_
         rotate_left
         ·intro w'
          go_simp
          with_reducible rfl
         rotate_left
         ·simp only [Act.put,qS_,qZ_,qC_,y21,y20]
          rfl
         refine take_ (i := 5) (N := some 26) (v := ?_) (a' := ?_) (fl_ 38 191) rfl rfl (y26 HT_.out HW_.out (by kernel_rfl)) (fun _ _ _ h => h) (Or.inl ⟨by rfl, ?_⟩) hHeld ?_ ?_
         rotate_left
         ·rintro w' ⟨s0,s1,s2⟩
          go_simp
          with_reducible rfl
         rotate_left
         ·simp only [Act.put,qS_,qZ_,qC_,y21,y20]
          rfl
         refine y22 (i := 6) (N := some 27) (v := ?_) (a' := ?_) (fl_ 38 255) rfl rfl (y2 HT_.out (by kernel_rfl)) (fun _ _ _ h => h) (Or.inl ⟨by rfl, ?_⟩) ?_ ?_
         rotate_left
         ·intro w'
          go_simp
          with_reducible rfl
         rotate_left
         ·simp only [Act.put,qS_,qZ_,qC_,y21,y20]
          rfl
         refine take_ (i := 8) (N := some 29) (v := ?_) (a' := ?_) (fl_ 38 511) rfl rfl (y26 HT_.out HW_.out (by kernel_rfl)) (fun _ _ _ h => h) (Or.inl ⟨by rfl, ?_⟩) hHeld ?_ ?_
         rotate_left
         ·rintro w' ⟨s0,s1,s2⟩
          go_simp
          with_reducible rfl
         rotate_left
         ·simp only [Act.put,qS_,qZ_,qC_,y21,y20]
          rfl
         refine y22 (i := 9) (N := some 30) (v := ?_) (a' := ?_) (fl_ 38 1023) rfl rfl (y2 HT_.out (by kernel_rfl)) (fun _ _ _ h => h) (Or.inl ⟨by rfl, ?_⟩) ?_ ?_
         rotate_left
         ·intro w'
          go_simp
          with_reducible rfl
         rotate_left
         ·simp only [Act.put,qS_,qZ_,qC_,y21,y20]
          rfl
         refine y22 (i := 10) (N := some 31) (v := ?_) (a' := ?_) (fl_ 38 2047) rfl rfl (y2 HT_.out (by kernel_rfl)) (fun _ _ _ h => h) (Or.inl ⟨by rfl, ?_⟩) ?_ ?_
         rotate_left
         ·intro w'
          go_simp
          with_reducible rfl
         rotate_left
         ·simp only [Act.put,qS_,qZ_,qC_,y21,y20]
          rfl
         refine y22 (i := 11) (N := some 32) (v := undef) (a' := ?_) (fl_ 38 4095) rfl rfl (y2 HT_.out (by kernel_rfl)) (fun _ _ _ h => h) (Or.inr ⟨by rfl,rfl⟩) ?_ ?_
         rotate_left
         ·simp only [Act.put,qS_,qZ_,qC_,y21,y20]
          rfl
         refine y22 (i := 12) (N := some 33) (v := undef) (a' := ?_) (fl_ 38 8191) rfl rfl (y2 HT_.out (by kernel_rfl)) (fun _ _ _ h => h) (Or.inr ⟨by rfl,rfl⟩) ?_ ?_
         rotate_left
         ·simp only [Act.put,qS_,qZ_,qC_,y21,y20]
          rfl
         refine y22 (i := 13) (N := some 34) (v := undef) (a' := ?_) (fl_ 38 16383) rfl rfl (y2 HT_.out (by kernel_rfl)) (fun _ _ _ h => h) (Or.inr ⟨by rfl,rfl⟩) ?_ ?_
         rotate_left
         ·simp only [Act.put,qS_,qZ_,qC_,y21,y20]
          rfl
         refine y22 (i := 14) (N := some 35) (v := undef) (a' := ?_) (fl_ 38 32767) rfl rfl (y2 HT_.out (by kernel_rfl)) (fun _ _ _ h => h) (Or.inr ⟨by rfl,rfl⟩) ?_ ?_
         rotate_left
         ·simp only [Act.put,qS_,qZ_,qC_,y21,y20]
          rfl
         refine y22 (i := 15) (N := some 36) (v := undef) (a' := ?_) (fl_ 38 65535) rfl rfl (y2 HT_.out (by kernel_rfl)) (fun _ _ _ h => h) (Or.inr ⟨by rfl,rfl⟩) ?_ ?_
         rotate_left
         ·simp only [Act.put,qS_,qZ_,qC_,y21,y20]
          rfl
         refine y22 (i := 16) (N := some 37) (v := undef) (a' := ?_) (fl_ 38 131071) rfl rfl (y2 HT_.out (by kernel_rfl)) (fun _ _ _ h => h) (Or.inr ⟨by rfl,rfl⟩) ?_ ?_
         rotate_left
         ·simp only [Act.put,qS_,qZ_,qC_,y21,y20]
          rfl
         refine y22 (i := 17) (N := some 38) (v := undef) (a' := ?_) (fl_ 38 262143) rfl rfl (y2 HT_.out (by kernel_rfl)) (fun _ _ _ h => h) (Or.inr ⟨by rfl,rfl⟩) ?_ ?_
         rotate_left
         ·simp only [Act.put,qS_,qZ_,qC_,y21,y20]
          rfl
         refine y22 (i := 18) (N := some 39) (v := ?_) (a' := ?_) (fl_ 38 524287) rfl rfl (y2 HT_.out (by kernel_rfl)) (fun _ _ _ h => h) (Or.inl ⟨by rfl, ?_⟩) ?_ ?_
         rotate_left
         ·intro w'
          go_simp
          with_reducible rfl
         rotate_left
         ·simp only [Act.put,qS_,qZ_,qC_,y21,y20]
          rfl
         refine y22 (i := 19) (N := some 40) (v := ?_) (a' := ?_) (fl_ 38 1048575) rfl rfl (y2 HT_.out (by kernel_rfl)) (fun _ _ _ h => h) (Or.inl ⟨by rfl, ?_⟩) ?_ ?_
         rotate_left
         ·intro w'
          go_simp
          with_reducible rfl
         rotate_left
         ·simp only [Act.put,qS_,qZ_,qC_,y21,y20]
          rfl
         refine y22 (i := 20) (N := some 41) (v := undef) (a' := ?_) (fl_ 38 2097151) rfl rfl (y2 HT_.out (by kernel_rfl)) (fun _ _ _ h => h) (Or.inr ⟨by rfl,rfl⟩) ?_ ?_
         rotate_left
         ·simp only [Act.put,qS_,qZ_,qC_,y21,y20]
          rfl
         refine y22 (i := 21) (N := some 42) (v := undef) (a' := ?_) (fl_ 38 4194303) rfl rfl (y2 HT_.out (by kernel_rfl)) (fun _ _ _ h => h) (Or.inr ⟨by rfl,rfl⟩) ?_ ?_
         rotate_left
         ·simp only [Act.put,qS_,qZ_,qC_,y21,y20]
          rfl
         refine y22 (i := 22) (N := some 43) (v := undef) (a' := ?_) (fl_ 38 8388607) rfl rfl (y2 HT_.out (by kernel_rfl)) (fun _ _ _ h => h) (Or.inr ⟨by rfl,rfl⟩) ?_ ?_
         rotate_left
         ·simp only [Act.put,qS_,qZ_,qC_,y21,y20]
          rfl
         refine y22 (i := 23) (N := some 44) (v := undef) (a' := ?_) (fl_ 38 16777215) rfl rfl (y2 HT_.out (by kernel_rfl)) (fun _ _ _ h => h) (Or.inr ⟨by rfl,rfl⟩) ?_ ?_
         rotate_left
         ·simp only [Act.put,qS_,qZ_,qC_,y21,y20]
          rfl
         refine y22 (i := 24) (N := some 45) (v := undef) (a' := ?_) (fl_ 38 33554431) rfl rfl (y2 HT_.out (by kernel_rfl)) (fun _ _ _ h => h) (Or.inr ⟨by rfl,rfl⟩) ?_ ?_
         rotate_left
         ·simp only [Act.put,qS_,qZ_,qC_,y21,y20]
          rfl
         refine y22 (i := 25) (N := some 46) (v := undef) (a' := ?_) (fl_ 38 67108863) rfl rfl (y2 HT_.out (by kernel_rfl)) (fun _ _ _ h => h) (Or.inr ⟨by rfl,rfl⟩) ?_ ?_
         rotate_left
         ·simp only [Act.put,qS_,qZ_,qC_,y21,y20]
          rfl
         refine y22 (i := 26) (N := some 47) (v := undef) (a' := ?_) (fl_ 38 134217727) rfl rfl (y2 HT_.out (by kernel_rfl)) (fun _ _ _ h => h) (Or.inr ⟨by rfl,rfl⟩) ?_ ?_
         rotate_left
         ·simp only [Act.put,qS_,qZ_,qC_,y21,y20]
          rfl
         refine y22 (i := 27) (N := some 48) (v := undef) (a' := ?_) (fl_ 38 268435455) rfl rfl (y2 HT_.out (by kernel_rfl)) (fun _ _ _ h => h) (Or.inr ⟨by rfl,rfl⟩) ?_ ?_
         rotate_left
         ·simp only [Act.put,qS_,qZ_,qC_,y21,y20]
          rfl
         refine y22 (i := 28) (N := some 49) (v := undef) (a' := ?_) (fl_ 38 536870911) rfl rfl (y2 HT_.out (by kernel_rfl)) (fun _ _ _ h => h) (Or.inr ⟨by rfl,rfl⟩) ?_ ?_
         rotate_left
         ·simp only [Act.put,qS_,qZ_,qC_,y21,y20]
          rfl
         refine y22 (i := 29) (N := some 50) (v := undef) (a' := ?_) (fl_ 38 1073741823) rfl rfl (y2 HT_.out (by kernel_rfl)) (fun _ _ _ h => h) (Or.inr ⟨by rfl,rfl⟩) ?_ ?_
         rotate_left
         ·simp only [Act.put,qS_,qZ_,qC_,y21,y20]
          rfl
         refine y22 (i := 30) (N := some 51) (v := undef) (a' := ?_) (fl_ 38 2147483647) rfl rfl (y2 HT_.out (by kernel_rfl)) (fun _ _ _ h => h) (Or.inr ⟨by rfl,rfl⟩) ?_ ?_
         rotate_left
         ·simp only [Act.put,qS_,qZ_,qC_,y21,y20]
          rfl
         refine y22 (i := 31) (N := some 52) (v := undef) (a' := ?_) (fl_ 38 4294967295) rfl rfl (y2 HT_.out (by kernel_rfl)) (fun _ _ _ h => h) (Or.inr ⟨by rfl,rfl⟩) ?_ ?_
         rotate_left
         ·simp only [Act.put,qS_,qZ_,qC_,y21,y20]
          rfl
         refine y22 (i := 32) (N := some 53) (v := undef) (a' := ?_) (fl_ 38 8589934591) rfl rfl (y2 HT_.out (by kernel_rfl)) (fun _ _ _ h => h) (Or.inr ⟨by rfl,rfl⟩) ?_ ?_
         rotate_left
         ·simp only [Act.put,qS_,qZ_,qC_,y21,y20]
          rfl
         refine y22 (i := 33) (N := some 54) (v := undef) (a' := ?_) (fl_ 38 17179869183) rfl rfl (y2 HT_.out (by kernel_rfl)) (fun _ _ _ h => h) (Or.inr ⟨by rfl,rfl⟩) ?_ ?_
         rotate_left
         ·simp only [Act.put,qS_,qZ_,qC_,y21,y20]
          rfl
         refine y22 (i := 34) (N := some 55) (v := undef) (a' := ?_) (fl_ 38 34359738367) rfl rfl (y2 HT_.out (by kernel_rfl)) (fun _ _ _ h => h) (Or.inr ⟨by rfl,rfl⟩) ?_ ?_
         rotate_left
         ·simp only [Act.put,qS_,qZ_,qC_,y21,y20]
          rfl
         refine y22 (i := 35) (N := some 56) (v := undef) (a' := ?_) (fl_ 38 68719476735) rfl rfl (y2 HT_.out (by kernel_rfl)) (fun _ _ _ h => h) (Or.inr ⟨by rfl,rfl⟩) ?_ ?_
         rotate_left
         ·simp only [Act.put,qS_,qZ_,qC_,y21,y20]
          rfl
         refine y22 (i := 36) (N := some 57) (v := undef) (a' := ?_) (fl_ 38 137438953471) rfl rfl (y2 HT_.out (by kernel_rfl)) (fun _ _ _ h => h) (Or.inr ⟨by rfl,rfl⟩) ?_ ?_
         rotate_left
         ·simp only [Act.put,qS_,qZ_,qC_,y21,y20]
          rfl
         refine y22 (i := 37) (N := some 58) (v := ?_) (a' := ?_) (fl_ 38 274877906943) rfl rfl (y2 HT_.out (by kernel_rfl)) (fun _ _ _ h => h) (Or.inl ⟨by rfl, ?_⟩) ?_ ?_
         rotate_left
         ·intro w'
          go_simp
          with_reducible rfl
         rotate_left
         ·simp only [Act.put,qS_,qZ_,qC_,y21,y20]
          rfl
         refine done_ (done_of HT_.out (by kernel_rfl)) ?_
         try go_wp2
         go_ret
         exact ⟨by first | rfl | (simp [y15,y16] <;> rfl) | (simp [*,y15,y16] <;> rfl),by repeat (first | (with_reducible first | exact HB.out | apply y3 | apply y23 | apply y4 | refine y5 ?_ GE212.out) | exact HB.out)⟩
       ·as_aux_lemma =>
        rw [if_neg c10] at H
        exact absurd H (by simp)
      ·as_aux_lemma =>
       rw [if_neg c9] at H
       have c9b0 : decide (x3_2 < (l0_1.length : Int)) = false := decide_eq_false c9
       clear c9
       obtain rfl := Option.some.inj H
       have hcz36_0 : wr.cell? ⟨gb212,0,none⟩ = some (.int .i64 a0_0) := (y10 BK212.out 0).trans rfl
       have hcz36_1 : wr.cell? ⟨gb212,1,none⟩ = some (.slice A0_1 l0_1.length c0_1) := (y10 BK212.out 1).trans rfl
       have hfz36_0 := y13 BK212.out 0
       have hfz36_1 := y13 BK212.out 1
       go_wp2
       go_ret
       exact ⟨by first | rfl | (simp [y15,y16] <;> rfl) | (simp [*,y15,y16] <;> rfl),by repeat (first | (with_reducible first | exact HB.out | apply y3 | apply y23 | apply y4 | refine y5 ?_ GE212.out) | exact HB.out)⟩
end Go.Proofs.YtebadckdihgklaaGreatDoor.Ph

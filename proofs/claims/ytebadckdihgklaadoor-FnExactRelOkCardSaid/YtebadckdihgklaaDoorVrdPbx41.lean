-- Cut by prune.py, a program of this session, out of the texts of this claim: Lean checks it.
import Derived.Test.YtebadckdihgklaaDoorVrdPbx0
import Derived.Test.YtebadckdihgklaaDoorVrdPbx39
import Derived.Test.YtebadckdihgklaaDoorVrdPbx26
section
namespace Go.Proofs.YtebadckdihgklaaDoor.Pb
open Go.RowKit Go.Proofs.YtebadckdihgklaaDoorW.PrintWords Go.Proofs.YtebadckdihgklaaDoorW.PrintLast Go.Proofs.YtebadckdihgklaaDoorW.PrintMore
attribute [local go_sem] max2_int min2_int max_two min_two max_three min_three max_four min_four   -- for this text's walks alone
set_option linter.unusedVariables false
set_option linter.unusedSimpArgs false
mutual
def impl_isRel.j0 : Nat → Bool → Int → List (S36) → Option (Bool)
 | 0,_,_,_ => none
 | k + 1,x14,x857000,x857001 => if x14 = true then (some false) else (impl_isRel.l0 k x857001 (x857001.length : Int) 0 x857000 x857001)
def impl_isRel.l0 : Nat → List (S36) → Int → Int → Int → List (S36) → Option (Bool)
 | 0,_,_,_,_,_ => none
 | k + 1,x16,x17,x18,x857000,x857001 => if x18 < x17 then (if 0 ≤ x18 then (if x18 < (x16.length : Int) then ((impl_isTuple.f k ((y14 x16 x18).f0)).bind fun t860 => (if t860 = true then (if (((y14 x16 x18).f0).length : Int) = x857000 then (if x18 > 0 then (if 0 ≤ (wrap64 (x18 - 1)) then (if (wrap64 (x18 - 1)) < (x857001.length : Int) then ((impl_compareTuples.f k ((y14 x857001 (wrap64 (x18 - 1))).f0) ((y14 x16 x18).f0)).bind fun t862 => (if t862 ≥ 0 then (some false) else (impl_isRel.l0 k x16 x17 (wrap64 (x18 + 1)) x857000 x857001))) else (none)) else (none)) else (impl_isRel.l0 k x16 x17 (wrap64 (x18 + 1)) x857000 x857001)) else (some false)) else (some false))) else (none)) else (none)) else (some true)
end
def impl_isRel.f (k : Nat) (a0_0 : Int) (l0_1 : List (S36)) : Option (Bool) := (impl_in.f a0_0 0 6).bind fun t857 => (if t857 = true then (impl_isRel.j0 k (decide ((l0_1.length : Int) > 400)) a0_0 l0_1) else (impl_isRel.j0 k true a0_0 l0_1))
def impl_isRel.T6 : Bool × List (List Nat × List Nat) := (true,[([],[]),([0],[0]),([1],[1]),([2,1],[2]),([3],[3]),([4,3],[3,4]),([5,3],[3,5]),([3],[3]),([7,3],[3,7]),([6,8,3],[3,6,8]),([3,9],[3,9]),([10,3],[10]),([11],[11]),([12,11],[11,12]),([13,11,11],[11,13]),([14],[14]),([15,14],[14,15]),([14],[14]),([17,14],[14,17]),([16,18,14],[14,16,18]),([19,14],[14,19]),([14],[14]),([20,21,14,14],[14,20,21]),([22,14],[14,22]),([14,23,11],[11,14,23]),([11,24],[11,24])])
def impl_isRel.B6 : List Nat := [0,1,3,7,15,31,63,15,143,511,1023,2047,4095,8191,16383,32767,65535,32767,163839,524287,1048575,32767,4194303,8388607,16777215,33554431]
theorem impl_isRel.tab6 : rtab .any (opsOf Tryd.f98 6) = impl_isRel.T6 := by kernel_rfl
theorem impl_isRel.bits6 : waitsOk impl_isRel.T6.2 impl_isRel.B6 = true := by kernel_rfl
set_option maxHeartbeats 8000000 in
set_option maxRecDepth 100000 in
theorem impl_isRel.calls (k : Nat) (a0_0 : Int) (A0_1 : Option Addr) (c0_1 : Nat) (l0_1 : List (S36)) (r : Bool) (w : World) (hr0_1 : Kd.C k36 w A0_1 l0_1.length l0_1) (hc0_1 : l0_1.length ≤ c0_1) (hT : Tb w) (h : impl_isRel.f k a0_0 l0_1 = some r) :
  Calls Tryd.prog 98 #[.agg #[.int .i64 a0_0,.slice A0_1 l0_1.length c0_1]] w fun e w' => e = .returned (.bool r) ∧ Below w.heap.size w w' := by
 have hu70 := Tryd.underlying70
 have hu36 := Tryd.underlying36
 have HT := y0.mk hT
 clear hT
 have HR0_1 := y0.mk hr0_1
 have HC0_1 := y0.mk hc0_1
 clear hr0_1 hc0_1
 have HB := y0.mk (Below.refl w.heap.size w)
 have H : ((impl_in.f a0_0 0 6).bind fun t857 => (if t857 = true then (impl_isRel.j0 k (decide ((l0_1.length : Int) > 400)) a0_0 l0_1) else (impl_isRel.j0 k true a0_0 l0_1))) = some r := h
 clear h
 have HC2 := y0.mk H
 clear H
 go_enter Tryd.func98,Tryd.ntmps98
 go_upto_region 1 with (first | ((with_reducible refine gate_dst (N := 1) rfl ?_); (try (refine gate_guard (by rfl) ?_; dsimp only)); refine qe 1 #[.int .i64 a0_0,.slice A0_1 l0_1.length c0_1] 70 ?_; intro gb856 hg w3 hbox hb; have BK856 := y0.mk (hbox); have GW856 := y0.mk (qg (w := w) hg); have GE856 := y0.mk (qg (w := w) hg); replace HB := y0.mk (y5 qb hb); clear hb hbox hg))
 (try simp only [Act.put,qS_,qZ_,qC_])
 go_cut [14] (fun v14 wc => ∃ (kq : Nat) (x14_1 : Bool),v14 = .bool x14_1 ∧ y0 (impl_isRel.j0 kq x14_1 a0_0 l0_1 = some r) ∧ y0 (kq ≤ k) ∧ y0 (wc.heap[gb856]? = some (.cells #[.int .i64 a0_0,(.slice A0_1 l0_1.length c0_1)] 70 (0,0))) ∧ y0 (Below w.heap.size w wc))
 case first =>
  have H := HC2.out
  clear HC2
  obtain ⟨t857,A4,H⟩ := qB H
  by_cases c5 : t857 = true
  ·subst c5
   replace H := qT H
   have H' := y0.mk H
   clear H
   obtain ⟨hcz6_0,hcz6_1,hfz6_0,hfz6_1⟩ := qz2 BK856.out
   go_wp2_with (first | ((with_reducible refine y10 (f := 67) rfl ?_); refine y11 (some 7) rfl rfl Tryd.func67 (by kernel_rfl) rfl #[.int .i64 a0_0,.int .i64 0,.int .i64 6] rfl qy0 ?_; (with_reducible refine (impl_in.calls a0_0 0 6 true _ A4.out).mono ?_); rintro e w' ⟨rfl,⟨nd,rfl⟩⟩; refine ⟨_,rfl, ?_⟩))
   go_meet
   exact ⟨_,(decide ((l0_1.length : Int) > 400)),qy2,H',⟨by first | omega | exact Nat.le_refl _⟩,⟨qk BK856.out⟩,⟨qb⟩⟩
  ·replace c5 := Bool.eq_false_iff.mpr c5
   subst c5
   replace H := qF H
   have H' := y0.mk H
   clear H
   obtain ⟨hcz7_0,hcz7_1,hfz7_0,hfz7_1⟩ := qz2 BK856.out
   go_wp2_with (first | ((with_reducible refine y10 (f := 67) rfl ?_); refine y11 (some 7) rfl rfl Tryd.func67 (by kernel_rfl) rfl #[.int .i64 a0_0,.int .i64 0,.int .i64 6] rfl qy0 ?_; (with_reducible refine (impl_in.calls a0_0 0 6 false _ A4.out).mono ?_); rintro e w' ⟨rfl,⟨nd,rfl⟩⟩; refine ⟨_,rfl, ?_⟩))
   go_meet
   exact ⟨_,(true),qy2,H',⟨by first | omega | exact Nat.le_refl _⟩,⟨qk BK856.out⟩,⟨qb⟩⟩
 case rest =>
  clear HC2
  obtain ⟨kq,x14_1,rfl,HA,HJ1,BK856,HB⟩ := hcut
  cases kq with
  | zero => exact absurd HA.out (by simp [impl_isRel.j0])
  | succ kj1 =>
   have H := HA.out
   clear HA
   simp only [impl_isRel.j0] at H
   by_cases c8 : x14_1 = true
   ·subst c8
    replace H := qT H
    obtain rfl := Option.some.inj H
    go_wp2
    go_ret
    exact ⟨by first | rfl | (simp [y8,y9] <;> rfl) | (simp [*,y8,y9] <;> rfl),qb⟩
   ·replace c8 := Bool.eq_false_iff.mpr c8
    subst c8
    replace H := qF H
    have H' := y0.mk H
    clear H
    obtain ⟨hcz9_0,hcz9_1,hfz9_0,hfz9_1⟩ := qz2 BK856.out
    go_wp2
    go_loopg [18] kj1 (fun kq v18 w' => ∃ (x18_2 : Int),v18 = .int .i64 x18_2 ∧ y0 (impl_isRel.l0 kq l0_1 (l0_1.length : Int) x18_2 a0_0 l0_1 = some r) ∧ y0 (kq ≤ kj1) ∧ y0 (w'.heap[gb856]? = some (.cells #[.int .i64 a0_0,(.slice A0_1 l0_1.length c0_1)] 70 (0,0))) ∧ y0 (Below w.heap.size w w'))
    case atStart => exact ⟨(0),qy2,H',⟨Nat.le_refl _⟩,⟨qk BK856.out⟩,⟨qb⟩⟩
    case round =>
     clear H'
     (try clear c8 hcz9_0 hcz9_1 hfz9_0 hfz9_1)
     obtain ⟨x18_2,rfl,HA,HK2,BK856,HB⟩ := hrel
     cases gk with
     | zero => exact absurd HA.out (by simp [impl_isRel.l0])
     | succ k2 =>
      have H := HA.out
      clear HA
      simp only [impl_isRel.l0] at H
      by_cases c10 : x18_2 < (l0_1.length : Int)
      ·as_aux_lemma =>
       rw [if_pos c10] at H
       have c10b0 := decide_eq_true c10
       clear c10
       obtain ⟨c11,H⟩ := qo H
       have c11b0 : decide (0 ≤ x18_2) = true := decide_eq_true c11
       clear c11
       obtain ⟨c12,H⟩ := qo H
       have c12b0 : decide (x18_2 < (l0_1.length : Int)) = true := decide_eq_true c12
       clear c12
       obtain ⟨t860,A13,H⟩ := qB H
       by_cases c14 : t860 = true
       ·subst c14
        replace H := qT H
        by_cases c15 : (((y14 l0_1 x18_2).f0).length : Int) = a0_0
        ·as_aux_lemma =>
         rw [if_pos c15] at H
         have c15b0 : ((((y14 l0_1 x18_2).f0).length : Int) == a0_0) = true := beq_iff_eq.mpr c15
         have c15b1 : ((((y14 l0_1 x18_2).f0).length : Int) != a0_0) = false := bne_eq_false_iff_eq.mpr c15
         clear c15
         by_cases c16 : x18_2 > 0
         ·as_aux_lemma =>
          rw [if_pos c16] at H
          have c16b0 : decide (0 < x18_2) = true := decide_eq_true c16
          clear c16
          obtain ⟨ji17,hji17⟩ : ∃ j_ : Int,(wrap64 (x18_2 - 1)) = j_ := ⟨_,rfl⟩
          replace H : (if 0 ≤ (ji17) then (if (ji17) < (l0_1.length : Int) then ((impl_compareTuples.f k2 ((y14 l0_1 (ji17)).f0) ((y14 l0_1 x18_2).f0)).bind fun t862 => (if t862 ≥ 0 then (some false) else (impl_isRel.l0 k2 l0_1 (l0_1.length : Int) (wrap64 (x18_2 + 1)) a0_0 l0_1))) else (none)) else (none)) = some r := by first | (rw [hji17] at H; exact H) | (simp only [hji17] at H ⊢; exact H)
          (try rw [hji17] at A13)
          have hji17w : (IntKind.i64.wrap (x18_2 - 1)) = ji17 := (y13 _).trans hji17
          obtain ⟨c18,H⟩ := qo H
          have c18b0 : decide (0 ≤ (ji17)) = true := decide_eq_true c18
          clear c18
          obtain ⟨c19,H⟩ := qo H
          have c19b0 : decide ((ji17) < (l0_1.length : Int)) = true := decide_eq_true c19
          clear c19
          obtain ⟨t862,A20,H⟩ := qB H
          by_cases c21 : t862 ≥ 0
          ·as_aux_lemma =>
           rw [if_pos c21] at H
           have c21b0 : decide (0 ≤ t862) = true := decide_eq_true c21
           clear c21
           obtain rfl := Option.some.inj H
           have p858 : 0 ≤ (x18_2 : Int) := of_decide_eq_true qy1
           have q858 : x18_2 < (l0_1.length : Int) := of_decide_eq_true qy1
           obtain ⟨ad858,A858_0,c858_0,e858,hx858_0,hl858_0,hi858_0⟩ := at_T36 HR0_1.out x18_2 p858 q858
           cases e858
           replace hx858_0 := (HB.out.cell (World.block_lt_of_cell? w _ hx858_0)).trans hx858_0
           have HR858_0 := y0.mk hi858_0
           have HC858_0 := y0.mk hl858_0
           clear hi858_0 hl858_0
           replace p858 := eq_true p858
           replace q858 := eq_true q858
           try go_wp2_with (first | ((with_reducible refine gate_dst (N := 4) rfl ?_); (try (refine gate_guard (by rfl) ?_; dsimp only)); refine qe 4 #[.slice none 0 0] 36 ?_; intro gb859 hg w22 hbox hb; have BK859 := y0.mk (hbox); have GW859 := y0.mk (qg (w := w) hg); have GE859 := y0.mk (qg (w := w) hg); replace HB := y0.mk (y5 qb hb); have NB856_859 := y0.mk (qn BK856.out hg); have NB859_856 := y0.mk (qm BK856.out hg); replace BK856 := y0.mk (qK BK856.out hb); clear hb hbox hg; have hnb23 := NB859_856.out; have hnc23 := NB856_859.out; obtain ⟨hcz24_0,hfz24_0⟩ := qz1 BK859.out))
           have n0_ : y0 ((w22.setCell ⟨gb859,0,none⟩ (.slice A858_0 ((y14 l0_1 x18_2).f0).length c858_0)).heap[gb856]? = some (.cells #[.int .i64 a0_0,.slice (some ad858) l0_1.length c0_1] 70 (0,0))) := ⟨by (with_reducible repeat (first | refine blk_drewN ?_ _ | refine y7 ?_ | refine blk_alloc ?_ _)); refine blk_far ?_ NB856_859.out _; (with_reducible repeat (first | refine blk_drewN ?_ _ | refine y7 ?_ | refine blk_alloc ?_ _)); exact BK856.out⟩
           have n1_ : y0 ((w22.setCell ⟨gb859,0,none⟩ (.slice A858_0 ((y14 l0_1 x18_2).f0).length c858_0)).heap[gb859]? = some (.cells #[.slice A858_0 ((y14 l0_1 x18_2).f0).length c858_0] 36 (0,0))) := ⟨by (with_reducible repeat (first | refine blk_drewN ?_ _ | refine y7 ?_ | refine blk_alloc ?_ _)); refine blk_put (cs := #[.slice none 0 0]) ?_ 0 _ rfl; (with_reducible repeat (first | refine blk_drewN ?_ _ | refine y7 ?_ | refine blk_alloc ?_ _)); exact BK859.out⟩
           have n2_ : y0 (Below w.heap.size w (w22.setCell ⟨gb859,0,none⟩ (.slice A858_0 ((y14 l0_1 x18_2).f0).length c858_0))) := ⟨qb⟩
           (try clear BK856)
           (try clear BK859)
           (try clear HB)
           generalize (w22.setCell ⟨gb859,0,none⟩ (.slice A858_0 ((y14 l0_1 x18_2).f0).length c858_0)) = w25 at n0_ n1_ n2_ ⊢
           have BK856 := n0_
           have BK859 := n1_
           have HB := n2_
           clear n0_ n1_ n2_
           replace BK856 := y0.mk (y7 BK856.out)
           replace BK859 := y0.mk (y7 BK859.out)
           replace HB := y0.mk (y3 HB.out)
           have p861 : 0 ≤ ((ji17) : Int) := of_decide_eq_true qy1
           have q861 : (ji17) < (l0_1.length : Int) := of_decide_eq_true qy1
           obtain ⟨ad861,A861_0,c861_0,e861,hx861_0,hl861_0,hi861_0⟩ := at_T36 HR0_1.out (ji17) p861 q861
           have hw861_0 := hx861_0
           obtain rfl : ad858 = ad861 := (by injection e861)
           replace hx861_0 := (HB.out.cell (World.block_lt_of_cell? w _ hx861_0)).trans hx861_0
           have HR861_0 := y0.mk hi861_0
           have HC861_0 := y0.mk hl861_0
           clear hi861_0 hl861_0
           replace p861 := eq_true p861
           replace q861 := eq_true q861
           refine start_ (n := 26) (S := fun w' => w'.cell? ⟨gb859,0,none⟩ = some (.slice A858_0 ((y14 l0_1 x18_2).f0).length c858_0) ∧ w'.cell? ⟨gb856,0,none⟩ = some (.int .i64 a0_0) ∧ w'.cell? ⟨gb856,1,none⟩ = some (.slice (some ad858) l0_1.length c0_1) ∧ w'.cell? (ad858.add ((ji17)).toNat) = some (.slice A861_0 ((y14 l0_1 (ji17)).f0).length c861_0)) (ds := []) (fl_ 26 0) (by kernel_rfl) rfl rfl ⟨(y6 BK859.out 0).trans rfl,(y6 BK856.out 0).trans rfl,(y6 BK856.out 1).trans rfl,((HB.out.cell (World.block_lt_of_cell? w _ hw861_0)).trans hw861_0)⟩ (fun hHeld => ?_); refine with_tabW impl_isRel.tab6 impl_isRel.bits6 (fun HT_ HW_ => ?_)
           generalize w25.drew = w26 at BK856 BK859 HB HR861_0 hx861_0 hHeld ⊢
           refine qt 0 23 (fl_ 26 1) hHeld ?_
           refine one_ (i := 1) (N := some 24) (fl_ 26 3) rfl rfl (one_of HT_.out (by kernel_rfl)) (by decide) (fun K hK => ?_)
           refine goes_ Tryd.func76 (by kernel_rfl) rfl #[.agg #[.slice A858_0 ((y14 l0_1 x18_2).f0).length c858_0]] (by rfl) rfl rfl qy0 ?_
           with_reducible refine (impl_isTuple.calls k2 _ _ ((y14 l0_1 x18_2).f0) true _ (qc (Kd.C_below HR858_0.out HB.out)) HC858_0.out (by exact Tb.below HT.out qb) A13.out).mono ?_
           rintro e w27 ⟨rfl,hb⟩
           refine ⟨_,rfl, ?_⟩
           replace BK856 := y0.mk (qK BK856.out hb)
           replace BK859 := y0.mk (qK BK859.out hb)
           replace HB := y0.mk (y5 qb hb)
           (try clear hb)
           (try clear hb2)
           (try clear hk)
           (try clear hi)
           refine hK.out _ _ ⟨(y6 BK859.out 0).trans rfl,(y6 BK856.out 0).trans rfl,(y6 BK856.out 1).trans rfl,((HB.out.cell (World.block_lt_of_cell? w _ hw861_0)).trans hw861_0)⟩ (fun hHeld => ?_)
           clear hK K
           refine norm_ (a' := ?_) ?_ ?_
           rotate_left
           ·show Act.put _ (some 24) _ = _
            simp only [Act.put,qS_,qZ_,qC_,y13,y12]
            rfl
           refine qp 2 25 (fl_ 26 7) ?_
           refine qp 3 26 (fl_ 26 15) ?_
           refine qp 4 27 (fl_ 26 31) ?_
           refine qp 7 30 (fl_ 26 159) ?_
           refine qt 5 28 (fl_ 26 191) hHeld ?_
           refine qp 6 29 (fl_ 26 255) ?_
           refine qt 8 31 (fl_ 26 511) hHeld ?_
           refine qp 9 32 (fl_ 26 1023) ?_
           refine qp 10 33 (fl_ 26 2047) ?_
           refine qp 11 34 (fl_ 26 4095) ?_
           refine qp 12 35 (fl_ 26 8191) ?_
           refine qp 13 36 (fl_ 26 16383) ?_
           refine qp 14 37 (fl_ 26 32767) ?_
           refine qp 15 38 (fl_ 26 65535) ?_
           refine qp 17 40 (fl_ 26 196607) ?_
           refine qp 18 41 (fl_ 26 458751) ?_
           refine qt 16 39 (fl_ 26 524287) hHeld ?_
           refine qp 19 42 (fl_ 26 1048575) ?_
           refine qt 20 43 (fl_ 26 2097151) hHeld ?_
           refine qt 21 44 (fl_ 26 4194303) hHeld ?_
           refine one_ (i := 22) (N := some 45) (fl_ 26 8388607) rfl rfl (one_of HT_.out (by kernel_rfl)) (by decide) (fun K hK => ?_)
           refine goes_ Tryd.func95 (by kernel_rfl) rfl #[.agg #[.slice A861_0 ((y14 l0_1 (ji17)).f0).length c861_0],.agg #[.slice A858_0 ((y14 l0_1 x18_2).f0).length c858_0]] (by rfl) rfl rfl (by (try simp only [qM_,List.map_cons,List.map_nil]); first | done | (simp only [hji17]; rfl) | rfl | (simp only [qD_,qT_]; rfl)) ?_
           with_reducible refine (impl_compareTuples.calls k2 _ _ ((y14 l0_1 (ji17)).f0) _ _ ((y14 l0_1 x18_2).f0) t862 _ (qc (Kd.C_below HR861_0.out HB.out)) HC861_0.out (qc (Kd.C_below HR858_0.out HB.out)) HC858_0.out (by exact Tb.below HT.out qb) A20.out).mono ?_
           rintro e w28 ⟨rfl,hb⟩
           refine ⟨_,rfl, ?_⟩
           replace BK856 := y0.mk (qK BK856.out hb)
           replace BK859 := y0.mk (qK BK859.out hb)
           replace HB := y0.mk (y5 qb hb)
           (try clear hb)
           (try clear hb2)
           (try clear hk)
           (try clear hi)
           refine hK.out _ _ ⟨(y6 BK859.out 0).trans rfl,(y6 BK856.out 0).trans rfl,(y6 BK856.out 1).trans rfl,((HB.out.cell (World.block_lt_of_cell? w _ hw861_0)).trans hw861_0)⟩ (fun hHeld => ?_)
           clear hK K
           refine norm_ (a' := ?_) ?_ ?_
           rotate_left
           ·show Act.put _ (some 45) _ = _
            simp only [Act.put,qS_,qZ_,qC_,y13,y12]
            rfl
           refine qp 23 46 (fl_ 26 16777215) ?_
           refine qp 24 47 (fl_ 26 33554431) ?_
           refine qp 25 48 (fl_ 26 67108863) ?_
           refine done_ (done_of HT_.out (by kernel_rfl)) ?_
           try go_wp2
           go_ret
           exact ⟨by first | rfl | (simp [y8,y9] <;> rfl) | (simp only [← hji17]; first | rfl | (simp [y8,y9] <;> rfl)) | (simp [*,y8,y9] <;> rfl),qb⟩
          ·as_aux_lemma =>
           rw [if_neg c21] at H
           have c21b0 : decide (0 ≤ t862) = false := decide_eq_false c21
           clear c21
           have H' := y0.mk H
           clear H
           have p858 : 0 ≤ (x18_2 : Int) := of_decide_eq_true qy1
           have q858 : x18_2 < (l0_1.length : Int) := of_decide_eq_true qy1
           obtain ⟨ad858,A858_0,c858_0,e858,hx858_0,hl858_0,hi858_0⟩ := at_T36 HR0_1.out x18_2 p858 q858
           cases e858
           replace hx858_0 := (HB.out.cell (World.block_lt_of_cell? w _ hx858_0)).trans hx858_0
           have HR858_0 := y0.mk hi858_0
           have HC858_0 := y0.mk hl858_0
           clear hi858_0 hl858_0
           replace p858 := eq_true p858
           replace q858 := eq_true q858
           try go_wp2_with (first | ((with_reducible refine gate_dst (N := 4) rfl ?_); (try (refine gate_guard (by rfl) ?_; dsimp only)); refine qe 4 #[.slice none 0 0] 36 ?_; intro gb859 hg w29 hbox hb; have BK859 := y0.mk (hbox); have GW859 := y0.mk (qg (w := w) hg); have GE859 := y0.mk (qg (w := w) hg); replace HB := y0.mk (y5 qb hb); have NB856_859 := y0.mk (qn BK856.out hg); have NB859_856 := y0.mk (qm BK856.out hg); replace BK856 := y0.mk (qK BK856.out hb); clear hb hbox hg; have hnb30 := NB859_856.out; have hnc30 := NB856_859.out; obtain ⟨hcz31_0,hfz31_0⟩ := qz1 BK859.out))
           have n0_ : y0 ((w29.setCell ⟨gb859,0,none⟩ (.slice A858_0 ((y14 l0_1 x18_2).f0).length c858_0)).heap[gb856]? = some (.cells #[.int .i64 a0_0,.slice (some ad858) l0_1.length c0_1] 70 (0,0))) := ⟨by (with_reducible repeat (first | refine blk_drewN ?_ _ | refine y7 ?_ | refine blk_alloc ?_ _)); refine blk_far ?_ NB856_859.out _; (with_reducible repeat (first | refine blk_drewN ?_ _ | refine y7 ?_ | refine blk_alloc ?_ _)); exact BK856.out⟩
           have n1_ : y0 ((w29.setCell ⟨gb859,0,none⟩ (.slice A858_0 ((y14 l0_1 x18_2).f0).length c858_0)).heap[gb859]? = some (.cells #[.slice A858_0 ((y14 l0_1 x18_2).f0).length c858_0] 36 (0,0))) := ⟨by (with_reducible repeat (first | refine blk_drewN ?_ _ | refine y7 ?_ | refine blk_alloc ?_ _)); refine blk_put (cs := #[.slice none 0 0]) ?_ 0 _ rfl; (with_reducible repeat (first | refine blk_drewN ?_ _ | refine y7 ?_ | refine blk_alloc ?_ _)); exact BK859.out⟩
           have n2_ : y0 (Below w.heap.size w (w29.setCell ⟨gb859,0,none⟩ (.slice A858_0 ((y14 l0_1 x18_2).f0).length c858_0))) := ⟨qb⟩
           (try clear BK856)
           (try clear BK859)
           (try clear HB)
           generalize (w29.setCell ⟨gb859,0,none⟩ (.slice A858_0 ((y14 l0_1 x18_2).f0).length c858_0)) = w32 at n0_ n1_ n2_ ⊢
           have BK856 := n0_
           have BK859 := n1_
           have HB := n2_
           clear n0_ n1_ n2_
           replace BK856 := y0.mk (y7 BK856.out)
           replace BK859 := y0.mk (y7 BK859.out)
           replace HB := y0.mk (y3 HB.out)
           have p861 : 0 ≤ ((ji17) : Int) := of_decide_eq_true qy1
           have q861 : (ji17) < (l0_1.length : Int) := of_decide_eq_true qy1
           obtain ⟨ad861,A861_0,c861_0,e861,hx861_0,hl861_0,hi861_0⟩ := at_T36 HR0_1.out (ji17) p861 q861
           have hw861_0 := hx861_0
           obtain rfl : ad858 = ad861 := (by injection e861)
           replace hx861_0 := (HB.out.cell (World.block_lt_of_cell? w _ hx861_0)).trans hx861_0
           have HR861_0 := y0.mk hi861_0
           have HC861_0 := y0.mk hl861_0
           clear hi861_0 hl861_0
           replace p861 := eq_true p861
           replace q861 := eq_true q861
           refine start_ (n := 26) (S := fun w' => w'.cell? ⟨gb859,0,none⟩ = some (.slice A858_0 ((y14 l0_1 x18_2).f0).length c858_0) ∧ w'.cell? ⟨gb856,0,none⟩ = some (.int .i64 a0_0) ∧ w'.cell? ⟨gb856,1,none⟩ = some (.slice (some ad858) l0_1.length c0_1) ∧ w'.cell? (ad858.add ((ji17)).toNat) = some (.slice A861_0 ((y14 l0_1 (ji17)).f0).length c861_0)) (ds := []) (fl_ 26 0) (by kernel_rfl) rfl rfl ⟨(y6 BK859.out 0).trans rfl,(y6 BK856.out 0).trans rfl,(y6 BK856.out 1).trans rfl,((HB.out.cell (World.block_lt_of_cell? w _ hw861_0)).trans hw861_0)⟩ (fun hHeld => ?_); refine with_tabW impl_isRel.tab6 impl_isRel.bits6 (fun HT_ HW_ => ?_)
           generalize w32.drew = w33 at BK856 BK859 HB HR861_0 hx861_0 hHeld ⊢
           refine qt 0 23 (fl_ 26 1) hHeld ?_
           refine one_ (i := 1) (N := some 24) (fl_ 26 3) rfl rfl (one_of HT_.out (by kernel_rfl)) (by decide) (fun K hK => ?_)
           refine goes_ Tryd.func76 (by kernel_rfl) rfl #[.agg #[.slice A858_0 ((y14 l0_1 x18_2).f0).length c858_0]] (by rfl) rfl rfl qy0 ?_
           with_reducible refine (impl_isTuple.calls k2 _ _ ((y14 l0_1 x18_2).f0) true _ (qc (Kd.C_below HR858_0.out HB.out)) HC858_0.out (by exact Tb.below HT.out qb) A13.out).mono ?_
           rintro e w34 ⟨rfl,hb⟩
           refine ⟨_,rfl, ?_⟩
           replace BK856 := y0.mk (qK BK856.out hb)
           replace BK859 := y0.mk (qK BK859.out hb)
           replace HB := y0.mk (y5 qb hb)
           (try clear hb)
           (try clear hb2)
           (try clear hk)
           (try clear hi)
           refine hK.out _ _ ⟨(y6 BK859.out 0).trans rfl,(y6 BK856.out 0).trans rfl,(y6 BK856.out 1).trans rfl,((HB.out.cell (World.block_lt_of_cell? w _ hw861_0)).trans hw861_0)⟩ (fun hHeld => ?_)
           clear hK K
           refine norm_ (a' := ?_) ?_ ?_
           rotate_left
           ·show Act.put _ (some 24) _ = _
            simp only [Act.put,qS_,qZ_,qC_,y13,y12]
            rfl
           refine qp 2 25 (fl_ 26 7) ?_
           refine qp 3 26 (fl_ 26 15) ?_
           refine qp 4 27 (fl_ 26 31) ?_
           refine qp 7 30 (fl_ 26 159) ?_
           refine qt 5 28 (fl_ 26 191) hHeld ?_
           refine qp 6 29 (fl_ 26 255) ?_
           refine qt 8 31 (fl_ 26 511) hHeld ?_
           refine qp 9 32 (fl_ 26 1023) ?_
           refine qp 10 33 (fl_ 26 2047) ?_
           refine qp 11 34 (fl_ 26 4095) ?_
           refine qp 12 35 (fl_ 26 8191) ?_
           refine qp 13 36 (fl_ 26 16383) ?_
           refine qp 14 37 (fl_ 26 32767) ?_
           refine qp 15 38 (fl_ 26 65535) ?_
           refine qp 17 40 (fl_ 26 196607) ?_
           refine qp 18 41 (fl_ 26 458751) ?_
           refine qt 16 39 (fl_ 26 524287) hHeld ?_
           refine qp 19 42 (fl_ 26 1048575) ?_
           refine qt 20 43 (fl_ 26 2097151) hHeld ?_
           refine qt 21 44 (fl_ 26 4194303) hHeld ?_
           refine one_ (i := 22) (N := some 45) (fl_ 26 8388607) rfl rfl (one_of HT_.out (by kernel_rfl)) (by decide) (fun K hK => ?_)
           refine goes_ Tryd.func95 (by kernel_rfl) rfl #[.agg #[.slice A861_0 ((y14 l0_1 (ji17)).f0).length c861_0],.agg #[.slice A858_0 ((y14 l0_1 x18_2).f0).length c858_0]] (by rfl) rfl rfl (by (try simp only [qM_,List.map_cons,List.map_nil]); first | done | (simp only [hji17]; rfl) | rfl | (simp only [qD_,qT_]; rfl)) ?_
           with_reducible refine (impl_compareTuples.calls k2 _ _ ((y14 l0_1 (ji17)).f0) _ _ ((y14 l0_1 x18_2).f0) t862 _ (qc (Kd.C_below HR861_0.out HB.out)) HC861_0.out (qc (Kd.C_below HR858_0.out HB.out)) HC858_0.out (by exact Tb.below HT.out qb) A20.out).mono ?_
           rintro e w35 ⟨rfl,hb⟩
           refine ⟨_,rfl, ?_⟩
           replace BK856 := y0.mk (qK BK856.out hb)
           replace BK859 := y0.mk (qK BK859.out hb)
           replace HB := y0.mk (y5 qb hb)
           (try clear hb)
           (try clear hb2)
           (try clear hk)
           (try clear hi)
           refine hK.out _ _ ⟨(y6 BK859.out 0).trans rfl,(y6 BK856.out 0).trans rfl,(y6 BK856.out 1).trans rfl,((HB.out.cell (World.block_lt_of_cell? w _ hw861_0)).trans hw861_0)⟩ (fun hHeld => ?_)
           clear hK K
           refine norm_ (a' := ?_) ?_ ?_
           rotate_left
           ·show Act.put _ (some 45) _ = _
            simp only [Act.put,qS_,qZ_,qC_,y13,y12]
            rfl
           refine qp 23 46 (fl_ 26 16777215) ?_
           refine qp 24 47 (fl_ 26 33554431) ?_
           refine qp 25 48 (fl_ 26 67108863) ?_
           refine done_ (done_of HT_.out (by kernel_rfl)) ?_
           try go_wp2
           go_roundg k2
           case measure => have := HJ1.out; have := HK2.out; omega
           exact ⟨(wrap64 (x18_2 + 1)),qy2,H',⟨by have := HJ1.out; have := HK2.out; omega⟩,⟨qk BK856.out⟩,⟨qb⟩⟩
         ·as_aux_lemma =>
          rw [if_neg c16] at H
          have c16b0 : decide (0 < x18_2) = false := decide_eq_false c16
          clear c16
          have H' := y0.mk H
          clear H
          have p858 : 0 ≤ (x18_2 : Int) := of_decide_eq_true qy1
          have q858 : x18_2 < (l0_1.length : Int) := of_decide_eq_true qy1
          obtain ⟨ad858,A858_0,c858_0,e858,hx858_0,hl858_0,hi858_0⟩ := at_T36 HR0_1.out x18_2 p858 q858
          cases e858
          replace hx858_0 := (HB.out.cell (World.block_lt_of_cell? w _ hx858_0)).trans hx858_0
          have HR858_0 := y0.mk hi858_0
          have HC858_0 := y0.mk hl858_0
          clear hi858_0 hl858_0
          replace p858 := eq_true p858
          replace q858 := eq_true q858
          try go_wp2_with (first | ((with_reducible refine gate_dst (N := 4) rfl ?_); (try (refine gate_guard (by rfl) ?_; dsimp only)); refine qe 4 #[.slice none 0 0] 36 ?_; intro gb859 hg w36 hbox hb; have BK859 := y0.mk (hbox); have GW859 := y0.mk (qg (w := w) hg); have GE859 := y0.mk (qg (w := w) hg); replace HB := y0.mk (y5 qb hb); have NB856_859 := y0.mk (qn BK856.out hg); have NB859_856 := y0.mk (qm BK856.out hg); replace BK856 := y0.mk (qK BK856.out hb); clear hb hbox hg; have hnb37 := NB859_856.out; have hnc37 := NB856_859.out; obtain ⟨hcz38_0,hfz38_0⟩ := qz1 BK859.out))
          have n0_ : y0 ((w36.setCell ⟨gb859,0,none⟩ (.slice A858_0 ((y14 l0_1 x18_2).f0).length c858_0)).heap[gb856]? = some (.cells #[.int .i64 a0_0,.slice (some ad858) l0_1.length c0_1] 70 (0,0))) := ⟨by (with_reducible repeat (first | refine blk_drewN ?_ _ | refine y7 ?_ | refine blk_alloc ?_ _)); refine blk_far ?_ NB856_859.out _; (with_reducible repeat (first | refine blk_drewN ?_ _ | refine y7 ?_ | refine blk_alloc ?_ _)); exact BK856.out⟩
          have n1_ : y0 ((w36.setCell ⟨gb859,0,none⟩ (.slice A858_0 ((y14 l0_1 x18_2).f0).length c858_0)).heap[gb859]? = some (.cells #[.slice A858_0 ((y14 l0_1 x18_2).f0).length c858_0] 36 (0,0))) := ⟨by (with_reducible repeat (first | refine blk_drewN ?_ _ | refine y7 ?_ | refine blk_alloc ?_ _)); refine blk_put (cs := #[.slice none 0 0]) ?_ 0 _ rfl; (with_reducible repeat (first | refine blk_drewN ?_ _ | refine y7 ?_ | refine blk_alloc ?_ _)); exact BK859.out⟩
          have n2_ : y0 (Below w.heap.size w (w36.setCell ⟨gb859,0,none⟩ (.slice A858_0 ((y14 l0_1 x18_2).f0).length c858_0))) := ⟨qb⟩
          (try clear BK856)
          (try clear BK859)
          (try clear HB)
          generalize (w36.setCell ⟨gb859,0,none⟩ (.slice A858_0 ((y14 l0_1 x18_2).f0).length c858_0)) = w39 at n0_ n1_ n2_ ⊢
          have BK856 := n0_
          have BK859 := n1_
          have HB := n2_
          clear n0_ n1_ n2_
          replace BK856 := y0.mk (y7 BK856.out)
          replace BK859 := y0.mk (y7 BK859.out)
          replace HB := y0.mk (y3 HB.out)
          refine start_ (n := 26) (S := fun w' => w'.cell? ⟨gb859,0,none⟩ = some (.slice A858_0 ((y14 l0_1 x18_2).f0).length c858_0) ∧ w'.cell? ⟨gb856,0,none⟩ = some (.int .i64 a0_0) ∧ w'.cell? ⟨gb856,1,none⟩ = some (.slice (some ad858) l0_1.length c0_1)) (ds := []) (fl_ 26 0) (by kernel_rfl) rfl rfl ⟨(y6 BK859.out 0).trans rfl,(y6 BK856.out 0).trans rfl,(y6 BK856.out 1).trans rfl⟩ (fun hHeld => ?_); refine with_tabW impl_isRel.tab6 impl_isRel.bits6 (fun HT_ HW_ => ?_)
          generalize w39.drew = w40 at BK856 BK859 HB hHeld ⊢
          refine qt 0 23 (fl_ 26 1) hHeld ?_
          refine one_ (i := 1) (N := some 24) (fl_ 26 3) rfl rfl (one_of HT_.out (by kernel_rfl)) (by decide) (fun K hK => ?_)
          refine goes_ Tryd.func76 (by kernel_rfl) rfl #[.agg #[.slice A858_0 ((y14 l0_1 x18_2).f0).length c858_0]] (by rfl) rfl rfl qy0 ?_
          with_reducible refine (impl_isTuple.calls k2 _ _ ((y14 l0_1 x18_2).f0) true _ (qc (Kd.C_below HR858_0.out HB.out)) HC858_0.out (by exact Tb.below HT.out qb) A13.out).mono ?_
          rintro e w41 ⟨rfl,hb⟩
          refine ⟨_,rfl, ?_⟩
          replace BK856 := y0.mk (qK BK856.out hb)
          replace BK859 := y0.mk (qK BK859.out hb)
          replace HB := y0.mk (y5 qb hb)
          (try clear hb)
          (try clear hb2)
          (try clear hk)
          (try clear hi)
          refine hK.out _ _ ⟨(y6 BK859.out 0).trans rfl,(y6 BK856.out 0).trans rfl,(y6 BK856.out 1).trans rfl⟩ (fun hHeld => ?_)
          clear hK K
          refine norm_ (a' := ?_) ?_ ?_
          rotate_left
          ·show Act.put _ (some 24) _ = _
           simp only [Act.put,qS_,qZ_,qC_,y13,y12]
           rfl
          refine qp 2 25 (fl_ 26 7) ?_
          refine qp 3 26 (fl_ 26 15) ?_
          refine qp 4 27 (fl_ 26 31) ?_
          refine qp 7 30 (fl_ 26 159) ?_
          refine qt 5 28 (fl_ 26 191) hHeld ?_
          refine qp 6 29 (fl_ 26 255) ?_
          refine qt 8 31 (fl_ 26 511) hHeld ?_
          refine qp 9 32 (fl_ 26 1023) ?_
          refine qp 10 33 (fl_ 26 2047) ?_
          refine qp 11 34 (fl_ 26 4095) ?_
          refine qp 12 35 (fl_ 26 8191) ?_
          refine qp 13 36 (fl_ 26 16383) ?_
          refine qp 14 37 (fl_ 26 32767) ?_
          refine pure_ (i := 15) (N := some 38) (v := undef) (a' := ?_) (fl_ 26 65535) rfl rfl (y2 HT_.out (by kernel_rfl)) (fun _ _ _ h => h) (Or.inr ⟨by rfl,rfl⟩) ?_ ?_
          rotate_left
          ·simp only [Act.put,qS_,qZ_,qC_,y13,y12]
           rfl
          refine pure_ (i := 16) (N := some 39) (v := undef) (a' := ?_) (fl_ 26 131071) rfl rfl (y2 HT_.out (by kernel_rfl)) (fun _ _ _ h => h) (Or.inr ⟨by rfl,rfl⟩) ?_ ?_
          rotate_left
          ·simp only [Act.put,qS_,qZ_,qC_,y13,y12]
           rfl
          refine pure_ (i := 17) (N := some 40) (v := undef) (a' := ?_) (fl_ 26 262143) rfl rfl (y2 HT_.out (by kernel_rfl)) (fun _ _ _ h => h) (Or.inr ⟨by rfl,rfl⟩) ?_ ?_
          rotate_left
          ·simp only [Act.put,qS_,qZ_,qC_,y13,y12]
           rfl
          refine pure_ (i := 18) (N := some 41) (v := undef) (a' := ?_) (fl_ 26 524287) rfl rfl (y2 HT_.out (by kernel_rfl)) (fun _ _ _ h => h) (Or.inr ⟨by rfl,rfl⟩) ?_ ?_
          rotate_left
          ·simp only [Act.put,qS_,qZ_,qC_,y13,y12]
           rfl
          refine pure_ (i := 19) (N := some 42) (v := undef) (a' := ?_) (fl_ 26 1048575) rfl rfl (y2 HT_.out (by kernel_rfl)) (fun _ _ _ h => h) (Or.inr ⟨by rfl,rfl⟩) ?_ ?_
          rotate_left
          ·simp only [Act.put,qS_,qZ_,qC_,y13,y12]
           rfl
          refine pure_ (i := 20) (N := some 43) (v := undef) (a' := ?_) (fl_ 26 2097151) rfl rfl (y2 HT_.out (by kernel_rfl)) (fun _ _ _ h => h) (Or.inr ⟨by rfl,rfl⟩) ?_ ?_
          rotate_left
          ·simp only [Act.put,qS_,qZ_,qC_,y13,y12]
           rfl
          refine pure_ (i := 21) (N := some 44) (v := undef) (a' := ?_) (fl_ 26 4194303) rfl rfl (y2 HT_.out (by kernel_rfl)) (fun _ _ _ h => h) (Or.inr ⟨by rfl,rfl⟩) ?_ ?_
          rotate_left
          ·simp only [Act.put,qS_,qZ_,qC_,y13,y12]
           rfl
          refine pure_ (i := 22) (N := some 45) (v := undef) (a' := ?_) (fl_ 26 8388607) rfl rfl (y2 HT_.out (by kernel_rfl)) (fun _ _ _ h => h) (Or.inr ⟨by rfl,rfl⟩) ?_ ?_
          rotate_left
          ·simp only [Act.put,qS_,qZ_,qC_,y13,y12]
           rfl
          refine pure_ (i := 23) (N := some 46) (v := undef) (a' := ?_) (fl_ 26 16777215) rfl rfl (y2 HT_.out (by kernel_rfl)) (fun _ _ _ h => h) (Or.inr ⟨by rfl,rfl⟩) ?_ ?_
          rotate_left
          ·simp only [Act.put,qS_,qZ_,qC_,y13,y12]
           rfl
          refine qp 24 47 (fl_ 26 33554431) ?_
          refine qp 25 48 (fl_ 26 67108863) ?_
          refine done_ (done_of HT_.out (by kernel_rfl)) ?_
          try go_wp2
          go_roundg k2
          case measure => have := HJ1.out; have := HK2.out; omega
          exact ⟨(wrap64 (x18_2 + 1)),qy2,H',⟨by have := HJ1.out; have := HK2.out; omega⟩,⟨qk BK856.out⟩,⟨qb⟩⟩
        ·as_aux_lemma =>
         rw [if_neg c15] at H
         have c15b0 : ((((y14 l0_1 x18_2).f0).length : Int) == a0_0) = false := beq_eq_false_iff_ne.mpr c15
         have c15b1 : ((((y14 l0_1 x18_2).f0).length : Int) != a0_0) = true := bne_iff_ne.mpr c15
         obtain rfl := Option.some.inj H
         have p858 : 0 ≤ (x18_2 : Int) := of_decide_eq_true qy1
         have q858 : x18_2 < (l0_1.length : Int) := of_decide_eq_true qy1
         obtain ⟨ad858,A858_0,c858_0,e858,hx858_0,hl858_0,hi858_0⟩ := at_T36 HR0_1.out x18_2 p858 q858
         cases e858
         replace hx858_0 := (HB.out.cell (World.block_lt_of_cell? w _ hx858_0)).trans hx858_0
         have HR858_0 := y0.mk hi858_0
         have HC858_0 := y0.mk hl858_0
         clear hi858_0 hl858_0
         replace p858 := eq_true p858
         replace q858 := eq_true q858
         try go_wp2_with (first | ((with_reducible refine gate_dst (N := 4) rfl ?_); (try (refine gate_guard (by rfl) ?_; dsimp only)); refine qe 4 #[.slice none 0 0] 36 ?_; intro gb859 hg w42 hbox hb; have BK859 := y0.mk (hbox); have GW859 := y0.mk (qg (w := w) hg); have GE859 := y0.mk (qg (w := w) hg); replace HB := y0.mk (y5 qb hb); have NB856_859 := y0.mk (qn BK856.out hg); have NB859_856 := y0.mk (qm BK856.out hg); replace BK856 := y0.mk (qK BK856.out hb); clear hb hbox hg; have hnb43 := NB859_856.out; have hnc43 := NB856_859.out; obtain ⟨hcz44_0,hfz44_0⟩ := qz1 BK859.out))
         have n0_ : y0 ((w42.setCell ⟨gb859,0,none⟩ (.slice A858_0 ((y14 l0_1 x18_2).f0).length c858_0)).heap[gb856]? = some (.cells #[.int .i64 a0_0,.slice (some ad858) l0_1.length c0_1] 70 (0,0))) := ⟨by (with_reducible repeat (first | refine blk_drewN ?_ _ | refine y7 ?_ | refine blk_alloc ?_ _)); refine blk_far ?_ NB856_859.out _; (with_reducible repeat (first | refine blk_drewN ?_ _ | refine y7 ?_ | refine blk_alloc ?_ _)); exact BK856.out⟩
         have n1_ : y0 ((w42.setCell ⟨gb859,0,none⟩ (.slice A858_0 ((y14 l0_1 x18_2).f0).length c858_0)).heap[gb859]? = some (.cells #[.slice A858_0 ((y14 l0_1 x18_2).f0).length c858_0] 36 (0,0))) := ⟨by (with_reducible repeat (first | refine blk_drewN ?_ _ | refine y7 ?_ | refine blk_alloc ?_ _)); refine blk_put (cs := #[.slice none 0 0]) ?_ 0 _ rfl; (with_reducible repeat (first | refine blk_drewN ?_ _ | refine y7 ?_ | refine blk_alloc ?_ _)); exact BK859.out⟩
         have n2_ : y0 (Below w.heap.size w (w42.setCell ⟨gb859,0,none⟩ (.slice A858_0 ((y14 l0_1 x18_2).f0).length c858_0))) := ⟨qb⟩
         (try clear BK856)
         (try clear BK859)
         (try clear HB)
         generalize (w42.setCell ⟨gb859,0,none⟩ (.slice A858_0 ((y14 l0_1 x18_2).f0).length c858_0)) = w45 at n0_ n1_ n2_ ⊢
         have BK856 := n0_
         have BK859 := n1_
         have HB := n2_
         clear n0_ n1_ n2_
         replace BK856 := y0.mk (y7 BK856.out)
         replace BK859 := y0.mk (y7 BK859.out)
         replace HB := y0.mk (y3 HB.out)
         refine start_ (n := 26) (S := fun w' => w'.cell? ⟨gb859,0,none⟩ = some (.slice A858_0 ((y14 l0_1 x18_2).f0).length c858_0) ∧ w'.cell? ⟨gb856,0,none⟩ = some (.int .i64 a0_0) ∧ w'.cell? ⟨gb856,1,none⟩ = some (.slice (some ad858) l0_1.length c0_1)) (ds := []) (fl_ 26 0) (by kernel_rfl) rfl rfl ⟨(y6 BK859.out 0).trans rfl,(y6 BK856.out 0).trans rfl,(y6 BK856.out 1).trans rfl⟩ (fun hHeld => ?_); refine with_tabW impl_isRel.tab6 impl_isRel.bits6 (fun HT_ HW_ => ?_)
         generalize w45.drew = w46 at BK856 BK859 HB hHeld ⊢
         refine qt 0 23 (fl_ 26 1) hHeld ?_
         refine one_ (i := 1) (N := some 24) (fl_ 26 3) rfl rfl (one_of HT_.out (by kernel_rfl)) (by decide) (fun K hK => ?_)
         refine goes_ Tryd.func76 (by kernel_rfl) rfl #[.agg #[.slice A858_0 ((y14 l0_1 x18_2).f0).length c858_0]] (by rfl) rfl rfl qy0 ?_
         with_reducible refine (impl_isTuple.calls k2 _ _ ((y14 l0_1 x18_2).f0) true _ (qc (Kd.C_below HR858_0.out HB.out)) HC858_0.out (by exact Tb.below HT.out qb) A13.out).mono ?_
         rintro e w47 ⟨rfl,hb⟩
         refine ⟨_,rfl, ?_⟩
         replace BK856 := y0.mk (qK BK856.out hb)
         replace BK859 := y0.mk (qK BK859.out hb)
         replace HB := y0.mk (y5 qb hb)
         (try clear hb)
         (try clear hb2)
         (try clear hk)
         (try clear hi)
         refine hK.out _ _ ⟨(y6 BK859.out 0).trans rfl,(y6 BK856.out 0).trans rfl,(y6 BK856.out 1).trans rfl⟩ (fun hHeld => ?_)
         clear hK K
         refine norm_ (a' := ?_) ?_ ?_
         rotate_left
         ·show Act.put _ (some 24) _ = _
          simp only [Act.put,qS_,qZ_,qC_,y13,y12]
          rfl
         refine qp 2 25 (fl_ 26 7) ?_
         refine qp 3 26 (fl_ 26 15) ?_
         refine qp 4 27 (fl_ 26 31) ?_
         refine qp 7 30 (fl_ 26 159) ?_
         refine qt 5 28 (fl_ 26 191) hHeld ?_
         refine qp 6 29 (fl_ 26 255) ?_
         refine qt 8 31 (fl_ 26 511) hHeld ?_
         refine qp 9 32 (fl_ 26 1023) ?_
         refine qp 10 33 (fl_ 26 2047) ?_
         refine qp 11 34 (fl_ 26 4095) ?_
         refine pure_ (i := 12) (N := some 35) (v := undef) (a' := ?_) (fl_ 26 8191) rfl rfl (y2 HT_.out (by kernel_rfl)) (fun _ _ _ h => h) (Or.inr ⟨by rfl,rfl⟩) ?_ ?_
         rotate_left
         ·simp only [Act.put,qS_,qZ_,qC_,y13,y12]
          rfl
         refine pure_ (i := 13) (N := some 36) (v := undef) (a' := ?_) (fl_ 26 16383) rfl rfl (y2 HT_.out (by kernel_rfl)) (fun _ _ _ h => h) (Or.inr ⟨by rfl,rfl⟩) ?_ ?_
         rotate_left
         ·simp only [Act.put,qS_,qZ_,qC_,y13,y12]
          rfl
         refine pure_ (i := 14) (N := some 37) (v := undef) (a' := ?_) (fl_ 26 32767) rfl rfl (y2 HT_.out (by kernel_rfl)) (fun _ _ _ h => h) (Or.inr ⟨by rfl,rfl⟩) ?_ ?_
         rotate_left
         ·simp only [Act.put,qS_,qZ_,qC_,y13,y12]
          rfl
         refine pure_ (i := 15) (N := some 38) (v := undef) (a' := ?_) (fl_ 26 65535) rfl rfl (y2 HT_.out (by kernel_rfl)) (fun _ _ _ h => h) (Or.inr ⟨by rfl,rfl⟩) ?_ ?_
         rotate_left
         ·simp only [Act.put,qS_,qZ_,qC_,y13,y12]
          rfl
         refine pure_ (i := 16) (N := some 39) (v := undef) (a' := ?_) (fl_ 26 131071) rfl rfl (y2 HT_.out (by kernel_rfl)) (fun _ _ _ h => h) (Or.inr ⟨by rfl,rfl⟩) ?_ ?_
         rotate_left
         ·simp only [Act.put,qS_,qZ_,qC_,y13,y12]
          rfl
         refine pure_ (i := 17) (N := some 40) (v := undef) (a' := ?_) (fl_ 26 262143) rfl rfl (y2 HT_.out (by kernel_rfl)) (fun _ _ _ h => h) (Or.inr ⟨by rfl,rfl⟩) ?_ ?_
         rotate_left
         ·simp only [Act.put,qS_,qZ_,qC_,y13,y12]
          rfl
         refine pure_ (i := 18) (N := some 41) (v := undef) (a' := ?_) (fl_ 26 524287) rfl rfl (y2 HT_.out (by kernel_rfl)) (fun _ _ _ h => h) (Or.inr ⟨by rfl,rfl⟩) ?_ ?_
         rotate_left
         ·simp only [Act.put,qS_,qZ_,qC_,y13,y12]
          rfl
         refine pure_ (i := 19) (N := some 42) (v := undef) (a' := ?_) (fl_ 26 1048575) rfl rfl (y2 HT_.out (by kernel_rfl)) (fun _ _ _ h => h) (Or.inr ⟨by rfl,rfl⟩) ?_ ?_
         rotate_left
         ·simp only [Act.put,qS_,qZ_,qC_,y13,y12]
          rfl
         refine pure_ (i := 20) (N := some 43) (v := undef) (a' := ?_) (fl_ 26 2097151) rfl rfl (y2 HT_.out (by kernel_rfl)) (fun _ _ _ h => h) (Or.inr ⟨by rfl,rfl⟩) ?_ ?_
         rotate_left
         ·simp only [Act.put,qS_,qZ_,qC_,y13,y12]
          rfl
         refine pure_ (i := 21) (N := some 44) (v := undef) (a' := ?_) (fl_ 26 4194303) rfl rfl (y2 HT_.out (by kernel_rfl)) (fun _ _ _ h => h) (Or.inr ⟨by rfl,rfl⟩) ?_ ?_
         rotate_left
         ·simp only [Act.put,qS_,qZ_,qC_,y13,y12]
          rfl
         refine pure_ (i := 22) (N := some 45) (v := undef) (a' := ?_) (fl_ 26 8388607) rfl rfl (y2 HT_.out (by kernel_rfl)) (fun _ _ _ h => h) (Or.inr ⟨by rfl,rfl⟩) ?_ ?_
         rotate_left
         ·simp only [Act.put,qS_,qZ_,qC_,y13,y12]
          rfl
         refine pure_ (i := 23) (N := some 46) (v := undef) (a' := ?_) (fl_ 26 16777215) rfl rfl (y2 HT_.out (by kernel_rfl)) (fun _ _ _ h => h) (Or.inr ⟨by rfl,rfl⟩) ?_ ?_
         rotate_left
         ·simp only [Act.put,qS_,qZ_,qC_,y13,y12]
          rfl
         refine pure_ (i := 24) (N := some 47) (v := undef) (a' := ?_) (fl_ 26 33554431) rfl rfl (y2 HT_.out (by kernel_rfl)) (fun _ _ _ h => h) (Or.inr ⟨by rfl,rfl⟩) ?_ ?_
         rotate_left
         ·simp only [Act.put,qS_,qZ_,qC_,y13,y12]
          rfl
         refine qp 25 48 (fl_ 26 67108863) ?_
         refine done_ (done_of HT_.out (by kernel_rfl)) ?_
         try go_wp2
         go_ret
         exact ⟨by first | rfl | (simp [y8,y9] <;> rfl) | (simp [*,y8,y9] <;> rfl),qb⟩
       ·replace c14 := Bool.eq_false_iff.mpr c14
        subst c14
        replace H := qF H
        obtain rfl := Option.some.inj H
        have p858 : 0 ≤ (x18_2 : Int) := of_decide_eq_true qy1
        have q858 : x18_2 < (l0_1.length : Int) := of_decide_eq_true qy1
        obtain ⟨ad858,A858_0,c858_0,e858,hx858_0,hl858_0,hi858_0⟩ := at_T36 HR0_1.out x18_2 p858 q858
        cases e858
        replace hx858_0 := (HB.out.cell (World.block_lt_of_cell? w _ hx858_0)).trans hx858_0
        have HR858_0 := y0.mk hi858_0
        have HC858_0 := y0.mk hl858_0
        clear hi858_0 hl858_0
        replace p858 := eq_true p858
        replace q858 := eq_true q858
        try go_wp2_with (first | ((with_reducible refine gate_dst (N := 4) rfl ?_); (try (refine gate_guard (by rfl) ?_; dsimp only)); refine qe 4 #[.slice none 0 0] 36 ?_; intro gb859 hg w48 hbox hb; have BK859 := y0.mk (hbox); have GW859 := y0.mk (qg (w := w) hg); have GE859 := y0.mk (qg (w := w) hg); replace HB := y0.mk (y5 qb hb); have NB856_859 := y0.mk (qn BK856.out hg); have NB859_856 := y0.mk (qm BK856.out hg); replace BK856 := y0.mk (qK BK856.out hb); clear hb hbox hg; have hnb49 := NB859_856.out; have hnc49 := NB856_859.out; obtain ⟨hcz50_0,hfz50_0⟩ := qz1 BK859.out))
        have n0_ : y0 ((w48.setCell ⟨gb859,0,none⟩ (.slice A858_0 ((y14 l0_1 x18_2).f0).length c858_0)).heap[gb856]? = some (.cells #[.int .i64 a0_0,.slice (some ad858) l0_1.length c0_1] 70 (0,0))) := ⟨by (with_reducible repeat (first | refine blk_drewN ?_ _ | refine y7 ?_ | refine blk_alloc ?_ _)); refine blk_far ?_ NB856_859.out _; (with_reducible repeat (first | refine blk_drewN ?_ _ | refine y7 ?_ | refine blk_alloc ?_ _)); exact BK856.out⟩
        have n1_ : y0 ((w48.setCell ⟨gb859,0,none⟩ (.slice A858_0 ((y14 l0_1 x18_2).f0).length c858_0)).heap[gb859]? = some (.cells #[.slice A858_0 ((y14 l0_1 x18_2).f0).length c858_0] 36 (0,0))) := ⟨by (with_reducible repeat (first | refine blk_drewN ?_ _ | refine y7 ?_ | refine blk_alloc ?_ _)); refine blk_put (cs := #[.slice none 0 0]) ?_ 0 _ rfl; (with_reducible repeat (first | refine blk_drewN ?_ _ | refine y7 ?_ | refine blk_alloc ?_ _)); exact BK859.out⟩
        have n2_ : y0 (Below w.heap.size w (w48.setCell ⟨gb859,0,none⟩ (.slice A858_0 ((y14 l0_1 x18_2).f0).length c858_0))) := ⟨qb⟩
        (try clear BK856)
        (try clear BK859)
        (try clear HB)
        generalize (w48.setCell ⟨gb859,0,none⟩ (.slice A858_0 ((y14 l0_1 x18_2).f0).length c858_0)) = w51 at n0_ n1_ n2_ ⊢
        have BK856 := n0_
        have BK859 := n1_
        have HB := n2_
        clear n0_ n1_ n2_
        replace BK856 := y0.mk (y7 BK856.out)
        replace BK859 := y0.mk (y7 BK859.out)
        replace HB := y0.mk (y3 HB.out)
        refine start_ (n := 26) (S := fun w' => w'.cell? ⟨gb859,0,none⟩ = some (.slice A858_0 ((y14 l0_1 x18_2).f0).length c858_0)) (ds := []) (fl_ 26 0) (by kernel_rfl) rfl rfl ((y6 BK859.out 0).trans rfl) (fun hHeld => ?_); refine with_tabW impl_isRel.tab6 impl_isRel.bits6 (fun HT_ HW_ => ?_)
        generalize w51.drew = w52 at BK856 BK859 HB hHeld ⊢
        refine take_ (i := 0) (N := some 23) (v := ?_) (a' := ?_) (fl_ 26 1) rfl rfl (take_ofW HT_.out HW_.out (by kernel_rfl)) (fun _ _ _ h => h) (Or.inl ⟨by rfl, ?_⟩) hHeld ?_ ?_
        rotate_left
        ·intro w' s0
         go_simp
         with_reducible rfl
        rotate_left
        ·simp only [Act.put,qS_,qZ_,qC_,y13,y12]
         rfl
        refine one_ (i := 1) (N := some 24) (fl_ 26 3) rfl rfl (one_of HT_.out (by kernel_rfl)) (by decide) (fun K hK => ?_)
        refine goes_ Tryd.func76 (by kernel_rfl) rfl #[.agg #[.slice A858_0 ((y14 l0_1 x18_2).f0).length c858_0]] (by rfl) rfl rfl qy0 ?_
        with_reducible refine (impl_isTuple.calls k2 _ _ ((y14 l0_1 x18_2).f0) false _ (qc (Kd.C_below HR858_0.out HB.out)) HC858_0.out (by exact Tb.below HT.out qb) A13.out).mono ?_
        rintro e w53 ⟨rfl,hb⟩
        refine ⟨_,rfl, ?_⟩
        replace BK856 := y0.mk (qK BK856.out hb)
        replace BK859 := y0.mk (qK BK859.out hb)
        replace HB := y0.mk (y5 qb hb)
        (try clear hb)
        (try clear hb2)
        (try clear hk)
        (try clear hi)
        refine hK.out _ _ ((y6 BK859.out 0).trans rfl) (fun hHeld => ?_)
        clear hK K
        refine norm_ (a' := ?_) ?_ ?_
        rotate_left
        ·show Act.put _ (some 24) _ = _
         simp only [Act.put,qS_,qZ_,qC_,y13,y12]
         rfl
        refine qp 2 25 (fl_ 26 7) ?_
        refine qp 3 26 (fl_ 26 15) ?_
        refine pure_ (i := 4) (N := some 27) (v := undef) (a' := ?_) (fl_ 26 31) rfl rfl (y2 HT_.out (by kernel_rfl)) (fun _ _ _ h => h) (Or.inr ⟨by rfl,rfl⟩) ?_ ?_
        rotate_left
        ·simp only [Act.put,qS_,qZ_,qC_,y13,y12]
         rfl
        refine pure_ (i := 5) (N := some 28) (v := undef) (a' := ?_) (fl_ 26 63) rfl rfl (y2 HT_.out (by kernel_rfl)) (fun _ _ _ h => h) (Or.inr ⟨by rfl,rfl⟩) ?_ ?_
        rotate_left
        ·simp only [Act.put,qS_,qZ_,qC_,y13,y12]
         rfl
        refine pure_ (i := 6) (N := some 29) (v := undef) (a' := ?_) (fl_ 26 127) rfl rfl (y2 HT_.out (by kernel_rfl)) (fun _ _ _ h => h) (Or.inr ⟨by rfl,rfl⟩) ?_ ?_
        rotate_left
        ·simp only [Act.put,qS_,qZ_,qC_,y13,y12]
         rfl
        refine pure_ (i := 7) (N := some 30) (v := undef) (a' := ?_) (fl_ 26 255) rfl rfl (y2 HT_.out (by kernel_rfl)) (fun _ _ _ h => h) (Or.inr ⟨by rfl,rfl⟩) ?_ ?_
        rotate_left
        ·simp only [Act.put,qS_,qZ_,qC_,y13,y12]
         rfl
        refine pure_ (i := 8) (N := some 31) (v := undef) (a' := ?_) (fl_ 26 511) rfl rfl (y2 HT_.out (by kernel_rfl)) (fun _ _ _ h => h) (Or.inr ⟨by rfl,rfl⟩) ?_ ?_
        rotate_left
        ·simp only [Act.put,qS_,qZ_,qC_,y13,y12]
         rfl
        refine pure_ (i := 9) (N := some 32) (v := undef) (a' := ?_) (fl_ 26 1023) rfl rfl (y2 HT_.out (by kernel_rfl)) (fun _ _ _ h => h) (Or.inr ⟨by rfl,rfl⟩) ?_ ?_
        rotate_left
        ·simp only [Act.put,qS_,qZ_,qC_,y13,y12]
         rfl
        refine qp 10 33 (fl_ 26 2047) ?_
        refine qp 11 34 (fl_ 26 4095) ?_
        refine pure_ (i := 12) (N := some 35) (v := undef) (a' := ?_) (fl_ 26 8191) rfl rfl (y2 HT_.out (by kernel_rfl)) (fun _ _ _ h => h) (Or.inr ⟨by rfl,rfl⟩) ?_ ?_
        rotate_left
        ·simp only [Act.put,qS_,qZ_,qC_,y13,y12]
         rfl
        refine pure_ (i := 13) (N := some 36) (v := undef) (a' := ?_) (fl_ 26 16383) rfl rfl (y2 HT_.out (by kernel_rfl)) (fun _ _ _ h => h) (Or.inr ⟨by rfl,rfl⟩) ?_ ?_
        rotate_left
        ·simp only [Act.put,qS_,qZ_,qC_,y13,y12]
         rfl
        refine pure_ (i := 14) (N := some 37) (v := undef) (a' := ?_) (fl_ 26 32767) rfl rfl (y2 HT_.out (by kernel_rfl)) (fun _ _ _ h => h) (Or.inr ⟨by rfl,rfl⟩) ?_ ?_
        rotate_left
        ·simp only [Act.put,qS_,qZ_,qC_,y13,y12]
         rfl
        refine pure_ (i := 15) (N := some 38) (v := undef) (a' := ?_) (fl_ 26 65535) rfl rfl (y2 HT_.out (by kernel_rfl)) (fun _ _ _ h => h) (Or.inr ⟨by rfl,rfl⟩) ?_ ?_
        rotate_left
        ·simp only [Act.put,qS_,qZ_,qC_,y13,y12]
         rfl
        refine pure_ (i := 16) (N := some 39) (v := undef) (a' := ?_) (fl_ 26 131071) rfl rfl (y2 HT_.out (by kernel_rfl)) (fun _ _ _ h => h) (Or.inr ⟨by rfl,rfl⟩) ?_ ?_
        rotate_left
        ·simp only [Act.put,qS_,qZ_,qC_,y13,y12]
         rfl
        refine pure_ (i := 17) (N := some 40) (v := undef) (a' := ?_) (fl_ 26 262143) rfl rfl (y2 HT_.out (by kernel_rfl)) (fun _ _ _ h => h) (Or.inr ⟨by rfl,rfl⟩) ?_ ?_
        rotate_left
        ·simp only [Act.put,qS_,qZ_,qC_,y13,y12]
         rfl
        refine pure_ (i := 18) (N := some 41) (v := undef) (a' := ?_) (fl_ 26 524287) rfl rfl (y2 HT_.out (by kernel_rfl)) (fun _ _ _ h => h) (Or.inr ⟨by rfl,rfl⟩) ?_ ?_
        rotate_left
        ·simp only [Act.put,qS_,qZ_,qC_,y13,y12]
         rfl
        refine pure_ (i := 19) (N := some 42) (v := undef) (a' := ?_) (fl_ 26 1048575) rfl rfl (y2 HT_.out (by kernel_rfl)) (fun _ _ _ h => h) (Or.inr ⟨by rfl,rfl⟩) ?_ ?_
        rotate_left
        ·simp only [Act.put,qS_,qZ_,qC_,y13,y12]
         rfl
        refine pure_ (i := 20) (N := some 43) (v := undef) (a' := ?_) (fl_ 26 2097151) rfl rfl (y2 HT_.out (by kernel_rfl)) (fun _ _ _ h => h) (Or.inr ⟨by rfl,rfl⟩) ?_ ?_
        rotate_left
        ·simp only [Act.put,qS_,qZ_,qC_,y13,y12]
         rfl
        refine pure_ (i := 21) (N := some 44) (v := undef) (a' := ?_) (fl_ 26 4194303) rfl rfl (y2 HT_.out (by kernel_rfl)) (fun _ _ _ h => h) (Or.inr ⟨by rfl,rfl⟩) ?_ ?_
        rotate_left
        ·simp only [Act.put,qS_,qZ_,qC_,y13,y12]
         rfl
        refine pure_ (i := 22) (N := some 45) (v := undef) (a' := ?_) (fl_ 26 8388607) rfl rfl (y2 HT_.out (by kernel_rfl)) (fun _ _ _ h => h) (Or.inr ⟨by rfl,rfl⟩) ?_ ?_
        rotate_left
        ·simp only [Act.put,qS_,qZ_,qC_,y13,y12]
         rfl
        refine pure_ (i := 23) (N := some 46) (v := undef) (a' := ?_) (fl_ 26 16777215) rfl rfl (y2 HT_.out (by kernel_rfl)) (fun _ _ _ h => h) (Or.inr ⟨by rfl,rfl⟩) ?_ ?_
        rotate_left
        ·simp only [Act.put,qS_,qZ_,qC_,y13,y12]
         rfl
        refine pure_ (i := 24) (N := some 47) (v := undef) (a' := ?_) (fl_ 26 33554431) rfl rfl (y2 HT_.out (by kernel_rfl)) (fun _ _ _ h => h) (Or.inr ⟨by rfl,rfl⟩) ?_ ?_
        rotate_left
        ·simp only [Act.put,qS_,qZ_,qC_,y13,y12]
         rfl
        refine qp 25 48 (fl_ 26 67108863) ?_
        refine done_ (done_of HT_.out (by kernel_rfl)) ?_
        try go_wp2
        go_ret
        exact ⟨by first | rfl | (simp [y8,y9] <;> rfl) | (simp [*,y8,y9] <;> rfl),qb⟩
      ·as_aux_lemma =>
       rw [if_neg c10] at H
       have c10b0 := decide_eq_false c10
       clear c10
       obtain rfl := Option.some.inj H
       go_wp2
       go_ret
       exact ⟨by first | rfl | (simp [y8,y9] <;> rfl) | (simp [*,y8,y9] <;> rfl),qb⟩
end Go.Proofs.YtebadckdihgklaaDoor.Pb
end
section
namespace Go.Proofs.YtebadckdihgklaaDoor.Pb
open Go.RowKit Go.Proofs.YtebadckdihgklaaDoorW.PrintWords Go.Proofs.YtebadckdihgklaaDoorW.PrintLast Go.Proofs.YtebadckdihgklaaDoorW.PrintMore
attribute [local go_sem] max2_int min2_int max_two min_two max_three min_three max_four min_four   -- for this text's walks alone
set_option linter.unusedVariables false
set_option linter.unusedSimpArgs false
def impl_RelOk.f (k : Nat) (a0_0 : Int) (l0_1 : List (S36)) : Option (Bool) := (impl_isRel.f k a0_0 l0_1).bind fun t864 => (some t864)
set_option maxHeartbeats 8000000 in
set_option maxRecDepth 100000 in
theorem impl_RelOk.calls (k : Nat) (a0_0 : Int) (A0_1 : Option Addr) (c0_1 : Nat) (l0_1 : List (S36)) (r : Bool) (w : World) (hr0_1 : Kd.C k36 w A0_1 l0_1.length l0_1) (hc0_1 : l0_1.length ≤ c0_1) (hT : Tb w) (h : impl_RelOk.f k a0_0 l0_1 = some r) :
  Calls Tryd.prog 63 #[.agg #[.int .i64 a0_0,.slice A0_1 l0_1.length c0_1]] w fun e w' => e = .returned (.bool r) ∧ Below w.heap.size w w' := by
 have hu70 := Tryd.underlying70
 have HT := y0.mk hT
 clear hT
 have HR0_1 := y0.mk hr0_1
 have HC0_1 := y0.mk hc0_1
 clear hr0_1 hc0_1
 have HB := y0.mk (Below.refl w.heap.size w)
 have H : ((impl_isRel.f k a0_0 l0_1).bind fun t864 => (some t864)) = some r := h
 clear h
 obtain ⟨t864,A2,H⟩ := qB H
 obtain rfl := Option.some.inj H
 go_enter Tryd.func63,Tryd.ntmps63
 go_wp2_with (first | ((with_reducible refine gate_dst (N := 1) rfl ?_); refine qe 1 #[.int .i64 a0_0,.slice A0_1 l0_1.length c0_1] 70 ?_; intro gb863 hg w3 hbox hb; have BK863 := y0.mk (hbox); have GW863 := y0.mk (qg (w := w) hg); have GE863 := y0.mk (qg (w := w) hg); replace HB := y0.mk (y5 qb hb); clear hb hbox hg; obtain ⟨hcz4_0,hcz4_1,hfz4_0,hfz4_1⟩ := qz2 BK863.out) | ((with_reducible refine y10 (f := 98) rfl ?_); refine y11 (some 4) rfl rfl Tryd.func98 (by kernel_rfl) rfl #[.agg #[.int .i64 a0_0,.slice A0_1 l0_1.length c0_1]] rfl qy0 ?_; (with_reducible refine (impl_isRel.calls k a0_0 _ _ l0_1 t864 _ (qc (Kd.C_below HR0_1.out HB.out)) HC0_1.out (by exact Tb.below HT.out qb) A2.out).mono ?_); rintro e w5 ⟨rfl,hb⟩; refine ⟨_,rfl, ?_⟩; replace BK863 := y0.mk (qK BK863.out hb); replace HB := y0.mk (y5 qb hb); (try clear hb); (try clear hb2); (try clear hk); (try clear hi)))
 go_ret
 exact ⟨by first | rfl | (simp [y8,y9] <;> rfl) | (simp [*,y8,y9] <;> rfl),qb⟩
def laws_eqTupleS.l0 : Nat → List (S36) → List (S36) → Int → Option (Bool)
 | 0,_,_,_ => none
 | k + 1,x0,x1,x5 => if x5 < (x0.length : Int) then (if 0 ≤ x5 then (if x5 < (x1.length : Int) then ((laws_eqTuple.f k ((y14 x0 x5).f0) ((y14 x1 x5).f0)).bind fun t867 => (if t867 = true then (laws_eqTupleS.l0 k x0 x1 (wrap64 (x5 + 1))) else (some false))) else (none)) else (none)) else (some true)
def laws_eqTupleS.f (k : Nat) (l0 : List (S36)) (l1 : List (S36)) : Option (Bool) := if (l0.length : Int) = (l1.length : Int) then (laws_eqTupleS.l0 k l0 l1 0) else (some false)
def laws_eqTupleS.T6 : Bool × List (List Nat × List Nat) := (true,[([],[]),([],[]),([0,1],[0,1]),([2],[2]),([],[]),([],[]),([4,5],[4,5]),([6],[6]),([3,7],[3,7]),([8],[8])])
def laws_eqTupleS.B6 : List Nat := [0,0,3,7,0,0,48,112,255,511]
theorem laws_eqTupleS.tab6 : rtab .any (opsOf Tryd.f99 6) = laws_eqTupleS.T6 := by kernel_rfl
theorem laws_eqTupleS.bits6 : waitsOk laws_eqTupleS.T6.2 laws_eqTupleS.B6 = true := by kernel_rfl
set_option maxHeartbeats 8000000 in
set_option maxRecDepth 100000 in
theorem laws_eqTupleS.calls (k : Nat) (A0 : Option Addr) (c0 : Nat) (l0 : List (S36)) (A1 : Option Addr) (c1 : Nat) (l1 : List (S36)) (r : Bool) (w : World) (hr0 : Kd.C k36 w A0 l0.length l0) (hc0 : l0.length ≤ c0) (hr1 : Kd.C k36 w A1 l1.length l1) (hc1 : l1.length ≤ c1) (h : laws_eqTupleS.f k l0 l1 = some r) (htrue_ : r = true) :
  Calls Tryd.prog 99 #[.slice A0 l0.length c0,.slice A1 l1.length c1] w fun e w' => e = .returned (.bool r) ∧ Below w.heap.size w w' := by
 have hu36 := Tryd.underlying36
 have HR0 := y0.mk hr0
 have HC0 := y0.mk hc0
 clear hr0 hc0
 have HR1 := y0.mk hr1
 have HC1 := y0.mk hc1
 clear hr1 hc1
 have HB := y0.mk (Below.refl w.heap.size w)
 have H : (if (l0.length : Int) = (l1.length : Int) then (laws_eqTupleS.l0 k l0 l1 0) else (some false)) = some r := h
 clear h
 by_cases c3 : (l0.length : Int) = (l1.length : Int)
 ·rw [if_pos c3] at H
  have c3b0 : ((l0.length : Int) == (l1.length : Int)) = true := beq_iff_eq.mpr c3
  have c3b1 : ((l0.length : Int) != (l1.length : Int)) = false := bne_eq_false_iff_eq.mpr c3
  have c3b2 : (l0.length == l1.length) = true := by first | simpa using c3 | (simp at c3 ⊢; omega)
  clear c3
  have H' := y0.mk H
  clear H
  go_enter Tryd.func99,Tryd.ntmps99
  go_wp2
  go_loopg [5] k (fun kq v5 w' => ∃ (x5_1 : Int),v5 = .int .i64 x5_1 ∧ y0 (laws_eqTupleS.l0 kq l0 l1 x5_1 = some r) ∧ y0 (kq ≤ k) ∧ y0 (Below w.heap.size w w'))
  case atStart => exact ⟨(0),qy2,H',⟨Nat.le_refl _⟩,⟨qb⟩⟩
  case round =>
   clear H'
   (try clear c3b0 c3b1 c3b2)
   obtain ⟨x5_1,rfl,HA,HK1,HB⟩ := hrel
   cases gk with
   | zero => exact absurd HA.out (by simp [laws_eqTupleS.l0])
   | succ k1 =>
    have H := HA.out
    clear HA
    simp only [laws_eqTupleS.l0] at H
    by_cases c4 : x5_1 < (l0.length : Int)
    ·rw [if_pos c4] at H
     have c4b0 := decide_eq_true c4
     clear c4
     obtain ⟨c5,H⟩ := qo H
     have c5b0 : decide (0 ≤ x5_1) = true := decide_eq_true c5
     clear c5
     obtain ⟨c6,H⟩ := qo H
     have c6b0 : decide (x5_1 < (l1.length : Int)) = true := decide_eq_true c6
     clear c6
     obtain ⟨t867,A7,H⟩ := qB H
     by_cases c8 : t867 = true
     ·subst c8
      replace H := qT H
      have H' := y0.mk H
      clear H
      try go_wp2
      replace HB := y0.mk (y3 HB.out)
      have p865 : 0 ≤ (x5_1 : Int) := of_decide_eq_true qy1
      have q865 : x5_1 < (l0.length : Int) := of_decide_eq_true qy1
      obtain ⟨ad865,A865_0,c865_0,e865,hx865_0,hl865_0,hi865_0⟩ := at_T36 HR0.out x5_1 p865 q865
      have hw865_0 := hx865_0
      cases e865
      replace hx865_0 := (HB.out.cell (World.block_lt_of_cell? w _ hx865_0)).trans hx865_0
      have HR865_0 := y0.mk hi865_0
      have HC865_0 := y0.mk hl865_0
      clear hi865_0 hl865_0
      replace p865 := eq_true p865
      replace q865 := eq_true q865
      have p866 : 0 ≤ (x5_1 : Int) := of_decide_eq_true qy1
      have q866 : x5_1 < (l1.length : Int) := of_decide_eq_true qy1
      obtain ⟨ad866,A866_0,c866_0,e866,hx866_0,hl866_0,hi866_0⟩ := at_T36 HR1.out x5_1 p866 q866
      have hw866_0 := hx866_0
      cases e866
      replace hx866_0 := (HB.out.cell (World.block_lt_of_cell? w _ hx866_0)).trans hx866_0
      have HR866_0 := y0.mk hi866_0
      have HC866_0 := y0.mk hl866_0
      clear hi866_0 hl866_0
      replace p866 := eq_true p866
      replace q866 := eq_true q866
      refine start_ (n := 10) (S := fun w' => w'.cell? (ad865.add (x5_1).toNat) = some (.slice A865_0 ((y14 l0 x5_1).f0).length c865_0) ∧ w'.cell? (ad866.add (x5_1).toNat) = some (.slice A866_0 ((y14 l1 x5_1).f0).length c866_0)) (ds := []) (fl_ 10 0) (by kernel_rfl) rfl rfl ⟨((HB.out.cell (World.block_lt_of_cell? w _ hw865_0)).trans hw865_0),((HB.out.cell (World.block_lt_of_cell? w _ hw866_0)).trans hw866_0)⟩ (fun hHeld => ?_); refine with_tabW laws_eqTupleS.tab6 laws_eqTupleS.bits6 (fun HT_ HW_ => ?_)
      generalize wr.drew = w9 at HB HR865_0 HR866_0 hx865_0 hx866_0 hHeld ⊢
      refine qp 0 17 (fl_ 10 1) ?_
      refine qp 1 18 (fl_ 10 3) ?_
      refine qp 2 19 (fl_ 10 7) ?_
      refine qp 4 21 (fl_ 10 23) ?_
      refine qp 5 22 (fl_ 10 55) ?_
      refine qp 6 23 (fl_ 10 119) ?_
      refine qt 3 20 (fl_ 10 127) hHeld ?_
      refine qt 7 24 (fl_ 10 255) hHeld ?_
      refine one_ (i := 8) (N := some 25) (fl_ 10 511) rfl rfl (one_of HT_.out (by kernel_rfl)) (by decide) (fun K hK => ?_)
      refine goes_ Tryd.func34 (by kernel_rfl) rfl #[.agg #[.slice A865_0 ((y14 l0 x5_1).f0).length c865_0],.agg #[.slice A866_0 ((y14 l1 x5_1).f0).length c866_0]] (by rfl) rfl rfl qy0 ?_
      with_reducible refine (laws_eqTuple.calls k1 _ _ ((y14 l0 x5_1).f0) _ _ ((y14 l1 x5_1).f0) true _ (qc (Kd.C_below HR865_0.out HB.out)) HC865_0.out (qc (Kd.C_below HR866_0.out HB.out)) HC866_0.out A7.out rfl).mono ?_
      rintro e w10 ⟨rfl,hb⟩
      refine ⟨_,rfl, ?_⟩
      replace HB := y0.mk (y5 qb hb)
      (try clear hb)
      (try clear hb2)
      (try clear hk)
      (try clear hi)
      refine hK.out _ _ ⟨((HB.out.cell (World.block_lt_of_cell? w _ hw865_0)).trans hw865_0),((HB.out.cell (World.block_lt_of_cell? w _ hw866_0)).trans hw866_0)⟩ (fun hHeld => ?_)
      clear hK K
      refine norm_ (a' := ?_) ?_ ?_
      rotate_left
      ·show Act.put _ (some 25) _ = _
       simp only [Act.put,qS_,qZ_,qC_,y13,y12]
       rfl
      refine qp 9 26 (fl_ 10 1023) ?_
      refine done_ (done_of HT_.out (by kernel_rfl)) ?_
      try go_wp2
      go_roundg k1
      case measure => have := HK1.out; omega
      exact ⟨(wrap64 (x5_1 + 1)),qy2,H',⟨by have := HK1.out; omega⟩,⟨qb⟩⟩
     ·replace c8 := Bool.eq_false_iff.mpr c8
      subst c8
      replace H := qF H
      exact absurd ((Option.some.inj H).trans htrue_) (by decide)
    ·rw [if_neg c4] at H
     have c4b0 := decide_eq_false c4
     clear c4
     obtain rfl := Option.some.inj H
     go_wp2
     go_ret
     exact ⟨by first | rfl | (simp [y8,y9] <;> rfl) | (simp [*,y8,y9] <;> rfl),qb⟩
 ·rw [if_neg c3] at H
  have c3b0 : ((l0.length : Int) == (l1.length : Int)) = false := beq_eq_false_iff_ne.mpr c3
  have c3b1 : ((l0.length : Int) != (l1.length : Int)) = true := bne_iff_ne.mpr c3
  have c3b2 : (l0.length == l1.length) = false := by first | simpa using c3 | (simp at c3 ⊢; omega)
  exact absurd ((Option.some.inj H).trans htrue_) (by decide)
def laws_eqRel.f (k : Nat) (a0_0 : Int) (l0_1 : List (S36)) (a1_0 : Int) (l1_1 : List (S36)) : Option (Bool) := if a0_0 = a1_0 then ((laws_eqTupleS.f k l0_1 l1_1).bind fun t870 => (if t870 = true then (some true) else (some false))) else (some false)
set_option maxHeartbeats 8000000 in
set_option maxRecDepth 100000 in
theorem laws_eqRel.calls (k : Nat) (a0_0 : Int) (A0_1 : Option Addr) (c0_1 : Nat) (l0_1 : List (S36)) (a1_0 : Int) (A1_1 : Option Addr) (c1_1 : Nat) (l1_1 : List (S36)) (r : Bool) (w : World) (hr0_1 : Kd.C k36 w A0_1 l0_1.length l0_1) (hc0_1 : l0_1.length ≤ c0_1) (hr1_1 : Kd.C k36 w A1_1 l1_1.length l1_1) (hc1_1 : l1_1.length ≤ c1_1) (h : laws_eqRel.f k a0_0 l0_1 a1_0 l1_1 = some r) (htrue_ : r = true) :
  Calls Tryd.prog 64 #[.agg #[.int .i64 a0_0,.slice A0_1 l0_1.length c0_1],.agg #[.int .i64 a1_0,.slice A1_1 l1_1.length c1_1]] w fun e w' => e = .returned (.bool r) ∧ Below w.heap.size w w' := by
 have hu70 := Tryd.underlying70
 have HR0_1 := y0.mk hr0_1
 have HC0_1 := y0.mk hc0_1
 clear hr0_1 hc0_1
 have HR1_1 := y0.mk hr1_1
 have HC1_1 := y0.mk hc1_1
 clear hr1_1 hc1_1
 have HB := y0.mk (Below.refl w.heap.size w)
 have H : (if a0_0 = a1_0 then ((laws_eqTupleS.f k l0_1 l1_1).bind fun t870 => (if t870 = true then (some true) else (some false))) else (some false)) = some r := h
 clear h
 by_cases c3 : a0_0 = a1_0
 ·rw [if_pos c3] at H
  have c3b0 : (a0_0 == a1_0) = true := beq_iff_eq.mpr c3
  have c3b1 : (a0_0 != a1_0) = false := bne_eq_false_iff_eq.mpr c3
  clear c3
  obtain ⟨t870,A4,H⟩ := qB H
  by_cases c5 : t870 = true
  ·subst c5
   replace H := qT H
   obtain rfl := Option.some.inj H
   go_enter Tryd.func64,Tryd.ntmps64
   go_wp2_with (first | ((with_reducible refine gate_dst (N := 2) rfl ?_); refine qe 2 #[.int .i64 a0_0,.slice A0_1 l0_1.length c0_1] 70 ?_; intro gb868 hg w6 hbox hb; have BK868 := y0.mk (hbox); have GW868 := y0.mk (qg (w := w) hg); have GE868 := y0.mk (qg (w := w) hg); replace HB := y0.mk (y5 qb hb); clear hb hbox hg) | ((with_reducible refine gate_dst (N := 3) rfl ?_); refine qe 3 #[.int .i64 a1_0,.slice A1_1 l1_1.length c1_1] 70 ?_; intro gb869 hg w7 hbox hb; have BK869 := y0.mk (hbox); have GW869 := y0.mk (qg (w := w) hg); have GE869 := y0.mk (qg (w := w) hg); replace HB := y0.mk (y5 qb hb); have NB868_869 := y0.mk (qn BK868.out hg); have NB869_868 := y0.mk (qm BK868.out hg); replace BK868 := y0.mk (qK BK868.out hb); clear hb hbox hg; have hnb8 := NB868_869.out; have hnc8 := NB869_868.out; obtain ⟨hcz9_0,hcz9_1,hfz9_0,hfz9_1⟩ := qz2 BK868.out; obtain ⟨hcz10_0,hcz10_1,hfz10_0,hfz10_1⟩ := qz2 BK869.out) | ((with_reducible refine y10 (f := 99) rfl ?_); refine y11 (some 14) rfl rfl Tryd.func99 (by kernel_rfl) rfl #[.slice A0_1 l0_1.length c0_1,.slice A1_1 l1_1.length c1_1] rfl qy0 ?_; (with_reducible refine (laws_eqTupleS.calls k _ _ l0_1 _ _ l1_1 true _ (qc (Kd.C_below HR0_1.out HB.out)) HC0_1.out (qc (Kd.C_below HR1_1.out HB.out)) HC1_1.out A4.out rfl).mono ?_); rintro e w11 ⟨rfl,hb⟩; refine ⟨_,rfl, ?_⟩; replace BK868 := y0.mk (qK BK868.out hb); replace BK869 := y0.mk (qK BK869.out hb); replace HB := y0.mk (y5 qb hb); (try clear hb); (try clear hb2); (try clear hk); (try clear hi)))
   go_ret
   exact ⟨by first | rfl | (simp [y8,y9] <;> rfl) | (simp [*,y8,y9] <;> rfl),qb⟩
  ·replace c5 := Bool.eq_false_iff.mpr c5
   subst c5
   replace H := qF H
   exact absurd ((Option.some.inj H).trans htrue_) (by decide)
 ·rw [if_neg c3] at H
  have c3b0 : (a0_0 == a1_0) = false := beq_eq_false_iff_ne.mpr c3
  have c3b1 : (a0_0 != a1_0) = true := bne_iff_ne.mpr c3
  exact absurd ((Option.some.inj H).trans htrue_) (by decide)
end Go.Proofs.YtebadckdihgklaaDoor.Pb
end
section
namespace Go.Proofs.YtebadckdihgklaaDoor.Pb
open Go.RowKit Go.Proofs.YtebadckdihgklaaDoorW.PrintWords Go.Proofs.YtebadckdihgklaaDoorW.PrintLast Go.Proofs.YtebadckdihgklaaDoorW.PrintMore
attribute [local go_sem] max2_int min2_int max_two min_two max_three min_three max_four min_four   -- for this text's walks alone
set_option linter.unusedVariables false
set_option linter.unusedSimpArgs false
def laws_FnExactRelOk.f (k : Nat) (a0_0 : Int) (l0_1 : List (S33)) : Option (Bool) := (laws_szRel.f k a0_0 l0_1 1048576).bind fun t872 => (if t872 < 0 then (some true) else ((laws_toRel.f k a0_0 l0_1).bind fun bt873 => ((spec_RelOk.f k bt873.1 bt873.2).bind fun t877 => ((laws_toRel.f k a0_0 l0_1).bind fun bt878 => ((impl_RelOk.f k bt878.1 bt878.2).bind fun t883 => (if (t883 != t877) = true then (some false) else ((laws_toRel.f k a0_0 l0_1).bind fun bt884 => ((laws_eqRel.f k bt878.1 bt878.2 bt884.1 bt884.2).bind fun t888 => (if t888 = true then (some true) else (some false))))))))))
set_option maxHeartbeats 8000000 in
set_option maxRecDepth 100000 in
theorem laws_FnExactRelOk.calls (k : Nat) (a0_0 : Int) (A0_1 : Option Addr) (c0_1 : Nat) (l0_1 : List (S33)) (r : Bool) (w : World) (hr0_1 : Kd.C k33 w A0_1 l0_1.length l0_1) (hc0_1 : l0_1.length ≤ c0_1) (hT : Tb w) (h : laws_FnExactRelOk.f k a0_0 l0_1 = some r) (htrue_ : r = true) :
  Calls Tryd.prog 19 #[.agg #[.int .i64 a0_0,.slice A0_1 l0_1.length c0_1]] w fun e w' => e = .returned (.bool r) ∧ Below w.heap.size w w' := by
 have hu65 := Tryd.underlying65
 have hu70 := Tryd.underlying70
 have HT := y0.mk hT
 clear hT
 have HR0_1 := y0.mk hr0_1
 have HC0_1 := y0.mk hc0_1
 clear hr0_1 hc0_1
 have HB := y0.mk (Below.refl w.heap.size w)
 have H : ((laws_szRel.f k a0_0 l0_1 1048576).bind fun t872 => (if t872 < 0 then (some true) else ((laws_toRel.f k a0_0 l0_1).bind fun bt873 => ((spec_RelOk.f k bt873.1 bt873.2).bind fun t877 => ((laws_toRel.f k a0_0 l0_1).bind fun bt878 => ((impl_RelOk.f k bt878.1 bt878.2).bind fun t883 => (if (t883 != t877) = true then (some false) else ((laws_toRel.f k a0_0 l0_1).bind fun bt884 => ((laws_eqRel.f k bt878.1 bt878.2 bt884.1 bt884.2).bind fun t888 => (if t888 = true then (some true) else (some false))))))))))) = some r := h
 clear h
 obtain ⟨t872,A2,H⟩ := qB H
 by_cases c3 : t872 < 0
 ·rw [if_pos c3] at H
  have c3b0 := decide_eq_true c3
  clear c3
  obtain rfl := Option.some.inj H
  go_enter Tryd.func19,Tryd.ntmps19
  go_wp2_with (first | ((with_reducible refine gate_dst (N := 1) rfl ?_); refine qe 1 #[.int .i64 a0_0,.slice A0_1 l0_1.length c0_1] 65 ?_; intro gb871 hg w4 hbox hb; have BK871 := y0.mk (hbox); have GW871 := y0.mk (qg (w := w) hg); have GE871 := y0.mk (qg (w := w) hg); replace HB := y0.mk (y5 qb hb); clear hb hbox hg; obtain ⟨hcz5_0,hcz5_1,hfz5_0,hfz5_1⟩ := qz2 BK871.out) | ((with_reducible refine y10 (f := 60) rfl ?_); refine y11 (some 9) rfl rfl Tryd.func60 (by kernel_rfl) rfl #[.agg #[.int .i64 a0_0,.slice A0_1 l0_1.length c0_1],.int .i64 1048576] rfl qy0 ?_; (with_reducible refine (laws_szRel.calls k a0_0 _ _ l0_1 1048576 t872 _ (qc (Kd.C_below HR0_1.out HB.out)) HC0_1.out A2.out).mono ?_); rintro e w6 ⟨rfl,hb⟩; refine ⟨_,rfl, ?_⟩; replace BK871 := y0.mk (qK BK871.out hb); replace HB := y0.mk (y5 qb hb); (try clear hb); (try clear hb2); (try clear hk); (try clear hi)))
  go_ret
  exact ⟨by first | rfl | (simp [y8,y9] <;> rfl) | (simp [*,y8,y9] <;> rfl),qb⟩
 ·rw [if_neg c3] at H
  have c3b0 := decide_eq_false c3
  clear c3
  obtain ⟨⟨t873,t874⟩,A7,H⟩ := qB H
  replace H : ((spec_RelOk.f k t873 t874).bind fun t877 => ((laws_toRel.f k a0_0 l0_1).bind fun bt878 => ((impl_RelOk.f k bt878.1 bt878.2).bind fun t883 => (if (t883 != t877) = true then (some false) else ((laws_toRel.f k a0_0 l0_1).bind fun bt884 => ((laws_eqRel.f k bt878.1 bt878.2 bt884.1 bt884.2).bind fun t888 => (if t888 = true then (some true) else (some false)))))))) = some r := H
  obtain ⟨t877,A8,H⟩ := qB H
  obtain ⟨⟨t878,t879⟩,A9,H⟩ := qB H
  replace H : ((impl_RelOk.f k t878 t879).bind fun t883 => (if (t883 != t877) = true then (some false) else ((laws_toRel.f k a0_0 l0_1).bind fun bt884 => ((laws_eqRel.f k t878 t879 bt884.1 bt884.2).bind fun t888 => (if t888 = true then (some true) else (some false)))))) = some r := H
  obtain ⟨t883,A10,H⟩ := qB H
  by_cases c11 : (t883 != t877) = true
  ·rw [if_pos c11] at H
   have c11b0 : (t883 != t877) = true := c11
   (try (have c11b1 : decide (t883 = t877) = false := by simpa using c11))
   (try (have c11b2 : (t883 == t877) = false := by simpa using c11))
   (try (have c11b3 : ¬ (t883 = t877) := by simpa using c11))
   clear c11
   exact absurd ((Option.some.inj H).trans htrue_) (by decide)
  ·rw [if_neg c11] at H
   have c11b0 : (t883 != t877) = false := by simpa using c11
   (try (have c11b1 : decide (t883 = t877) = true := by simpa using c11))
   (try (have c11b2 : (t883 == t877) = true := by simpa using c11))
   clear c11
   obtain ⟨⟨t884,t885⟩,A26,H⟩ := qB H
   replace H : ((laws_eqRel.f k t878 t879 t884 t885).bind fun t888 => (if t888 = true then (some true) else (some false))) = some r := H
   obtain ⟨t888,A27,H⟩ := qB H
   by_cases c28 : t888 = true
   ·subst c28
    replace H := qT H
    obtain rfl := Option.some.inj H
    go_enter Tryd.func19,Tryd.ntmps19
    try go_wp2_with (first | ((with_reducible refine gate_dst (N := 1) rfl ?_); refine qe 1 #[.int .i64 a0_0,.slice A0_1 l0_1.length c0_1] 65 ?_; intro gb871 hg w29 hbox hb; have BK871 := y0.mk (hbox); have GW871 := y0.mk (qg (w := w) hg); have GE871 := y0.mk (qg (w := w) hg); replace HB := y0.mk (y5 qb hb); clear hb hbox hg; obtain ⟨hcz30_0,hcz30_1,hfz30_0,hfz30_1⟩ := qz2 BK871.out) | ((with_reducible refine y10 (f := 60) rfl ?_); refine y11 (some 9) rfl rfl Tryd.func60 (by kernel_rfl) rfl #[.agg #[.int .i64 a0_0,.slice A0_1 l0_1.length c0_1],.int .i64 1048576] rfl qy0 ?_; (with_reducible refine (laws_szRel.calls k a0_0 _ _ l0_1 1048576 t872 _ (qc (Kd.C_below HR0_1.out HB.out)) HC0_1.out A2.out).mono ?_); rintro e w31 ⟨rfl,hb⟩; refine ⟨_,rfl, ?_⟩; replace BK871 := y0.mk (qK BK871.out hb); replace HB := y0.mk (y5 qb hb); (try clear hb); (try clear hb2); (try clear hk); (try clear hi); obtain ⟨hcz32_0,hcz32_1,hfz32_0,hfz32_1⟩ := qz2 BK871.out) | ((with_reducible refine y10 (f := 62) rfl ?_); refine y11 (some 13) rfl rfl Tryd.func62 (by kernel_rfl) rfl #[.agg #[.int .i64 a0_0,.slice A0_1 l0_1.length c0_1]] rfl qy0 ?_; (with_reducible refine (laws_toRel.calls k a0_0 _ _ l0_1 t873 t874 _ (qc (Kd.C_below HR0_1.out HB.out)) HC0_1.out A7.out).mono ?_); rintro e w33 ⟨v875,rfl,ho0,hb⟩; refine ⟨_,rfl, ?_⟩; have HO876 := y0.mk (Kd.S_lower ho0 (y4 qb)); replace BK871 := y0.mk (qK BK871.out hb); replace HB := y0.mk (y5 qb hb); (try clear hb); (try clear hb2); (try clear hk); (try clear hi); (try clear ho0); obtain ⟨Ao34,co34,eo34⟩ := Kd.S_slice HO876.out; subst eo34) | ((with_reducible refine y10 (f := 61) rfl ?_); refine y11 (some 14) rfl rfl Tryd.func61 (by kernel_rfl) rfl #[.agg #[.int .i64 t873,.slice Ao34 t874.length co34]] rfl qy0 ?_; (with_reducible refine (spec_RelOk.calls k t873 _ _ t874 t877 _ (qc ((Kd.S_reads' HO876.out).2.2)) (by exact (Kd.S_reads' HO876.out).2.1) A8.out).mono ?_); rintro e w35 ⟨rfl,hb⟩; refine ⟨_,rfl, ?_⟩; replace HO876 := y0.mk (Kd.S_below (qS HO876.out) hb); replace BK871 := y0.mk (qK BK871.out hb); replace HB := y0.mk (y5 qb hb); (try clear hb); (try clear hb2); (try clear hk); (try clear hi); obtain ⟨hcz36_0,hcz36_1,hfz36_0,hfz36_1⟩ := qz2 BK871.out) | ((with_reducible refine y10 (f := 62) rfl ?_); refine y11 (some 16) rfl rfl Tryd.func62 (by kernel_rfl) rfl #[.agg #[.int .i64 a0_0,.slice A0_1 l0_1.length c0_1]] rfl qy0 ?_; (with_reducible refine (laws_toRel.calls k a0_0 _ _ l0_1 t878 t879 _ (qc (Kd.C_below HR0_1.out HB.out)) HC0_1.out A9.out).mono ?_); rintro e w37 ⟨v880,rfl,ho0,hb⟩; refine ⟨_,rfl, ?_⟩; have HO881 := y0.mk (Kd.S_lower (Kd.S_new' ho0 (Kd.S_lt (qS HO876.out))) (y4 qb)); replace HO876 := y0.mk (Kd.S_elder' (qS HO876.out) (Kd.S_base ho0) hb); replace BK871 := y0.mk (qK BK871.out hb); replace HB := y0.mk (y5 qb hb); (try clear hb); (try clear hb2); (try clear hk); (try clear hi); (try clear ho0)) | ((with_reducible refine gate_dst (N := 5) rfl ?_); refine qe 5 #[.int .i64 0,.slice none 0 0] 70 ?_; intro gb882 hg w38 hbox hb; replace HO876 := y0.mk (Kd.S_below (qS HO876.out) hb); replace HO881 := y0.mk (Kd.S_below (qS HO881.out) hb); have BK882 := y0.mk (hbox); have GW882 := y0.mk (qg (w := w) hg); have GE882 := y0.mk (qg (w := w) hg); replace HB := y0.mk (y5 qb hb); have NB871_882 := y0.mk (qn BK871.out hg); have NB882_871 := y0.mk (qm BK871.out hg); replace BK871 := y0.mk (qK BK871.out hb); clear hb hbox hg; have hnb39 := NB882_871.out; have hnc39 := NB871_882.out; obtain ⟨hcz40_0,hcz40_1,hfz40_0,hfz40_1⟩ := qz2 BK882.out; obtain ⟨Ao41,co41,eo41⟩ := Kd.S_slice HO881.out; subst eo41) | ((with_reducible refine y10 (f := 63) rfl ?_); refine y11 (some 18) rfl rfl Tryd.func63 (by kernel_rfl) rfl #[.agg #[.int .i64 t878,.slice Ao41 t879.length co41]] rfl qy0 ?_; (with_reducible refine (impl_RelOk.calls k t878 _ _ t879 t883 _ (by refine (Kd.S_reads' (e := 36) (base := w.heap.size) (ok := fun k_ => (True ∧ some k_ ≠ (.slice Ao34 t874.length co34 : Value).ownBlock)) (n := t879.length) (c := co41) ?_).2.2; exact (qS ((Kd.S_mono (Kd.S_far (p := ⟨gb882,1,none⟩) (Kd.S_far (p := ⟨gb882,0,none⟩) (Kd.S_types HO881.out BK882.out (by decide)) (fun _ hk => hk.2) (.int .i64 t878)) (fun _ hk => hk.2) (.slice Ao41 t879.length co41)) (fun _ h_ => h_.1))))) (by exact (Kd.S_reads' HO881.out).2.1) (by exact Tb.below HT.out qb) A10.out).mono ?_); rintro e w42 ⟨rfl,hb⟩; refine ⟨_,rfl, ?_⟩; replace HO876 := y0.mk (Kd.S_below (qS ((Kd.S_mono (Kd.S_far (p := ⟨gb882,1,none⟩) (Kd.S_far (p := ⟨gb882,0,none⟩) (Kd.S_types HO876.out BK882.out (by decide)) (fun _ hk => hk.2) (.int .i64 t878)) (fun _ hk => hk.2) (.slice Ao41 t879.length co41)) (fun _ h_ => h_.1)))) hb); replace HO881 := y0.mk (Kd.S_below (qS ((Kd.S_mono (Kd.S_far (p := ⟨gb882,1,none⟩) (Kd.S_far (p := ⟨gb882,0,none⟩) (Kd.S_types HO881.out BK882.out (by decide)) (fun _ hk => hk.2) (.int .i64 t878)) (fun _ hk => hk.2) (.slice Ao41 t879.length co41)) (fun _ h_ => h_.1)))) hb); replace BK871 := y0.mk (blk_below (g := gb871) (o := .cells #[.int .i64 a0_0,.slice A0_1 l0_1.length c0_1] 65 (0,0)) (by (with_reducible repeat (first | refine blk_drewN ?_ _ | refine y7 ?_ | refine blk_alloc ?_ _)); refine blk_far ?_ NB871_882.out _; (with_reducible repeat (first | refine blk_drewN ?_ _ | refine y7 ?_ | refine blk_alloc ?_ _)); refine blk_far ?_ NB871_882.out _; (with_reducible repeat (first | refine blk_drewN ?_ _ | refine y7 ?_ | refine blk_alloc ?_ _)); exact BK871.out) hb); replace BK882 := y0.mk (blk_below (g := gb882) (o := .cells #[.int .i64 t878,.slice Ao41 t879.length co41] 70 (0,0)) (by (with_reducible repeat (first | refine blk_drewN ?_ _ | refine y7 ?_ | refine blk_alloc ?_ _)); refine blk_put (cs := #[.int .i64 t878,.slice none 0 0]) ?_ 1 _ rfl; (with_reducible repeat (first | refine blk_drewN ?_ _ | refine y7 ?_ | refine blk_alloc ?_ _)); refine blk_put (cs := #[.int .i64 0,.slice none 0 0]) ?_ 0 _ rfl; (with_reducible repeat (first | refine blk_drewN ?_ _ | refine y7 ?_ | refine blk_alloc ?_ _)); exact BK882.out) hb); replace HB := y0.mk (y5 qb hb); (try clear hb); (try clear hb2); (try clear hk); (try clear hi)))
    replace HO876 := y0.mk (Kd.S_drew HO876.out)
    replace HO881 := y0.mk (Kd.S_drew HO881.out)
    replace BK871 := y0.mk (y7 BK871.out)
    replace BK882 := y0.mk (y7 BK882.out)
    replace HB := y0.mk (y3 HB.out)
    refine start_ (n := 5) (S := fun w' => w'.cell? ⟨gb882,0,none⟩ = some (.int .i64 t878) ∧ w'.cell? ⟨gb882,1,none⟩ = some (.slice Ao41 t879.length co41) ∧ w'.cell? ⟨gb871,0,none⟩ = some (.int .i64 a0_0) ∧ w'.cell? ⟨gb871,1,none⟩ = some (.slice A0_1 l0_1.length c0_1)) (ds := []) #[false,false,false,false,false] (by kernel_rfl) rfl rfl ⟨(y6 BK882.out 0).trans rfl,(y6 BK882.out 1).trans rfl,(y6 BK871.out 0).trans rfl,(y6 BK871.out 1).trans rfl⟩ (fun hHeld => ?_)
    generalize w42.drew = w43 at HO876 HO881 BK871 BK882 HB hHeld ⊢
    refine take_ (i := 0) (N := some 22) (v := ?_) (a' := ?_) #[true,false,false,false,false] rfl rfl (by kernel_rfl) (fun _ _ _ h => h) (Or.inl ⟨by rfl, ?_⟩) hHeld ?_ ?_
    rotate_left
    ·rintro w' ⟨s0,s1,s2,s3⟩
     go_simp
     with_reducible rfl
    rotate_left
    ·simp only [Act.put,qS_,qZ_,qC_,y13,y12]
     rfl
    refine take_ (i := 1) (N := some 23) (v := ?_) (a' := ?_) #[true,true,false,false,false] rfl rfl (by kernel_rfl) (fun _ _ _ h => h) (Or.inl ⟨by rfl, ?_⟩) hHeld ?_ ?_
    rotate_left
    ·rintro w' ⟨s0,s1,s2,s3⟩
     go_simp
     with_reducible rfl
    rotate_left
    ·simp only [Act.put,qS_,qZ_,qC_,y13,y12]
     rfl
    refine one_ (i := 2) (N := some 24) #[true,true,true,false,false] rfl rfl (by kernel_rfl) (by decide) (fun K hK => ?_)
    refine goes_ Tryd.func62 (by kernel_rfl) rfl #[.agg #[.int .i64 a0_0,.slice A0_1 l0_1.length c0_1]] (by rfl) rfl rfl qy0 ?_
    with_reducible refine (laws_toRel.calls k a0_0 _ _ l0_1 t884 t885 _ (qc (Kd.C_below HR0_1.out HB.out)) HC0_1.out A26.out).mono ?_
    rintro e w44 ⟨v886,rfl,ho0,hb⟩
    refine ⟨_,rfl, ?_⟩
    have HO887 := y0.mk (Kd.S_lower (Kd.S_new' (Kd.S_new' ho0 (Kd.S_lt (qS HO876.out))) (Kd.S_lt (qS HO881.out))) (y4 qb))
    replace HO876 := y0.mk (Kd.S_elder' (qS HO876.out) (Kd.S_base ho0) hb)
    replace HO881 := y0.mk (Kd.S_elder' (qS HO881.out) (Kd.S_base ho0) hb)
    replace BK871 := y0.mk (qK BK871.out hb)
    replace BK882 := y0.mk (qK BK882.out hb)
    replace HB := y0.mk (y5 qb hb)
    (try clear hb)
    (try clear hb2)
    (try clear hk)
    (try clear hi)
    (try clear ho0)
    obtain ⟨Ao45,co45,eo45⟩ := Kd.S_slice HO887.out
    (first | subst eo45 | (injection eo45 with f1_ f2_ f3_; have f4_ := f1_.symm; have f5_ := f3_.symm; clear f1_ f2_ f3_; subst f4_; subst f5_))
    refine hK.out _ _ ⟨(y6 BK882.out 0).trans rfl,(y6 BK882.out 1).trans rfl,(y6 BK871.out 0).trans rfl,(y6 BK871.out 1).trans rfl⟩ (fun hHeld => ?_)
    clear hK K
    refine norm_ (a' := ?_) ?_ ?_
    rotate_left
    ·show Act.put _ (some 24) _ = _
     simp only [Act.put,qS_,qZ_,qC_,y13,y12]
     rfl
    refine one_ (i := 3) (N := some 25) #[true,true,true,true,false] rfl rfl (by kernel_rfl) (by decide) (fun K hK => ?_)
    refine goes_ Tryd.func64 (by kernel_rfl) rfl #[.agg #[.int .i64 t878,.slice Ao41 t879.length co41],.agg #[.int .i64 t884,.slice Ao45 t885.length co45]] (by rfl) rfl rfl qy0 ?_
    with_reducible refine (laws_eqRel.calls k t878 _ _ t879 t884 _ _ t885 true _ (qc ((Kd.S_reads' HO881.out).2.2)) (by exact (Kd.S_reads' HO881.out).2.1) (qc ((Kd.S_reads' HO887.out).2.2)) (by exact (Kd.S_reads' HO887.out).2.1) A27.out rfl).mono ?_
    rintro e w46 ⟨rfl,hb⟩
    refine ⟨_,rfl, ?_⟩
    replace HO876 := y0.mk (Kd.S_below (qS HO876.out) hb)
    replace HO881 := y0.mk (Kd.S_below (qS HO881.out) hb)
    replace HO887 := y0.mk (Kd.S_below (qS HO887.out) hb)
    replace BK871 := y0.mk (qK BK871.out hb)
    replace BK882 := y0.mk (qK BK882.out hb)
    replace HB := y0.mk (y5 qb hb)
    (try clear hb)
    (try clear hb2)
    (try clear hk)
    (try clear hi)
    refine hK.out _ _ ⟨(y6 BK882.out 0).trans rfl,(y6 BK882.out 1).trans rfl,(y6 BK871.out 0).trans rfl,(y6 BK871.out 1).trans rfl⟩ (fun hHeld => ?_)
    clear hK K
    refine norm_ (a' := ?_) ?_ ?_
    rotate_left
    ·show Act.put _ (some 25) _ = _
     simp only [Act.put,qS_,qZ_,qC_,y13,y12]
     rfl
    refine pure_ (i := 4) (N := some 26) (v := ?_) (a' := ?_) #[true,true,true,true,true] rfl rfl (by kernel_rfl) (fun _ _ _ h => h) (Or.inl ⟨by rfl, ?_⟩) ?_ ?_
    rotate_left
    ·intro w'
     go_simp
     with_reducible rfl
    rotate_left
    ·simp only [Act.put,qS_,qZ_,qC_,y13,y12]
     rfl
    refine done_ (by kernel_rfl) ?_
    try go_wp2
    go_ret
    exact ⟨by first | rfl | (simp [y8,y9] <;> rfl) | (simp [*,y8,y9] <;> rfl),qb⟩
   ·replace c28 := Bool.eq_false_iff.mpr c28
    subst c28
    replace H := qF H
    exact absurd ((Option.some.inj H).trans htrue_) (by decide)
/-- THE ONE PURE STATEMENT of laws_FnExactRelOk. -/
def laws_FnExactRelOk.Pure : Prop := ∀ (x0 : S65),okT65 x0 → ∃ k,laws_FnExactRelOk.f k x0.f0 x0.f1 = some true
theorem laws_FnExactRelOk.walk (P : laws_FnExactRelOk.Pure) (x0 : S65) (A0_1 : Option Addr) (c0_1 : Nat) (w : World) (hr0_1 : Kd.C k33 w A0_1 x0.f1.length x0.f1) (hc0_1 : x0.f1.length ≤ c0_1) (k0 : okT65 x0) (hT : Tb w) :
  Calls Tryd.prog 19 #[.agg #[.int .i64 x0.f0,.slice A0_1 x0.f1.length c0_1]] w fun e w' => e = .returned (.bool true) ∧ Below w.heap.size w w' := by
 obtain ⟨k,h⟩ := P x0 k0
 refine (laws_FnExactRelOk.calls k x0.f0 A0_1 c0_1 x0.f1 true w hr0_1 hc0_1 hT h rfl).mono ?_
 rintro e w' ⟨rfl,hd⟩
 exact ⟨rfl,hd⟩
end Go.Proofs.YtebadckdihgklaaDoor.Pb
end

-- Cut by prune.py, a program of this session, out of the texts of this claim: Lean checks it.
import Derived.Test.YtocmfolajckaeaaGreatDoorVskPex0
import Derived.Test.YtocmfolajckaeaaGreatDoorVskPex10
import Derived.Test.YtocmfolajckaeaaGreatDoorVskPex13
section
namespace Go.Proofs.YtocmfolajckaeaaGreatDoor.Pe
open Go.RowKit Go.Proofs.YtocmfolajckaeaaGreatDoorW.PrintWords Go.Proofs.YtocmfolajckaeaaGreatDoorW.PrintLast Go.Proofs.YtocmfolajckaeaaGreatDoorW.PrintMore
attribute [local go_sem] max2_int min2_int max_two min_two max_three min_three max_four min_four   -- for this text's walks alone
set_option linter.unusedVariables false
set_option linter.unusedSimpArgs false
mutual
def impl_isRel.j0 : Nat → Bool → Int → List (S48) → Option (Bool)
 | 0,_,_,_ => none
 | k + 1,x14,x349000,x349001 => if x14 = true then (some false) else (impl_isRel.l0 k x349001 (x349001.length : Int) 0 x349000 x349001)
def impl_isRel.l0 : Nat → List (S48) → Int → Int → Int → List (S48) → Option (Bool)
 | 0,_,_,_,_,_ => none
 | k + 1,x16,x17,x18,x349000,x349001 => if x18 < x17 then (if 0 ≤ x18 then (if x18 < (x16.length : Int) then ((impl_isTuple.f k ((y19 x16 x18).f0)).bind fun t352 => (if t352 = true then (if (((y19 x16 x18).f0).length : Int) = x349000 then (if x18 > 0 then (if 0 ≤ (wrap64 (x18 - 1)) then (if (wrap64 (x18 - 1)) < (x349001.length : Int) then ((impl_compareTuples.f k ((y19 x349001 (wrap64 (x18 - 1))).f0) ((y19 x16 x18).f0)).bind fun t354 => (if t354 ≥ 0 then (some false) else (impl_isRel.l0 k x16 x17 (wrap64 (x18 + 1)) x349000 x349001))) else (none)) else (none)) else (impl_isRel.l0 k x16 x17 (wrap64 (x18 + 1)) x349000 x349001)) else (some false)) else (some false))) else (none)) else (none)) else (some true)
end
def impl_isRel.f (k : Nat) (a0_0 : Int) (l0_1 : List (S48)) : Option (Bool) := (impl_in.f a0_0 0 6).bind fun t349 => (if t349 = true then (impl_isRel.j0 k (decide ((l0_1.length : Int) > 400)) a0_0 l0_1) else (impl_isRel.j0 k true a0_0 l0_1))
def impl_isRel.T6 : Bool × List (List Nat × List Nat) := (true,[([],[]),([0],[0]),([1],[1]),([2,1],[2]),([3],[3]),([4,3],[3,4]),([5,3],[3,5]),([3],[3]),([7,3],[3,7]),([6,8,3],[3,6,8]),([3,9],[3,9]),([10,3],[10]),([11],[11]),([12,11],[11,12]),([13,11,11],[11,13]),([14],[14]),([15,14],[14,15]),([14],[14]),([17,14],[14,17]),([16,18,14],[14,16,18]),([19,14],[14,19]),([14],[14]),([20,21,14,14],[14,20,21]),([22,14],[14,22]),([14,23,11],[11,14,23]),([11,24],[11,24])])
def impl_isRel.B6 : List Nat := [0,1,3,7,15,31,63,15,143,511,1023,2047,4095,8191,16383,32767,65535,32767,163839,524287,1048575,32767,4194303,8388607,16777215,33554431]
theorem impl_isRel.tab6 : rtab .any (opsOf Tryz.f37 6) = impl_isRel.T6 := by kernel_rfl
theorem impl_isRel.bits6 : waitsOk impl_isRel.T6.2 impl_isRel.B6 = true := by kernel_rfl
set_option maxHeartbeats 8000000 in
set_option maxRecDepth 100000 in
theorem impl_isRel.calls (k : Nat) (a0_0 : Int) (A0_1 : Option Addr) (c0_1 : Nat) (l0_1 : List (S48)) (r : Bool) (w : World) (hr0_1 : Kd.C k48 w A0_1 l0_1.length l0_1) (hc0_1 : l0_1.length ≤ c0_1) (hT : Tb w) (h : impl_isRel.f k a0_0 l0_1 = some r) :
  Calls Tryz.prog 37 #[.agg #[.int .i64 a0_0,.slice A0_1 l0_1.length c0_1]] w fun e w' => e = .returned (.bool r) ∧ Below w.heap.size w w' := by
 have hu31 := Tryz.underlying31
 have hu48 := Tryz.underlying48
 have HT := y0.mk hT
 clear hT
 have HR0_1 := y0.mk hr0_1
 have HC0_1 := y0.mk hc0_1
 clear hr0_1 hc0_1
 have HB := y0.mk (Below.refl w.heap.size w)
 have H : ((impl_in.f a0_0 0 6).bind fun t349 => (if t349 = true then (impl_isRel.j0 k (decide ((l0_1.length : Int) > 400)) a0_0 l0_1) else (impl_isRel.j0 k true a0_0 l0_1))) = some r := h
 clear h
 have HC2 := y0.mk H
 clear H
 go_enter Tryz.func37,Tryz.ntmps37
 go_upto_region 1 with (first | ((with_reducible refine y15 (N := 1) rfl ?_); (try (refine gate_guard (by rfl) ?_; dsimp only)); refine qe 1 #[.int .i64 a0_0,.slice A0_1 l0_1.length c0_1] 31 ?_; intro gb348 hg w3 hbox hb; have BK348 := y0.mk (hbox); have GW348 := y0.mk (qg (w := w) hg); have GE348 := y0.mk (qg (w := w) hg); replace HB := y0.mk (y5 qb hb); clear hb hbox hg))
 (try simp only [Act.put,qS_,qZ_,qC_])
 go_cut [14] (fun v14 wc => ∃ (kq : Nat) (x14_1 : Bool),v14 = .bool x14_1 ∧ y0 (impl_isRel.j0 kq x14_1 a0_0 l0_1 = some r) ∧ y0 (kq ≤ k) ∧ y0 (wc.heap[gb348]? = some (.cells #[.int .i64 a0_0,(.slice A0_1 l0_1.length c0_1)] 31 (0,0))) ∧ y0 (Below w.heap.size w wc))
 case first =>
  have H := HC2.out
  clear HC2
  obtain ⟨t349,A4,H⟩ := qB H
  by_cases c5 : t349 = true
  ·subst c5
   replace H := qT H
   have H' := y0.mk H
   clear H
   obtain ⟨hcz6_0,hcz6_1,hfz6_0,hfz6_1⟩ := qz2 BK348.out
   go_wp2_with (first | ((with_reducible refine y14 (f := 58) rfl ?_); refine y16 (some 7) rfl rfl Tryz.func58 (by kernel_rfl) rfl #[.int .i64 a0_0,.int .i64 0,.int .i64 6] rfl qy0 ?_; (with_reducible refine (impl_in.calls a0_0 0 6 true _ A4.out).mono ?_); rintro e w' ⟨rfl,⟨nd,rfl⟩⟩; refine ⟨_,rfl, ?_⟩))
   go_meet
   exact ⟨_,(decide ((l0_1.length : Int) > 400)),qy2,H',⟨by first | omega | exact Nat.le_refl _⟩,⟨qk BK348.out⟩,⟨qb⟩⟩
  ·replace c5 := Bool.eq_false_iff.mpr c5
   subst c5
   replace H := qF H
   have H' := y0.mk H
   clear H
   obtain ⟨hcz7_0,hcz7_1,hfz7_0,hfz7_1⟩ := qz2 BK348.out
   go_wp2_with (first | ((with_reducible refine y14 (f := 58) rfl ?_); refine y16 (some 7) rfl rfl Tryz.func58 (by kernel_rfl) rfl #[.int .i64 a0_0,.int .i64 0,.int .i64 6] rfl qy0 ?_; (with_reducible refine (impl_in.calls a0_0 0 6 false _ A4.out).mono ?_); rintro e w' ⟨rfl,⟨nd,rfl⟩⟩; refine ⟨_,rfl, ?_⟩))
   go_meet
   exact ⟨_,(true),qy2,H',⟨by first | omega | exact Nat.le_refl _⟩,⟨qk BK348.out⟩,⟨qb⟩⟩
 case rest =>
  clear HC2
  obtain ⟨kq,x14_1,rfl,HA,HJ1,BK348,HB⟩ := hcut
  cases kq with
  | zero => exact absurd HA.out (by simp [impl_isRel.j0])
  | succ kj1 =>
   have H := HA.out
   clear HA
   simp only [impl_isRel.j0] at H
   by_cases c8 : x14_1 = true
   ·subst c8
    replace H := qT H
    obtain rfl := Option.some.inj H
    go_wp2
    go_ret
    exact ⟨by first | rfl | (simp [y12,y13] <;> rfl) | (simp [*,y12,y13] <;> rfl),qb⟩
   ·replace c8 := Bool.eq_false_iff.mpr c8
    subst c8
    replace H := qF H
    have H' := y0.mk H
    clear H
    obtain ⟨hcz9_0,hcz9_1,hfz9_0,hfz9_1⟩ := qz2 BK348.out
    go_wp2
    go_loopg [18] kj1 (fun kq v18 w' => ∃ (x18_2 : Int),v18 = .int .i64 x18_2 ∧ y0 (impl_isRel.l0 kq l0_1 (l0_1.length : Int) x18_2 a0_0 l0_1 = some r) ∧ y0 (kq ≤ kj1) ∧ y0 (w'.heap[gb348]? = some (.cells #[.int .i64 a0_0,(.slice A0_1 l0_1.length c0_1)] 31 (0,0))) ∧ y0 (Below w.heap.size w w'))
    case atStart => exact ⟨(0),qy2,H',⟨Nat.le_refl _⟩,⟨qk BK348.out⟩,⟨qb⟩⟩
    case round =>
     clear H'
     (try clear c8 hcz9_0 hcz9_1 hfz9_0 hfz9_1)
     obtain ⟨x18_2,rfl,HA,HK2,BK348,HB⟩ := hrel
     cases gk with
     | zero => exact absurd HA.out (by simp [impl_isRel.l0])
     | succ k2 =>
      have H := HA.out
      clear HA
      simp only [impl_isRel.l0] at H
      by_cases c10 : x18_2 < (l0_1.length : Int)
      ·as_aux_lemma =>
       rw [if_pos c10] at H
       have c10b0 := decide_eq_true c10
       clear c10
       obtain ⟨c11,H⟩ := qo H
       have c11b0 : decide (0 ≤ x18_2) = true := decide_eq_true c11
       clear c11
       obtain ⟨c12,H⟩ := qo H
       have c12b0 : decide (x18_2 < (l0_1.length : Int)) = true := decide_eq_true c12
       clear c12
       obtain ⟨t352,A13,H⟩ := qB H
       by_cases c14 : t352 = true
       ·subst c14
        replace H := qT H
        by_cases c15 : (((y19 l0_1 x18_2).f0).length : Int) = a0_0
        ·as_aux_lemma =>
         rw [if_pos c15] at H
         have c15b0 : ((((y19 l0_1 x18_2).f0).length : Int) == a0_0) = true := beq_iff_eq.mpr c15
         have c15b1 : ((((y19 l0_1 x18_2).f0).length : Int) != a0_0) = false := bne_eq_false_iff_eq.mpr c15
         clear c15
         by_cases c16 : x18_2 > 0
         ·as_aux_lemma =>
          rw [if_pos c16] at H
          have c16b0 : decide (0 < x18_2) = true := decide_eq_true c16
          clear c16
          obtain ⟨ji17,hji17⟩ : ∃ j_ : Int,(wrap64 (x18_2 - 1)) = j_ := ⟨_,rfl⟩
          replace H : (if 0 ≤ (ji17) then (if (ji17) < (l0_1.length : Int) then ((impl_compareTuples.f k2 ((y19 l0_1 (ji17)).f0) ((y19 l0_1 x18_2).f0)).bind fun t354 => (if t354 ≥ 0 then (some false) else (impl_isRel.l0 k2 l0_1 (l0_1.length : Int) (wrap64 (x18_2 + 1)) a0_0 l0_1))) else (none)) else (none)) = some r := by first | (rw [hji17] at H; exact H) | (simp only [hji17] at H ⊢; exact H)
          (try rw [hji17] at A13)
          have hji17w : (IntKind.i64.wrap (x18_2 - 1)) = ji17 := (y18 _).trans hji17
          obtain ⟨c18,H⟩ := qo H
          have c18b0 : decide (0 ≤ (ji17)) = true := decide_eq_true c18
          clear c18
          obtain ⟨c19,H⟩ := qo H
          have c19b0 : decide ((ji17) < (l0_1.length : Int)) = true := decide_eq_true c19
          clear c19
          obtain ⟨t354,A20,H⟩ := qB H
          by_cases c21 : t354 ≥ 0
          ·as_aux_lemma =>
           rw [if_pos c21] at H
           have c21b0 : decide (0 ≤ t354) = true := decide_eq_true c21
           clear c21
           obtain rfl := Option.some.inj H
           have p350 : 0 ≤ (x18_2 : Int) := of_decide_eq_true qy1
           have q350 : x18_2 < (l0_1.length : Int) := of_decide_eq_true qy1
           obtain ⟨ad350,A350_0,c350_0,e350,hx350_0,hl350_0,hi350_0⟩ := at_T48 HR0_1.out x18_2 p350 q350
           cases e350
           replace hx350_0 := (HB.out.cell (World.block_lt_of_cell? w _ hx350_0)).trans hx350_0
           have HR350_0 := y0.mk hi350_0
           have HC350_0 := y0.mk hl350_0
           clear hi350_0 hl350_0
           replace p350 := eq_true p350
           replace q350 := eq_true q350
           try go_wp2_with (first | ((with_reducible refine y15 (N := 4) rfl ?_); (try (refine gate_guard (by rfl) ?_; dsimp only)); refine qe 4 #[.slice none 0 0] 48 ?_; intro gb351 hg w22 hbox hb; have BK351 := y0.mk (hbox); have GW351 := y0.mk (qg (w := w) hg); have GE351 := y0.mk (qg (w := w) hg); replace HB := y0.mk (y5 qb hb); have NB348_351 := y0.mk (qn BK348.out hg); have NB351_348 := y0.mk (qm BK348.out hg); replace BK348 := y0.mk (qK BK348.out hb); clear hb hbox hg; have hnb23 := NB351_348.out; have hnc23 := NB348_351.out; obtain ⟨hcz24_0,hfz24_0⟩ := qz1 BK351.out))
           have n0_ : y0 ((w22.setCell ⟨gb351,0,none⟩ (.slice A350_0 ((y19 l0_1 x18_2).f0).length c350_0)).heap[gb348]? = some (.cells #[.int .i64 a0_0,.slice (some ad350) l0_1.length c0_1] 31 (0,0))) := ⟨by (with_reducible repeat (first | refine y10 ?_ _ | refine y9 ?_ | refine y6 ?_ _)); refine blk_far ?_ NB348_351.out _; (with_reducible repeat (first | refine y10 ?_ _ | refine y9 ?_ | refine y6 ?_ _)); exact BK348.out⟩
           have n1_ : y0 ((w22.setCell ⟨gb351,0,none⟩ (.slice A350_0 ((y19 l0_1 x18_2).f0).length c350_0)).heap[gb351]? = some (.cells #[.slice A350_0 ((y19 l0_1 x18_2).f0).length c350_0] 48 (0,0))) := ⟨by (with_reducible repeat (first | refine y10 ?_ _ | refine y9 ?_ | refine y6 ?_ _)); refine blk_put (cs := #[.slice none 0 0]) ?_ 0 _ rfl; (with_reducible repeat (first | refine y10 ?_ _ | refine y9 ?_ | refine y6 ?_ _)); exact BK351.out⟩
           have n2_ : y0 (Below w.heap.size w (w22.setCell ⟨gb351,0,none⟩ (.slice A350_0 ((y19 l0_1 x18_2).f0).length c350_0))) := ⟨qb⟩
           (try clear BK348)
           (try clear BK351)
           (try clear HB)
           generalize (w22.setCell ⟨gb351,0,none⟩ (.slice A350_0 ((y19 l0_1 x18_2).f0).length c350_0)) = w25 at n0_ n1_ n2_ ⊢
           have BK348 := n0_
           have BK351 := n1_
           have HB := n2_
           clear n0_ n1_ n2_
           replace BK348 := y0.mk (y9 BK348.out)
           replace BK351 := y0.mk (y9 BK351.out)
           replace HB := y0.mk (y3 HB.out)
           have p353 : 0 ≤ ((ji17) : Int) := of_decide_eq_true qy1
           have q353 : (ji17) < (l0_1.length : Int) := of_decide_eq_true qy1
           obtain ⟨ad353,A353_0,c353_0,e353,hx353_0,hl353_0,hi353_0⟩ := at_T48 HR0_1.out (ji17) p353 q353
           have hw353_0 := hx353_0
           obtain rfl : ad350 = ad353 := (by injection e353)
           replace hx353_0 := (HB.out.cell (World.block_lt_of_cell? w _ hx353_0)).trans hx353_0
           have HR353_0 := y0.mk hi353_0
           have HC353_0 := y0.mk hl353_0
           clear hi353_0 hl353_0
           replace p353 := eq_true p353
           replace q353 := eq_true q353
           refine start_ (n := 26) (S := fun w' => w'.cell? ⟨gb351,0,none⟩ = some (.slice A350_0 ((y19 l0_1 x18_2).f0).length c350_0) ∧ w'.cell? ⟨gb348,0,none⟩ = some (.int .i64 a0_0) ∧ w'.cell? ⟨gb348,1,none⟩ = some (.slice (some ad350) l0_1.length c0_1) ∧ w'.cell? (ad350.add ((ji17)).toNat) = some (.slice A353_0 ((y19 l0_1 (ji17)).f0).length c353_0)) (ds := []) (fl_ 26 0) (by kernel_rfl) rfl rfl ⟨(y8 BK351.out 0).trans rfl,(y8 BK348.out 0).trans rfl,(y8 BK348.out 1).trans rfl,((HB.out.cell (World.block_lt_of_cell? w _ hw353_0)).trans hw353_0)⟩ (fun hHeld => ?_); refine with_tabW impl_isRel.tab6 impl_isRel.bits6 (fun HT_ HW_ => ?_)
           generalize w25.drew = w26 at BK348 BK351 HB HR353_0 hx353_0 hHeld ⊢
           refine qt 0 23 (fl_ 26 1) hHeld ?_
           refine one_ (i := 1) (N := some 24) (fl_ 26 3) rfl rfl (one_of HT_.out (by kernel_rfl)) (by decide) (fun K hK => ?_)
           refine goes_ Tryz.func54 (by kernel_rfl) rfl #[.agg #[.slice A350_0 ((y19 l0_1 x18_2).f0).length c350_0]] (by rfl) rfl rfl qy0 ?_
           with_reducible refine (impl_isTuple.calls k2 _ _ ((y19 l0_1 x18_2).f0) true _ (qc (Kd.C_below HR350_0.out HB.out)) HC350_0.out (by exact Tb.below HT.out qb) A13.out).mono ?_
           rintro e w27 ⟨rfl,hb⟩
           refine ⟨_,rfl, ?_⟩
           replace BK348 := y0.mk (qK BK348.out hb)
           replace BK351 := y0.mk (qK BK351.out hb)
           replace HB := y0.mk (y5 qb hb)
           (try clear hb)
           (try clear hb2)
           (try clear hk)
           (try clear hi)
           refine hK.out _ _ ⟨(y8 BK351.out 0).trans rfl,(y8 BK348.out 0).trans rfl,(y8 BK348.out 1).trans rfl,((HB.out.cell (World.block_lt_of_cell? w _ hw353_0)).trans hw353_0)⟩ (fun hHeld => ?_)
           clear hK K
           refine norm_ (a' := ?_) ?_ ?_
           rotate_left
           ·show Act.put _ (some 24) _ = _
            simp only [Act.put,qS_,qZ_,qC_,y18,y17]
            rfl
           refine qp 2 25 (fl_ 26 7) ?_
           refine qp 3 26 (fl_ 26 15) ?_
           refine qp 4 27 (fl_ 26 31) ?_
           refine qp 7 30 (fl_ 26 159) ?_
           refine qt 5 28 (fl_ 26 191) hHeld ?_
           refine qp 6 29 (fl_ 26 255) ?_
           refine qt 8 31 (fl_ 26 511) hHeld ?_
           refine qp 9 32 (fl_ 26 1023) ?_
           refine qp 10 33 (fl_ 26 2047) ?_
           refine qp 11 34 (fl_ 26 4095) ?_
           refine qp 12 35 (fl_ 26 8191) ?_
           refine qp 13 36 (fl_ 26 16383) ?_
           refine qp 14 37 (fl_ 26 32767) ?_
           refine qp 15 38 (fl_ 26 65535) ?_
           refine qp 17 40 (fl_ 26 196607) ?_
           refine qp 18 41 (fl_ 26 458751) ?_
           refine qt 16 39 (fl_ 26 524287) hHeld ?_
           refine qp 19 42 (fl_ 26 1048575) ?_
           refine qt 20 43 (fl_ 26 2097151) hHeld ?_
           refine qt 21 44 (fl_ 26 4194303) hHeld ?_
           refine one_ (i := 22) (N := some 45) (fl_ 26 8388607) rfl rfl (one_of HT_.out (by kernel_rfl)) (by decide) (fun K hK => ?_)
           refine goes_ Tryz.func56 (by kernel_rfl) rfl #[.agg #[.slice A353_0 ((y19 l0_1 (ji17)).f0).length c353_0],.agg #[.slice A350_0 ((y19 l0_1 x18_2).f0).length c350_0]] (by rfl) rfl rfl (by (try simp only [qM_,List.map_cons,List.map_nil]); first | done | (simp only [hji17]; rfl) | rfl | (simp only [qD_,qT_]; rfl)) ?_
           with_reducible refine (impl_compareTuples.calls k2 _ _ ((y19 l0_1 (ji17)).f0) _ _ ((y19 l0_1 x18_2).f0) t354 _ (qc (Kd.C_below HR353_0.out HB.out)) HC353_0.out (qc (Kd.C_below HR350_0.out HB.out)) HC350_0.out (by exact Tb.below HT.out qb) A20.out).mono ?_
           rintro e w28 ⟨rfl,hb⟩
           refine ⟨_,rfl, ?_⟩
           replace BK348 := y0.mk (qK BK348.out hb)
           replace BK351 := y0.mk (qK BK351.out hb)
           replace HB := y0.mk (y5 qb hb)
           (try clear hb)
           (try clear hb2)
           (try clear hk)
           (try clear hi)
           refine hK.out _ _ ⟨(y8 BK351.out 0).trans rfl,(y8 BK348.out 0).trans rfl,(y8 BK348.out 1).trans rfl,((HB.out.cell (World.block_lt_of_cell? w _ hw353_0)).trans hw353_0)⟩ (fun hHeld => ?_)
           clear hK K
           refine norm_ (a' := ?_) ?_ ?_
           rotate_left
           ·show Act.put _ (some 45) _ = _
            simp only [Act.put,qS_,qZ_,qC_,y18,y17]
            rfl
           refine qp 23 46 (fl_ 26 16777215) ?_
           refine qp 24 47 (fl_ 26 33554431) ?_
           refine qp 25 48 (fl_ 26 67108863) ?_
           refine done_ (done_of HT_.out (by kernel_rfl)) ?_
           try go_wp2
           go_ret
           exact ⟨by first | rfl | (simp [y12,y13] <;> rfl) | (simp only [← hji17]; first | rfl | (simp [y12,y13] <;> rfl)) | (simp [*,y12,y13] <;> rfl),qb⟩
          ·as_aux_lemma =>
           rw [if_neg c21] at H
           have c21b0 : decide (0 ≤ t354) = false := decide_eq_false c21
           clear c21
           have H' := y0.mk H
           clear H
           have p350 : 0 ≤ (x18_2 : Int) := of_decide_eq_true qy1
           have q350 : x18_2 < (l0_1.length : Int) := of_decide_eq_true qy1
           obtain ⟨ad350,A350_0,c350_0,e350,hx350_0,hl350_0,hi350_0⟩ := at_T48 HR0_1.out x18_2 p350 q350
           cases e350
           replace hx350_0 := (HB.out.cell (World.block_lt_of_cell? w _ hx350_0)).trans hx350_0
           have HR350_0 := y0.mk hi350_0
           have HC350_0 := y0.mk hl350_0
           clear hi350_0 hl350_0
           replace p350 := eq_true p350
           replace q350 := eq_true q350
           try go_wp2_with (first | ((with_reducible refine y15 (N := 4) rfl ?_); (try (refine gate_guard (by rfl) ?_; dsimp only)); refine qe 4 #[.slice none 0 0] 48 ?_; intro gb351 hg w29 hbox hb; have BK351 := y0.mk (hbox); have GW351 := y0.mk (qg (w := w) hg); have GE351 := y0.mk (qg (w := w) hg); replace HB := y0.mk (y5 qb hb); have NB348_351 := y0.mk (qn BK348.out hg); have NB351_348 := y0.mk (qm BK348.out hg); replace BK348 := y0.mk (qK BK348.out hb); clear hb hbox hg; have hnb30 := NB351_348.out; have hnc30 := NB348_351.out; obtain ⟨hcz31_0,hfz31_0⟩ := qz1 BK351.out))
           have n0_ : y0 ((w29.setCell ⟨gb351,0,none⟩ (.slice A350_0 ((y19 l0_1 x18_2).f0).length c350_0)).heap[gb348]? = some (.cells #[.int .i64 a0_0,.slice (some ad350) l0_1.length c0_1] 31 (0,0))) := ⟨by (with_reducible repeat (first | refine y10 ?_ _ | refine y9 ?_ | refine y6 ?_ _)); refine blk_far ?_ NB348_351.out _; (with_reducible repeat (first | refine y10 ?_ _ | refine y9 ?_ | refine y6 ?_ _)); exact BK348.out⟩
           have n1_ : y0 ((w29.setCell ⟨gb351,0,none⟩ (.slice A350_0 ((y19 l0_1 x18_2).f0).length c350_0)).heap[gb351]? = some (.cells #[.slice A350_0 ((y19 l0_1 x18_2).f0).length c350_0] 48 (0,0))) := ⟨by (with_reducible repeat (first | refine y10 ?_ _ | refine y9 ?_ | refine y6 ?_ _)); refine blk_put (cs := #[.slice none 0 0]) ?_ 0 _ rfl; (with_reducible repeat (first | refine y10 ?_ _ | refine y9 ?_ | refine y6 ?_ _)); exact BK351.out⟩
           have n2_ : y0 (Below w.heap.size w (w29.setCell ⟨gb351,0,none⟩ (.slice A350_0 ((y19 l0_1 x18_2).f0).length c350_0))) := ⟨qb⟩
           (try clear BK348)
           (try clear BK351)
           (try clear HB)
           generalize (w29.setCell ⟨gb351,0,none⟩ (.slice A350_0 ((y19 l0_1 x18_2).f0).length c350_0)) = w32 at n0_ n1_ n2_ ⊢
           have BK348 := n0_
           have BK351 := n1_
           have HB := n2_
           clear n0_ n1_ n2_
           replace BK348 := y0.mk (y9 BK348.out)
           replace BK351 := y0.mk (y9 BK351.out)
           replace HB := y0.mk (y3 HB.out)
           have p353 : 0 ≤ ((ji17) : Int) := of_decide_eq_true qy1
           have q353 : (ji17) < (l0_1.length : Int) := of_decide_eq_true qy1
           obtain ⟨ad353,A353_0,c353_0,e353,hx353_0,hl353_0,hi353_0⟩ := at_T48 HR0_1.out (ji17) p353 q353
           have hw353_0 := hx353_0
           obtain rfl : ad350 = ad353 := (by injection e353)
           replace hx353_0 := (HB.out.cell (World.block_lt_of_cell? w _ hx353_0)).trans hx353_0
           have HR353_0 := y0.mk hi353_0
           have HC353_0 := y0.mk hl353_0
           clear hi353_0 hl353_0
           replace p353 := eq_true p353
           replace q353 := eq_true q353
           refine start_ (n := 26) (S := fun w' => w'.cell? ⟨gb351,0,none⟩ = some (.slice A350_0 ((y19 l0_1 x18_2).f0).length c350_0) ∧ w'.cell? ⟨gb348,0,none⟩ = some (.int .i64 a0_0) ∧ w'.cell? ⟨gb348,1,none⟩ = some (.slice (some ad350) l0_1.length c0_1) ∧ w'.cell? (ad350.add ((ji17)).toNat) = some (.slice A353_0 ((y19 l0_1 (ji17)).f0).length c353_0)) (ds := []) (fl_ 26 0) (by kernel_rfl) rfl rfl ⟨(y8 BK351.out 0).trans rfl,(y8 BK348.out 0).trans rfl,(y8 BK348.out 1).trans rfl,((HB.out.cell (World.block_lt_of_cell? w _ hw353_0)).trans hw353_0)⟩ (fun hHeld => ?_); refine with_tabW impl_isRel.tab6 impl_isRel.bits6 (fun HT_ HW_ => ?_)
           generalize w32.drew = w33 at BK348 BK351 HB HR353_0 hx353_0 hHeld ⊢
           refine qt 0 23 (fl_ 26 1) hHeld ?_
           refine one_ (i := 1) (N := some 24) (fl_ 26 3) rfl rfl (one_of HT_.out (by kernel_rfl)) (by decide) (fun K hK => ?_)
           refine goes_ Tryz.func54 (by kernel_rfl) rfl #[.agg #[.slice A350_0 ((y19 l0_1 x18_2).f0).length c350_0]] (by rfl) rfl rfl qy0 ?_
           with_reducible refine (impl_isTuple.calls k2 _ _ ((y19 l0_1 x18_2).f0) true _ (qc (Kd.C_below HR350_0.out HB.out)) HC350_0.out (by exact Tb.below HT.out qb) A13.out).mono ?_
           rintro e w34 ⟨rfl,hb⟩
           refine ⟨_,rfl, ?_⟩
           replace BK348 := y0.mk (qK BK348.out hb)
           replace BK351 := y0.mk (qK BK351.out hb)
           replace HB := y0.mk (y5 qb hb)
           (try clear hb)
           (try clear hb2)
           (try clear hk)
           (try clear hi)
           refine hK.out _ _ ⟨(y8 BK351.out 0).trans rfl,(y8 BK348.out 0).trans rfl,(y8 BK348.out 1).trans rfl,((HB.out.cell (World.block_lt_of_cell? w _ hw353_0)).trans hw353_0)⟩ (fun hHeld => ?_)
           clear hK K
           refine norm_ (a' := ?_) ?_ ?_
           rotate_left
           ·show Act.put _ (some 24) _ = _
            simp only [Act.put,qS_,qZ_,qC_,y18,y17]
            rfl
           refine qp 2 25 (fl_ 26 7) ?_
           refine qp 3 26 (fl_ 26 15) ?_
           refine qp 4 27 (fl_ 26 31) ?_
           refine qp 7 30 (fl_ 26 159) ?_
           refine qt 5 28 (fl_ 26 191) hHeld ?_
           refine qp 6 29 (fl_ 26 255) ?_
           refine qt 8 31 (fl_ 26 511) hHeld ?_
           refine qp 9 32 (fl_ 26 1023) ?_
           refine qp 10 33 (fl_ 26 2047) ?_
           refine qp 11 34 (fl_ 26 4095) ?_
           refine qp 12 35 (fl_ 26 8191) ?_
           refine qp 13 36 (fl_ 26 16383) ?_
           refine qp 14 37 (fl_ 26 32767) ?_
           refine qp 15 38 (fl_ 26 65535) ?_
           refine qp 17 40 (fl_ 26 196607) ?_
           refine qp 18 41 (fl_ 26 458751) ?_
           refine qt 16 39 (fl_ 26 524287) hHeld ?_
           refine qp 19 42 (fl_ 26 1048575) ?_
           refine qt 20 43 (fl_ 26 2097151) hHeld ?_
           refine qt 21 44 (fl_ 26 4194303) hHeld ?_
           refine one_ (i := 22) (N := some 45) (fl_ 26 8388607) rfl rfl (one_of HT_.out (by kernel_rfl)) (by decide) (fun K hK => ?_)
           refine goes_ Tryz.func56 (by kernel_rfl) rfl #[.agg #[.slice A353_0 ((y19 l0_1 (ji17)).f0).length c353_0],.agg #[.slice A350_0 ((y19 l0_1 x18_2).f0).length c350_0]] (by rfl) rfl rfl (by (try simp only [qM_,List.map_cons,List.map_nil]); first | done | (simp only [hji17]; rfl) | rfl | (simp only [qD_,qT_]; rfl)) ?_
           with_reducible refine (impl_compareTuples.calls k2 _ _ ((y19 l0_1 (ji17)).f0) _ _ ((y19 l0_1 x18_2).f0) t354 _ (qc (Kd.C_below HR353_0.out HB.out)) HC353_0.out (qc (Kd.C_below HR350_0.out HB.out)) HC350_0.out (by exact Tb.below HT.out qb) A20.out).mono ?_
           rintro e w35 ⟨rfl,hb⟩
           refine ⟨_,rfl, ?_⟩
           replace BK348 := y0.mk (qK BK348.out hb)
           replace BK351 := y0.mk (qK BK351.out hb)
           replace HB := y0.mk (y5 qb hb)
           (try clear hb)
           (try clear hb2)
           (try clear hk)
           (try clear hi)
           refine hK.out _ _ ⟨(y8 BK351.out 0).trans rfl,(y8 BK348.out 0).trans rfl,(y8 BK348.out 1).trans rfl,((HB.out.cell (World.block_lt_of_cell? w _ hw353_0)).trans hw353_0)⟩ (fun hHeld => ?_)
           clear hK K
           refine norm_ (a' := ?_) ?_ ?_
           rotate_left
           ·show Act.put _ (some 45) _ = _
            simp only [Act.put,qS_,qZ_,qC_,y18,y17]
            rfl
           refine qp 23 46 (fl_ 26 16777215) ?_
           refine qp 24 47 (fl_ 26 33554431) ?_
           refine qp 25 48 (fl_ 26 67108863) ?_
           refine done_ (done_of HT_.out (by kernel_rfl)) ?_
           try go_wp2
           go_roundg k2
           case measure => have := HJ1.out; have := HK2.out; omega
           exact ⟨(wrap64 (x18_2 + 1)),qy2,H',⟨by have := HJ1.out; have := HK2.out; omega⟩,⟨qk BK348.out⟩,⟨qb⟩⟩
         ·as_aux_lemma =>
          rw [if_neg c16] at H
          have c16b0 : decide (0 < x18_2) = false := decide_eq_false c16
          clear c16
          have H' := y0.mk H
          clear H
          have p350 : 0 ≤ (x18_2 : Int) := of_decide_eq_true qy1
          have q350 : x18_2 < (l0_1.length : Int) := of_decide_eq_true qy1
          obtain ⟨ad350,A350_0,c350_0,e350,hx350_0,hl350_0,hi350_0⟩ := at_T48 HR0_1.out x18_2 p350 q350
          cases e350
          replace hx350_0 := (HB.out.cell (World.block_lt_of_cell? w _ hx350_0)).trans hx350_0
          have HR350_0 := y0.mk hi350_0
          have HC350_0 := y0.mk hl350_0
          clear hi350_0 hl350_0
          replace p350 := eq_true p350
          replace q350 := eq_true q350
          try go_wp2_with (first | ((with_reducible refine y15 (N := 4) rfl ?_); (try (refine gate_guard (by rfl) ?_; dsimp only)); refine qe 4 #[.slice none 0 0] 48 ?_; intro gb351 hg w36 hbox hb; have BK351 := y0.mk (hbox); have GW351 := y0.mk (qg (w := w) hg); have GE351 := y0.mk (qg (w := w) hg); replace HB := y0.mk (y5 qb hb); have NB348_351 := y0.mk (qn BK348.out hg); have NB351_348 := y0.mk (qm BK348.out hg); replace BK348 := y0.mk (qK BK348.out hb); clear hb hbox hg; have hnb37 := NB351_348.out; have hnc37 := NB348_351.out; obtain ⟨hcz38_0,hfz38_0⟩ := qz1 BK351.out))
          have n0_ : y0 ((w36.setCell ⟨gb351,0,none⟩ (.slice A350_0 ((y19 l0_1 x18_2).f0).length c350_0)).heap[gb348]? = some (.cells #[.int .i64 a0_0,.slice (some ad350) l0_1.length c0_1] 31 (0,0))) := ⟨by (with_reducible repeat (first | refine y10 ?_ _ | refine y9 ?_ | refine y6 ?_ _)); refine blk_far ?_ NB348_351.out _; (with_reducible repeat (first | refine y10 ?_ _ | refine y9 ?_ | refine y6 ?_ _)); exact BK348.out⟩
          have n1_ : y0 ((w36.setCell ⟨gb351,0,none⟩ (.slice A350_0 ((y19 l0_1 x18_2).f0).length c350_0)).heap[gb351]? = some (.cells #[.slice A350_0 ((y19 l0_1 x18_2).f0).length c350_0] 48 (0,0))) := ⟨by (with_reducible repeat (first | refine y10 ?_ _ | refine y9 ?_ | refine y6 ?_ _)); refine blk_put (cs := #[.slice none 0 0]) ?_ 0 _ rfl; (with_reducible repeat (first | refine y10 ?_ _ | refine y9 ?_ | refine y6 ?_ _)); exact BK351.out⟩
          have n2_ : y0 (Below w.heap.size w (w36.setCell ⟨gb351,0,none⟩ (.slice A350_0 ((y19 l0_1 x18_2).f0).length c350_0))) := ⟨qb⟩
          (try clear BK348)
          (try clear BK351)
          (try clear HB)
          generalize (w36.setCell ⟨gb351,0,none⟩ (.slice A350_0 ((y19 l0_1 x18_2).f0).length c350_0)) = w39 at n0_ n1_ n2_ ⊢
          have BK348 := n0_
          have BK351 := n1_
          have HB := n2_
          clear n0_ n1_ n2_
          replace BK348 := y0.mk (y9 BK348.out)
          replace BK351 := y0.mk (y9 BK351.out)
          replace HB := y0.mk (y3 HB.out)
          refine start_ (n := 26) (S := fun w' => w'.cell? ⟨gb351,0,none⟩ = some (.slice A350_0 ((y19 l0_1 x18_2).f0).length c350_0) ∧ w'.cell? ⟨gb348,0,none⟩ = some (.int .i64 a0_0) ∧ w'.cell? ⟨gb348,1,none⟩ = some (.slice (some ad350) l0_1.length c0_1)) (ds := []) (fl_ 26 0) (by kernel_rfl) rfl rfl ⟨(y8 BK351.out 0).trans rfl,(y8 BK348.out 0).trans rfl,(y8 BK348.out 1).trans rfl⟩ (fun hHeld => ?_); refine with_tabW impl_isRel.tab6 impl_isRel.bits6 (fun HT_ HW_ => ?_)
          generalize w39.drew = w40 at BK348 BK351 HB hHeld ⊢
          refine qt 0 23 (fl_ 26 1) hHeld ?_
          refine one_ (i := 1) (N := some 24) (fl_ 26 3) rfl rfl (one_of HT_.out (by kernel_rfl)) (by decide) (fun K hK => ?_)
          refine goes_ Tryz.func54 (by kernel_rfl) rfl #[.agg #[.slice A350_0 ((y19 l0_1 x18_2).f0).length c350_0]] (by rfl) rfl rfl qy0 ?_
          with_reducible refine (impl_isTuple.calls k2 _ _ ((y19 l0_1 x18_2).f0) true _ (qc (Kd.C_below HR350_0.out HB.out)) HC350_0.out (by exact Tb.below HT.out qb) A13.out).mono ?_
          rintro e w41 ⟨rfl,hb⟩
          refine ⟨_,rfl, ?_⟩
          replace BK348 := y0.mk (qK BK348.out hb)
          replace BK351 := y0.mk (qK BK351.out hb)
          replace HB := y0.mk (y5 qb hb)
          (try clear hb)
          (try clear hb2)
          (try clear hk)
          (try clear hi)
          refine hK.out _ _ ⟨(y8 BK351.out 0).trans rfl,(y8 BK348.out 0).trans rfl,(y8 BK348.out 1).trans rfl⟩ (fun hHeld => ?_)
          clear hK K
          refine norm_ (a' := ?_) ?_ ?_
          rotate_left
          ·show Act.put _ (some 24) _ = _
           simp only [Act.put,qS_,qZ_,qC_,y18,y17]
           rfl
          refine qp 2 25 (fl_ 26 7) ?_
          refine qp 3 26 (fl_ 26 15) ?_
          refine qp 4 27 (fl_ 26 31) ?_
          refine qp 7 30 (fl_ 26 159) ?_
          refine qt 5 28 (fl_ 26 191) hHeld ?_
          refine qp 6 29 (fl_ 26 255) ?_
          refine qt 8 31 (fl_ 26 511) hHeld ?_
          refine qp 9 32 (fl_ 26 1023) ?_
          refine qp 10 33 (fl_ 26 2047) ?_
          refine qp 11 34 (fl_ 26 4095) ?_
          refine qp 12 35 (fl_ 26 8191) ?_
          refine qp 13 36 (fl_ 26 16383) ?_
          refine qp 14 37 (fl_ 26 32767) ?_
          refine pure_ (i := 15) (N := some 38) (v := undef) (a' := ?_) (fl_ 26 65535) rfl rfl (y2 HT_.out (by kernel_rfl)) (fun _ _ _ h => h) (Or.inr ⟨by rfl,rfl⟩) ?_ ?_
          rotate_left
          ·simp only [Act.put,qS_,qZ_,qC_,y18,y17]
           rfl
          refine pure_ (i := 16) (N := some 39) (v := undef) (a' := ?_) (fl_ 26 131071) rfl rfl (y2 HT_.out (by kernel_rfl)) (fun _ _ _ h => h) (Or.inr ⟨by rfl,rfl⟩) ?_ ?_
          rotate_left
          ·simp only [Act.put,qS_,qZ_,qC_,y18,y17]
           rfl
          refine pure_ (i := 17) (N := some 40) (v := undef) (a' := ?_) (fl_ 26 262143) rfl rfl (y2 HT_.out (by kernel_rfl)) (fun _ _ _ h => h) (Or.inr ⟨by rfl,rfl⟩) ?_ ?_
          rotate_left
          ·simp only [Act.put,qS_,qZ_,qC_,y18,y17]
           rfl
          refine pure_ (i := 18) (N := some 41) (v := undef) (a' := ?_) (fl_ 26 524287) rfl rfl (y2 HT_.out (by kernel_rfl)) (fun _ _ _ h => h) (Or.inr ⟨by rfl,rfl⟩) ?_ ?_
          rotate_left
          ·simp only [Act.put,qS_,qZ_,qC_,y18,y17]
           rfl
          refine pure_ (i := 19) (N := some 42) (v := undef) (a' := ?_) (fl_ 26 1048575) rfl rfl (y2 HT_.out (by kernel_rfl)) (fun _ _ _ h => h) (Or.inr ⟨by rfl,rfl⟩) ?_ ?_
          rotate_left
          ·simp only [Act.put,qS_,qZ_,qC_,y18,y17]
           rfl
          refine pure_ (i := 20) (N := some 43) (v := undef) (a' := ?_) (fl_ 26 2097151) rfl rfl (y2 HT_.out (by kernel_rfl)) (fun _ _ _ h => h) (Or.inr ⟨by rfl,rfl⟩) ?_ ?_
          rotate_left
          ·simp only [Act.put,qS_,qZ_,qC_,y18,y17]
           rfl
          refine pure_ (i := 21) (N := some 44) (v := undef) (a' := ?_) (fl_ 26 4194303) rfl rfl (y2 HT_.out (by kernel_rfl)) (fun _ _ _ h => h) (Or.inr ⟨by rfl,rfl⟩) ?_ ?_
          rotate_left
          ·simp only [Act.put,qS_,qZ_,qC_,y18,y17]
           rfl
          refine pure_ (i := 22) (N := some 45) (v := undef) (a' := ?_) (fl_ 26 8388607) rfl rfl (y2 HT_.out (by kernel_rfl)) (fun _ _ _ h => h) (Or.inr ⟨by rfl,rfl⟩) ?_ ?_
          rotate_left
          ·simp only [Act.put,qS_,qZ_,qC_,y18,y17]
           rfl
          refine pure_ (i := 23) (N := some 46) (v := undef) (a' := ?_) (fl_ 26 16777215) rfl rfl (y2 HT_.out (by kernel_rfl)) (fun _ _ _ h => h) (Or.inr ⟨by rfl,rfl⟩) ?_ ?_
          rotate_left
          ·simp only [Act.put,qS_,qZ_,qC_,y18,y17]
           rfl
          refine qp 24 47 (fl_ 26 33554431) ?_
          refine qp 25 48 (fl_ 26 67108863) ?_
          refine done_ (done_of HT_.out (by kernel_rfl)) ?_
          try go_wp2
          go_roundg k2
          case measure => have := HJ1.out; have := HK2.out; omega
          exact ⟨(wrap64 (x18_2 + 1)),qy2,H',⟨by have := HJ1.out; have := HK2.out; omega⟩,⟨qk BK348.out⟩,⟨qb⟩⟩
        ·as_aux_lemma =>
         rw [if_neg c15] at H
         have c15b0 : ((((y19 l0_1 x18_2).f0).length : Int) == a0_0) = false := beq_eq_false_iff_ne.mpr c15
         have c15b1 : ((((y19 l0_1 x18_2).f0).length : Int) != a0_0) = true := bne_iff_ne.mpr c15
         obtain rfl := Option.some.inj H
         have p350 : 0 ≤ (x18_2 : Int) := of_decide_eq_true qy1
         have q350 : x18_2 < (l0_1.length : Int) := of_decide_eq_true qy1
         obtain ⟨ad350,A350_0,c350_0,e350,hx350_0,hl350_0,hi350_0⟩ := at_T48 HR0_1.out x18_2 p350 q350
         cases e350
         replace hx350_0 := (HB.out.cell (World.block_lt_of_cell? w _ hx350_0)).trans hx350_0
         have HR350_0 := y0.mk hi350_0
         have HC350_0 := y0.mk hl350_0
         clear hi350_0 hl350_0
         replace p350 := eq_true p350
         replace q350 := eq_true q350
         try go_wp2_with (first | ((with_reducible refine y15 (N := 4) rfl ?_); (try (refine gate_guard (by rfl) ?_; dsimp only)); refine qe 4 #[.slice none 0 0] 48 ?_; intro gb351 hg w42 hbox hb; have BK351 := y0.mk (hbox); have GW351 := y0.mk (qg (w := w) hg); have GE351 := y0.mk (qg (w := w) hg); replace HB := y0.mk (y5 qb hb); have NB348_351 := y0.mk (qn BK348.out hg); have NB351_348 := y0.mk (qm BK348.out hg); replace BK348 := y0.mk (qK BK348.out hb); clear hb hbox hg; have hnb43 := NB351_348.out; have hnc43 := NB348_351.out; obtain ⟨hcz44_0,hfz44_0⟩ := qz1 BK351.out))
         have n0_ : y0 ((w42.setCell ⟨gb351,0,none⟩ (.slice A350_0 ((y19 l0_1 x18_2).f0).length c350_0)).heap[gb348]? = some (.cells #[.int .i64 a0_0,.slice (some ad350) l0_1.length c0_1] 31 (0,0))) := ⟨by (with_reducible repeat (first | refine y10 ?_ _ | refine y9 ?_ | refine y6 ?_ _)); refine blk_far ?_ NB348_351.out _; (with_reducible repeat (first | refine y10 ?_ _ | refine y9 ?_ | refine y6 ?_ _)); exact BK348.out⟩
         have n1_ : y0 ((w42.setCell ⟨gb351,0,none⟩ (.slice A350_0 ((y19 l0_1 x18_2).f0).length c350_0)).heap[gb351]? = some (.cells #[.slice A350_0 ((y19 l0_1 x18_2).f0).length c350_0] 48 (0,0))) := ⟨by (with_reducible repeat (first | refine y10 ?_ _ | refine y9 ?_ | refine y6 ?_ _)); refine blk_put (cs := #[.slice none 0 0]) ?_ 0 _ rfl; (with_reducible repeat (first | refine y10 ?_ _ | refine y9 ?_ | refine y6 ?_ _)); exact BK351.out⟩
         have n2_ : y0 (Below w.heap.size w (w42.setCell ⟨gb351,0,none⟩ (.slice A350_0 ((y19 l0_1 x18_2).f0).length c350_0))) := ⟨qb⟩
         (try clear BK348)
         (try clear BK351)
         (try clear HB)
         generalize (w42.setCell ⟨gb351,0,none⟩ (.slice A350_0 ((y19 l0_1 x18_2).f0).length c350_0)) = w45 at n0_ n1_ n2_ ⊢
         have BK348 := n0_
         have BK351 := n1_
         have HB := n2_
         clear n0_ n1_ n2_
         replace BK348 := y0.mk (y9 BK348.out)
         replace BK351 := y0.mk (y9 BK351.out)
         replace HB := y0.mk (y3 HB.out)
         refine start_ (n := 26) (S := fun w' => w'.cell? ⟨gb351,0,none⟩ = some (.slice A350_0 ((y19 l0_1 x18_2).f0).length c350_0) ∧ w'.cell? ⟨gb348,0,none⟩ = some (.int .i64 a0_0) ∧ w'.cell? ⟨gb348,1,none⟩ = some (.slice (some ad350) l0_1.length c0_1)) (ds := []) (fl_ 26 0) (by kernel_rfl) rfl rfl ⟨(y8 BK351.out 0).trans rfl,(y8 BK348.out 0).trans rfl,(y8 BK348.out 1).trans rfl⟩ (fun hHeld => ?_); refine with_tabW impl_isRel.tab6 impl_isRel.bits6 (fun HT_ HW_ => ?_)
         generalize w45.drew = w46 at BK348 BK351 HB hHeld ⊢
         refine qt 0 23 (fl_ 26 1) hHeld ?_
         refine one_ (i := 1) (N := some 24) (fl_ 26 3) rfl rfl (one_of HT_.out (by kernel_rfl)) (by decide) (fun K hK => ?_)
         refine goes_ Tryz.func54 (by kernel_rfl) rfl #[.agg #[.slice A350_0 ((y19 l0_1 x18_2).f0).length c350_0]] (by rfl) rfl rfl qy0 ?_
         with_reducible refine (impl_isTuple.calls k2 _ _ ((y19 l0_1 x18_2).f0) true _ (qc (Kd.C_below HR350_0.out HB.out)) HC350_0.out (by exact Tb.below HT.out qb) A13.out).mono ?_
         rintro e w47 ⟨rfl,hb⟩
         refine ⟨_,rfl, ?_⟩
         replace BK348 := y0.mk (qK BK348.out hb)
         replace BK351 := y0.mk (qK BK351.out hb)
         replace HB := y0.mk (y5 qb hb)
         (try clear hb)
         (try clear hb2)
         (try clear hk)
         (try clear hi)
         refine hK.out _ _ ⟨(y8 BK351.out 0).trans rfl,(y8 BK348.out 0).trans rfl,(y8 BK348.out 1).trans rfl⟩ (fun hHeld => ?_)
         clear hK K
         refine norm_ (a' := ?_) ?_ ?_
         rotate_left
         ·show Act.put _ (some 24) _ = _
          simp only [Act.put,qS_,qZ_,qC_,y18,y17]
          rfl
         refine qp 2 25 (fl_ 26 7) ?_
         refine qp 3 26 (fl_ 26 15) ?_
         refine qp 4 27 (fl_ 26 31) ?_
         refine qp 7 30 (fl_ 26 159) ?_
         refine qt 5 28 (fl_ 26 191) hHeld ?_
         refine qp 6 29 (fl_ 26 255) ?_
         refine qt 8 31 (fl_ 26 511) hHeld ?_
         refine qp 9 32 (fl_ 26 1023) ?_
         refine qp 10 33 (fl_ 26 2047) ?_
         refine qp 11 34 (fl_ 26 4095) ?_
         refine pure_ (i := 12) (N := some 35) (v := undef) (a' := ?_) (fl_ 26 8191) rfl rfl (y2 HT_.out (by kernel_rfl)) (fun _ _ _ h => h) (Or.inr ⟨by rfl,rfl⟩) ?_ ?_
         rotate_left
         ·simp only [Act.put,qS_,qZ_,qC_,y18,y17]
          rfl
         refine pure_ (i := 13) (N := some 36) (v := undef) (a' := ?_) (fl_ 26 16383) rfl rfl (y2 HT_.out (by kernel_rfl)) (fun _ _ _ h => h) (Or.inr ⟨by rfl,rfl⟩) ?_ ?_
         rotate_left
         ·simp only [Act.put,qS_,qZ_,qC_,y18,y17]
          rfl
         refine pure_ (i := 14) (N := some 37) (v := undef) (a' := ?_) (fl_ 26 32767) rfl rfl (y2 HT_.out (by kernel_rfl)) (fun _ _ _ h => h) (Or.inr ⟨by rfl,rfl⟩) ?_ ?_
         rotate_left
         ·simp only [Act.put,qS_,qZ_,qC_,y18,y17]
          rfl
         refine pure_ (i := 15) (N := some 38) (v := undef) (a' := ?_) (fl_ 26 65535) rfl rfl (y2 HT_.out (by kernel_rfl)) (fun _ _ _ h => h) (Or.inr ⟨by rfl,rfl⟩) ?_ ?_
         rotate_left
         ·simp only [Act.put,qS_,qZ_,qC_,y18,y17]
          rfl
         refine pure_ (i := 16) (N := some 39) (v := undef) (a' := ?_) (fl_ 26 131071) rfl rfl (y2 HT_.out (by kernel_rfl)) (fun _ _ _ h => h) (Or.inr ⟨by rfl,rfl⟩) ?_ ?_
         rotate_left
         ·simp only [Act.put,qS_,qZ_,qC_,y18,y17]
          rfl
         refine pure_ (i := 17) (N := some 40) (v := undef) (a' := ?_) (fl_ 26 262143) rfl rfl (y2 HT_.out (by kernel_rfl)) (fun _ _ _ h => h) (Or.inr ⟨by rfl,rfl⟩) ?_ ?_
         rotate_left
         ·simp only [Act.put,qS_,qZ_,qC_,y18,y17]
          rfl
         refine pure_ (i := 18) (N := some 41) (v := undef) (a' := ?_) (fl_ 26 524287) rfl rfl (y2 HT_.out (by kernel_rfl)) (fun _ _ _ h => h) (Or.inr ⟨by rfl,rfl⟩) ?_ ?_
         rotate_left
         ·simp only [Act.put,qS_,qZ_,qC_,y18,y17]
          rfl
         refine pure_ (i := 19) (N := some 42) (v := undef) (a' := ?_) (fl_ 26 1048575) rfl rfl (y2 HT_.out (by kernel_rfl)) (fun _ _ _ h => h) (Or.inr ⟨by rfl,rfl⟩) ?_ ?_
         rotate_left
         ·simp only [Act.put,qS_,qZ_,qC_,y18,y17]
          rfl
         refine pure_ (i := 20) (N := some 43) (v := undef) (a' := ?_) (fl_ 26 2097151) rfl rfl (y2 HT_.out (by kernel_rfl)) (fun _ _ _ h => h) (Or.inr ⟨by rfl,rfl⟩) ?_ ?_
         rotate_left
         ·simp only [Act.put,qS_,qZ_,qC_,y18,y17]
          rfl
         refine pure_ (i := 21) (N := some 44) (v := undef) (a' := ?_) (fl_ 26 4194303) rfl rfl (y2 HT_.out (by kernel_rfl)) (fun _ _ _ h => h) (Or.inr ⟨by rfl,rfl⟩) ?_ ?_
         rotate_left
         ·simp only [Act.put,qS_,qZ_,qC_,y18,y17]
          rfl
         refine pure_ (i := 22) (N := some 45) (v := undef) (a' := ?_) (fl_ 26 8388607) rfl rfl (y2 HT_.out (by kernel_rfl)) (fun _ _ _ h => h) (Or.inr ⟨by rfl,rfl⟩) ?_ ?_
         rotate_left
         ·simp only [Act.put,qS_,qZ_,qC_,y18,y17]
          rfl
         refine pure_ (i := 23) (N := some 46) (v := undef) (a' := ?_) (fl_ 26 16777215) rfl rfl (y2 HT_.out (by kernel_rfl)) (fun _ _ _ h => h) (Or.inr ⟨by rfl,rfl⟩) ?_ ?_
         rotate_left
         ·simp only [Act.put,qS_,qZ_,qC_,y18,y17]
          rfl
         refine pure_ (i := 24) (N := some 47) (v := undef) (a' := ?_) (fl_ 26 33554431) rfl rfl (y2 HT_.out (by kernel_rfl)) (fun _ _ _ h => h) (Or.inr ⟨by rfl,rfl⟩) ?_ ?_
         rotate_left
         ·simp only [Act.put,qS_,qZ_,qC_,y18,y17]
          rfl
         refine qp 25 48 (fl_ 26 67108863) ?_
         refine done_ (done_of HT_.out (by kernel_rfl)) ?_
         try go_wp2
         go_ret
         exact ⟨by first | rfl | (simp [y12,y13] <;> rfl) | (simp [*,y12,y13] <;> rfl),qb⟩
       ·replace c14 := Bool.eq_false_iff.mpr c14
        subst c14
        replace H := qF H
        obtain rfl := Option.some.inj H
        have p350 : 0 ≤ (x18_2 : Int) := of_decide_eq_true qy1
        have q350 : x18_2 < (l0_1.length : Int) := of_decide_eq_true qy1
        obtain ⟨ad350,A350_0,c350_0,e350,hx350_0,hl350_0,hi350_0⟩ := at_T48 HR0_1.out x18_2 p350 q350
        cases e350
        replace hx350_0 := (HB.out.cell (World.block_lt_of_cell? w _ hx350_0)).trans hx350_0
        have HR350_0 := y0.mk hi350_0
        have HC350_0 := y0.mk hl350_0
        clear hi350_0 hl350_0
        replace p350 := eq_true p350
        replace q350 := eq_true q350
        try go_wp2_with (first | ((with_reducible refine y15 (N := 4) rfl ?_); (try (refine gate_guard (by rfl) ?_; dsimp only)); refine qe 4 #[.slice none 0 0] 48 ?_; intro gb351 hg w48 hbox hb; have BK351 := y0.mk (hbox); have GW351 := y0.mk (qg (w := w) hg); have GE351 := y0.mk (qg (w := w) hg); replace HB := y0.mk (y5 qb hb); have NB348_351 := y0.mk (qn BK348.out hg); have NB351_348 := y0.mk (qm BK348.out hg); replace BK348 := y0.mk (qK BK348.out hb); clear hb hbox hg; have hnb49 := NB351_348.out; have hnc49 := NB348_351.out; obtain ⟨hcz50_0,hfz50_0⟩ := qz1 BK351.out))
        have n0_ : y0 ((w48.setCell ⟨gb351,0,none⟩ (.slice A350_0 ((y19 l0_1 x18_2).f0).length c350_0)).heap[gb348]? = some (.cells #[.int .i64 a0_0,.slice (some ad350) l0_1.length c0_1] 31 (0,0))) := ⟨by (with_reducible repeat (first | refine y10 ?_ _ | refine y9 ?_ | refine y6 ?_ _)); refine blk_far ?_ NB348_351.out _; (with_reducible repeat (first | refine y10 ?_ _ | refine y9 ?_ | refine y6 ?_ _)); exact BK348.out⟩
        have n1_ : y0 ((w48.setCell ⟨gb351,0,none⟩ (.slice A350_0 ((y19 l0_1 x18_2).f0).length c350_0)).heap[gb351]? = some (.cells #[.slice A350_0 ((y19 l0_1 x18_2).f0).length c350_0] 48 (0,0))) := ⟨by (with_reducible repeat (first | refine y10 ?_ _ | refine y9 ?_ | refine y6 ?_ _)); refine blk_put (cs := #[.slice none 0 0]) ?_ 0 _ rfl; (with_reducible repeat (first | refine y10 ?_ _ | refine y9 ?_ | refine y6 ?_ _)); exact BK351.out⟩
        have n2_ : y0 (Below w.heap.size w (w48.setCell ⟨gb351,0,none⟩ (.slice A350_0 ((y19 l0_1 x18_2).f0).length c350_0))) := ⟨qb⟩
        (try clear BK348)
        (try clear BK351)
        (try clear HB)
        generalize (w48.setCell ⟨gb351,0,none⟩ (.slice A350_0 ((y19 l0_1 x18_2).f0).length c350_0)) = w51 at n0_ n1_ n2_ ⊢
        have BK348 := n0_
        have BK351 := n1_
        have HB := n2_
        clear n0_ n1_ n2_
        replace BK348 := y0.mk (y9 BK348.out)
        replace BK351 := y0.mk (y9 BK351.out)
        replace HB := y0.mk (y3 HB.out)
        refine start_ (n := 26) (S := fun w' => w'.cell? ⟨gb351,0,none⟩ = some (.slice A350_0 ((y19 l0_1 x18_2).f0).length c350_0)) (ds := []) (fl_ 26 0) (by kernel_rfl) rfl rfl ((y8 BK351.out 0).trans rfl) (fun hHeld => ?_); refine with_tabW impl_isRel.tab6 impl_isRel.bits6 (fun HT_ HW_ => ?_)
        generalize w51.drew = w52 at BK348 BK351 HB hHeld ⊢
        refine take_ (i := 0) (N := some 23) (v := ?_) (a' := ?_) (fl_ 26 1) rfl rfl (take_ofW HT_.out HW_.out (by kernel_rfl)) (fun _ _ _ h => h) (Or.inl ⟨by rfl, ?_⟩) hHeld ?_ ?_
        rotate_left
        ·intro w' s0
         go_simp
         with_reducible rfl
        rotate_left
        ·simp only [Act.put,qS_,qZ_,qC_,y18,y17]
         rfl
        refine one_ (i := 1) (N := some 24) (fl_ 26 3) rfl rfl (one_of HT_.out (by kernel_rfl)) (by decide) (fun K hK => ?_)
        refine goes_ Tryz.func54 (by kernel_rfl) rfl #[.agg #[.slice A350_0 ((y19 l0_1 x18_2).f0).length c350_0]] (by rfl) rfl rfl qy0 ?_
        with_reducible refine (impl_isTuple.calls k2 _ _ ((y19 l0_1 x18_2).f0) false _ (qc (Kd.C_below HR350_0.out HB.out)) HC350_0.out (by exact Tb.below HT.out qb) A13.out).mono ?_
        rintro e w53 ⟨rfl,hb⟩
        refine ⟨_,rfl, ?_⟩
        replace BK348 := y0.mk (qK BK348.out hb)
        replace BK351 := y0.mk (qK BK351.out hb)
        replace HB := y0.mk (y5 qb hb)
        (try clear hb)
        (try clear hb2)
        (try clear hk)
        (try clear hi)
        refine hK.out _ _ ((y8 BK351.out 0).trans rfl) (fun hHeld => ?_)
        clear hK K
        refine norm_ (a' := ?_) ?_ ?_
        rotate_left
        ·show Act.put _ (some 24) _ = _
         simp only [Act.put,qS_,qZ_,qC_,y18,y17]
         rfl
        refine qp 2 25 (fl_ 26 7) ?_
        refine qp 3 26 (fl_ 26 15) ?_
        refine pure_ (i := 4) (N := some 27) (v := undef) (a' := ?_) (fl_ 26 31) rfl rfl (y2 HT_.out (by kernel_rfl)) (fun _ _ _ h => h) (Or.inr ⟨by rfl,rfl⟩) ?_ ?_
        rotate_left
        ·simp only [Act.put,qS_,qZ_,qC_,y18,y17]
         rfl
        refine pure_ (i := 5) (N := some 28) (v := undef) (a' := ?_) (fl_ 26 63) rfl rfl (y2 HT_.out (by kernel_rfl)) (fun _ _ _ h => h) (Or.inr ⟨by rfl,rfl⟩) ?_ ?_
        rotate_left
        ·simp only [Act.put,qS_,qZ_,qC_,y18,y17]
         rfl
        refine pure_ (i := 6) (N := some 29) (v := undef) (a' := ?_) (fl_ 26 127) rfl rfl (y2 HT_.out (by kernel_rfl)) (fun _ _ _ h => h) (Or.inr ⟨by rfl,rfl⟩) ?_ ?_
        rotate_left
        ·simp only [Act.put,qS_,qZ_,qC_,y18,y17]
         rfl
        refine pure_ (i := 7) (N := some 30) (v := undef) (a' := ?_) (fl_ 26 255) rfl rfl (y2 HT_.out (by kernel_rfl)) (fun _ _ _ h => h) (Or.inr ⟨by rfl,rfl⟩) ?_ ?_
        rotate_left
        ·simp only [Act.put,qS_,qZ_,qC_,y18,y17]
         rfl
        refine pure_ (i := 8) (N := some 31) (v := undef) (a' := ?_) (fl_ 26 511) rfl rfl (y2 HT_.out (by kernel_rfl)) (fun _ _ _ h => h) (Or.inr ⟨by rfl,rfl⟩) ?_ ?_
        rotate_left
        ·simp only [Act.put,qS_,qZ_,qC_,y18,y17]
         rfl
        refine pure_ (i := 9) (N := some 32) (v := undef) (a' := ?_) (fl_ 26 1023) rfl rfl (y2 HT_.out (by kernel_rfl)) (fun _ _ _ h => h) (Or.inr ⟨by rfl,rfl⟩) ?_ ?_
        rotate_left
        ·simp only [Act.put,qS_,qZ_,qC_,y18,y17]
         rfl
        refine qp 10 33 (fl_ 26 2047) ?_
        refine qp 11 34 (fl_ 26 4095) ?_
        refine pure_ (i := 12) (N := some 35) (v := undef) (a' := ?_) (fl_ 26 8191) rfl rfl (y2 HT_.out (by kernel_rfl)) (fun _ _ _ h => h) (Or.inr ⟨by rfl,rfl⟩) ?_ ?_
        rotate_left
        ·simp only [Act.put,qS_,qZ_,qC_,y18,y17]
         rfl
        refine pure_ (i := 13) (N := some 36) (v := undef) (a' := ?_) (fl_ 26 16383) rfl rfl (y2 HT_.out (by kernel_rfl)) (fun _ _ _ h => h) (Or.inr ⟨by rfl,rfl⟩) ?_ ?_
        rotate_left
        ·simp only [Act.put,qS_,qZ_,qC_,y18,y17]
         rfl
        refine pure_ (i := 14) (N := some 37) (v := undef) (a' := ?_) (fl_ 26 32767) rfl rfl (y2 HT_.out (by kernel_rfl)) (fun _ _ _ h => h) (Or.inr ⟨by rfl,rfl⟩) ?_ ?_
        rotate_left
        ·simp only [Act.put,qS_,qZ_,qC_,y18,y17]
         rfl
        refine pure_ (i := 15) (N := some 38) (v := undef) (a' := ?_) (fl_ 26 65535) rfl rfl (y2 HT_.out (by kernel_rfl)) (fun _ _ _ h => h) (Or.inr ⟨by rfl,rfl⟩) ?_ ?_
        rotate_left
        ·simp only [Act.put,qS_,qZ_,qC_,y18,y17]
         rfl
        refine pure_ (i := 16) (N := some 39) (v := undef) (a' := ?_) (fl_ 26 131071) rfl rfl (y2 HT_.out (by kernel_rfl)) (fun _ _ _ h => h) (Or.inr ⟨by rfl,rfl⟩) ?_ ?_
        rotate_left
        ·simp only [Act.put,qS_,qZ_,qC_,y18,y17]
         rfl
        refine pure_ (i := 17) (N := some 40) (v := undef) (a' := ?_) (fl_ 26 262143) rfl rfl (y2 HT_.out (by kernel_rfl)) (fun _ _ _ h => h) (Or.inr ⟨by rfl,rfl⟩) ?_ ?_
        rotate_left
        ·simp only [Act.put,qS_,qZ_,qC_,y18,y17]
         rfl
        refine pure_ (i := 18) (N := some 41) (v := undef) (a' := ?_) (fl_ 26 524287) rfl rfl (y2 HT_.out (by kernel_rfl)) (fun _ _ _ h => h) (Or.inr ⟨by rfl,rfl⟩) ?_ ?_
        rotate_left
        ·simp only [Act.put,qS_,qZ_,qC_,y18,y17]
         rfl
        refine pure_ (i := 19) (N := some 42) (v := undef) (a' := ?_) (fl_ 26 1048575) rfl rfl (y2 HT_.out (by kernel_rfl)) (fun _ _ _ h => h) (Or.inr ⟨by rfl,rfl⟩) ?_ ?_
        rotate_left
        ·simp only [Act.put,qS_,qZ_,qC_,y18,y17]
         rfl
        refine pure_ (i := 20) (N := some 43) (v := undef) (a' := ?_) (fl_ 26 2097151) rfl rfl (y2 HT_.out (by kernel_rfl)) (fun _ _ _ h => h) (Or.inr ⟨by rfl,rfl⟩) ?_ ?_
        rotate_left
        ·simp only [Act.put,qS_,qZ_,qC_,y18,y17]
         rfl
        refine pure_ (i := 21) (N := some 44) (v := undef) (a' := ?_) (fl_ 26 4194303) rfl rfl (y2 HT_.out (by kernel_rfl)) (fun _ _ _ h => h) (Or.inr ⟨by rfl,rfl⟩) ?_ ?_
        rotate_left
        ·simp only [Act.put,qS_,qZ_,qC_,y18,y17]
         rfl
        refine pure_ (i := 22) (N := some 45) (v := undef) (a' := ?_) (fl_ 26 8388607) rfl rfl (y2 HT_.out (by kernel_rfl)) (fun _ _ _ h => h) (Or.inr ⟨by rfl,rfl⟩) ?_ ?_
        rotate_left
        ·simp only [Act.put,qS_,qZ_,qC_,y18,y17]
         rfl
        refine pure_ (i := 23) (N := some 46) (v := undef) (a' := ?_) (fl_ 26 16777215) rfl rfl (y2 HT_.out (by kernel_rfl)) (fun _ _ _ h => h) (Or.inr ⟨by rfl,rfl⟩) ?_ ?_
        rotate_left
        ·simp only [Act.put,qS_,qZ_,qC_,y18,y17]
         rfl
        refine pure_ (i := 24) (N := some 47) (v := undef) (a' := ?_) (fl_ 26 33554431) rfl rfl (y2 HT_.out (by kernel_rfl)) (fun _ _ _ h => h) (Or.inr ⟨by rfl,rfl⟩) ?_ ?_
        rotate_left
        ·simp only [Act.put,qS_,qZ_,qC_,y18,y17]
         rfl
        refine qp 25 48 (fl_ 26 67108863) ?_
        refine done_ (done_of HT_.out (by kernel_rfl)) ?_
        try go_wp2
        go_ret
        exact ⟨by first | rfl | (simp [y12,y13] <;> rfl) | (simp [*,y12,y13] <;> rfl),qb⟩
      ·as_aux_lemma =>
       rw [if_neg c10] at H
       have c10b0 := decide_eq_false c10
       clear c10
       obtain rfl := Option.some.inj H
       go_wp2
       go_ret
       exact ⟨by first | rfl | (simp [y12,y13] <;> rfl) | (simp [*,y12,y13] <;> rfl),qb⟩
end Go.Proofs.YtocmfolajckaeaaGreatDoor.Pe
end
section
namespace Go.Proofs.YtocmfolajckaeaaGreatDoor.Pe
open Go.RowKit Go.Proofs.YtocmfolajckaeaaGreatDoorW.PrintWords Go.Proofs.YtocmfolajckaeaaGreatDoorW.PrintLast Go.Proofs.YtocmfolajckaeaaGreatDoorW.PrintMore
attribute [local go_sem] max2_int min2_int max_two min_two max_three min_three max_four min_four   -- for this text's walks alone
set_option linter.unusedVariables false
set_option linter.unusedSimpArgs false
def slices_Equal_string_string.l0 : Nat → List ByteArray → List ByteArray → Int → Int → Option (Bool)
 | 0,_,_,_,_ => none
 | k + 1,x0,x1,x12,x13 => if x13 < x12 then (if 0 ≤ x13 then (if x13 < (x0.length : Int) then (if x13 < (x1.length : Int) then (if (rdOf ByteArray.empty x0 x13).toList = (rdOf ByteArray.empty x1 x13).toList then (slices_Equal_string_string.l0 k x0 x1 x12 (wrap64 (x13 + 1))) else (some false)) else (none)) else (none)) else (none)) else (some true)
def slices_Equal_string_string.f (k : Nat) (l0 : List ByteArray) (l1 : List ByteArray) : Option (Bool) := if (l0.length : Int) = (l1.length : Int) then (slices_Equal_string_string.l0 k l0 l1 (l0.length : Int) 0) else (some false)
set_option maxHeartbeats 8000000 in
set_option maxRecDepth 100000 in
theorem slices_Equal_string_string.calls (k : Nat) (A0 : Option Addr) (c0 : Nat) (l0 : List ByteArray) (A1 : Option Addr) (c1 : Nat) (l1 : List ByteArray) (r : Bool) (w : World) (hr0 : Kd.C Kd.string w A0 l0.length l0) (hc0 : l0.length ≤ c0) (hr1 : Kd.C Kd.string w A1 l1.length l1) (hc1 : l1.length ≤ c1) (h : slices_Equal_string_string.f k l0 l1 = some r) :
  Calls Tryz.prog 38 #[.slice A0 l0.length c0,.slice A1 l1.length c1] w fun e w' => e = .returned (.bool r) ∧ y1 w w' := by
 have HR0 := y0.mk hr0
 have HC0 := y0.mk hc0
 clear hr0 hc0
 have HR1 := y0.mk hr1
 have HC1 := y0.mk hc1
 clear hr1 hc1
 have H : (if (l0.length : Int) = (l1.length : Int) then (slices_Equal_string_string.l0 k l0 l1 (l0.length : Int) 0) else (some false)) = some r := h
 clear h
 by_cases c3 : (l0.length : Int) = (l1.length : Int)
 ·rw [if_pos c3] at H
  have c3b0 : ((l0.length : Int) == (l1.length : Int)) = true := beq_iff_eq.mpr c3
  have c3b1 : ((l0.length : Int) != (l1.length : Int)) = false := bne_eq_false_iff_eq.mpr c3
  have c3b2 : (l0.length == l1.length) = true := by first | simpa using c3 | (simp at c3 ⊢; omega)
  clear c3
  have H' := y0.mk H
  clear H
  go_enter Tryz.func38,Tryz.ntmps38
  go_wp2
  repeat (go_quiet (fail); try go_wp2)
  go_loopg [13] k (fun kq v13 w' => ∃ (x13_1 : Int),v13 = .int .i64 x13_1 ∧ y0 (slices_Equal_string_string.l0 kq l0 l1 (l0.length : Int) x13_1 = some r) ∧ y0 (kq ≤ k) ∧ y1 w w')
  case atStart => exact ⟨(0),qy2,H',⟨Nat.le_refl _⟩,by repeat (first | exact y1.refl _ | apply y1.step)⟩
  case round =>
   clear H'
   (try clear c3b0 c3b1 c3b2)
   obtain ⟨x13_1,rfl,HA,HK1,⟨m1,rfl⟩⟩ := hrel
   cases gk with
   | zero => exact absurd HA.out (by simp [slices_Equal_string_string.l0])
   | succ k1 =>
    have H := HA.out
    clear HA
    simp only [slices_Equal_string_string.l0] at H
    by_cases c4 : x13_1 < (l0.length : Int)
    ·rw [if_pos c4] at H
     have c4b0 := decide_eq_true c4
     clear c4
     obtain ⟨c5,H⟩ := qo H
     have c5b0 : decide (0 ≤ x13_1) = true := decide_eq_true c5
     clear c5
     obtain ⟨c6,H⟩ := qo H
     have c6b0 : decide (x13_1 < (l0.length : Int)) = true := decide_eq_true c6
     clear c6
     obtain ⟨c7,H⟩ := qo H
     have c7b0 : decide (x13_1 < (l1.length : Int)) = true := decide_eq_true c7
     clear c7
     by_cases c8 : (rdOf ByteArray.empty l0 x13_1).toList = (rdOf ByteArray.empty l1 x13_1).toList
     ·rw [if_pos c8] at H
      have c8b0 : ((rdOf ByteArray.empty l0 x13_1).toList == (rdOf ByteArray.empty l1 x13_1).toList) = true := beq_iff_eq.mpr c8
      have c8b1 : ((rdOf ByteArray.empty l0 x13_1).toList != (rdOf ByteArray.empty l1 x13_1).toList) = false := bne_eq_false_iff_eq.mpr c8
      clear c8
      have H' := y0.mk H
      clear H
      have p355 : 0 ≤ (x13_1 : Int) := of_decide_eq_true qy1
      have q355 : x13_1 < (l0.length : Int) := of_decide_eq_true qy1
      obtain ⟨ad355,e355,hx355_0⟩ := Kd.at_string HR0.out x13_1 p355 q355
      cases e355
      replace p355 := eq_true p355
      replace q355 := eq_true q355
      have p356 : 0 ≤ (x13_1 : Int) := of_decide_eq_true qy1
      have q356 : x13_1 < (l1.length : Int) := of_decide_eq_true qy1
      obtain ⟨ad356,e356,hx356_0⟩ := Kd.at_string HR1.out x13_1 p356 q356
      cases e356
      replace p356 := eq_true p356
      replace q356 := eq_true q356
      go_wp2
      repeat (go_quiet (fail); try go_wp2)
      go_roundg k1
      case measure => have := HK1.out; omega
      exact ⟨(wrap64 (x13_1 + 1)),qy2,H',⟨by have := HK1.out; omega⟩,by repeat (first | exact y1.refl _ | apply y1.step)⟩
     ·rw [if_neg c8] at H
      have c8b0 : ((rdOf ByteArray.empty l0 x13_1).toList == (rdOf ByteArray.empty l1 x13_1).toList) = false := beq_eq_false_iff_ne.mpr c8
      have c8b1 : ((rdOf ByteArray.empty l0 x13_1).toList != (rdOf ByteArray.empty l1 x13_1).toList) = true := bne_iff_ne.mpr c8
      obtain rfl := Option.some.inj H
      have p355 : 0 ≤ (x13_1 : Int) := of_decide_eq_true qy1
      have q355 : x13_1 < (l0.length : Int) := of_decide_eq_true qy1
      obtain ⟨ad355,e355,hx355_0⟩ := Kd.at_string HR0.out x13_1 p355 q355
      cases e355
      replace p355 := eq_true p355
      replace q355 := eq_true q355
      have p356 : 0 ≤ (x13_1 : Int) := of_decide_eq_true qy1
      have q356 : x13_1 < (l1.length : Int) := of_decide_eq_true qy1
      obtain ⟨ad356,e356,hx356_0⟩ := Kd.at_string HR1.out x13_1 p356 q356
      cases e356
      replace p356 := eq_true p356
      replace q356 := eq_true q356
      go_wp2
      repeat (go_quiet (fail); try go_wp2)
      go_ret
      exact ⟨by first | rfl | (simp; done) | (simp [*]; done),by repeat (first | exact y1.refl _ | apply y1.step)⟩
    ·rw [if_neg c4] at H
     have c4b0 := decide_eq_false c4
     clear c4
     obtain rfl := Option.some.inj H
     go_wp2
     repeat (go_quiet (fail); try go_wp2)
     go_ret
     exact ⟨by first | rfl | (simp; done) | (simp [*]; done),by repeat (first | exact y1.refl _ | apply y1.step)⟩
 ·rw [if_neg c3] at H
  have c3b0 : ((l0.length : Int) == (l1.length : Int)) = false := beq_eq_false_iff_ne.mpr c3
  have c3b1 : ((l0.length : Int) != (l1.length : Int)) = true := bne_iff_ne.mpr c3
  have c3b2 : (l0.length == l1.length) = false := by first | simpa using c3 | (simp at c3 ⊢; omega)
  obtain rfl := Option.some.inj H
  go_enter Tryz.func38,Tryz.ntmps38
  go_wp2
  repeat (go_quiet (fail); try go_wp2)
  go_ret
  exact ⟨by first | rfl | (simp; done) | (simp [*]; done),by repeat (first | exact y1.refl _ | apply y1.step)⟩
def impl_copyTuple.f (l0_0 : List ByteArray) : Option (List ByteArray) := (some (([] : List ByteArray) : List ByteArray)).bind fun y359 => (if y359.length + l0_0.length < 8796093022208 then (some (y359 ++ l0_0)) else (none))
set_option maxHeartbeats 8000000 in
set_option maxRecDepth 100000 in
theorem impl_copyTuple.calls (A0_0 : Option Addr) (c0_0 : Nat) (l0_0 : List ByteArray) (r : List ByteArray) (w : World) (hr0_0 : Kd.C Kd.string w A0_0 l0_0.length l0_0) (hc0_0 : l0_0.length ≤ c0_0) (h : impl_copyTuple.f l0_0 = some r) :
  Calls Tryz.prog 39 #[.agg #[.slice A0_0 l0_0.length c0_0]] w fun e w' => ∃ v0_ : Value,e = .returned (.agg #[v0_]) ∧ Kd.R Kd.string 9 w' w.heap.size (fun _ => True) v0_ r ∧ Below w.heap.size w w' := by
 have hu48 := Tryz.underlying48
 have HR0_0 := y0.mk hr0_0
 have HC0_0 := y0.mk hc0_0
 clear hr0_0 hc0_0
 have HB := y0.mk (Below.refl w.heap.size w)
 have H : ((some (([] : List ByteArray) : List ByteArray)).bind fun y359 => (if y359.length + l0_0.length < 8796093022208 then (some (y359 ++ l0_0)) else (none))) = some r := h
 clear h
 obtain ⟨y359,hy359⟩ : ∃ y_ : List ByteArray,y_ = (([] : List ByteArray)) := ⟨_,rfl⟩
 replace H : (if y359.length + l0_0.length < 8796093022208 then (some (y359 ++ l0_0)) else (none)) = some r := by first | (rw [hy359]; with_reducible exact H) | (have H2_ := (Option.bind_some _ _).symm.trans H; rw [hy359]; with_reducible exact H2_) | (have H2_ := (Option.bind_some _ _).symm.trans H; with_reducible exact H2_) | with_reducible exact H | (rw [hy359]; exact H) | exact H
 have Ny359 := y0.mk hy359
 clear hy359
 obtain ⟨c2,H⟩ := qo H
 have LMc2 := y0.mk c2
 clear c2
 obtain ⟨y362,hy362⟩ : ∃ y_ : List ByteArray,y_ = (y359 ++ l0_0) := ⟨_,rfl⟩
 replace H : (some y362) = some r := by first | (rw [hy362]; with_reducible exact H) | (have H2_ := (Option.bind_some _ _).symm.trans H; rw [hy362]; with_reducible exact H2_) | (have H2_ := (Option.bind_some _ _).symm.trans H; with_reducible exact H2_) | with_reducible exact H | (rw [hy362]; exact H) | exact H
 have Ny362 := y0.mk hy362
 clear hy362
 obtain rfl := Option.some.inj H
 go_enter Tryz.func39,Tryz.ntmps39
 go_wp2_with (first | ((with_reducible refine y15 (N := 1) rfl ?_); refine qe 1 #[.slice A0_0 l0_0.length c0_0] 48 ?_; intro gb357 hg w3 hbox hb; have BK357 := y0.mk (hbox); have GW357 := y0.mk (qg (w := w) hg); have GE357 := y0.mk (qg (w := w) hg); replace HB := y0.mk (y5 qb hb); clear hb hbox hg) | ((with_reducible refine y15 (N := 2) rfl ?_); refine qe 2 #[.slice none 0 0] 48 ?_; intro gb358 hg w4 hbox hb; have BK358 := y0.mk (hbox); have GW358 := y0.mk (qg (w := w) hg); have GE358 := y0.mk (qg (w := w) hg); replace HB := y0.mk (y5 qb hb); have NB357_358 := y0.mk (qn BK357.out hg); have NB358_357 := y0.mk (qm BK357.out hg); replace BK357 := y0.mk (qK BK357.out hb); clear hb hbox hg) | ((with_reducible refine y15 (N := 3) rfl ?_); refine Kd.R_lit Kd.string _ 9 ?hg (N := 3) ?hd (xs := ([] : List ByteArray)) (inner := []) (ok := fun _ => True) (okp := fun _ => True) ?hr ?hp (fun _ hk => hk) trivial (Below.refl _ _) (Nat.le_refl _) (by simp) ?_; (case hd => rfl); (case hg => rfl); (case hr => first | (go_simp; done) | (go_simp; rfl)); (case hp => exact (Reps.none _ _)); intro v360 w5 ho6 hb hg_ hnew_; clear hg_ hnew_; (first | rw [← Ny359.out] at ho6 | (simp only [Int.reduceToNat] at ho6; rw [← Ny359.out] at ho6)); have HO361 := y0.mk (Kd.R_lower ho6 (y4 qb)); replace BK357 := y0.mk (qK BK357.out hb); replace BK358 := y0.mk (qK BK358.out hb); replace HB := y0.mk (y5 qb hb); clear hb ho6; have hnb7 := NB357_358.out; have hnc7 := NB358_357.out; obtain ⟨hcz8_0,hfz8_0⟩ := qz1 BK357.out) | ((with_reducible refine gate_builtin (b := .append) (xs := #[.tmp 3,.tmp 5]) rfl ?_); at_builtin; refine Kd.R_append_rows Kd.string (w0 := w) w.heap.size rfl (.tmp 3) (.tmp 5) 25 9 (.string ⟨#[]⟩) 16 rfl Tryz.underlying25 info9 rfl (by decide) (by omega) v360 y359 l0_0 _ _ _ (fun _ => True) (fun _ => False) rfl rfl ?aO ?aR (fun _ _ h => h) (fun _ h => h.elim) ?aF ?aB ?aS ?aL ?_; (case aR => repeat (first | exact (Kd.C_below HR0_0.out HB.out) | (with_reducible refine Kd.C_alloc ?_ _) | (with_reducible refine Kd.C_drewN ?_ _) | (with_reducible refine Kd.C_drew ?_))); (case aB => exact qb); (case aF => exact (fun _ _ => trivial)); (case aO => exact (qR HO361.out)); (case aS => exact (y4 qb)); (case aL => have := LMc2.out; omega); intro v363 w9 ho hb hg hat; rw [← Ny362.out] at ho; replace BK357 := y0.mk (blk_grown (qk BK357.out) hg (Kd.R_ne HO361.out BK357.out (by decide))); replace BK358 := y0.mk (blk_grown (qk BK358.out) hg (Kd.R_ne HO361.out BK358.out (by decide))); replace HB := y0.mk (hb); have HO364 := y0.mk (ho); clear HO361; clear ho hb hg hat; obtain ⟨Ao10,co10,eo10⟩ := Kd.R_slice HO364.out; subst eo10; obtain ⟨hcz11_0,hfz11_0⟩ := qz1 BK358.out))
 refine bodyPost_ret (results_cell_row rfl _ _ gb358 48 #[.slice Ao10 y362.length co10] (0,0) _ rfl (by (with_reducible repeat (first | refine y10 ?_ _ | refine y9 ?_ | refine y6 ?_ _)); refine blk_put (cs := #[.slice none 0 0]) ?_ 0 _ rfl; (with_reducible repeat (first | refine y10 ?_ _ | refine y9 ?_ | refine y6 ?_ _)); exact BK358.out) Tryz.underlying48 rfl (by kernel_rfl)) rfl ?_
 exact ⟨_,by first | rfl | (simp [y12,y13] <;> rfl) | (simp [*,y12,y13] <;> rfl),by (with_reducible repeat (first | apply Kd.R_alloc | apply Kd.R_drewN | apply Kd.R_drew)); exact Kd.R_mono (Kd.R_far (p := ⟨gb358,0,none⟩) (Kd.R_types HO364.out BK358.out (by decide)) (fun _ hk => hk.2) (.slice Ao10 y362.length co10)) (fun _ hk => trivial),qb⟩
def impl_RelSeek.l0 : Nat → List ByteArray → List (S48) → List (S48) → Int → Int → Option ((List (S48)))
 | 0,_,_,_,_,_ => none
 | k + 1,x1,x5,x13,x14,x15 => if x15 < x14 then (if 0 ≤ x15 then (if x15 < (x13.length : Int) then (if (x1.length : Int) ≤ (((y19 x13 x15).f0).length : Int) then (if 0 ≤ (x1.length : Int) then ((slices_Equal_string_string.f k (((y19 x13 x15).f0).take ((x1.length : Int) : Int).toNat) x1).bind fun t373 => (if t373 = true then ((impl_copyTuple.f ((y19 x13 x15).f0)).bind fun t374 => (if x5.length < 5864062014805 then (impl_RelSeek.l0 k x1 (x5 ++ [(⟨t374⟩ : S48)]) x13 x14 (wrap64 (x15 + 1))) else (none))) else (impl_RelSeek.l0 k x1 x5 x13 x14 (wrap64 (x15 + 1))))) else (none)) else (impl_RelSeek.l0 k x1 x5 x13 x14 (wrap64 (x15 + 1)))) else (none)) else (none)) else (some x5)
def impl_RelSeek.f (k : Nat) (a0_0 : Int) (l0_1 : List (S48)) (l1 : List ByteArray) : Option ((List (S48))) := (impl_isRel.f k a0_0 l0_1).bind fun t366 => (if t366 = true then (impl_RelSeek.l0 k l1 (([] : List (S48))) l0_1 (l0_1.length : Int) 0) else (some ([] : List (S48))))
set_option maxHeartbeats 8000000 in
set_option maxRecDepth 100000 in
theorem impl_RelSeek.calls (k : Nat) (a0_0 : Int) (A0_1 : Option Addr) (c0_1 : Nat) (l0_1 : List (S48)) (A1 : Option Addr) (c1 : Nat) (l1 : List ByteArray) (r : List (S48)) (w : World) (hr0_1 : Kd.C k48 w A0_1 l0_1.length l0_1) (hc0_1 : l0_1.length ≤ c0_1) (hr1 : Kd.C Kd.string w A1 l1.length l1) (hc1 : l1.length ≤ c1) (hT : Tb w) (h : impl_RelSeek.f k a0_0 l0_1 l1 = some r) :
  Calls Tryz.prog 12 #[.agg #[.int .i64 a0_0,.slice A0_1 l0_1.length c0_1],.slice A1 l1.length c1] w fun e w' => ∃ v0_ : Value,e = .returned (v0_) ∧ Kd.S k48 48 w' w.heap.size (fun _ => True) v0_ r ∧ Below w.heap.size w w' := by
 have hu31 := Tryz.underlying31
 have hu48 := Tryz.underlying48
 have HT := y0.mk hT
 clear hT
 have HR0_1 := y0.mk hr0_1
 have HC0_1 := y0.mk hc0_1
 clear hr0_1 hc0_1
 have HR1 := y0.mk hr1
 have HC1 := y0.mk hc1
 clear hr1 hc1
 have HB := y0.mk (Below.refl w.heap.size w)
 have H : ((impl_isRel.f k a0_0 l0_1).bind fun t366 => (if t366 = true then (impl_RelSeek.l0 k l1 (([] : List (S48))) l0_1 (l0_1.length : Int) 0) else (some ([] : List (S48))))) = some r := h
 clear h
 obtain ⟨t366,A3,H⟩ := qB H
 by_cases c4 : t366 = true
 ·subst c4
  replace H := qT H
  obtain ⟨y367,hy367⟩ : ∃ y_ : List (S48),y_ = (([] : List (S48))) := ⟨_,rfl⟩
  replace H : (impl_RelSeek.l0 k l1 y367 l0_1 (l0_1.length : Int) 0) = some r := by first | (rw [hy367]; with_reducible exact H) | (have H2_ := (Option.bind_some _ _).symm.trans H; rw [hy367]; with_reducible exact H2_) | (have H2_ := (Option.bind_some _ _).symm.trans H; with_reducible exact H2_) | with_reducible exact H | (rw [hy367]; exact H) | exact H
  have Ny367 := y0.mk hy367
  clear hy367
  have H' := y0.mk H
  clear H
  go_enter Tryz.func12,Tryz.ntmps12
  go_wp2_with (first | ((with_reducible refine y15 (N := 2) rfl ?_); (try (refine gate_guard (by rfl) ?_; dsimp only)); refine qe 2 #[.int .i64 a0_0,.slice A0_1 l0_1.length c0_1] 31 ?_; intro gb365 hg w5 hbox hb; have BK365 := y0.mk (hbox); have GW365 := y0.mk (qg (w := w) hg); have GE365 := y0.mk (qg (w := w) hg); replace HB := y0.mk (y5 qb hb); clear hb hbox hg; obtain ⟨hcz6_0,hcz6_1,hfz6_0,hfz6_1⟩ := qz2 BK365.out) | ((with_reducible refine y14 (f := 37) rfl ?_); refine y16 (some 9) rfl rfl Tryz.func37 (by kernel_rfl) rfl #[.agg #[.int .i64 a0_0,.slice A0_1 l0_1.length c0_1]] rfl qy0 ?_; (with_reducible refine (impl_isRel.calls k a0_0 _ _ l0_1 true _ (qc (Kd.C_below HR0_1.out HB.out)) HC0_1.out (by exact Tb.below HT.out qb) A3.out).mono ?_); rintro e w7 ⟨rfl,hb⟩; refine ⟨_,rfl, ?_⟩; replace BK365 := y0.mk (qK BK365.out hb); replace HB := y0.mk (y5 qb hb); (try clear hb); (try clear hb2); (try clear hk); (try clear hi)) | ((with_reducible refine y15 (N := 11) rfl ?_); (try (refine gate_guard (by rfl) ?_; dsimp only)); refine Kd.S_lit k48 _ 48 ?hg (N := 11) ?hd (xs := ([] : List (S48))) (inner := []) (ok := fun _ => True) (okp := fun _ => True) ?hr ?hp (fun _ hk => hk) trivial (Below.refl _ _) (Nat.le_refl _) (by simp) ?_; (case hd => rfl); (case hg => rfl); (case hr => first | (go_simp; done) | (go_simp; rfl)); (case hp => exact (Reps.none _ _)); intro v368 w8 ho9 hb hg_ hnew_; clear hg_ hnew_; (first | rw [← Ny367.out] at ho9 | (simp only [Int.reduceToNat] at ho9; rw [← Ny367.out] at ho9)); have HO369 := y0.mk (Kd.S_lower ho9 (y4 qb)); replace BK365 := y0.mk (qK BK365.out hb); replace HB := y0.mk (y5 qb hb); clear hb ho9; obtain ⟨hcz10_0,hcz10_1,hfz10_0,hfz10_1⟩ := qz2 BK365.out))
  go_loopg [5,15] k (fun kq v5 v15 w' => ∃ (x5_1 : List (S48)) (x15_1 : Int),v15 = .int .i64 x15_1 ∧ y0 (impl_RelSeek.l0 kq l1 x5_1 l0_1 (l0_1.length : Int) x15_1 = some r) ∧ y0 (kq ≤ k) ∧ y0 (Kd.S k48 48 w' w.heap.size (fun _ => True) v5 x5_1) ∧ y0 (w'.heap[gb365]? = some (.cells #[.int .i64 a0_0,(.slice A0_1 l0_1.length c0_1)] 31 (0,0))) ∧ y0 (Below w.heap.size w w'))
  case atStart => exact ⟨(y367),(0),qy2,H',⟨Nat.le_refl _⟩,⟨qS HO369.out⟩,⟨qk BK365.out⟩,⟨qb⟩⟩
  case round =>
   clear H'
   (try clear c4 hcz10_0 hcz10_1 hcz6_0 hcz6_1 hfz10_0 hfz10_1 hfz6_0 hfz6_1)
   obtain ⟨x5_1,x15_1,rfl,HA,HK1,HO_5,BK365,HB⟩ := hrel
   cases gk with
   | zero => exact absurd HA.out (by simp [impl_RelSeek.l0])
   | succ k1 =>
    have H := HA.out
    clear HA
    simp only [impl_RelSeek.l0] at H
    by_cases c11 : x15_1 < (l0_1.length : Int)
    ·rw [if_pos c11] at H
     have c11b0 := decide_eq_true c11
     clear c11
     obtain ⟨c12,H⟩ := qo H
     have c12b0 : decide (0 ≤ x15_1) = true := decide_eq_true c12
     clear c12
     obtain ⟨c13,H⟩ := qo H
     have c13b0 : decide (x15_1 < (l0_1.length : Int)) = true := decide_eq_true c13
     clear c13
     by_cases c14 : (l1.length : Int) ≤ (((y19 l0_1 x15_1).f0).length : Int)
     ·rw [if_pos c14] at H
      have c14b0 := decide_eq_true c14
      have c14b1 : decide (l1.length ≤ ((y19 l0_1 x15_1).f0).length) = true := decide_eq_true (Int.ofNat_le.mp c14)
      clear c14
      obtain ⟨c15,H⟩ := qo H
      have c15b0 := eq_true c15
      have c15b1 := decide_eq_true c15
      clear c15
      have c16b0 := eq_true (of_decide_eq_true qy1 : (l1.length : Int) ≤ (((y19 l0_1 x15_1).f0).length : Int))
      obtain ⟨t373,A17,H⟩ := qB H
      by_cases c18 : t373 = true
      ·subst c18
       replace H := qT H
       obtain ⟨t374,A19,H⟩ := qB H
       obtain ⟨c20,H⟩ := qo H
       have LMc20 := y0.mk c20
       clear c20
       obtain ⟨y377,hy377⟩ : ∃ y_ : List (S48),y_ = (x5_1 ++ [(⟨t374⟩ : S48)]) := ⟨_,rfl⟩
       replace H : (impl_RelSeek.l0 k1 l1 y377 l0_1 (l0_1.length : Int) (wrap64 (x15_1 + 1))) = some r := by first | (rw [hy377]; with_reducible exact H) | (have H2_ := (Option.bind_some _ _).symm.trans H; rw [hy377]; with_reducible exact H2_) | (have H2_ := (Option.bind_some _ _).symm.trans H; with_reducible exact H2_) | with_reducible exact H | (rw [hy377]; exact H) | exact H
       have Ny377 := y0.mk hy377
       clear hy377
       have H' := y0.mk H
       clear H
       have p370 : 0 ≤ (x15_1 : Int) := of_decide_eq_true qy1
       have q370 : x15_1 < (l0_1.length : Int) := of_decide_eq_true qy1
       obtain ⟨ad370,A370_0,c370_0,e370,hx370_0,hl370_0,hi370_0⟩ := at_T48 HR0_1.out x15_1 p370 q370
       cases e370
       replace hx370_0 := (HB.out.cell (World.block_lt_of_cell? w _ hx370_0)).trans hx370_0
       have HR370_0 := y0.mk hi370_0
       have HC370_0 := y0.mk hl370_0
       clear hi370_0 hl370_0
       replace p370 := eq_true p370
       replace q370 := eq_true q370
       go_wp2_with (first | ((with_reducible refine y15 (N := 7) rfl ?_); (try (refine gate_guard (by rfl) ?_; dsimp only)); refine qe 7 #[.slice none 0 0] 48 ?_; intro gb371 hg w21 hbox hb; replace HO_5 := y0.mk (Kd.S_below (Kd.S_elderB (qS HO_5.out) gb371 (Nat.le_of_eq hg.symm)) hb); have BK371 := y0.mk (hbox); have GW371 := y0.mk (qg (w := w) hg); have GE371 := y0.mk (qg (w := w) hg); replace HB := y0.mk (y5 qb hb); have NB365_371 := y0.mk (qn BK365.out hg); have NB371_365 := y0.mk (qm BK365.out hg); replace BK365 := y0.mk (qK BK365.out hb); clear hb hbox hg; have hnb22 := NB371_365.out; have hnc22 := NB365_371.out; obtain ⟨hcz23_0,hfz23_0⟩ := qz1 BK371.out; obtain ⟨i024,hi024,_,hsz24,_⟩ := info_parts info9; obtain ⟨hcut24,hA24,hC24⟩ := print_take_of (P := Tryz.prog) Value.string (⟨#[]⟩ : ByteArray) 25 9 .i64 Tryz.underlying25 hi024 hsz24 A370_0 c370_0 ((y19 l0_1 x15_1).f0) (l1.length : Int) (of_decide_eq_true qy1) (of_decide_eq_true qy1) HC370_0.out; have HR372 := y0.mk (show Kd.C Kd.string _ _ _ _ from Kd.C_of_reads (h1 := fun _ => rfl) (hA24 _ (Kd.reads_of_C HR370_0.out))); have HC372 := y0.mk hC24; clear hA24 hC24 hi024 hsz24) | (go_at_call 38; rw [show min l1.length ((y19 l0_1 x15_1).f0).length = (((y19 l0_1 x15_1).f0).take ((l1.length : Int) : Int).toNat).length from (by simp only [List.length_take,Int.toNat_natCast])]; (with_reducible refine (slices_Equal_string_string.calls k1 _ _ (((y19 l0_1 x15_1).f0).take ((l1.length : Int) : Int).toNat) _ _ l1 true _ (by exact Kd.C_below HR372.out qb) HC372.out (by exact Kd.C_below HR1.out qb) HC1.out A17.out).mono ?_); rintro e w' ⟨rfl,⟨nd,rfl⟩⟩) | ((with_reducible refine y14 (f := 39) rfl ?_); refine y16 (some 36) rfl rfl Tryz.func39 (by kernel_rfl) rfl #[.agg #[.slice A370_0 ((y19 l0_1 x15_1).f0).length c370_0]] rfl qy0 ?_; (with_reducible refine (impl_copyTuple.calls _ _ ((y19 l0_1 x15_1).f0) t374 _ (by exact Kd.C_below HR370_0.out qb) HC370_0.out A19.out).mono ?_); rintro e w25 ⟨v375,rfl,ho0,hb⟩; refine ⟨_,rfl, ?_⟩; replace HO_5 := y0.mk (Kd.S_elder' (qS ((Kd.S_mono (Kd.S_far (p := ⟨gb371,0,none⟩) (Kd.S_mono HO_5.out (fun k_ hk => (⟨hk,hk.2⟩ : _ ∧ k_ ≠ gb371))) (fun _ hk => hk.2) (.slice A370_0 ((y19 l0_1 x15_1).f0).length c370_0)) (fun _ h_ => h_.1)))) (Kd.R_base ho0) hb); have HO376 := y0.mk (Kd.R_lower ho0 (y4 qb)); replace BK365 := y0.mk (y7 (g := gb365) (o := .cells #[.int .i64 a0_0,.slice (some ad370) l0_1.length c0_1] 31 (0,0)) (by (with_reducible repeat (first | refine y10 ?_ _ | refine y9 ?_ | refine y6 ?_ _)); refine blk_far ?_ NB365_371.out _; (with_reducible repeat (first | refine y10 ?_ _ | refine y9 ?_ | refine y6 ?_ _)); exact BK365.out) hb); replace BK371 := y0.mk (y7 (g := gb371) (o := .cells #[.slice A370_0 ((y19 l0_1 x15_1).f0).length c370_0] 48 (0,0)) (by (with_reducible repeat (first | refine y10 ?_ _ | refine y9 ?_ | refine y6 ?_ _)); refine blk_put (cs := #[.slice none 0 0]) ?_ 0 _ rfl; (with_reducible repeat (first | refine y10 ?_ _ | refine y9 ?_ | refine y6 ?_ _)); exact BK371.out) hb); replace HB := y0.mk (y5 qb hb); (try clear hb); (try clear hb2); (try clear hk); (try clear hi); (try clear ho0); obtain ⟨Ao27,co27,eo27⟩ := Kd.R_slice HO376.out; subst eo27) | ((with_reducible refine gate_builtin (b := .append) (xs := #[.tmp 34,.tmp 37]) rfl ?_); (try (refine gate_guard (by rfl) ?_; dsimp only)); at_builtin; refine Kd.S_append k48 (w0 := w) w.heap.size rfl (.tmp 34) (.tmp 37) 28 48 (.agg #[(.slice none 0 0)]) 24 rfl Tryz.underlying28 info48 rfl (by decide) (by omega) u5 x5_1 (⟨t374⟩ : S48) [.slice Ao27 t374.length co27] (fun k_ => k_ ≠ gb371) (fun k_ => some k_ = (.slice Ao27 t374.length co27 : Value).ownBlock) rfl rfl ?aP (fun k_ hk_ => ((Kd.R_mono (ok' := fun k_ => ((fun k_ => k_ ≠ gb371)) k_ ∧ some k_ ≠ (u5 : Value).ownBlock) (Kd.R_types (Kd.R_apart' (HO376.out) (Kd.S_typed HO_5.out) (by decide)) BK371.out (by decide)) (fun k_ hk => ⟨hk.2,hk.1.2⟩))).1 k_ hk_.symm) ?aF ?aO ?aB ?aS ?aL ?_; (case aP => exact k48_mkM _ _ _ (⟨t374⟩ : S48) (Kd.R_mono (Kd.R_tight rfl (Kd.R_mono (ok' := fun k_ => ((fun k_ => k_ ≠ gb371)) k_ ∧ some k_ ≠ (u5 : Value).ownBlock) (Kd.R_types (Kd.R_apart' (HO376.out) (Kd.S_typed HO_5.out) (by decide)) BK371.out (by decide)) (fun k_ hk => ⟨hk.2,hk.1.2⟩))) (fun _ h_ => h_))); (case aB => exact qb); (case aF => exact (fun k_ hk => Kd.freshB (g := gb371) (o := .cells #[.slice A370_0 ((y19 l0_1 x15_1).f0).length c370_0] 48 (0,0)) (qk BK371.out) k_ hk)); (case aO => exact (qS (Kd.S_mono HO_5.out (fun k_ hk => ⟨hk.1.2,fun e_ => hk.2 e_⟩)))); (case aS => exact (y4 qb)); (case aL => have := LMc20.out; omega); intro v378 w26 ho hb hg hat; rw [← Ny377.out] at ho; replace BK365 := y0.mk (blk_grown (qk BK365.out) hg (Kd.S_ne HO_5.out BK365.out (by decide))); replace BK371 := y0.mk (blk_grown (qk BK371.out) hg (Kd.S_away HO_5.out (fun _ hk => hk.1.2))); replace HB := y0.mk (hb); have HO379 := y0.mk (ho); clear HO_5 HO376; clear ho hb hg hat))
       go_roundg k1
       case measure => have := HK1.out; omega
       exact ⟨(y377),(wrap64 (x15_1 + 1)),qy2,H',⟨by have := HK1.out; omega⟩,⟨qS (Kd.S_mono HO379.out (fun _ hk => trivial))⟩,⟨qk BK365.out⟩,⟨qb⟩⟩
      ·replace c18 := Bool.eq_false_iff.mpr c18
       subst c18
       replace H := qF H
       have H' := y0.mk H
       clear H
       have p370 : 0 ≤ (x15_1 : Int) := of_decide_eq_true qy1
       have q370 : x15_1 < (l0_1.length : Int) := of_decide_eq_true qy1
       obtain ⟨ad370,A370_0,c370_0,e370,hx370_0,hl370_0,hi370_0⟩ := at_T48 HR0_1.out x15_1 p370 q370
       cases e370
       replace hx370_0 := (HB.out.cell (World.block_lt_of_cell? w _ hx370_0)).trans hx370_0
       have HR370_0 := y0.mk hi370_0
       have HC370_0 := y0.mk hl370_0
       clear hi370_0 hl370_0
       replace p370 := eq_true p370
       replace q370 := eq_true q370
       go_wp2_with (first | ((with_reducible refine y15 (N := 7) rfl ?_); (try (refine gate_guard (by rfl) ?_; dsimp only)); refine qe 7 #[.slice none 0 0] 48 ?_; intro gb371 hg w28 hbox hb; replace HO_5 := y0.mk (Kd.S_below (Kd.S_elderB (qS HO_5.out) gb371 (Nat.le_of_eq hg.symm)) hb); have BK371 := y0.mk (hbox); have GW371 := y0.mk (qg (w := w) hg); have GE371 := y0.mk (qg (w := w) hg); replace HB := y0.mk (y5 qb hb); have NB365_371 := y0.mk (qn BK365.out hg); have NB371_365 := y0.mk (qm BK365.out hg); replace BK365 := y0.mk (qK BK365.out hb); clear hb hbox hg; have hnb29 := NB371_365.out; have hnc29 := NB365_371.out; obtain ⟨hcz30_0,hfz30_0⟩ := qz1 BK371.out; obtain ⟨i031,hi031,_,hsz31,_⟩ := info_parts info9; obtain ⟨hcut31,hA31,hC31⟩ := print_take_of (P := Tryz.prog) Value.string (⟨#[]⟩ : ByteArray) 25 9 .i64 Tryz.underlying25 hi031 hsz31 A370_0 c370_0 ((y19 l0_1 x15_1).f0) (l1.length : Int) (of_decide_eq_true qy1) (of_decide_eq_true qy1) HC370_0.out; have HR372 := y0.mk (show Kd.C Kd.string _ _ _ _ from Kd.C_of_reads (h1 := fun _ => rfl) (hA31 _ (Kd.reads_of_C HR370_0.out))); have HC372 := y0.mk hC31; clear hA31 hC31 hi031 hsz31) | (go_at_call 38; rw [show min l1.length ((y19 l0_1 x15_1).f0).length = (((y19 l0_1 x15_1).f0).take ((l1.length : Int) : Int).toNat).length from (by simp only [List.length_take,Int.toNat_natCast])]; (with_reducible refine (slices_Equal_string_string.calls k1 _ _ (((y19 l0_1 x15_1).f0).take ((l1.length : Int) : Int).toNat) _ _ l1 false _ (by exact Kd.C_below HR372.out qb) HC372.out (by exact Kd.C_below HR1.out qb) HC1.out A17.out).mono ?_); rintro e w' ⟨rfl,⟨nd,rfl⟩⟩))
       go_roundg k1
       case measure => have := HK1.out; omega
       exact ⟨(x5_1),(wrap64 (x15_1 + 1)),qy2,H',⟨by have := HK1.out; omega⟩,⟨qS (Kd.S_mono (Kd.S_far (p := ⟨gb371,0,none⟩) (Kd.S_mono HO_5.out (fun k_ hk => (⟨hk,hk.2⟩ : _ ∧ k_ ≠ gb371))) (fun _ hk => hk.2) (.slice A370_0 ((y19 l0_1 x15_1).f0).length c370_0)) (fun _ hk => trivial))⟩,⟨by (with_reducible repeat (first | refine y10 ?_ _ | refine y9 ?_ | refine y6 ?_ _)); refine blk_far ?_ NB365_371.out _; (with_reducible repeat (first | refine y10 ?_ _ | refine y9 ?_ | refine y6 ?_ _)); exact BK365.out⟩,⟨qb⟩⟩
     ·rw [if_neg c14] at H
      have c14b0 := decide_eq_false c14
      have c14b1 : decide (l1.length ≤ ((y19 l0_1 x15_1).f0).length) = false := decide_eq_false (fun h => c14 (Int.ofNat_le.mpr h))
      clear c14
      have H' := y0.mk H
      clear H
      have p370 : 0 ≤ (x15_1 : Int) := of_decide_eq_true qy1
      have q370 : x15_1 < (l0_1.length : Int) := of_decide_eq_true qy1
      obtain ⟨ad370,A370_0,c370_0,e370,hx370_0,hl370_0,hi370_0⟩ := at_T48 HR0_1.out x15_1 p370 q370
      cases e370
      replace hx370_0 := (HB.out.cell (World.block_lt_of_cell? w _ hx370_0)).trans hx370_0
      have HR370_0 := y0.mk hi370_0
      have HC370_0 := y0.mk hl370_0
      clear hi370_0 hl370_0
      replace p370 := eq_true p370
      replace q370 := eq_true q370
      go_wp2_with (first | ((with_reducible refine y15 (N := 7) rfl ?_); (try (refine gate_guard (by rfl) ?_; dsimp only)); refine qe 7 #[.slice none 0 0] 48 ?_; intro gb371 hg w32 hbox hb; replace HO_5 := y0.mk (Kd.S_below (Kd.S_elderB (qS HO_5.out) gb371 (Nat.le_of_eq hg.symm)) hb); have BK371 := y0.mk (hbox); have GW371 := y0.mk (qg (w := w) hg); have GE371 := y0.mk (qg (w := w) hg); replace HB := y0.mk (y5 qb hb); have NB365_371 := y0.mk (qn BK365.out hg); have NB371_365 := y0.mk (qm BK365.out hg); replace BK365 := y0.mk (qK BK365.out hb); clear hb hbox hg; have hnb33 := NB371_365.out; have hnc33 := NB365_371.out; obtain ⟨hcz34_0,hfz34_0⟩ := qz1 BK371.out))
      go_roundg k1
      case measure => have := HK1.out; omega
      exact ⟨(x5_1),(wrap64 (x15_1 + 1)),qy2,H',⟨by have := HK1.out; omega⟩,⟨qS (Kd.S_mono (Kd.S_far (p := ⟨gb371,0,none⟩) (Kd.S_mono HO_5.out (fun k_ hk => (⟨hk,hk.2⟩ : _ ∧ k_ ≠ gb371))) (fun _ hk => hk.2) (.slice A370_0 ((y19 l0_1 x15_1).f0).length c370_0)) (fun _ hk => trivial))⟩,⟨by (with_reducible repeat (first | refine y10 ?_ _ | refine y9 ?_ | refine y6 ?_ _)); refine blk_far ?_ NB365_371.out _; (with_reducible repeat (first | refine y10 ?_ _ | refine y9 ?_ | refine y6 ?_ _)); exact BK365.out⟩,⟨qb⟩⟩
    ·rw [if_neg c11] at H
     have c11b0 := decide_eq_false c11
     clear c11
     obtain rfl := Option.some.inj H
     go_wp2
     go_ret
     exact ⟨_,by first | rfl | (simp [y12,y13] <;> rfl) | (simp [*,y12,y13] <;> rfl),by (with_reducible repeat (first | apply Kd.S_alloc | apply Kd.S_drewN | apply Kd.S_drew)); exact HO_5.out,qb⟩
 ·replace c4 := Bool.eq_false_iff.mpr c4
  subst c4
  replace H := qF H
  obtain rfl := Option.some.inj H
  go_enter Tryz.func12,Tryz.ntmps12
  go_wp2_with (first | ((with_reducible refine y15 (N := 2) rfl ?_); (try (refine gate_guard (by rfl) ?_; dsimp only)); refine qe 2 #[.int .i64 a0_0,.slice A0_1 l0_1.length c0_1] 31 ?_; intro gb365 hg w35 hbox hb; have BK365 := y0.mk (hbox); have GW365 := y0.mk (qg (w := w) hg); have GE365 := y0.mk (qg (w := w) hg); replace HB := y0.mk (y5 qb hb); clear hb hbox hg; obtain ⟨hcz36_0,hcz36_1,hfz36_0,hfz36_1⟩ := qz2 BK365.out) | ((with_reducible refine y14 (f := 37) rfl ?_); refine y16 (some 9) rfl rfl Tryz.func37 (by kernel_rfl) rfl #[.agg #[.int .i64 a0_0,.slice A0_1 l0_1.length c0_1]] rfl qy0 ?_; (with_reducible refine (impl_isRel.calls k a0_0 _ _ l0_1 false _ (qc (Kd.C_below HR0_1.out HB.out)) HC0_1.out (by exact Tb.below HT.out qb) A3.out).mono ?_); rintro e w37 ⟨rfl,hb⟩; refine ⟨_,rfl, ?_⟩; replace BK365 := y0.mk (qK BK365.out hb); replace HB := y0.mk (y5 qb hb); (try clear hb); (try clear hb2); (try clear hk); (try clear hi)))
  go_ret
  exact ⟨_,by first | rfl | (simp [y12,y13] <;> rfl) | (simp [*,y12,y13] <;> rfl),by first | exact Kd.S_nil _ _ _ _ _ | exact Kd.N_nil _ _ _ _ _ | exact Kd.V_nil _ _ _ _ _ | exact Kd.Q_nil _ _ _ _ _ | exact Kd.R_nil _ _ _ _ _,qb⟩
def laws_eqStringS.l0 : Nat → List ByteArray → List ByteArray → Int → Option (Bool)
 | 0,_,_,_ => none
 | k + 1,x0,x1,x5 => if x5 < (x0.length : Int) then (if 0 ≤ x5 then (if x5 < (x1.length : Int) then (if (rdOf ByteArray.empty x0 x5).toList = (rdOf ByteArray.empty x1 x5).toList then (laws_eqStringS.l0 k x0 x1 (wrap64 (x5 + 1))) else (some false)) else (none)) else (none)) else (some true)
def laws_eqStringS.f (k : Nat) (l0 : List ByteArray) (l1 : List ByteArray) : Option (Bool) := if (l0.length : Int) = (l1.length : Int) then (laws_eqStringS.l0 k l0 l1 0) else (some false)
set_option maxHeartbeats 8000000 in
set_option maxRecDepth 100000 in
theorem laws_eqStringS.calls (k : Nat) (A0 : Option Addr) (c0 : Nat) (l0 : List ByteArray) (A1 : Option Addr) (c1 : Nat) (l1 : List ByteArray) (r : Bool) (w : World) (hr0 : Kd.C Kd.string w A0 l0.length l0) (hc0 : l0.length ≤ c0) (hr1 : Kd.C Kd.string w A1 l1.length l1) (hc1 : l1.length ≤ c1) (h : laws_eqStringS.f k l0 l1 = some r) :
  Calls Tryz.prog 15 #[.slice A0 l0.length c0,.slice A1 l1.length c1] w fun e w' => e = .returned (.bool r) ∧ y1 w w' := by
 have HR0 := y0.mk hr0
 have HC0 := y0.mk hc0
 clear hr0 hc0
 have HR1 := y0.mk hr1
 have HC1 := y0.mk hc1
 clear hr1 hc1
 have H : (if (l0.length : Int) = (l1.length : Int) then (laws_eqStringS.l0 k l0 l1 0) else (some false)) = some r := h
 clear h
 by_cases c3 : (l0.length : Int) = (l1.length : Int)
 ·rw [if_pos c3] at H
  have c3b0 : ((l0.length : Int) == (l1.length : Int)) = true := beq_iff_eq.mpr c3
  have c3b1 : ((l0.length : Int) != (l1.length : Int)) = false := bne_eq_false_iff_eq.mpr c3
  have c3b2 : (l0.length == l1.length) = true := by first | simpa using c3 | (simp at c3 ⊢; omega)
  clear c3
  have H' := y0.mk H
  clear H
  go_enter Tryz.func15,Tryz.ntmps15
  go_wp2
  repeat (go_quiet (fail); try go_wp2)
  go_loopg [5] k (fun kq v5 w' => ∃ (x5_1 : Int),v5 = .int .i64 x5_1 ∧ y0 (laws_eqStringS.l0 kq l0 l1 x5_1 = some r) ∧ y0 (kq ≤ k) ∧ y1 w w')
  case atStart => exact ⟨(0),qy2,H',⟨Nat.le_refl _⟩,by repeat (first | exact y1.refl _ | apply y1.step)⟩
  case round =>
   clear H'
   (try clear c3b0 c3b1 c3b2)
   obtain ⟨x5_1,rfl,HA,HK1,⟨m1,rfl⟩⟩ := hrel
   cases gk with
   | zero => exact absurd HA.out (by simp [laws_eqStringS.l0])
   | succ k1 =>
    have H := HA.out
    clear HA
    simp only [laws_eqStringS.l0] at H
    by_cases c4 : x5_1 < (l0.length : Int)
    ·rw [if_pos c4] at H
     have c4b0 := decide_eq_true c4
     clear c4
     obtain ⟨c5,H⟩ := qo H
     have c5b0 : decide (0 ≤ x5_1) = true := decide_eq_true c5
     clear c5
     obtain ⟨c6,H⟩ := qo H
     have c6b0 : decide (x5_1 < (l1.length : Int)) = true := decide_eq_true c6
     clear c6
     by_cases c7 : (rdOf ByteArray.empty l0 x5_1).toList = (rdOf ByteArray.empty l1 x5_1).toList
     ·rw [if_pos c7] at H
      have c7b0 : ((rdOf ByteArray.empty l0 x5_1).toList == (rdOf ByteArray.empty l1 x5_1).toList) = true := beq_iff_eq.mpr c7
      have c7b1 : ((rdOf ByteArray.empty l0 x5_1).toList != (rdOf ByteArray.empty l1 x5_1).toList) = false := bne_eq_false_iff_eq.mpr c7
      clear c7
      have H' := y0.mk H
      clear H
      have p380 : 0 ≤ (x5_1 : Int) := of_decide_eq_true qy1
      have q380 : x5_1 < (l0.length : Int) := of_decide_eq_true qy1
      obtain ⟨ad380,e380,hx380_0⟩ := Kd.at_string HR0.out x5_1 p380 q380
      cases e380
      replace p380 := eq_true p380
      replace q380 := eq_true q380
      have p381 : 0 ≤ (x5_1 : Int) := of_decide_eq_true qy1
      have q381 : x5_1 < (l1.length : Int) := of_decide_eq_true qy1
      obtain ⟨ad381,e381,hx381_0⟩ := Kd.at_string HR1.out x5_1 p381 q381
      cases e381
      replace p381 := eq_true p381
      replace q381 := eq_true q381
      go_wp2
      repeat (go_quiet (fail); try go_wp2)
      go_roundg k1
      case measure => have := HK1.out; omega
      exact ⟨(wrap64 (x5_1 + 1)),qy2,H',⟨by have := HK1.out; omega⟩,by repeat (first | exact y1.refl _ | apply y1.step)⟩
     ·rw [if_neg c7] at H
      have c7b0 : ((rdOf ByteArray.empty l0 x5_1).toList == (rdOf ByteArray.empty l1 x5_1).toList) = false := beq_eq_false_iff_ne.mpr c7
      have c7b1 : ((rdOf ByteArray.empty l0 x5_1).toList != (rdOf ByteArray.empty l1 x5_1).toList) = true := bne_iff_ne.mpr c7
      obtain rfl := Option.some.inj H
      have p380 : 0 ≤ (x5_1 : Int) := of_decide_eq_true qy1
      have q380 : x5_1 < (l0.length : Int) := of_decide_eq_true qy1
      obtain ⟨ad380,e380,hx380_0⟩ := Kd.at_string HR0.out x5_1 p380 q380
      cases e380
      replace p380 := eq_true p380
      replace q380 := eq_true q380
      have p381 : 0 ≤ (x5_1 : Int) := of_decide_eq_true qy1
      have q381 : x5_1 < (l1.length : Int) := of_decide_eq_true qy1
      obtain ⟨ad381,e381,hx381_0⟩ := Kd.at_string HR1.out x5_1 p381 q381
      cases e381
      replace p381 := eq_true p381
      replace q381 := eq_true q381
      go_wp2
      repeat (go_quiet (fail); try go_wp2)
      go_ret
      exact ⟨by first | rfl | (simp; done) | (simp [*]; done),by repeat (first | exact y1.refl _ | apply y1.step)⟩
    ·rw [if_neg c4] at H
     have c4b0 := decide_eq_false c4
     clear c4
     obtain rfl := Option.some.inj H
     go_wp2
     repeat (go_quiet (fail); try go_wp2)
     go_ret
     exact ⟨by first | rfl | (simp; done) | (simp [*]; done),by repeat (first | exact y1.refl _ | apply y1.step)⟩
 ·rw [if_neg c3] at H
  have c3b0 : ((l0.length : Int) == (l1.length : Int)) = false := beq_eq_false_iff_ne.mpr c3
  have c3b1 : ((l0.length : Int) != (l1.length : Int)) = true := bne_iff_ne.mpr c3
  have c3b2 : (l0.length == l1.length) = false := by first | simpa using c3 | (simp at c3 ⊢; omega)
  obtain rfl := Option.some.inj H
  go_enter Tryz.func15,Tryz.ntmps15
  go_wp2
  repeat (go_quiet (fail); try go_wp2)
  go_ret
  exact ⟨by first | rfl | (simp; done) | (simp [*]; done),by repeat (first | exact y1.refl _ | apply y1.step)⟩
def laws_eqTuple.f (k : Nat) (l0_0 : List ByteArray) (l1_0 : List ByteArray) : Option (Bool) := (laws_eqStringS.f k l0_0 l1_0).bind fun t384 => (if t384 = true then (some true) else (some false))
set_option maxHeartbeats 8000000 in
set_option maxRecDepth 100000 in
theorem laws_eqTuple.calls (k : Nat) (A0_0 : Option Addr) (c0_0 : Nat) (l0_0 : List ByteArray) (A1_0 : Option Addr) (c1_0 : Nat) (l1_0 : List ByteArray) (r : Bool) (w : World) (hr0_0 : Kd.C Kd.string w A0_0 l0_0.length l0_0) (hc0_0 : l0_0.length ≤ c0_0) (hr1_0 : Kd.C Kd.string w A1_0 l1_0.length l1_0) (hc1_0 : l1_0.length ≤ c1_0) (h : laws_eqTuple.f k l0_0 l1_0 = some r) :
  Calls Tryz.prog 31 #[.agg #[.slice A0_0 l0_0.length c0_0],.agg #[.slice A1_0 l1_0.length c1_0]] w fun e w' => e = .returned (.bool r) ∧ Below w.heap.size w w' := by
 have hu48 := Tryz.underlying48
 have HR0_0 := y0.mk hr0_0
 have HC0_0 := y0.mk hc0_0
 clear hr0_0 hc0_0
 have HR1_0 := y0.mk hr1_0
 have HC1_0 := y0.mk hc1_0
 clear hr1_0 hc1_0
 have HB := y0.mk (Below.refl w.heap.size w)
 have H : ((laws_eqStringS.f k l0_0 l1_0).bind fun t384 => (if t384 = true then (some true) else (some false))) = some r := h
 clear h
 obtain ⟨t384,A3,H⟩ := qB H
 by_cases c4 : t384 = true
 ·subst c4
  replace H := qT H
  obtain rfl := Option.some.inj H
  go_enter Tryz.func31,Tryz.ntmps31
  go_wp2_with (first | ((with_reducible refine y15 (N := 2) rfl ?_); refine qe 2 #[.slice A0_0 l0_0.length c0_0] 48 ?_; intro gb382 hg w5 hbox hb; have BK382 := y0.mk (hbox); have GW382 := y0.mk (qg (w := w) hg); have GE382 := y0.mk (qg (w := w) hg); replace HB := y0.mk (y5 qb hb); clear hb hbox hg) | ((with_reducible refine y15 (N := 3) rfl ?_); refine qe 3 #[.slice A1_0 l1_0.length c1_0] 48 ?_; intro gb383 hg w6 hbox hb; have BK383 := y0.mk (hbox); have GW383 := y0.mk (qg (w := w) hg); have GE383 := y0.mk (qg (w := w) hg); replace HB := y0.mk (y5 qb hb); have NB382_383 := y0.mk (qn BK382.out hg); have NB383_382 := y0.mk (qm BK382.out hg); replace BK382 := y0.mk (qK BK382.out hb); clear hb hbox hg; have hnb7 := NB382_383.out; have hnc7 := NB383_382.out; obtain ⟨hcz8_0,hfz8_0⟩ := qz1 BK382.out; obtain ⟨hcz9_0,hfz9_0⟩ := qz1 BK383.out) | ((with_reducible refine y14 (f := 15) rfl ?_); refine y16 (some 9) rfl rfl Tryz.func15 (by kernel_rfl) rfl #[.slice A0_0 l0_0.length c0_0,.slice A1_0 l1_0.length c1_0] rfl qy0 ?_; (with_reducible refine (laws_eqStringS.calls k _ _ l0_0 _ _ l1_0 true _ (qc (Kd.C_below HR0_0.out HB.out)) HC0_0.out (qc (Kd.C_below HR1_0.out HB.out)) HC1_0.out A3.out).mono ?_); rintro e w' ⟨rfl,⟨nd,rfl⟩⟩; refine ⟨_,rfl, ?_⟩))
  go_ret
  exact ⟨by first | rfl | (simp [y12,y13] <;> rfl) | (simp [*,y12,y13] <;> rfl),qb⟩
 ·replace c4 := Bool.eq_false_iff.mpr c4
  subst c4
  replace H := qF H
  obtain rfl := Option.some.inj H
  go_enter Tryz.func31,Tryz.ntmps31
  go_wp2_with (first | ((with_reducible refine y15 (N := 2) rfl ?_); refine qe 2 #[.slice A0_0 l0_0.length c0_0] 48 ?_; intro gb382 hg w10 hbox hb; have BK382 := y0.mk (hbox); have GW382 := y0.mk (qg (w := w) hg); have GE382 := y0.mk (qg (w := w) hg); replace HB := y0.mk (y5 qb hb); clear hb hbox hg) | ((with_reducible refine y15 (N := 3) rfl ?_); refine qe 3 #[.slice A1_0 l1_0.length c1_0] 48 ?_; intro gb383 hg w11 hbox hb; have BK383 := y0.mk (hbox); have GW383 := y0.mk (qg (w := w) hg); have GE383 := y0.mk (qg (w := w) hg); replace HB := y0.mk (y5 qb hb); have NB382_383 := y0.mk (qn BK382.out hg); have NB383_382 := y0.mk (qm BK382.out hg); replace BK382 := y0.mk (qK BK382.out hb); clear hb hbox hg; have hnb12 := NB382_383.out; have hnc12 := NB383_382.out; obtain ⟨hcz13_0,hfz13_0⟩ := qz1 BK382.out; obtain ⟨hcz14_0,hfz14_0⟩ := qz1 BK383.out) | ((with_reducible refine y14 (f := 15) rfl ?_); refine y16 (some 9) rfl rfl Tryz.func15 (by kernel_rfl) rfl #[.slice A0_0 l0_0.length c0_0,.slice A1_0 l1_0.length c1_0] rfl qy0 ?_; (with_reducible refine (laws_eqStringS.calls k _ _ l0_0 _ _ l1_0 false _ (qc (Kd.C_below HR0_0.out HB.out)) HC0_0.out (qc (Kd.C_below HR1_0.out HB.out)) HC1_0.out A3.out).mono ?_); rintro e w' ⟨rfl,⟨nd,rfl⟩⟩; refine ⟨_,rfl, ?_⟩))
  go_ret
  exact ⟨by first | rfl | (simp [y12,y13] <;> rfl) | (simp [*,y12,y13] <;> rfl),qb⟩
end Go.Proofs.YtocmfolajckaeaaGreatDoor.Pe
end

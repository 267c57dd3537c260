-- Cut by prune.py, a program of this session, out of the texts of this claim: Lean checks it.
import Derived.Test.YtebadckdihgklaaDoorVrdPbx0
import Derived.Test.YtebadckdihgklaaDoorVrdPbx26
import Derived.Test.YtebadckdihgklaaDoorVrdPbx7
section
namespace Go.Proofs.YtebadckdihgklaaDoor.Pb
open Go.RowKit Go.Proofs.YtebadckdihgklaaDoorW.PrintWords Go.Proofs.YtebadckdihgklaaDoorW.PrintLast Go.Proofs.YtebadckdihgklaaDoorW.PrintMore
attribute [local go_sem] max2_int min2_int max_two min_two max_three min_three max_four min_four   -- for this text's walks alone
set_option linter.unusedVariables false
set_option linter.unusedSimpArgs false
mutual
def spec_RelOk.j0 : Nat → Bool → Int → List (S36) → Option (Bool)
 | 0,_,_,_ => none
 | k + 1,x13,x835000,x835001 => if x13 = true then (some false) else (spec_RelOk.l0 k 0 x835000 x835001)
def spec_RelOk.l0 : Nat → Int → Int → List (S36) → Option (Bool)
 | 0,_,_,_ => none
 | k + 1,x3,x835000,x835001 => if x3 < (x835001.length : Int) then (if 0 ≤ x3 then (if (((y14 x835001 x3).f0).length : Int) = x835000 then ((spec_TupleOk.f k ((y14 x835001 x3).f0)).bind fun t838 => (if t838 = true then (if x3 > 0 then (if 0 ≤ (wrap64 (x3 - 1)) then (if (wrap64 (x3 - 1)) < (x835001.length : Int) then ((spec_l02Cmp.f k ((y14 x835001 (wrap64 (x3 - 1))).f0) ((y14 x835001 x3).f0)).bind fun t841 => (if t841 ≥ 0 then (some false) else (spec_RelOk.l0 k (wrap64 (x3 + 1)) x835000 x835001))) else (none)) else (none)) else (spec_RelOk.l0 k (wrap64 (x3 + 1)) x835000 x835001)) else (some false))) else (some false)) else (none)) else (some true)
end
def spec_RelOk.f (k : Nat) (a0_0 : Int) (l0_1 : List (S36)) : Option (Bool) := (spec_l01Between.f a0_0 0 6).bind fun t835 => (if t835 = true then (spec_RelOk.j0 k (decide ((l0_1.length : Int) > 400)) a0_0 l0_1) else (spec_RelOk.j0 k true a0_0 l0_1))
def spec_RelOk.T6 : Bool × List (List Nat × List Nat) := (true,[([],[]),([0],[0]),([],[]),([1,2],[1,2]),([3],[3]),([4],[4]),([5],[5]),([],[]),([7],[7]),([6,8],[6,8]),([9],[9]),([10],[10]),([11,10],[10,11]),([10],[10]),([12,13,10],[10,12,13]),([14,10],[10,14]),([15,10,10],[10,15]),([16,10],[10,16]),([10,17],[10,17]),([18,16],[18]),([19],[19]),([20,19],[19,20]),([21,19,19],[19,21]),([22],[22]),([23,22],[22,23]),([22],[22]),([25,22],[22,25]),([24,26,22],[22,24,26]),([27,22],[22,27]),([22],[22]),([29,22],[22,29]),([22],[22]),([30,31,22],[22,30,31]),([32,22],[22,32]),([28,33,22,22],[22,28,33]),([34,22],[22,34]),([22,35,19],[19,22,35]),([19,36],[19,36])])
def spec_RelOk.B6 : List Nat := [0,1,0,7,15,31,63,0,128,511,1023,2047,4095,2047,16383,32767,65535,131071,262143,524287,1048575,2097151,4194303,8388607,16777215,8388607,41943039,134217727,268435455,8388607,545259519,8388607,3766484991,8061452287,17179869183,34359738367,68719476735,137438953471]
theorem spec_RelOk.tab6 : rtab .any (opsOf Tryd.f61 6) = spec_RelOk.T6 := by kernel_rfl
theorem spec_RelOk.bits6 : waitsOk spec_RelOk.T6.2 spec_RelOk.B6 = true := by kernel_rfl
set_option maxHeartbeats 8000000 in
set_option maxRecDepth 100000 in
theorem spec_RelOk.calls (k : Nat) (a0_0 : Int) (A0_1 : Option Addr) (c0_1 : Nat) (l0_1 : List (S36)) (r : Bool) (w : World) (hr0_1 : Kd.C k36 w A0_1 l0_1.length l0_1) (hc0_1 : l0_1.length ≤ c0_1) (h : spec_RelOk.f k a0_0 l0_1 = some r) :
  Calls Tryd.prog 61 #[.agg #[.int .i64 a0_0,.slice A0_1 l0_1.length c0_1]] w fun e w' => e = .returned (.bool r) ∧ Below w.heap.size w w' := by
 have hu70 := Tryd.underlying70
 have hu36 := Tryd.underlying36
 have HR0_1 := y0.mk hr0_1
 have HC0_1 := y0.mk hc0_1
 clear hr0_1 hc0_1
 have HB := y0.mk (Below.refl w.heap.size w)
 have H : ((spec_l01Between.f a0_0 0 6).bind fun t835 => (if t835 = true then (spec_RelOk.j0 k (decide ((l0_1.length : Int) > 400)) a0_0 l0_1) else (spec_RelOk.j0 k true a0_0 l0_1))) = some r := h
 clear h
 have HC2 := y0.mk H
 clear H
 go_enter Tryd.func61,Tryd.ntmps61
 go_upto_region 1 with (first | ((with_reducible refine gate_dst (N := 1) rfl ?_); (try (refine gate_guard (by rfl) ?_; dsimp only)); refine qe 1 #[.int .i64 a0_0,.slice A0_1 l0_1.length c0_1] 70 ?_; intro gb834 hg w3 hbox hb; have BK834 := y0.mk (hbox); have GW834 := y0.mk (qg (w := w) hg); have GE834 := y0.mk (qg (w := w) hg); replace HB := y0.mk (y5 qb hb); clear hb hbox hg))
 (try simp only [Act.put,qS_,qZ_,qC_])
 go_cut [13] (fun v13 wc => ∃ (kq : Nat) (x13_1 : Bool),v13 = .bool x13_1 ∧ y0 (spec_RelOk.j0 kq x13_1 a0_0 l0_1 = some r) ∧ y0 (kq ≤ k) ∧ y0 (wc.heap[gb834]? = some (.cells #[.int .i64 a0_0,(.slice A0_1 l0_1.length c0_1)] 70 (0,0))) ∧ y0 (Below w.heap.size w wc))
 case first =>
  have H := HC2.out
  clear HC2
  obtain ⟨t835,A4,H⟩ := qB H
  by_cases c5 : t835 = true
  ·subst c5
   replace H := qT H
   have H' := y0.mk H
   clear H
   obtain ⟨hcz6_0,hcz6_1,hfz6_0,hfz6_1⟩ := qz2 BK834.out
   go_wp2_with (first | ((with_reducible refine y10 (f := 66) rfl ?_); refine y11 (some 6) rfl rfl Tryd.func66 (by kernel_rfl) rfl #[.int .i64 a0_0,.int .i64 0,.int .i64 6] rfl qy0 ?_; (with_reducible refine (spec_l01Between.calls a0_0 0 6 true _ A4.out).mono ?_); rintro e w' ⟨rfl,⟨nd,rfl⟩⟩; refine ⟨_,rfl, ?_⟩))
   go_meet
   exact ⟨_,(decide ((l0_1.length : Int) > 400)),qy2,H',⟨by first | omega | exact Nat.le_refl _⟩,⟨qk BK834.out⟩,⟨qb⟩⟩
  ·replace c5 := Bool.eq_false_iff.mpr c5
   subst c5
   replace H := qF H
   have H' := y0.mk H
   clear H
   obtain ⟨hcz7_0,hcz7_1,hfz7_0,hfz7_1⟩ := qz2 BK834.out
   go_wp2_with (first | ((with_reducible refine y10 (f := 66) rfl ?_); refine y11 (some 6) rfl rfl Tryd.func66 (by kernel_rfl) rfl #[.int .i64 a0_0,.int .i64 0,.int .i64 6] rfl qy0 ?_; (with_reducible refine (spec_l01Between.calls a0_0 0 6 false _ A4.out).mono ?_); rintro e w' ⟨rfl,⟨nd,rfl⟩⟩; refine ⟨_,rfl, ?_⟩))
   go_meet
   exact ⟨_,(true),qy2,H',⟨by first | omega | exact Nat.le_refl _⟩,⟨qk BK834.out⟩,⟨qb⟩⟩
 case rest =>
  clear HC2
  obtain ⟨kq,x13_1,rfl,HA,HJ1,BK834,HB⟩ := hcut
  cases kq with
  | zero => exact absurd HA.out (by simp [spec_RelOk.j0])
  | succ kj1 =>
   have H := HA.out
   clear HA
   simp only [spec_RelOk.j0] at H
   by_cases c8 : x13_1 = true
   ·subst c8
    replace H := qT H
    obtain rfl := Option.some.inj H
    go_wp2
    go_ret
    exact ⟨by first | rfl | (simp [y8,y9] <;> rfl) | (simp [*,y8,y9] <;> rfl),qb⟩
   ·replace c8 := Bool.eq_false_iff.mpr c8
    subst c8
    replace H := qF H
    have H' := y0.mk H
    clear H
    go_wp2
    go_loopg [3] kj1 (fun kq v3 w' => ∃ (x3_2 : Int),v3 = .int .i64 x3_2 ∧ y0 (spec_RelOk.l0 kq x3_2 a0_0 l0_1 = some r) ∧ y0 (kq ≤ kj1) ∧ y0 (w'.heap[gb834]? = some (.cells #[.int .i64 a0_0,(.slice A0_1 l0_1.length c0_1)] 70 (0,0))) ∧ y0 (Below w.heap.size w w'))
    case atStart => exact ⟨(0),qy2,H',⟨Nat.le_refl _⟩,⟨qk BK834.out⟩,⟨qb⟩⟩
    case round =>
     clear H'
     (try clear c8)
     obtain ⟨x3_2,rfl,HA,HK2,BK834,HB⟩ := hrel
     cases gk with
     | zero => exact absurd HA.out (by simp [spec_RelOk.l0])
     | succ k2 =>
      have H := HA.out
      clear HA
      simp only [spec_RelOk.l0] at H
      by_cases c9 : x3_2 < (l0_1.length : Int)
      ·as_aux_lemma =>
       rw [if_pos c9] at H
       have c9b0 := decide_eq_true c9
       clear c9
       obtain ⟨c10,H⟩ := qo H
       have c10b0 : decide (0 ≤ x3_2) = true := decide_eq_true c10
       clear c10
       by_cases c11 : (((y14 l0_1 x3_2).f0).length : Int) = a0_0
       ·as_aux_lemma =>
        rw [if_pos c11] at H
        have c11b0 : ((((y14 l0_1 x3_2).f0).length : Int) == a0_0) = true := beq_iff_eq.mpr c11
        have c11b1 : ((((y14 l0_1 x3_2).f0).length : Int) != a0_0) = false := bne_eq_false_iff_eq.mpr c11
        clear c11
        obtain ⟨t838,A12,H⟩ := qB H
        by_cases c13 : t838 = true
        ·subst c13
         replace H := qT H
         by_cases c14 : x3_2 > 0
         ·as_aux_lemma =>
          rw [if_pos c14] at H
          have c14b0 : decide (0 < x3_2) = true := decide_eq_true c14
          clear c14
          obtain ⟨ji15,hji15⟩ : ∃ j_ : Int,(wrap64 (x3_2 - 1)) = j_ := ⟨_,rfl⟩
          replace H : (if 0 ≤ (ji15) then (if (ji15) < (l0_1.length : Int) then ((spec_l02Cmp.f k2 ((y14 l0_1 (ji15)).f0) ((y14 l0_1 x3_2).f0)).bind fun t841 => (if t841 ≥ 0 then (some false) else (spec_RelOk.l0 k2 (wrap64 (x3_2 + 1)) a0_0 l0_1))) else (none)) else (none)) = some r := by first | (rw [hji15] at H; exact H) | (simp only [hji15] at H ⊢; exact H)
          (try rw [hji15] at A12)
          have hji15w : (IntKind.i64.wrap (x3_2 - 1)) = ji15 := (y13 _).trans hji15
          obtain ⟨c16,H⟩ := qo H
          have c16b0 : decide (0 ≤ (ji15)) = true := decide_eq_true c16
          clear c16
          obtain ⟨c17,H⟩ := qo H
          have c17b0 : decide ((ji15) < (l0_1.length : Int)) = true := decide_eq_true c17
          clear c17
          obtain ⟨t841,A18,H⟩ := qB H
          by_cases c19 : t841 ≥ 0
          ·as_aux_lemma =>
           rw [if_pos c19] at H
           have c19b0 : decide (0 ≤ t841) = true := decide_eq_true c19
           clear c19
           obtain rfl := Option.some.inj H
           obtain ⟨hcz20_0,hcz20_1,hfz20_0,hfz20_1⟩ := qz2 BK834.out
           try go_wp2
           replace BK834 := y0.mk (y7 BK834.out)
           replace HB := y0.mk (y3 HB.out)
           have p836 : 0 ≤ (x3_2 : Int) := of_decide_eq_true qy1
           have q836 : x3_2 < (l0_1.length : Int) := of_decide_eq_true qy1
           obtain ⟨ad836,A836_0,c836_0,e836,hx836_0,hl836_0,hi836_0⟩ := at_T36 HR0_1.out x3_2 p836 q836
           have hw836_0 := hx836_0
           cases e836
           replace hx836_0 := (HB.out.cell (World.block_lt_of_cell? w _ hx836_0)).trans hx836_0
           have HR836_0 := y0.mk hi836_0
           have HC836_0 := y0.mk hl836_0
           clear hi836_0 hl836_0
           replace p836 := eq_true p836
           replace q836 := eq_true q836
           have p837 : 0 ≤ (x3_2 : Int) := of_decide_eq_true qy1
           have q837 : x3_2 < (l0_1.length : Int) := of_decide_eq_true qy1
           obtain ⟨ad837,A837_0,c837_0,e837,hx837_0,hl837_0,hi837_0⟩ := at_T36 HR0_1.out x3_2 p837 q837
           have hw837_0 := hx837_0
           obtain rfl : ad836 = ad837 := (by injection e837)
           replace hx837_0 := (HB.out.cell (World.block_lt_of_cell? w _ hx837_0)).trans hx837_0
           have HR837_0 := y0.mk hi837_0
           have HC837_0 := y0.mk hl837_0
           clear hi837_0 hl837_0
           replace p837 := eq_true p837
           replace q837 := eq_true q837
           have ea_ := Option.some.inj (hx836_0.symm.trans hx837_0)
           injection ea_ with ea_ en_ ec_
           subst ea_
           subst ec_
           clear en_
           have p839 : 0 ≤ ((ji15) : Int) := of_decide_eq_true qy1
           have q839 : (ji15) < (l0_1.length : Int) := of_decide_eq_true qy1
           obtain ⟨ad839,A839_0,c839_0,e839,hx839_0,hl839_0,hi839_0⟩ := at_T36 HR0_1.out (ji15) p839 q839
           have hw839_0 := hx839_0
           obtain rfl : ad836 = ad839 := (by injection e839)
           replace hx839_0 := (HB.out.cell (World.block_lt_of_cell? w _ hx839_0)).trans hx839_0
           have HR839_0 := y0.mk hi839_0
           have HC839_0 := y0.mk hl839_0
           clear hi839_0 hl839_0
           replace p839 := eq_true p839
           replace q839 := eq_true q839
           have p840 : 0 ≤ (x3_2 : Int) := of_decide_eq_true qy1
           have q840 : x3_2 < (l0_1.length : Int) := of_decide_eq_true qy1
           obtain ⟨ad840,A840_0,c840_0,e840,hx840_0,hl840_0,hi840_0⟩ := at_T36 HR0_1.out x3_2 p840 q840
           have hw840_0 := hx840_0
           obtain rfl : ad836 = ad840 := (by injection e840)
           replace hx840_0 := (HB.out.cell (World.block_lt_of_cell? w _ hx840_0)).trans hx840_0
           have HR840_0 := y0.mk hi840_0
           have HC840_0 := y0.mk hl840_0
           clear hi840_0 hl840_0
           replace p840 := eq_true p840
           replace q840 := eq_true q840
           refine start_ (n := 38) (S := fun w' => w'.cell? ⟨gb834,0,none⟩ = some (.int .i64 a0_0) ∧ w'.cell? ⟨gb834,1,none⟩ = some (.slice (some ad836) l0_1.length c0_1) ∧ w'.cell? (ad836.add (x3_2).toNat) = some (.slice A836_0 ((y14 l0_1 x3_2).f0).length c836_0) ∧ w'.cell? (ad836.add (x3_2).toNat) = some (.slice A836_0 ((y14 l0_1 x3_2).f0).length c836_0) ∧ w'.cell? (ad836.add ((ji15)).toNat) = some (.slice A839_0 ((y14 l0_1 (ji15)).f0).length c839_0) ∧ w'.cell? (ad836.add (x3_2).toNat) = some (.slice A840_0 ((y14 l0_1 x3_2).f0).length c840_0)) (ds := []) (fl_ 38 0) (by kernel_rfl) rfl rfl ⟨(y6 BK834.out 0).trans rfl,(y6 BK834.out 1).trans rfl,((HB.out.cell (World.block_lt_of_cell? w _ hw836_0)).trans hw836_0),((HB.out.cell (World.block_lt_of_cell? w _ hw837_0)).trans hw837_0),((HB.out.cell (World.block_lt_of_cell? w _ hw839_0)).trans hw839_0),((HB.out.cell (World.block_lt_of_cell? w _ hw840_0)).trans hw840_0)⟩ (fun hHeld => ?_); refine with_tabW spec_RelOk.tab6 spec_RelOk.bits6 (fun HT_ HW_ => ?_)
           generalize wr.drew = w21 at BK834 HB HR836_0 HR837_0 HR839_0 HR840_0 hx836_0 hx837_0 hx839_0 hx840_0 hHeld ⊢
           refine qp 0 21 (fl_ 38 1) ?_
           refine qp 2 23 (fl_ 38 5) ?_
           refine qp 7 28 (fl_ 38 133) ?_
           refine qt 1 22 (fl_ 38 135) hHeld ?_
           refine qp 3 24 (fl_ 38 143) ?_
           refine qp 4 25 (fl_ 38 159) ?_
           refine qt 5 26 (fl_ 38 191) hHeld ?_
           refine qp 6 27 (fl_ 38 255) ?_
           refine qt 8 29 (fl_ 38 511) hHeld ?_
           refine qp 9 30 (fl_ 38 1023) ?_
           refine qp 10 31 (fl_ 38 2047) ?_
           refine qp 11 32 (fl_ 38 4095) ?_
           refine qp 13 34 (fl_ 38 12287) ?_
           refine qt 12 33 (fl_ 38 16383) hHeld ?_
           refine qp 14 35 (fl_ 38 32767) ?_
           refine qt 15 36 (fl_ 38 65535) hHeld ?_
           refine one_ (i := 16) (N := some 37) (fl_ 38 131071) rfl rfl (one_of HT_.out (by kernel_rfl)) (by decide) (fun K hK => ?_)
           refine goes_ Tryd.func31 (by kernel_rfl) rfl #[.agg #[.slice A836_0 ((y14 l0_1 x3_2).f0).length c836_0]] (by rfl) rfl rfl qy0 ?_
           with_reducible refine (spec_TupleOk.calls k2 _ _ ((y14 l0_1 x3_2).f0) true _ (qc (Kd.C_below HR837_0.out HB.out)) HC837_0.out A12.out).mono ?_
           rintro e w22 ⟨rfl,hb⟩
           refine ⟨_,rfl, ?_⟩
           replace BK834 := y0.mk (qK BK834.out hb)
           replace HB := y0.mk (y5 qb hb)
           (try clear hb)
           (try clear hb2)
           (try clear hk)
           (try clear hi)
           refine hK.out _ _ ⟨(y6 BK834.out 0).trans rfl,(y6 BK834.out 1).trans rfl,((HB.out.cell (World.block_lt_of_cell? w _ hw836_0)).trans hw836_0),((HB.out.cell (World.block_lt_of_cell? w _ hw837_0)).trans hw837_0),((HB.out.cell (World.block_lt_of_cell? w _ hw839_0)).trans hw839_0),((HB.out.cell (World.block_lt_of_cell? w _ hw840_0)).trans hw840_0)⟩ (fun hHeld => ?_)
           clear hK K
           refine norm_ (a' := ?_) ?_ ?_
           rotate_left
           ·show Act.put _ (some 37) _ = _
            simp only [Act.put,qS_,qZ_,qC_,y13,y12]
            rfl
           refine qp 17 38 (fl_ 38 262143) ?_
           refine qp 18 39 (fl_ 38 524287) ?_
           refine qp 19 40 (fl_ 38 1048575) ?_
           refine qp 20 41 (fl_ 38 2097151) ?_
           refine qp 21 42 (fl_ 38 4194303) ?_
           refine qp 22 43 (fl_ 38 8388607) ?_
           refine qp 23 44 (fl_ 38 16777215) ?_
           refine qp 25 46 (fl_ 38 50331647) ?_
           refine qp 26 47 (fl_ 38 117440511) ?_
           refine qp 29 50 (fl_ 38 654311423) ?_
           refine qp 31 52 (fl_ 38 2801795071) ?_
           refine qt 24 45 (fl_ 38 2818572287) hHeld ?_
           refine qp 27 48 (fl_ 38 2952790015) ?_
           refine qt 28 49 (fl_ 38 3221225471) hHeld ?_
           refine qt 30 51 (fl_ 38 4294967295) hHeld ?_
           refine qp 32 53 (fl_ 38 8589934591) ?_
           refine qt 33 54 (fl_ 38 17179869183) hHeld ?_
           refine one_ (i := 34) (N := some 55) (fl_ 38 34359738367) rfl rfl (one_of HT_.out (by kernel_rfl)) (by decide) (fun K hK => ?_)
           refine goes_ Tryd.func94 (by kernel_rfl) rfl #[.agg #[.slice A839_0 ((y14 l0_1 (ji15)).f0).length c839_0],.agg #[.slice A840_0 ((y14 l0_1 x3_2).f0).length c840_0]] (by rfl) rfl rfl (by (try simp only [qM_,List.map_cons,List.map_nil]); first | done | (have e9_ := hx836_0.symm.trans hx840_0; simp only [Option.some.injEq,Value.slice.injEq] at e9_; obtain ⟨e1_,_,e2_⟩ := e9_; subst e1_; subst e2_; rfl) | (simp only [hji15]; rfl) | rfl | (simp only [qD_,qT_]; rfl)) ?_
           with_reducible refine (spec_l02Cmp.calls k2 _ _ ((y14 l0_1 (ji15)).f0) _ _ ((y14 l0_1 x3_2).f0) t841 _ (qc (Kd.C_below HR839_0.out HB.out)) HC839_0.out (qc (Kd.C_below HR840_0.out HB.out)) HC840_0.out A18.out).mono ?_
           rintro e w23 ⟨rfl,hb⟩
           refine ⟨_,rfl, ?_⟩
           replace BK834 := y0.mk (qK BK834.out hb)
           replace HB := y0.mk (y5 qb hb)
           (try clear hb)
           (try clear hb2)
           (try clear hk)
           (try clear hi)
           refine hK.out _ _ ⟨(y6 BK834.out 0).trans rfl,(y6 BK834.out 1).trans rfl,((HB.out.cell (World.block_lt_of_cell? w _ hw836_0)).trans hw836_0),((HB.out.cell (World.block_lt_of_cell? w _ hw837_0)).trans hw837_0),((HB.out.cell (World.block_lt_of_cell? w _ hw839_0)).trans hw839_0),((HB.out.cell (World.block_lt_of_cell? w _ hw840_0)).trans hw840_0)⟩ (fun hHeld => ?_)
           clear hK K
           refine norm_ (a' := ?_) ?_ ?_
           rotate_left
           ·show Act.put _ (some 55) _ = _
            simp only [Act.put,qS_,qZ_,qC_,y13,y12]
            rfl
           refine qp 35 56 (fl_ 38 68719476735) ?_
           refine qp 36 57 (fl_ 38 137438953471) ?_
           refine qp 37 58 (fl_ 38 274877906943) ?_
           refine done_ (done_of HT_.out (by kernel_rfl)) ?_
           try go_wp2
           go_ret
           exact ⟨by first | rfl | (simp [y8,y9] <;> rfl) | (simp only [← hji15]; first | rfl | (simp [y8,y9] <;> rfl)) | (simp [*,y8,y9] <;> rfl),qb⟩
          ·as_aux_lemma =>
           rw [if_neg c19] at H
           have c19b0 : decide (0 ≤ t841) = false := decide_eq_false c19
           clear c19
           have H' := y0.mk H
           clear H
           obtain ⟨hcz24_0,hcz24_1,hfz24_0,hfz24_1⟩ := qz2 BK834.out
           try go_wp2
           replace BK834 := y0.mk (y7 BK834.out)
           replace HB := y0.mk (y3 HB.out)
           have p836 : 0 ≤ (x3_2 : Int) := of_decide_eq_true qy1
           have q836 : x3_2 < (l0_1.length : Int) := of_decide_eq_true qy1
           obtain ⟨ad836,A836_0,c836_0,e836,hx836_0,hl836_0,hi836_0⟩ := at_T36 HR0_1.out x3_2 p836 q836
           have hw836_0 := hx836_0
           cases e836
           replace hx836_0 := (HB.out.cell (World.block_lt_of_cell? w _ hx836_0)).trans hx836_0
           have HR836_0 := y0.mk hi836_0
           have HC836_0 := y0.mk hl836_0
           clear hi836_0 hl836_0
           replace p836 := eq_true p836
           replace q836 := eq_true q836
           have p837 : 0 ≤ (x3_2 : Int) := of_decide_eq_true qy1
           have q837 : x3_2 < (l0_1.length : Int) := of_decide_eq_true qy1
           obtain ⟨ad837,A837_0,c837_0,e837,hx837_0,hl837_0,hi837_0⟩ := at_T36 HR0_1.out x3_2 p837 q837
           have hw837_0 := hx837_0
           obtain rfl : ad836 = ad837 := (by injection e837)
           replace hx837_0 := (HB.out.cell (World.block_lt_of_cell? w _ hx837_0)).trans hx837_0
           have HR837_0 := y0.mk hi837_0
           have HC837_0 := y0.mk hl837_0
           clear hi837_0 hl837_0
           replace p837 := eq_true p837
           replace q837 := eq_true q837
           have ea_ := Option.some.inj (hx836_0.symm.trans hx837_0)
           injection ea_ with ea_ en_ ec_
           subst ea_
           subst ec_
           clear en_
           have p839 : 0 ≤ ((ji15) : Int) := of_decide_eq_true qy1
           have q839 : (ji15) < (l0_1.length : Int) := of_decide_eq_true qy1
           obtain ⟨ad839,A839_0,c839_0,e839,hx839_0,hl839_0,hi839_0⟩ := at_T36 HR0_1.out (ji15) p839 q839
           have hw839_0 := hx839_0
           obtain rfl : ad836 = ad839 := (by injection e839)
           replace hx839_0 := (HB.out.cell (World.block_lt_of_cell? w _ hx839_0)).trans hx839_0
           have HR839_0 := y0.mk hi839_0
           have HC839_0 := y0.mk hl839_0
           clear hi839_0 hl839_0
           replace p839 := eq_true p839
           replace q839 := eq_true q839
           have p840 : 0 ≤ (x3_2 : Int) := of_decide_eq_true qy1
           have q840 : x3_2 < (l0_1.length : Int) := of_decide_eq_true qy1
           obtain ⟨ad840,A840_0,c840_0,e840,hx840_0,hl840_0,hi840_0⟩ := at_T36 HR0_1.out x3_2 p840 q840
           have hw840_0 := hx840_0
           obtain rfl : ad836 = ad840 := (by injection e840)
           replace hx840_0 := (HB.out.cell (World.block_lt_of_cell? w _ hx840_0)).trans hx840_0
           have HR840_0 := y0.mk hi840_0
           have HC840_0 := y0.mk hl840_0
           clear hi840_0 hl840_0
           replace p840 := eq_true p840
           replace q840 := eq_true q840
           refine start_ (n := 38) (S := fun w' => w'.cell? ⟨gb834,0,none⟩ = some (.int .i64 a0_0) ∧ w'.cell? ⟨gb834,1,none⟩ = some (.slice (some ad836) l0_1.length c0_1) ∧ w'.cell? (ad836.add (x3_2).toNat) = some (.slice A836_0 ((y14 l0_1 x3_2).f0).length c836_0) ∧ w'.cell? (ad836.add (x3_2).toNat) = some (.slice A836_0 ((y14 l0_1 x3_2).f0).length c836_0) ∧ w'.cell? (ad836.add ((ji15)).toNat) = some (.slice A839_0 ((y14 l0_1 (ji15)).f0).length c839_0) ∧ w'.cell? (ad836.add (x3_2).toNat) = some (.slice A840_0 ((y14 l0_1 x3_2).f0).length c840_0)) (ds := []) (fl_ 38 0) (by kernel_rfl) rfl rfl ⟨(y6 BK834.out 0).trans rfl,(y6 BK834.out 1).trans rfl,((HB.out.cell (World.block_lt_of_cell? w _ hw836_0)).trans hw836_0),((HB.out.cell (World.block_lt_of_cell? w _ hw837_0)).trans hw837_0),((HB.out.cell (World.block_lt_of_cell? w _ hw839_0)).trans hw839_0),((HB.out.cell (World.block_lt_of_cell? w _ hw840_0)).trans hw840_0)⟩ (fun hHeld => ?_); refine with_tabW spec_RelOk.tab6 spec_RelOk.bits6 (fun HT_ HW_ => ?_)
           generalize wr.drew = w25 at BK834 HB HR836_0 HR837_0 HR839_0 HR840_0 hx836_0 hx837_0 hx839_0 hx840_0 hHeld ⊢
           refine qp 0 21 (fl_ 38 1) ?_
           refine qp 2 23 (fl_ 38 5) ?_
           refine qp 7 28 (fl_ 38 133) ?_
           refine qt 1 22 (fl_ 38 135) hHeld ?_
           refine qp 3 24 (fl_ 38 143) ?_
           refine qp 4 25 (fl_ 38 159) ?_
           refine qt 5 26 (fl_ 38 191) hHeld ?_
           refine qp 6 27 (fl_ 38 255) ?_
           refine qt 8 29 (fl_ 38 511) hHeld ?_
           refine qp 9 30 (fl_ 38 1023) ?_
           refine qp 10 31 (fl_ 38 2047) ?_
           refine qp 11 32 (fl_ 38 4095) ?_
           refine qp 13 34 (fl_ 38 12287) ?_
           refine qt 12 33 (fl_ 38 16383) hHeld ?_
           refine qp 14 35 (fl_ 38 32767) ?_
           refine qt 15 36 (fl_ 38 65535) hHeld ?_
           refine one_ (i := 16) (N := some 37) (fl_ 38 131071) rfl rfl (one_of HT_.out (by kernel_rfl)) (by decide) (fun K hK => ?_)
           refine goes_ Tryd.func31 (by kernel_rfl) rfl #[.agg #[.slice A836_0 ((y14 l0_1 x3_2).f0).length c836_0]] (by rfl) rfl rfl qy0 ?_
           with_reducible refine (spec_TupleOk.calls k2 _ _ ((y14 l0_1 x3_2).f0) true _ (qc (Kd.C_below HR837_0.out HB.out)) HC837_0.out A12.out).mono ?_
           rintro e w26 ⟨rfl,hb⟩
           refine ⟨_,rfl, ?_⟩
           replace BK834 := y0.mk (qK BK834.out hb)
           replace HB := y0.mk (y5 qb hb)
           (try clear hb)
           (try clear hb2)
           (try clear hk)
           (try clear hi)
           refine hK.out _ _ ⟨(y6 BK834.out 0).trans rfl,(y6 BK834.out 1).trans rfl,((HB.out.cell (World.block_lt_of_cell? w _ hw836_0)).trans hw836_0),((HB.out.cell (World.block_lt_of_cell? w _ hw837_0)).trans hw837_0),((HB.out.cell (World.block_lt_of_cell? w _ hw839_0)).trans hw839_0),((HB.out.cell (World.block_lt_of_cell? w _ hw840_0)).trans hw840_0)⟩ (fun hHeld => ?_)
           clear hK K
           refine norm_ (a' := ?_) ?_ ?_
           rotate_left
           ·show Act.put _ (some 37) _ = _
            simp only [Act.put,qS_,qZ_,qC_,y13,y12]
            rfl
           refine qp 17 38 (fl_ 38 262143) ?_
           refine qp 18 39 (fl_ 38 524287) ?_
           refine qp 19 40 (fl_ 38 1048575) ?_
           refine qp 20 41 (fl_ 38 2097151) ?_
           refine qp 21 42 (fl_ 38 4194303) ?_
           refine qp 22 43 (fl_ 38 8388607) ?_
           refine qp 23 44 (fl_ 38 16777215) ?_
           refine qp 25 46 (fl_ 38 50331647) ?_
           refine qp 26 47 (fl_ 38 117440511) ?_
           refine qp 29 50 (fl_ 38 654311423) ?_
           refine qp 31 52 (fl_ 38 2801795071) ?_
           refine qt 24 45 (fl_ 38 2818572287) hHeld ?_
           refine qp 27 48 (fl_ 38 2952790015) ?_
           refine qt 28 49 (fl_ 38 3221225471) hHeld ?_
           refine qt 30 51 (fl_ 38 4294967295) hHeld ?_
           refine qp 32 53 (fl_ 38 8589934591) ?_
           refine qt 33 54 (fl_ 38 17179869183) hHeld ?_
           refine one_ (i := 34) (N := some 55) (fl_ 38 34359738367) rfl rfl (one_of HT_.out (by kernel_rfl)) (by decide) (fun K hK => ?_)
           refine goes_ Tryd.func94 (by kernel_rfl) rfl #[.agg #[.slice A839_0 ((y14 l0_1 (ji15)).f0).length c839_0],.agg #[.slice A840_0 ((y14 l0_1 x3_2).f0).length c840_0]] (by rfl) rfl rfl (by (try simp only [qM_,List.map_cons,List.map_nil]); first | done | (have e9_ := hx836_0.symm.trans hx840_0; simp only [Option.some.injEq,Value.slice.injEq] at e9_; obtain ⟨e1_,_,e2_⟩ := e9_; subst e1_; subst e2_; rfl) | (simp only [hji15]; rfl) | rfl | (simp only [qD_,qT_]; rfl)) ?_
           with_reducible refine (spec_l02Cmp.calls k2 _ _ ((y14 l0_1 (ji15)).f0) _ _ ((y14 l0_1 x3_2).f0) t841 _ (qc (Kd.C_below HR839_0.out HB.out)) HC839_0.out (qc (Kd.C_below HR840_0.out HB.out)) HC840_0.out A18.out).mono ?_
           rintro e w27 ⟨rfl,hb⟩
           refine ⟨_,rfl, ?_⟩
           replace BK834 := y0.mk (qK BK834.out hb)
           replace HB := y0.mk (y5 qb hb)
           (try clear hb)
           (try clear hb2)
           (try clear hk)
           (try clear hi)
           refine hK.out _ _ ⟨(y6 BK834.out 0).trans rfl,(y6 BK834.out 1).trans rfl,((HB.out.cell (World.block_lt_of_cell? w _ hw836_0)).trans hw836_0),((HB.out.cell (World.block_lt_of_cell? w _ hw837_0)).trans hw837_0),((HB.out.cell (World.block_lt_of_cell? w _ hw839_0)).trans hw839_0),((HB.out.cell (World.block_lt_of_cell? w _ hw840_0)).trans hw840_0)⟩ (fun hHeld => ?_)
           clear hK K
           refine norm_ (a' := ?_) ?_ ?_
           rotate_left
           ·show Act.put _ (some 55) _ = _
            simp only [Act.put,qS_,qZ_,qC_,y13,y12]
            rfl
           refine qp 35 56 (fl_ 38 68719476735) ?_
           refine qp 36 57 (fl_ 38 137438953471) ?_
           refine qp 37 58 (fl_ 38 274877906943) ?_
           refine done_ (done_of HT_.out (by kernel_rfl)) ?_
           try go_wp2
           go_roundg k2
           case measure => have := HJ1.out; have := HK2.out; omega
           exact ⟨(wrap64 (x3_2 + 1)),qy2,H',⟨by have := HJ1.out; have := HK2.out; omega⟩,⟨qk BK834.out⟩,⟨qb⟩⟩
         ·as_aux_lemma =>
          rw [if_neg c14] at H
          have c14b0 : decide (0 < x3_2) = false := decide_eq_false c14
          clear c14
          have H' := y0.mk H
          clear H
          obtain ⟨hcz28_0,hcz28_1,hfz28_0,hfz28_1⟩ := qz2 BK834.out
          try go_wp2
          replace BK834 := y0.mk (y7 BK834.out)
          replace HB := y0.mk (y3 HB.out)
          have p836 : 0 ≤ (x3_2 : Int) := of_decide_eq_true qy1
          have q836 : x3_2 < (l0_1.length : Int) := of_decide_eq_true qy1
          obtain ⟨ad836,A836_0,c836_0,e836,hx836_0,hl836_0,hi836_0⟩ := at_T36 HR0_1.out x3_2 p836 q836
          have hw836_0 := hx836_0
          cases e836
          replace hx836_0 := (HB.out.cell (World.block_lt_of_cell? w _ hx836_0)).trans hx836_0
          have HR836_0 := y0.mk hi836_0
          have HC836_0 := y0.mk hl836_0
          clear hi836_0 hl836_0
          replace p836 := eq_true p836
          replace q836 := eq_true q836
          have p837 : 0 ≤ (x3_2 : Int) := of_decide_eq_true qy1
          have q837 : x3_2 < (l0_1.length : Int) := of_decide_eq_true qy1
          obtain ⟨ad837,A837_0,c837_0,e837,hx837_0,hl837_0,hi837_0⟩ := at_T36 HR0_1.out x3_2 p837 q837
          have hw837_0 := hx837_0
          obtain rfl : ad836 = ad837 := (by injection e837)
          replace hx837_0 := (HB.out.cell (World.block_lt_of_cell? w _ hx837_0)).trans hx837_0
          have HR837_0 := y0.mk hi837_0
          have HC837_0 := y0.mk hl837_0
          clear hi837_0 hl837_0
          replace p837 := eq_true p837
          replace q837 := eq_true q837
          have ea_ := Option.some.inj (hx836_0.symm.trans hx837_0)
          injection ea_ with ea_ en_ ec_
          subst ea_
          subst ec_
          clear en_
          refine start_ (n := 38) (S := fun w' => w'.cell? ⟨gb834,0,none⟩ = some (.int .i64 a0_0) ∧ w'.cell? ⟨gb834,1,none⟩ = some (.slice (some ad836) l0_1.length c0_1) ∧ w'.cell? (ad836.add (x3_2).toNat) = some (.slice A836_0 ((y14 l0_1 x3_2).f0).length c836_0) ∧ w'.cell? (ad836.add (x3_2).toNat) = some (.slice A836_0 ((y14 l0_1 x3_2).f0).length c836_0)) (ds := []) (fl_ 38 0) (by kernel_rfl) rfl rfl ⟨(y6 BK834.out 0).trans rfl,(y6 BK834.out 1).trans rfl,((HB.out.cell (World.block_lt_of_cell? w _ hw836_0)).trans hw836_0),((HB.out.cell (World.block_lt_of_cell? w _ hw837_0)).trans hw837_0)⟩ (fun hHeld => ?_); refine with_tabW spec_RelOk.tab6 spec_RelOk.bits6 (fun HT_ HW_ => ?_)
          generalize wr.drew = w29 at BK834 HB HR836_0 HR837_0 hx836_0 hx837_0 hHeld ⊢
          refine qp 0 21 (fl_ 38 1) ?_
          refine qp 2 23 (fl_ 38 5) ?_
          refine qp 7 28 (fl_ 38 133) ?_
          refine qt 1 22 (fl_ 38 135) hHeld ?_
          refine qp 3 24 (fl_ 38 143) ?_
          refine qp 4 25 (fl_ 38 159) ?_
          refine qt 5 26 (fl_ 38 191) hHeld ?_
          refine qp 6 27 (fl_ 38 255) ?_
          refine qt 8 29 (fl_ 38 511) hHeld ?_
          refine qp 9 30 (fl_ 38 1023) ?_
          refine qp 10 31 (fl_ 38 2047) ?_
          refine qp 11 32 (fl_ 38 4095) ?_
          refine qp 13 34 (fl_ 38 12287) ?_
          refine qt 12 33 (fl_ 38 16383) hHeld ?_
          refine qp 14 35 (fl_ 38 32767) ?_
          refine qt 15 36 (fl_ 38 65535) hHeld ?_
          refine one_ (i := 16) (N := some 37) (fl_ 38 131071) rfl rfl (one_of HT_.out (by kernel_rfl)) (by decide) (fun K hK => ?_)
          refine goes_ Tryd.func31 (by kernel_rfl) rfl #[.agg #[.slice A836_0 ((y14 l0_1 x3_2).f0).length c836_0]] (by rfl) rfl rfl qy0 ?_
          with_reducible refine (spec_TupleOk.calls k2 _ _ ((y14 l0_1 x3_2).f0) true _ (qc (Kd.C_below HR837_0.out HB.out)) HC837_0.out A12.out).mono ?_
          rintro e w30 ⟨rfl,hb⟩
          refine ⟨_,rfl, ?_⟩
          replace BK834 := y0.mk (qK BK834.out hb)
          replace HB := y0.mk (y5 qb hb)
          (try clear hb)
          (try clear hb2)
          (try clear hk)
          (try clear hi)
          refine hK.out _ _ ⟨(y6 BK834.out 0).trans rfl,(y6 BK834.out 1).trans rfl,((HB.out.cell (World.block_lt_of_cell? w _ hw836_0)).trans hw836_0),((HB.out.cell (World.block_lt_of_cell? w _ hw837_0)).trans hw837_0)⟩ (fun hHeld => ?_)
          clear hK K
          refine norm_ (a' := ?_) ?_ ?_
          rotate_left
          ·show Act.put _ (some 37) _ = _
           simp only [Act.put,qS_,qZ_,qC_,y13,y12]
           rfl
          refine qp 17 38 (fl_ 38 262143) ?_
          refine qp 18 39 (fl_ 38 524287) ?_
          refine qp 19 40 (fl_ 38 1048575) ?_
          refine qp 20 41 (fl_ 38 2097151) ?_
          refine qp 21 42 (fl_ 38 4194303) ?_
          refine qp 22 43 (fl_ 38 8388607) ?_
          refine pure_ (i := 23) (N := some 44) (v := undef) (a' := ?_) (fl_ 38 16777215) rfl rfl (y2 HT_.out (by kernel_rfl)) (fun _ _ _ h => h) (Or.inr ⟨by rfl,rfl⟩) ?_ ?_
          rotate_left
          ·simp only [Act.put,qS_,qZ_,qC_,y13,y12]
           rfl
          refine pure_ (i := 24) (N := some 45) (v := undef) (a' := ?_) (fl_ 38 33554431) rfl rfl (y2 HT_.out (by kernel_rfl)) (fun _ _ _ h => h) (Or.inr ⟨by rfl,rfl⟩) ?_ ?_
          rotate_left
          ·simp only [Act.put,qS_,qZ_,qC_,y13,y12]
           rfl
          refine pure_ (i := 25) (N := some 46) (v := undef) (a' := ?_) (fl_ 38 67108863) rfl rfl (y2 HT_.out (by kernel_rfl)) (fun _ _ _ h => h) (Or.inr ⟨by rfl,rfl⟩) ?_ ?_
          rotate_left
          ·simp only [Act.put,qS_,qZ_,qC_,y13,y12]
           rfl
          refine pure_ (i := 26) (N := some 47) (v := undef) (a' := ?_) (fl_ 38 134217727) rfl rfl (y2 HT_.out (by kernel_rfl)) (fun _ _ _ h => h) (Or.inr ⟨by rfl,rfl⟩) ?_ ?_
          rotate_left
          ·simp only [Act.put,qS_,qZ_,qC_,y13,y12]
           rfl
          refine pure_ (i := 27) (N := some 48) (v := undef) (a' := ?_) (fl_ 38 268435455) rfl rfl (y2 HT_.out (by kernel_rfl)) (fun _ _ _ h => h) (Or.inr ⟨by rfl,rfl⟩) ?_ ?_
          rotate_left
          ·simp only [Act.put,qS_,qZ_,qC_,y13,y12]
           rfl
          refine pure_ (i := 28) (N := some 49) (v := undef) (a' := ?_) (fl_ 38 536870911) rfl rfl (y2 HT_.out (by kernel_rfl)) (fun _ _ _ h => h) (Or.inr ⟨by rfl,rfl⟩) ?_ ?_
          rotate_left
          ·simp only [Act.put,qS_,qZ_,qC_,y13,y12]
           rfl
          refine pure_ (i := 29) (N := some 50) (v := undef) (a' := ?_) (fl_ 38 1073741823) rfl rfl (y2 HT_.out (by kernel_rfl)) (fun _ _ _ h => h) (Or.inr ⟨by rfl,rfl⟩) ?_ ?_
          rotate_left
          ·simp only [Act.put,qS_,qZ_,qC_,y13,y12]
           rfl
          refine pure_ (i := 30) (N := some 51) (v := undef) (a' := ?_) (fl_ 38 2147483647) rfl rfl (y2 HT_.out (by kernel_rfl)) (fun _ _ _ h => h) (Or.inr ⟨by rfl,rfl⟩) ?_ ?_
          rotate_left
          ·simp only [Act.put,qS_,qZ_,qC_,y13,y12]
           rfl
          refine pure_ (i := 31) (N := some 52) (v := undef) (a' := ?_) (fl_ 38 4294967295) rfl rfl (y2 HT_.out (by kernel_rfl)) (fun _ _ _ h => h) (Or.inr ⟨by rfl,rfl⟩) ?_ ?_
          rotate_left
          ·simp only [Act.put,qS_,qZ_,qC_,y13,y12]
           rfl
          refine pure_ (i := 32) (N := some 53) (v := undef) (a' := ?_) (fl_ 38 8589934591) rfl rfl (y2 HT_.out (by kernel_rfl)) (fun _ _ _ h => h) (Or.inr ⟨by rfl,rfl⟩) ?_ ?_
          rotate_left
          ·simp only [Act.put,qS_,qZ_,qC_,y13,y12]
           rfl
          refine pure_ (i := 33) (N := some 54) (v := undef) (a' := ?_) (fl_ 38 17179869183) rfl rfl (y2 HT_.out (by kernel_rfl)) (fun _ _ _ h => h) (Or.inr ⟨by rfl,rfl⟩) ?_ ?_
          rotate_left
          ·simp only [Act.put,qS_,qZ_,qC_,y13,y12]
           rfl
          refine pure_ (i := 34) (N := some 55) (v := undef) (a' := ?_) (fl_ 38 34359738367) rfl rfl (y2 HT_.out (by kernel_rfl)) (fun _ _ _ h => h) (Or.inr ⟨by rfl,rfl⟩) ?_ ?_
          rotate_left
          ·simp only [Act.put,qS_,qZ_,qC_,y13,y12]
           rfl
          refine pure_ (i := 35) (N := some 56) (v := undef) (a' := ?_) (fl_ 38 68719476735) rfl rfl (y2 HT_.out (by kernel_rfl)) (fun _ _ _ h => h) (Or.inr ⟨by rfl,rfl⟩) ?_ ?_
          rotate_left
          ·simp only [Act.put,qS_,qZ_,qC_,y13,y12]
           rfl
          refine qp 36 57 (fl_ 38 137438953471) ?_
          refine qp 37 58 (fl_ 38 274877906943) ?_
          refine done_ (done_of HT_.out (by kernel_rfl)) ?_
          try go_wp2
          go_roundg k2
          case measure => have := HJ1.out; have := HK2.out; omega
          exact ⟨(wrap64 (x3_2 + 1)),qy2,H',⟨by have := HJ1.out; have := HK2.out; omega⟩,⟨qk BK834.out⟩,⟨qb⟩⟩
        ·replace c13 := Bool.eq_false_iff.mpr c13
         subst c13
         replace H := qF H
         obtain rfl := Option.some.inj H
         obtain ⟨hcz31_0,hcz31_1,hfz31_0,hfz31_1⟩ := qz2 BK834.out
         try go_wp2
         replace BK834 := y0.mk (y7 BK834.out)
         replace HB := y0.mk (y3 HB.out)
         have p836 : 0 ≤ (x3_2 : Int) := of_decide_eq_true qy1
         have q836 : x3_2 < (l0_1.length : Int) := of_decide_eq_true qy1
         obtain ⟨ad836,A836_0,c836_0,e836,hx836_0,hl836_0,hi836_0⟩ := at_T36 HR0_1.out x3_2 p836 q836
         have hw836_0 := hx836_0
         cases e836
         replace hx836_0 := (HB.out.cell (World.block_lt_of_cell? w _ hx836_0)).trans hx836_0
         have HR836_0 := y0.mk hi836_0
         have HC836_0 := y0.mk hl836_0
         clear hi836_0 hl836_0
         replace p836 := eq_true p836
         replace q836 := eq_true q836
         have p837 : 0 ≤ (x3_2 : Int) := of_decide_eq_true qy1
         have q837 : x3_2 < (l0_1.length : Int) := of_decide_eq_true qy1
         obtain ⟨ad837,A837_0,c837_0,e837,hx837_0,hl837_0,hi837_0⟩ := at_T36 HR0_1.out x3_2 p837 q837
         have hw837_0 := hx837_0
         obtain rfl : ad836 = ad837 := (by injection e837)
         replace hx837_0 := (HB.out.cell (World.block_lt_of_cell? w _ hx837_0)).trans hx837_0
         have HR837_0 := y0.mk hi837_0
         have HC837_0 := y0.mk hl837_0
         clear hi837_0 hl837_0
         replace p837 := eq_true p837
         replace q837 := eq_true q837
         have ea_ := Option.some.inj (hx836_0.symm.trans hx837_0)
         injection ea_ with ea_ en_ ec_
         subst ea_
         subst ec_
         clear en_
         refine start_ (n := 38) (S := fun w' => w'.cell? ⟨gb834,0,none⟩ = some (.int .i64 a0_0) ∧ w'.cell? ⟨gb834,1,none⟩ = some (.slice (some ad836) l0_1.length c0_1) ∧ w'.cell? (ad836.add (x3_2).toNat) = some (.slice A836_0 ((y14 l0_1 x3_2).f0).length c836_0) ∧ w'.cell? (ad836.add (x3_2).toNat) = some (.slice A836_0 ((y14 l0_1 x3_2).f0).length c836_0)) (ds := []) (fl_ 38 0) (by kernel_rfl) rfl rfl ⟨(y6 BK834.out 0).trans rfl,(y6 BK834.out 1).trans rfl,((HB.out.cell (World.block_lt_of_cell? w _ hw836_0)).trans hw836_0),((HB.out.cell (World.block_lt_of_cell? w _ hw837_0)).trans hw837_0)⟩ (fun hHeld => ?_); refine with_tabW spec_RelOk.tab6 spec_RelOk.bits6 (fun HT_ HW_ => ?_)
         generalize wr.drew = w32 at BK834 HB HR836_0 HR837_0 hx836_0 hx837_0 hHeld ⊢
         refine qp 0 21 (fl_ 38 1) ?_
         refine qp 2 23 (fl_ 38 5) ?_
         refine qp 7 28 (fl_ 38 133) ?_
         refine qt 1 22 (fl_ 38 135) hHeld ?_
         refine qp 3 24 (fl_ 38 143) ?_
         refine qp 4 25 (fl_ 38 159) ?_
         refine qt 5 26 (fl_ 38 191) hHeld ?_
         refine qp 6 27 (fl_ 38 255) ?_
         refine qt 8 29 (fl_ 38 511) hHeld ?_
         refine qp 9 30 (fl_ 38 1023) ?_
         refine qp 10 31 (fl_ 38 2047) ?_
         refine qp 11 32 (fl_ 38 4095) ?_
         refine qp 13 34 (fl_ 38 12287) ?_
         refine qt 12 33 (fl_ 38 16383) hHeld ?_
         refine qp 14 35 (fl_ 38 32767) ?_
         refine qt 15 36 (fl_ 38 65535) hHeld ?_
         refine one_ (i := 16) (N := some 37) (fl_ 38 131071) rfl rfl (one_of HT_.out (by kernel_rfl)) (by decide) (fun K hK => ?_)
         refine goes_ Tryd.func31 (by kernel_rfl) rfl #[.agg #[.slice A836_0 ((y14 l0_1 x3_2).f0).length c836_0]] (by rfl) rfl rfl qy0 ?_
         with_reducible refine (spec_TupleOk.calls k2 _ _ ((y14 l0_1 x3_2).f0) false _ (qc (Kd.C_below HR837_0.out HB.out)) HC837_0.out A12.out).mono ?_
         rintro e w33 ⟨rfl,hb⟩
         refine ⟨_,rfl, ?_⟩
         replace BK834 := y0.mk (qK BK834.out hb)
         replace HB := y0.mk (y5 qb hb)
         (try clear hb)
         (try clear hb2)
         (try clear hk)
         (try clear hi)
         refine hK.out _ _ ⟨(y6 BK834.out 0).trans rfl,(y6 BK834.out 1).trans rfl,((HB.out.cell (World.block_lt_of_cell? w _ hw836_0)).trans hw836_0),((HB.out.cell (World.block_lt_of_cell? w _ hw837_0)).trans hw837_0)⟩ (fun hHeld => ?_)
         clear hK K
         refine norm_ (a' := ?_) ?_ ?_
         rotate_left
         ·show Act.put _ (some 37) _ = _
          simp only [Act.put,qS_,qZ_,qC_,y13,y12]
          rfl
         refine qp 17 38 (fl_ 38 262143) ?_
         refine qp 18 39 (fl_ 38 524287) ?_
         refine qp 19 40 (fl_ 38 1048575) ?_
         refine pure_ (i := 20) (N := some 41) (v := undef) (a' := ?_) (fl_ 38 2097151) rfl rfl (y2 HT_.out (by kernel_rfl)) (fun _ _ _ h => h) (Or.inr ⟨by rfl,rfl⟩) ?_ ?_
         rotate_left
         ·simp only [Act.put,qS_,qZ_,qC_,y13,y12]
          rfl
         refine pure_ (i := 21) (N := some 42) (v := undef) (a' := ?_) (fl_ 38 4194303) rfl rfl (y2 HT_.out (by kernel_rfl)) (fun _ _ _ h => h) (Or.inr ⟨by rfl,rfl⟩) ?_ ?_
         rotate_left
         ·simp only [Act.put,qS_,qZ_,qC_,y13,y12]
          rfl
         refine pure_ (i := 22) (N := some 43) (v := undef) (a' := ?_) (fl_ 38 8388607) rfl rfl (y2 HT_.out (by kernel_rfl)) (fun _ _ _ h => h) (Or.inr ⟨by rfl,rfl⟩) ?_ ?_
         rotate_left
         ·simp only [Act.put,qS_,qZ_,qC_,y13,y12]
          rfl
         refine pure_ (i := 23) (N := some 44) (v := undef) (a' := ?_) (fl_ 38 16777215) rfl rfl (y2 HT_.out (by kernel_rfl)) (fun _ _ _ h => h) (Or.inr ⟨by rfl,rfl⟩) ?_ ?_
         rotate_left
         ·simp only [Act.put,qS_,qZ_,qC_,y13,y12]
          rfl
         refine pure_ (i := 24) (N := some 45) (v := undef) (a' := ?_) (fl_ 38 33554431) rfl rfl (y2 HT_.out (by kernel_rfl)) (fun _ _ _ h => h) (Or.inr ⟨by rfl,rfl⟩) ?_ ?_
         rotate_left
         ·simp only [Act.put,qS_,qZ_,qC_,y13,y12]
          rfl
         refine pure_ (i := 25) (N := some 46) (v := undef) (a' := ?_) (fl_ 38 67108863) rfl rfl (y2 HT_.out (by kernel_rfl)) (fun _ _ _ h => h) (Or.inr ⟨by rfl,rfl⟩) ?_ ?_
         rotate_left
         ·simp only [Act.put,qS_,qZ_,qC_,y13,y12]
          rfl
         refine pure_ (i := 26) (N := some 47) (v := undef) (a' := ?_) (fl_ 38 134217727) rfl rfl (y2 HT_.out (by kernel_rfl)) (fun _ _ _ h => h) (Or.inr ⟨by rfl,rfl⟩) ?_ ?_
         rotate_left
         ·simp only [Act.put,qS_,qZ_,qC_,y13,y12]
          rfl
         refine pure_ (i := 27) (N := some 48) (v := undef) (a' := ?_) (fl_ 38 268435455) rfl rfl (y2 HT_.out (by kernel_rfl)) (fun _ _ _ h => h) (Or.inr ⟨by rfl,rfl⟩) ?_ ?_
         rotate_left
         ·simp only [Act.put,qS_,qZ_,qC_,y13,y12]
          rfl
         refine pure_ (i := 28) (N := some 49) (v := undef) (a' := ?_) (fl_ 38 536870911) rfl rfl (y2 HT_.out (by kernel_rfl)) (fun _ _ _ h => h) (Or.inr ⟨by rfl,rfl⟩) ?_ ?_
         rotate_left
         ·simp only [Act.put,qS_,qZ_,qC_,y13,y12]
          rfl
         refine pure_ (i := 29) (N := some 50) (v := undef) (a' := ?_) (fl_ 38 1073741823) rfl rfl (y2 HT_.out (by kernel_rfl)) (fun _ _ _ h => h) (Or.inr ⟨by rfl,rfl⟩) ?_ ?_
         rotate_left
         ·simp only [Act.put,qS_,qZ_,qC_,y13,y12]
          rfl
         refine pure_ (i := 30) (N := some 51) (v := undef) (a' := ?_) (fl_ 38 2147483647) rfl rfl (y2 HT_.out (by kernel_rfl)) (fun _ _ _ h => h) (Or.inr ⟨by rfl,rfl⟩) ?_ ?_
         rotate_left
         ·simp only [Act.put,qS_,qZ_,qC_,y13,y12]
          rfl
         refine pure_ (i := 31) (N := some 52) (v := undef) (a' := ?_) (fl_ 38 4294967295) rfl rfl (y2 HT_.out (by kernel_rfl)) (fun _ _ _ h => h) (Or.inr ⟨by rfl,rfl⟩) ?_ ?_
         rotate_left
         ·simp only [Act.put,qS_,qZ_,qC_,y13,y12]
          rfl
         refine pure_ (i := 32) (N := some 53) (v := undef) (a' := ?_) (fl_ 38 8589934591) rfl rfl (y2 HT_.out (by kernel_rfl)) (fun _ _ _ h => h) (Or.inr ⟨by rfl,rfl⟩) ?_ ?_
         rotate_left
         ·simp only [Act.put,qS_,qZ_,qC_,y13,y12]
          rfl
         refine pure_ (i := 33) (N := some 54) (v := undef) (a' := ?_) (fl_ 38 17179869183) rfl rfl (y2 HT_.out (by kernel_rfl)) (fun _ _ _ h => h) (Or.inr ⟨by rfl,rfl⟩) ?_ ?_
         rotate_left
         ·simp only [Act.put,qS_,qZ_,qC_,y13,y12]
          rfl
         refine pure_ (i := 34) (N := some 55) (v := undef) (a' := ?_) (fl_ 38 34359738367) rfl rfl (y2 HT_.out (by kernel_rfl)) (fun _ _ _ h => h) (Or.inr ⟨by rfl,rfl⟩) ?_ ?_
         rotate_left
         ·simp only [Act.put,qS_,qZ_,qC_,y13,y12]
          rfl
         refine pure_ (i := 35) (N := some 56) (v := undef) (a' := ?_) (fl_ 38 68719476735) rfl rfl (y2 HT_.out (by kernel_rfl)) (fun _ _ _ h => h) (Or.inr ⟨by rfl,rfl⟩) ?_ ?_
         rotate_left
         ·simp only [Act.put,qS_,qZ_,qC_,y13,y12]
          rfl
         refine pure_ (i := 36) (N := some 57) (v := undef) (a' := ?_) (fl_ 38 137438953471) rfl rfl (y2 HT_.out (by kernel_rfl)) (fun _ _ _ h => h) (Or.inr ⟨by rfl,rfl⟩) ?_ ?_
         rotate_left
         ·simp only [Act.put,qS_,qZ_,qC_,y13,y12]
          rfl
         refine qp 37 58 (fl_ 38 274877906943) ?_
         refine done_ (done_of HT_.out (by kernel_rfl)) ?_
         try go_wp2
         go_ret
         exact ⟨by first | rfl | (simp [y8,y9] <;> rfl) | (simp [*,y8,y9] <;> rfl),qb⟩
       ·as_aux_lemma =>
        rw [if_neg c11] at H
        have c11b0 : ((((y14 l0_1 x3_2).f0).length : Int) == a0_0) = false := beq_eq_false_iff_ne.mpr c11
        have c11b1 : ((((y14 l0_1 x3_2).f0).length : Int) != a0_0) = true := bne_iff_ne.mpr c11
        obtain rfl := Option.some.inj H
        obtain ⟨hcz34_0,hcz34_1,hfz34_0,hfz34_1⟩ := qz2 BK834.out
        try go_wp2
        replace BK834 := y0.mk (y7 BK834.out)
        replace HB := y0.mk (y3 HB.out)
        have p836 : 0 ≤ (x3_2 : Int) := of_decide_eq_true qy1
        have q836 : x3_2 < (l0_1.length : Int) := of_decide_eq_true qy1
        obtain ⟨ad836,A836_0,c836_0,e836,hx836_0,hl836_0,hi836_0⟩ := at_T36 HR0_1.out x3_2 p836 q836
        have hw836_0 := hx836_0
        cases e836
        replace hx836_0 := (HB.out.cell (World.block_lt_of_cell? w _ hx836_0)).trans hx836_0
        have HR836_0 := y0.mk hi836_0
        have HC836_0 := y0.mk hl836_0
        clear hi836_0 hl836_0
        replace p836 := eq_true p836
        replace q836 := eq_true q836
        refine start_ (n := 38) (S := fun w' => w'.cell? ⟨gb834,0,none⟩ = some (.int .i64 a0_0) ∧ w'.cell? ⟨gb834,1,none⟩ = some (.slice (some ad836) l0_1.length c0_1) ∧ w'.cell? (ad836.add (x3_2).toNat) = some (.slice A836_0 ((y14 l0_1 x3_2).f0).length c836_0)) (ds := []) (fl_ 38 0) (by kernel_rfl) rfl rfl ⟨(y6 BK834.out 0).trans rfl,(y6 BK834.out 1).trans rfl,((HB.out.cell (World.block_lt_of_cell? w _ hw836_0)).trans hw836_0)⟩ (fun hHeld => ?_); refine with_tabW spec_RelOk.tab6 spec_RelOk.bits6 (fun HT_ HW_ => ?_)
        generalize wr.drew = w35 at BK834 HB HR836_0 hx836_0 hHeld ⊢
        refine qp 0 21 (fl_ 38 1) ?_
        refine qp 2 23 (fl_ 38 5) ?_
        refine qp 7 28 (fl_ 38 133) ?_
        refine qt 1 22 (fl_ 38 135) hHeld ?_
        refine qp 3 24 (fl_ 38 143) ?_
        refine qp 4 25 (fl_ 38 159) ?_
        refine qt 5 26 (fl_ 38 191) hHeld ?_
        refine qp 6 27 (fl_ 38 255) ?_
        refine qt 8 29 (fl_ 38 511) hHeld ?_
        refine qp 9 30 (fl_ 38 1023) ?_
        refine qp 10 31 (fl_ 38 2047) ?_
        refine pure_ (i := 11) (N := some 32) (v := undef) (a' := ?_) (fl_ 38 4095) rfl rfl (y2 HT_.out (by kernel_rfl)) (fun _ _ _ h => h) (Or.inr ⟨by rfl,rfl⟩) ?_ ?_
        rotate_left
        ·simp only [Act.put,qS_,qZ_,qC_,y13,y12]
         rfl
        refine pure_ (i := 12) (N := some 33) (v := undef) (a' := ?_) (fl_ 38 8191) rfl rfl (y2 HT_.out (by kernel_rfl)) (fun _ _ _ h => h) (Or.inr ⟨by rfl,rfl⟩) ?_ ?_
        rotate_left
        ·simp only [Act.put,qS_,qZ_,qC_,y13,y12]
         rfl
        refine pure_ (i := 13) (N := some 34) (v := undef) (a' := ?_) (fl_ 38 16383) rfl rfl (y2 HT_.out (by kernel_rfl)) (fun _ _ _ h => h) (Or.inr ⟨by rfl,rfl⟩) ?_ ?_
        rotate_left
        ·simp only [Act.put,qS_,qZ_,qC_,y13,y12]
         rfl
        refine pure_ (i := 14) (N := some 35) (v := undef) (a' := ?_) (fl_ 38 32767) rfl rfl (y2 HT_.out (by kernel_rfl)) (fun _ _ _ h => h) (Or.inr ⟨by rfl,rfl⟩) ?_ ?_
        rotate_left
        ·simp only [Act.put,qS_,qZ_,qC_,y13,y12]
         rfl
        refine pure_ (i := 15) (N := some 36) (v := undef) (a' := ?_) (fl_ 38 65535) rfl rfl (y2 HT_.out (by kernel_rfl)) (fun _ _ _ h => h) (Or.inr ⟨by rfl,rfl⟩) ?_ ?_
        rotate_left
        ·simp only [Act.put,qS_,qZ_,qC_,y13,y12]
         rfl
        refine pure_ (i := 16) (N := some 37) (v := undef) (a' := ?_) (fl_ 38 131071) rfl rfl (y2 HT_.out (by kernel_rfl)) (fun _ _ _ h => h) (Or.inr ⟨by rfl,rfl⟩) ?_ ?_
        rotate_left
        ·simp only [Act.put,qS_,qZ_,qC_,y13,y12]
         rfl
        refine pure_ (i := 17) (N := some 38) (v := undef) (a' := ?_) (fl_ 38 262143) rfl rfl (y2 HT_.out (by kernel_rfl)) (fun _ _ _ h => h) (Or.inr ⟨by rfl,rfl⟩) ?_ ?_
        rotate_left
        ·simp only [Act.put,qS_,qZ_,qC_,y13,y12]
         rfl
        refine qp 18 39 (fl_ 38 524287) ?_
        refine qp 19 40 (fl_ 38 1048575) ?_
        refine pure_ (i := 20) (N := some 41) (v := undef) (a' := ?_) (fl_ 38 2097151) rfl rfl (y2 HT_.out (by kernel_rfl)) (fun _ _ _ h => h) (Or.inr ⟨by rfl,rfl⟩) ?_ ?_
        rotate_left
        ·simp only [Act.put,qS_,qZ_,qC_,y13,y12]
         rfl
        refine pure_ (i := 21) (N := some 42) (v := undef) (a' := ?_) (fl_ 38 4194303) rfl rfl (y2 HT_.out (by kernel_rfl)) (fun _ _ _ h => h) (Or.inr ⟨by rfl,rfl⟩) ?_ ?_
        rotate_left
        ·simp only [Act.put,qS_,qZ_,qC_,y13,y12]
         rfl
        refine pure_ (i := 22) (N := some 43) (v := undef) (a' := ?_) (fl_ 38 8388607) rfl rfl (y2 HT_.out (by kernel_rfl)) (fun _ _ _ h => h) (Or.inr ⟨by rfl,rfl⟩) ?_ ?_
        rotate_left
        ·simp only [Act.put,qS_,qZ_,qC_,y13,y12]
         rfl
        refine pure_ (i := 23) (N := some 44) (v := undef) (a' := ?_) (fl_ 38 16777215) rfl rfl (y2 HT_.out (by kernel_rfl)) (fun _ _ _ h => h) (Or.inr ⟨by rfl,rfl⟩) ?_ ?_
        rotate_left
        ·simp only [Act.put,qS_,qZ_,qC_,y13,y12]
         rfl
        refine pure_ (i := 24) (N := some 45) (v := undef) (a' := ?_) (fl_ 38 33554431) rfl rfl (y2 HT_.out (by kernel_rfl)) (fun _ _ _ h => h) (Or.inr ⟨by rfl,rfl⟩) ?_ ?_
        rotate_left
        ·simp only [Act.put,qS_,qZ_,qC_,y13,y12]
         rfl
        refine pure_ (i := 25) (N := some 46) (v := undef) (a' := ?_) (fl_ 38 67108863) rfl rfl (y2 HT_.out (by kernel_rfl)) (fun _ _ _ h => h) (Or.inr ⟨by rfl,rfl⟩) ?_ ?_
        rotate_left
        ·simp only [Act.put,qS_,qZ_,qC_,y13,y12]
         rfl
        refine pure_ (i := 26) (N := some 47) (v := undef) (a' := ?_) (fl_ 38 134217727) rfl rfl (y2 HT_.out (by kernel_rfl)) (fun _ _ _ h => h) (Or.inr ⟨by rfl,rfl⟩) ?_ ?_
        rotate_left
        ·simp only [Act.put,qS_,qZ_,qC_,y13,y12]
         rfl
        refine pure_ (i := 27) (N := some 48) (v := undef) (a' := ?_) (fl_ 38 268435455) rfl rfl (y2 HT_.out (by kernel_rfl)) (fun _ _ _ h => h) (Or.inr ⟨by rfl,rfl⟩) ?_ ?_
        rotate_left
        ·simp only [Act.put,qS_,qZ_,qC_,y13,y12]
         rfl
        refine pure_ (i := 28) (N := some 49) (v := undef) (a' := ?_) (fl_ 38 536870911) rfl rfl (y2 HT_.out (by kernel_rfl)) (fun _ _ _ h => h) (Or.inr ⟨by rfl,rfl⟩) ?_ ?_
        rotate_left
        ·simp only [Act.put,qS_,qZ_,qC_,y13,y12]
         rfl
        refine pure_ (i := 29) (N := some 50) (v := undef) (a' := ?_) (fl_ 38 1073741823) rfl rfl (y2 HT_.out (by kernel_rfl)) (fun _ _ _ h => h) (Or.inr ⟨by rfl,rfl⟩) ?_ ?_
        rotate_left
        ·simp only [Act.put,qS_,qZ_,qC_,y13,y12]
         rfl
        refine pure_ (i := 30) (N := some 51) (v := undef) (a' := ?_) (fl_ 38 2147483647) rfl rfl (y2 HT_.out (by kernel_rfl)) (fun _ _ _ h => h) (Or.inr ⟨by rfl,rfl⟩) ?_ ?_
        rotate_left
        ·simp only [Act.put,qS_,qZ_,qC_,y13,y12]
         rfl
        refine pure_ (i := 31) (N := some 52) (v := undef) (a' := ?_) (fl_ 38 4294967295) rfl rfl (y2 HT_.out (by kernel_rfl)) (fun _ _ _ h => h) (Or.inr ⟨by rfl,rfl⟩) ?_ ?_
        rotate_left
        ·simp only [Act.put,qS_,qZ_,qC_,y13,y12]
         rfl
        refine pure_ (i := 32) (N := some 53) (v := undef) (a' := ?_) (fl_ 38 8589934591) rfl rfl (y2 HT_.out (by kernel_rfl)) (fun _ _ _ h => h) (Or.inr ⟨by rfl,rfl⟩) ?_ ?_
        rotate_left
        ·simp only [Act.put,qS_,qZ_,qC_,y13,y12]
         rfl
        refine pure_ (i := 33) (N := some 54) (v := undef) (a' := ?_) (fl_ 38 17179869183) rfl rfl (y2 HT_.out (by kernel_rfl)) (fun _ _ _ h => h) (Or.inr ⟨by rfl,rfl⟩) ?_ ?_
        rotate_left
        ·simp only [Act.put,qS_,qZ_,qC_,y13,y12]
         rfl
        refine pure_ (i := 34) (N := some 55) (v := undef) (a' := ?_) (fl_ 38 34359738367) rfl rfl (y2 HT_.out (by kernel_rfl)) (fun _ _ _ h => h) (Or.inr ⟨by rfl,rfl⟩) ?_ ?_
        rotate_left
        ·simp only [Act.put,qS_,qZ_,qC_,y13,y12]
         rfl
        refine pure_ (i := 35) (N := some 56) (v := undef) (a' := ?_) (fl_ 38 68719476735) rfl rfl (y2 HT_.out (by kernel_rfl)) (fun _ _ _ h => h) (Or.inr ⟨by rfl,rfl⟩) ?_ ?_
        rotate_left
        ·simp only [Act.put,qS_,qZ_,qC_,y13,y12]
         rfl
        refine pure_ (i := 36) (N := some 57) (v := undef) (a' := ?_) (fl_ 38 137438953471) rfl rfl (y2 HT_.out (by kernel_rfl)) (fun _ _ _ h => h) (Or.inr ⟨by rfl,rfl⟩) ?_ ?_
        rotate_left
        ·simp only [Act.put,qS_,qZ_,qC_,y13,y12]
         rfl
        refine qp 37 58 (fl_ 38 274877906943) ?_
        refine done_ (done_of HT_.out (by kernel_rfl)) ?_
        try go_wp2
        go_ret
        exact ⟨by first | rfl | (simp [y8,y9] <;> rfl) | (simp [*,y8,y9] <;> rfl),qb⟩
      ·as_aux_lemma =>
       rw [if_neg c9] at H
       have c9b0 := decide_eq_false c9
       clear c9
       obtain rfl := Option.some.inj H
       obtain ⟨hcz36_0,hcz36_1,hfz36_0,hfz36_1⟩ := qz2 BK834.out
       go_wp2
       go_ret
       exact ⟨by first | rfl | (simp [y8,y9] <;> rfl) | (simp [*,y8,y9] <;> rfl),qb⟩
end Go.Proofs.YtebadckdihgklaaDoor.Pb
end
section
namespace Go.Proofs.YtebadckdihgklaaDoor.Pb
open Go.RowKit Go.Proofs.YtebadckdihgklaaDoorW.PrintWords Go.Proofs.YtebadckdihgklaaDoorW.PrintLast Go.Proofs.YtebadckdihgklaaDoorW.PrintMore
attribute [local go_sem] max2_int min2_int max_two min_two max_three min_three max_four min_four   -- for this text's walks alone
set_option linter.unusedVariables false
set_option linter.unusedSimpArgs false
def laws_toTupleS.l0 : Nat → List (S33) → List (S36) → Int → Option ((List (S36)))
 | 0,_,_,_ => none
 | k + 1,x0,x3,x4 => if x4 < (x0.length : Int) then (if 0 ≤ x4 then ((laws_toTuple.f k ((rd_T33 x0 x4).f0)).bind fun t846 => (if x4 < (x3.length : Int) then (laws_toTupleS.l0 k x0 (x3.set (x4 : Int).toNat (⟨t846⟩ : S36)) (wrap64 (x4 + 1))) else (none))) else (none)) else (some x3)
def laws_toTupleS.f (k : Nat) (l0 : List (S33)) : Option ((List (S36))) := if 0 ≤ (l0.length : Int) then (if ((l0.length : Int) : Int).toNat ≤ 11728124029610 then (laws_toTupleS.l0 k l0 (List.replicate ((l0.length : Int) : Int).toNat z36) 0) else (none)) else (none)
set_option maxHeartbeats 8000000 in
set_option maxRecDepth 100000 in
theorem laws_toTupleS.calls (k : Nat) (A0 : Option Addr) (c0 : Nat) (l0 : List (S33)) (r : List (S36)) (w : World) (hr0 : Kd.C k33 w A0 l0.length l0) (hc0 : l0.length ≤ c0) (h : laws_toTupleS.f k l0 = some r) :
  Calls Tryd.prog 97 #[.slice A0 l0.length c0] w fun e w' => ∃ v0_ : Value,e = .returned (v0_) ∧ Kd.S k36 36 w' w.heap.size (fun _ => True) v0_ r ∧ Below w.heap.size w w' := by
 have hu33 := Tryd.underlying33
 have hu36 := Tryd.underlying36
 have HR0 := y0.mk hr0
 have HC0 := y0.mk hc0
 clear hr0 hc0
 have HB := y0.mk (Below.refl w.heap.size w)
 have H : (if 0 ≤ (l0.length : Int) then (if ((l0.length : Int) : Int).toNat ≤ 11728124029610 then (laws_toTupleS.l0 k l0 (List.replicate ((l0.length : Int) : Int).toNat z36) 0) else (none)) else (none)) = some r := h
 clear h
 obtain ⟨c2,H⟩ := qo H
 have c2b0 := eq_true c2
 have c2b1 := decide_eq_true c2
 clear c2
 obtain ⟨c3,H⟩ := qo H
 have c3b0 := eq_true c3
 have c3b1 := decide_eq_true c3
 clear c3
 obtain ⟨y842,hy842⟩ : ∃ y_ : List (S36),y_ = (List.replicate ((l0.length : Int) : Int).toNat z36) := ⟨_,rfl⟩
 replace H : (laws_toTupleS.l0 k l0 y842 0) = some r := by first | (rw [hy842]; with_reducible exact H) | (have H2_ := (Option.bind_some _ _).symm.trans H; rw [hy842]; with_reducible exact H2_) | (have H2_ := (Option.bind_some _ _).symm.trans H; with_reducible exact H2_) | with_reducible exact H | (rw [hy842]; exact H) | exact H
 have Ny842 := y0.mk hy842
 clear hy842
 have H' := y0.mk H
 clear H
 go_enter Tryd.func97,Tryd.ntmps97
 go_wp2_with (first | ((with_reducible refine gate_dst (N := 7) rfl ?_); refine Kd.S_make k36 _ 36 rfl (N := 7) rfl 68 _ _ rfl (l0.length : Int) rfl rfl Tryd.underlying68 (.agg #[(.slice none 0 0)]) 24 info36 rfl (by decide) (by omega) z36 (ok := fun _ => True) (okp := fun _ => True) (k36_mkM _ _ _ z36 (Kd.R_nil _ _ _ _ _)) (fun _ hk => hk) trivial (of_decide_eq_true qy1) (Nat.le_trans (Nat.mul_le_mul_right _ (of_decide_eq_true qy1 : (l0.length : Int).toNat ≤ 11728124029610)) (by omega)) (Below.refl _ _) (Nat.le_refl _) ?_; intro v843 w4 ho5 hb hg_ hnew_; clear hg_ hnew_; (first | rw [← Ny842.out] at ho5 | (simp only [Int.reduceToNat] at ho5; rw [← Ny842.out] at ho5)); have HO844 := y0.mk (Kd.S_lower ho5 (y4 qb)); replace HB := y0.mk (y5 qb hb); clear hb ho5))
 go_loopg [4] k (fun kq v4 w' => ∃ (x3_1 : List (S36)) (x4_1 : Int),v4 = .int .i64 x4_1 ∧ y0 (laws_toTupleS.l0 kq l0 x3_1 x4_1 = some r) ∧ y0 (kq ≤ k) ∧ y0 (Kd.S k36 36 w' w.heap.size (fun _ => True) v843 x3_1) ∧ y0 (Below w.heap.size w w'))
 case atStart => exact ⟨(y842),(0),qy2,H',⟨Nat.le_refl _⟩,⟨qS HO844.out⟩,⟨qb⟩⟩
 case round =>
  clear H'
  (try clear c2b0 c2b1 c3b0 c3b1)
  obtain ⟨x3_1,x4_1,rfl,HA,HK1,HO_3,HB⟩ := hrel
  cases gk with
  | zero => exact absurd HA.out (by simp [laws_toTupleS.l0])
  | succ k1 =>
   have H := HA.out
   clear HA
   simp only [laws_toTupleS.l0] at H
   by_cases c6 : x4_1 < (l0.length : Int)
   ·rw [if_pos c6] at H
    have c6b0 := decide_eq_true c6
    clear c6
    obtain ⟨c7,H⟩ := qo H
    have c7b0 : decide (0 ≤ x4_1) = true := decide_eq_true c7
    clear c7
    obtain ⟨t846,A8,H⟩ := qB H
    obtain ⟨c9,H⟩ := qo H
    have c9b0 : decide (x4_1 < (x3_1.length : Int)) = true := decide_eq_true c9
    clear c9
    obtain ⟨y849,hy849⟩ : ∃ y_ : List (S36),y_ = (x3_1.set (x4_1 : Int).toNat (⟨t846⟩ : S36)) := ⟨_,rfl⟩
    replace H : (laws_toTupleS.l0 k1 l0 y849 (wrap64 (x4_1 + 1))) = some r := by first | (rw [hy849]; with_reducible exact H) | (have H2_ := (Option.bind_some _ _).symm.trans H; rw [hy849]; with_reducible exact H2_) | (have H2_ := (Option.bind_some _ _).symm.trans H; with_reducible exact H2_) | with_reducible exact H | (rw [hy849]; exact H) | exact H
    have Ny849 := y0.mk hy849
    clear hy849
    have H' := y0.mk H
    clear H
    have p845 : 0 ≤ (x4_1 : Int) := of_decide_eq_true qy1
    have q845 : x4_1 < (l0.length : Int) := of_decide_eq_true qy1
    obtain ⟨ad845,A845_0,c845_0,e845,hx845_0,hl845_0,hi845_0⟩ := at_T33 HR0.out x4_1 p845 q845
    cases e845
    replace hx845_0 := (HB.out.cell (World.block_lt_of_cell? w _ hx845_0)).trans hx845_0
    have HR845_0 := y0.mk hi845_0
    have HC845_0 := y0.mk hl845_0
    clear hi845_0 hl845_0
    replace p845 := eq_true p845
    replace q845 := eq_true q845
    go_wp2_with (first | ((with_reducible refine y10 (f := 32) rfl ?_); refine y11 (some 20) rfl rfl Tryd.func32 (by kernel_rfl) rfl #[.agg #[.slice A845_0 ((rd_T33 l0 x4_1).f0).length c845_0]] rfl qy0 ?_; (with_reducible refine (laws_toTuple.calls k1 _ _ ((rd_T33 l0 x4_1).f0) t846 _ (qc (Kd.C_below HR845_0.out HB.out)) HC845_0.out A8.out).mono ?_); rintro e w11 ⟨v847,rfl,ho0,hb⟩; refine ⟨_,rfl, ?_⟩; replace HO_3 := y0.mk (Kd.S_elder' (qS HO_3.out) (Kd.R_base ho0) hb); have HO848 := y0.mk (Kd.R_lower ho0 (y4 qb)); replace HB := y0.mk (y5 qb hb); (try clear hb); (try clear hb2); (try clear hk); (try clear hi); (try clear ho0); have p10 : 0 ≤ (x4_1 : Int) := of_decide_eq_true qy1; have q10 : (x4_1 : Int) < ((x3_1.length : Int) : Int) := of_decide_eq_true qy1; obtain ⟨go10,co10,eo10,gb10,gl10,cl10,HG10⟩ := Kd.S_form HO_3.out (by omega); (first | cases eo10 | (injection eo10 with ea_ en_ ec_; (first | subst ea_ | (injection ea_ with ea_; subst ea_)); subst ec_; clear en_)); have GB10 := y0.mk gb10; have GG10 := y0.mk HG10; clear gb10 gl10 HG10; obtain ⟨_,ce10,hcl10,hM10,hcc10,hfr10,_,_⟩ := Kd.S_elem HO_3.out z36 (x4_1 : Int) p10 q10; obtain ⟨ve10_0,rfl,ge10_0⟩ := k36_openM hM10; have hx10_0 := hcc10 0 _ rfl; have hf10_0 := hfr10 0; (try simp only [show (k36).sz = 1 from rfl,Nat.mul_one,Nat.add_zero] at hx10_0); (try simp only [show (k36).sz = 1 from rfl,Nat.mul_one,Nat.add_zero] at hf10_0); clear hcl10 hcc10 hfr10 hM10; replace p10 := eq_true p10; replace q10 := eq_true q10; have n_ := y0.mk (Kd.S_mono (ok' := (fun k_ => some k_ ≠ (v847 : Value).ownBlock)) HO_3.out (fun k_ hk => hk.2)); clear HO_3; have HO_3 := n_; clear n_; have HX12 := y0.mk (show Kd.S k36 36 w11 w.heap.size (fun k_ => ((fun _ => True)) k_ ∧ ¬ ((fun k_ => some k_ = (v847 : Value).ownBlock)) k_) (.slice (some ⟨go10,0,none⟩) x3_1.length co10) x3_1 from (qS (Kd.S_mono HO_3.out (fun k_ hk => ⟨trivial,fun e_ => hk e_⟩)))); obtain ⟨oki12,ce12,hcl12,hM12,hcc12,hfr12,hoki12,hH12⟩ := Kd.S_elem HX12.out z36 (x4_1 : Int) (of_decide_eq_true qy1) (by have h_ : (x4_1 : Int) < ((x3_1.length : Int) : Int) := of_decide_eq_true qy1; first | exact h_ | (have e_ := (Kd.S_reads' HO_3.out).1; omega) | simpa using h_); obtain ⟨ve12_0,rfl,ge12_0⟩ := k36_openM hM12; have HP12 := Kd.S_seg hH12 (of_decide_eq_true qy1) (by have h_ : (x4_1 : Int) < ((x3_1.length : Int) : Int) := of_decide_eq_true qy1; first | exact h_ | (have e_ := (Kd.S_reads' HO_3.out).1; omega) | simpa using h_) (seg := [v847]) (j := 0) (show 1 ≤ 1 from by decide) (x' := (⟨t846⟩ : S36)) (k36_mkM _ _ _ (⟨t846⟩ : S36) (Kd.R_mono (Kd.R_tight rfl (Kd.R_mono (ok' := fun k_ => ((fun _ => True)) k_ ∧ k_ ≠ go10) (Kd.R_apart' (HO848.out) (Kd.S_typed HO_3.out) (by decide)) (fun k_ hk => ⟨trivial,fun e_ => (hk.2) (by rw [e_]; rfl)⟩))) (fun _ h_ => Or.inr (h_)))) (fun _ hk => hk) (fun k_ hk_ => ((Kd.R_mono (ok' := fun k_ => ((fun _ => True)) k_ ∧ k_ ≠ go10) (Kd.R_apart' (HO848.out) (Kd.S_typed HO_3.out) (by decide)) (fun k_ hk => ⟨trivial,fun e_ => (hk.2) (by rw [e_]; rfl)⟩))).1 k_ hk_.symm); have hx12_0 := hcc12 0 _ rfl; (try simp only [show (k36).sz = 1 from rfl,Nat.mul_one,Nat.add_zero] at hx12_0); have hf12_0 := hfr12 0; (try simp only [show (k36).sz = 1 from rfl,Nat.mul_one,Nat.add_zero] at hf12_0); clear hcl12 hcc12 hfr12 hM12 hoki12 hH12; (try simp only [show (k36).sz = 1 from rfl,Nat.mul_one,Nat.add_zero] at HP12)) | ((with_reducible refine gate_store (t := 36) (p := 21) rfl ?_); refine store_event (t := 36) (p := 21) (v := ?vo_w13) (w1 := (w11.setCell ⟨go10,(x4_1 : Int).toNat,none⟩ (v847))) ?hg ?ho ?hn ?hr ?_; (case ho => rfl); (case hg => rfl); (case hn => rfl); (case hr => (first | (obtain ⟨_,_,eo_⟩ := Kd.R_slice HO848.out; subst eo_) | (obtain ⟨_,_,eo_⟩ := Kd.S_slice HO848.out; subst eo_) | (obtain ⟨_,_,eo_⟩ := Kd.N_slice HO848.out; subst eo_) | skip); first | (go_simp; done) | (go_simp; rfl)); intro w13 hw; have hg : w11.grownBy w13 (some go10) := (by rw [hw]; exact HP12.2); have hp_ : Kd.S k36 36 w13 w.heap.size (fun _ => True) (.slice (some ⟨go10,0,none⟩) x3_1.length co10) y849 := (by rw [hw,Ny849.out]; exact HP12.1); clear HP12; replace HO_3 := y0.mk (hp_); replace HB := y0.mk ((by rw [hw]; exact below_set (HB.out) GB10.out : Below w.heap.size w w13)); clear HO848; clear hg hw hp_))
    go_roundg k1
    case measure => have := HK1.out; omega
    exact ⟨(y849),(wrap64 (x4_1 + 1)),qy2,H',⟨by have := HK1.out; omega⟩,⟨qS HO_3.out⟩,⟨qb⟩⟩
   ·rw [if_neg c6] at H
    have c6b0 := decide_eq_false c6
    clear c6
    obtain rfl := Option.some.inj H
    go_wp2
    go_ret
    exact ⟨_,by first | rfl | (simp [y8,y9] <;> rfl) | (simp [*,y8,y9] <;> rfl),by (with_reducible repeat (first | apply Kd.S_alloc | apply Kd.S_drewN | apply Kd.S_drew)); exact HO_3.out,qb⟩
def laws_toRel.f (k : Nat) (a0_0 : Int) (l0_1 : List (S33)) : Option (Int × (List (S36))) := (laws_toTupleS.f k l0_1).bind fun t853 => (some (a0_0,t853))
set_option maxHeartbeats 8000000 in
set_option maxRecDepth 100000 in
theorem laws_toRel.calls (k : Nat) (a0_0 : Int) (A0_1 : Option Addr) (c0_1 : Nat) (l0_1 : List (S33)) (r1 : Int) (r2 : List (S36)) (w : World) (hr0_1 : Kd.C k33 w A0_1 l0_1.length l0_1) (hc0_1 : l0_1.length ≤ c0_1) (h : laws_toRel.f k a0_0 l0_1 = some (r1,r2)) :
  Calls Tryd.prog 62 #[.agg #[.int .i64 a0_0,.slice A0_1 l0_1.length c0_1]] w fun e w' => ∃ v1_ : Value,e = .returned (.agg #[.int .i64 r1,v1_]) ∧ Kd.S k36 36 w' w.heap.size (fun _ => True) v1_ r2 ∧ Below w.heap.size w w' := by
 have hu65 := Tryd.underlying65
 have hu70 := Tryd.underlying70
 have HR0_1 := y0.mk hr0_1
 have HC0_1 := y0.mk hc0_1
 clear hr0_1 hc0_1
 have HB := y0.mk (Below.refl w.heap.size w)
 have H : ((laws_toTupleS.f k l0_1).bind fun t853 => (some (a0_0,t853))) = some (r1,r2) := h
 clear h
 obtain ⟨t853,A2,H⟩ := qB H
 simp only [Option.some.injEq,Prod.mk.injEq] at H
 obtain ⟨rfl,rfl⟩ := H
 go_enter Tryd.func62,Tryd.ntmps62
 go_wp2_with (first | ((with_reducible refine gate_dst (N := 1) rfl ?_); refine qe 1 #[.int .i64 a0_0,.slice A0_1 l0_1.length c0_1] 65 ?_; intro gb850 hg w3 hbox hb; have BK850 := y0.mk (hbox); have GW850 := y0.mk (qg (w := w) hg); have GE850 := y0.mk (qg (w := w) hg); replace HB := y0.mk (y5 qb hb); clear hb hbox hg) | ((with_reducible refine gate_dst (N := 2) rfl ?_); refine qe 2 #[.int .i64 0,.slice none 0 0] 70 ?_; intro gb851 hg w4 hbox hb; have BK851 := y0.mk (hbox); have GW851 := y0.mk (qg (w := w) hg); have GE851 := y0.mk (qg (w := w) hg); replace HB := y0.mk (y5 qb hb); have NB850_851 := y0.mk (qn BK850.out hg); have NB851_850 := y0.mk (qm BK850.out hg); replace BK850 := y0.mk (qK BK850.out hb); clear hb hbox hg) | ((with_reducible refine gate_dst (N := 3) rfl ?_); refine qe 3 #[.int .i64 0,.slice none 0 0] 70 ?_; intro gb852 hg w5 hbox hb; have BK852 := y0.mk (hbox); have GW852 := y0.mk (qg (w := w) hg); have GE852 := y0.mk (qg (w := w) hg); replace HB := y0.mk (y5 qb hb); have NB850_852 := y0.mk (qn BK850.out hg); have NB852_850 := y0.mk (qm BK850.out hg); replace BK850 := y0.mk (qK BK850.out hb); have NB851_852 := y0.mk (qn BK851.out hg); have NB852_851 := y0.mk (qm BK851.out hg); replace BK851 := y0.mk (qK BK851.out hb); clear hb hbox hg; have hnb6 := NB850_851.out; have hnc6 := NB851_850.out; have hnb7 := NB850_852.out; have hnc7 := NB852_850.out; obtain ⟨hcz8_0,hcz8_1,hfz8_0,hfz8_1⟩ := qz2 BK850.out; have hnb9 := NB852_851.out; have hnc9 := NB851_852.out; obtain ⟨hcz10_0,hcz10_1,hfz10_0,hfz10_1⟩ := qz2 BK852.out) | ((with_reducible refine y10 (f := 97) rfl ?_); refine y11 (some 9) rfl rfl Tryd.func97 (by kernel_rfl) rfl #[.slice A0_1 l0_1.length c0_1] rfl qy0 ?_; (with_reducible refine (laws_toTupleS.calls k _ _ l0_1 t853 _ (by exact Kd.C_below HR0_1.out qb) HC0_1.out A2.out).mono ?_); rintro e w11 ⟨v854,rfl,ho0,hb⟩; refine ⟨_,rfl, ?_⟩; have HO855 := y0.mk (Kd.S_lower ho0 (y4 qb)); replace BK850 := y0.mk (blk_below (g := gb850) (o := .cells #[.int .i64 a0_0,.slice A0_1 l0_1.length c0_1] 65 (0,0)) (by (with_reducible repeat (first | refine blk_drewN ?_ _ | refine y7 ?_ | refine blk_alloc ?_ _)); refine blk_far ?_ NB850_852.out _; (with_reducible repeat (first | refine blk_drewN ?_ _ | refine y7 ?_ | refine blk_alloc ?_ _)); exact BK850.out) hb); replace BK851 := y0.mk (blk_below (g := gb851) (o := .cells #[.int .i64 0,.slice none 0 0] 70 (0,0)) (by (with_reducible repeat (first | refine blk_drewN ?_ _ | refine y7 ?_ | refine blk_alloc ?_ _)); refine blk_far ?_ NB851_852.out _; (with_reducible repeat (first | refine blk_drewN ?_ _ | refine y7 ?_ | refine blk_alloc ?_ _)); exact BK851.out) hb); replace BK852 := y0.mk (blk_below (g := gb852) (o := .cells #[.int .i64 a0_0,.slice none 0 0] 70 (0,0)) (by (with_reducible repeat (first | refine blk_drewN ?_ _ | refine y7 ?_ | refine blk_alloc ?_ _)); refine blk_put (cs := #[.int .i64 0,.slice none 0 0]) ?_ 0 _ rfl; (with_reducible repeat (first | refine blk_drewN ?_ _ | refine y7 ?_ | refine blk_alloc ?_ _)); exact BK852.out) hb); replace HB := y0.mk (y5 qb hb); (try clear hb); (try clear hb2); (try clear hk); (try clear hi); (try clear ho0); obtain ⟨Ao12,co12,eo12⟩ := Kd.S_slice HO855.out; subst eo12; obtain ⟨hcz13_0,hcz13_1,hfz13_0,hfz13_1⟩ := qz2 BK852.out; obtain ⟨hcz14_0,hcz14_1,hfz14_0,hfz14_1⟩ := qz2 BK851.out))
 refine bodyPost_ret (results_cell_row rfl _ _ gb851 70 #[.int .i64 a0_0,.slice Ao12 t853.length co12] (0,0) _ rfl (by (with_reducible repeat (first | refine blk_drewN ?_ _ | refine y7 ?_ | refine blk_alloc ?_ _)); refine blk_put (cs := #[.int .i64 a0_0,.slice none 0 0]) ?_ 1 _ rfl; (with_reducible repeat (first | refine blk_drewN ?_ _ | refine y7 ?_ | refine blk_alloc ?_ _)); refine blk_put (cs := #[.int .i64 0,.slice none 0 0]) ?_ 0 _ rfl; (with_reducible repeat (first | refine blk_drewN ?_ _ | refine y7 ?_ | refine blk_alloc ?_ _)); refine blk_far ?_ NB851_852.out _; (with_reducible repeat (first | refine blk_drewN ?_ _ | refine y7 ?_ | refine blk_alloc ?_ _)); exact BK851.out) Tryd.underlying70 rfl (by kernel_rfl)) rfl ?_
 exact ⟨_,by first | rfl | (simp [y8,y9] <;> rfl) | (simp [*,y8,y9] <;> rfl),by (with_reducible repeat (first | apply Kd.S_alloc | apply Kd.S_drewN | apply Kd.S_drew)); exact Kd.S_mono (Kd.S_far (p := ⟨gb851,1,none⟩) (Kd.S_far (p := ⟨gb851,0,none⟩) (Kd.S_far (p := ⟨gb852,1,none⟩) (Kd.S_types (Kd.S_types HO855.out BK852.out (by decide)) BK851.out (by decide)) (fun _ hk => hk.1.2) (.slice Ao12 t853.length co12)) (fun _ hk => hk.2) (.int .i64 a0_0)) (fun _ hk => hk.2) (.slice Ao12 t853.length co12)) (fun _ hk => trivial),qb⟩
end Go.Proofs.YtebadckdihgklaaDoor.Pb
end
section
namespace Go.Proofs.YtebadckdihgklaaDoor.Pb
open Go.RowKit Go.Proofs.YtebadckdihgklaaDoorW.PrintWords Go.Proofs.YtebadckdihgklaaDoorW.PrintLast Go.Proofs.YtebadckdihgklaaDoorW.PrintMore
attribute [local go_sem] max2_int min2_int max_two min_two max_three min_three max_four min_four   -- for this text's walks alone
set_option linter.unusedVariables false
set_option linter.unusedSimpArgs false
def impl_isTuple_1.f (k : Nat) (a0 : ByteArray) : Option (Bool) := (impl_kindOf.f k a0).bind fun t754 => (some (t754 == 0))
set_option maxHeartbeats 8000000 in
set_option maxRecDepth 100000 in
theorem impl_isTuple_1.calls (k : Nat) (a0 : ByteArray) (r : Bool) (w : World) (hT : Tb w) (h : impl_isTuple_1.f k a0 = some r) :
  Calls Tryd.prog 104 #[.string a0] w fun e w' => e = .returned (.bool r) ∧ Below w.heap.size w w' := by
 have HT := y0.mk hT
 clear hT
 have HB := y0.mk (Below.refl w.heap.size w)
 have H : ((impl_kindOf.f k a0).bind fun t754 => (some (t754 == 0))) = some r := h
 clear h
 obtain ⟨t754,A2,H⟩ := qB H
 obtain rfl := Option.some.inj H
 go_enter Tryd.func104,Tryd.ntmps104
 go_wp2_with (first | ((with_reducible refine y10 (f := 71) rfl ?_); refine y11 (some 4) rfl rfl Tryd.func71 (by kernel_rfl) rfl #[.string a0] rfl qy0 ?_; (with_reducible refine (impl_kindOf.calls k a0 t754 _ (by exact Tb.below HT.out qb) A2.out).mono ?_); rintro e w3 ⟨rfl,hb⟩; refine ⟨_,rfl, ?_⟩; replace HB := y0.mk (y5 qb hb); (try clear hb); (try clear hb2); (try clear hk); (try clear hi)))
 go_ret
 exact ⟨by first | rfl | (simp [y8,y9] <;> rfl) | (simp [*,y8,y9] <;> rfl),qb⟩
def z2_.l0 : Nat → List ByteArray → Int → Int → Option (Int)
 | 0,_,_,_ => none
 | k + 1,x0,x7,x8 => if x8 < x7 then (if 0 ≤ x8 then (if x8 < (x0.length : Int) then ((impl_isTuple_1.f k (rdOf ByteArray.empty x0 x8)).bind fun t756 => (if t756 = true then (some x8) else (z2_.l0 k x0 x7 (wrap64 (x8 + 1))))) else (none)) else (none)) else (some (-1))
def z2_.f (k : Nat) (l0 : List ByteArray)  : Option (Int) := z2_.l0 k l0 (l0.length : Int) 0
set_option maxHeartbeats 8000000 in
set_option maxRecDepth 100000 in
theorem z2_.calls (k : Nat) (A0 : Option Addr) (c0 : Nat) (l0 : List ByteArray)  (r : Int) (w : World) (hr0 : Kd.C Kd.string w A0 l0.length l0) (hc0 : l0.length ≤ c0) (hT : Tb w) (h : z2_.f k l0 = some r) :
  Calls Tryd.prog 125 #[.slice A0 l0.length c0,.func (.func 104) #[] #[]] w fun e w' => e = .returned (.int .i64 r) ∧ Below w.heap.size w w' := by
 have HT := y0.mk hT
 clear hT
 have HR0 := y0.mk hr0
 have HC0 := y0.mk hc0
 clear hr0 hc0
 have HB := y0.mk (Below.refl w.heap.size w)
 have H : (z2_.l0 k l0 (l0.length : Int) 0) = some r := h
 clear h
 have H' := y0.mk H
 clear H
 go_enter Tryd.func125,Tryd.ntmps125
 go_wp2
 go_loopg [8] k (fun kq v8 w' => ∃ (x8_1 : Int),v8 = .int .i64 x8_1 ∧ y0 (z2_.l0 kq l0 (l0.length : Int) x8_1 = some r) ∧ y0 (kq ≤ k) ∧ y0 (Below w.heap.size w w'))
 case atStart => exact ⟨(0),qy2,H',⟨Nat.le_refl _⟩,⟨qb⟩⟩
 case round =>
  clear H'
  obtain ⟨x8_1,rfl,HA,HK1,HB⟩ := hrel
  cases gk with
  | zero => exact absurd HA.out (by simp [z2_.l0])
  | succ k1 =>
   have H := HA.out
   clear HA
   simp only [z2_.l0] at H
   by_cases c3 : x8_1 < (l0.length : Int)
   ·rw [if_pos c3] at H
    have c3b0 := decide_eq_true c3
    clear c3
    obtain ⟨c4,H⟩ := qo H
    have c4b0 : decide (0 ≤ x8_1) = true := decide_eq_true c4
    clear c4
    obtain ⟨c5,H⟩ := qo H
    have c5b0 : decide (x8_1 < (l0.length : Int)) = true := decide_eq_true c5
    clear c5
    obtain ⟨t756,A6,H⟩ := qB H
    by_cases c7 : t756 = true
    ·subst c7
     replace H := qT H
     obtain rfl := Option.some.inj H
     have p755 : 0 ≤ (x8_1 : Int) := of_decide_eq_true qy1
     have q755 : x8_1 < (l0.length : Int) := of_decide_eq_true qy1
     obtain ⟨ad755,e755,hx755_0⟩ := Kd.at_string HR0.out x8_1 p755 q755
     cases e755
     replace hx755_0 := (HB.out.cell (World.block_lt_of_cell? w _ hx755_0)).trans hx755_0
     replace p755 := eq_true p755
     replace q755 := eq_true q755
     go_wp2_with (first | (go_at_call 104; (with_reducible refine (impl_isTuple_1.calls k1 (rdOf ByteArray.empty l0 x8_1) true _ (by exact Tb.below HT.out qb) A6.out).mono ?_); rintro e w8 ⟨rfl,hb⟩; replace HB := y0.mk (y5 qb hb); (try clear hb); (try clear hb2); (try clear hk); (try clear hi)))
     go_ret
     exact ⟨by first | rfl | (simp [y8,y9] <;> rfl) | (simp [*,y8,y9] <;> rfl),qb⟩
    ·replace c7 := Bool.eq_false_iff.mpr c7
     subst c7
     replace H := qF H
     have H' := y0.mk H
     clear H
     have p755 : 0 ≤ (x8_1 : Int) := of_decide_eq_true qy1
     have q755 : x8_1 < (l0.length : Int) := of_decide_eq_true qy1
     obtain ⟨ad755,e755,hx755_0⟩ := Kd.at_string HR0.out x8_1 p755 q755
     cases e755
     replace hx755_0 := (HB.out.cell (World.block_lt_of_cell? w _ hx755_0)).trans hx755_0
     replace p755 := eq_true p755
     replace q755 := eq_true q755
     go_wp2_with (first | (go_at_call 104; (with_reducible refine (impl_isTuple_1.calls k1 (rdOf ByteArray.empty l0 x8_1) false _ (by exact Tb.below HT.out qb) A6.out).mono ?_); rintro e w9 ⟨rfl,hb⟩; replace HB := y0.mk (y5 qb hb); (try clear hb); (try clear hb2); (try clear hk); (try clear hi)))
     go_roundg k1
     case measure => have := HK1.out; omega
     exact ⟨(wrap64 (x8_1 + 1)),qy2,H',⟨by have := HK1.out; omega⟩,⟨qb⟩⟩
   ·rw [if_neg c3] at H
    have c3b0 := decide_eq_false c3
    clear c3
    obtain rfl := Option.some.inj H
    go_wp2
    go_ret
    exact ⟨by first | rfl | (simp [y8,y9] <;> rfl) | (simp [*,y8,y9] <;> rfl),qb⟩
def slices_ContainsFunc_string_string_impl_isTuple_1.f (k : Nat) (l0 : List ByteArray)  : Option (Bool) := (z2_.f k l0).bind fun t757 => (some (decide (t757 ≥ 0)))
set_option maxHeartbeats 8000000 in
set_option maxRecDepth 100000 in
theorem slices_ContainsFunc_string_string_impl_isTuple_1.calls (k : Nat) (A0 : Option Addr) (c0 : Nat) (l0 : List ByteArray)  (r : Bool) (w : World) (hr0 : Kd.C Kd.string w A0 l0.length l0) (hc0 : l0.length ≤ c0) (hT : Tb w) (h : slices_ContainsFunc_string_string_impl_isTuple_1.f k l0 = some r) :
  Calls Tryd.prog 103 #[.slice A0 l0.length c0,.func (.func 104) #[] #[]] w fun e w' => e = .returned (.bool r) ∧ Below w.heap.size w w' := by
 have HT := y0.mk hT
 clear hT
 have HR0 := y0.mk hr0
 have HC0 := y0.mk hc0
 clear hr0 hc0
 have HB := y0.mk (Below.refl w.heap.size w)
 have H : ((z2_.f k l0).bind fun t757 => (some (decide (t757 ≥ 0)))) = some r := h
 clear h
 obtain ⟨t757,A3,H⟩ := qB H
 obtain rfl := Option.some.inj H
 go_enter Tryd.func103,Tryd.ntmps103
 go_wp2_with (first | ((with_reducible refine y10 (f := 125) rfl ?_); refine y11 (some 7) rfl rfl Tryd.func125 (by kernel_rfl) rfl #[.slice A0 l0.length c0,.func (.func 104) #[] #[]] rfl qy0 ?_; (with_reducible refine (z2_.calls k _ _ l0  t757 _ (qc HR0.out) HC0.out (by exact Tb.below HT.out qb) A3.out).mono ?_); rintro e w4 ⟨rfl,hb⟩; refine ⟨_,rfl, ?_⟩; replace HB := y0.mk (y5 qb hb); (try clear hb); (try clear hb2); (try clear hk); (try clear hi)))
 go_ret
 exact ⟨by first | rfl | (simp [y8,y9] <;> rfl) | (simp [*,y8,y9] <;> rfl),qb⟩
def impl_isTuple.f (k : Nat) (l0_0 : List ByteArray) : Option (Bool) := if (l0_0.length : Int) ≤ 6 then ((slices_ContainsFunc_string_string_impl_isTuple_1.f k l0_0).bind fun t759 => (some (!t759))) else (some false)
set_option maxHeartbeats 8000000 in
set_option maxRecDepth 100000 in
theorem impl_isTuple.calls (k : Nat) (A0_0 : Option Addr) (c0_0 : Nat) (l0_0 : List ByteArray) (r : Bool) (w : World) (hr0_0 : Kd.C Kd.string w A0_0 l0_0.length l0_0) (hc0_0 : l0_0.length ≤ c0_0) (hT : Tb w) (h : impl_isTuple.f k l0_0 = some r) :
  Calls Tryd.prog 76 #[.agg #[.slice A0_0 l0_0.length c0_0]] w fun e w' => e = .returned (.bool r) ∧ Below w.heap.size w w' := by
 have hu36 := Tryd.underlying36
 have HT := y0.mk hT
 clear hT
 have HR0_0 := y0.mk hr0_0
 have HC0_0 := y0.mk hc0_0
 clear hr0_0 hc0_0
 have HB := y0.mk (Below.refl w.heap.size w)
 have H : (if (l0_0.length : Int) ≤ 6 then ((slices_ContainsFunc_string_string_impl_isTuple_1.f k l0_0).bind fun t759 => (some (!t759))) else (some false)) = some r := h
 clear h
 by_cases c2 : (l0_0.length : Int) ≤ 6
 ·rw [if_pos c2] at H
  have c2b0 := decide_eq_true c2
  have c2b1 : decide (l0_0.length ≤ 6) = true := decide_eq_true (by omega)
  clear c2
  obtain ⟨t759,A3,H⟩ := qB H
  obtain rfl := Option.some.inj H
  go_enter Tryd.func76,Tryd.ntmps76
  go_wp2_with (first | ((with_reducible refine gate_dst (N := 1) rfl ?_); refine qe 1 #[.slice A0_0 l0_0.length c0_0] 36 ?_; intro gb758 hg w4 hbox hb; have BK758 := y0.mk (hbox); have GW758 := y0.mk (qg (w := w) hg); have GE758 := y0.mk (qg (w := w) hg); replace HB := y0.mk (y5 qb hb); clear hb hbox hg; obtain ⟨hcz5_0,hfz5_0⟩ := qz1 BK758.out) | (go_at_call 103; (with_reducible refine (slices_ContainsFunc_string_string_impl_isTuple_1.calls k _ _ l0_0  t759 _ (qc (Kd.C_below HR0_0.out HB.out)) HC0_0.out (by exact Tb.below HT.out qb) A3.out).mono ?_); rintro e w6 ⟨rfl,hb⟩; replace BK758 := y0.mk (qK BK758.out hb); replace HB := y0.mk (y5 qb hb); (try clear hb); (try clear hb2); (try clear hk); (try clear hi)))
  go_ret
  exact ⟨by first | rfl | (simp [y8,y9] <;> rfl) | (simp [*,y8,y9] <;> rfl),qb⟩
 ·rw [if_neg c2] at H
  have c2b0 := decide_eq_false c2
  have c2b1 : decide (l0_0.length ≤ 6) = false := decide_eq_false (by omega)
  clear c2
  obtain rfl := Option.some.inj H
  go_enter Tryd.func76,Tryd.ntmps76
  go_wp2_with (first | ((with_reducible refine gate_dst (N := 1) rfl ?_); refine qe 1 #[.slice A0_0 l0_0.length c0_0] 36 ?_; intro gb758 hg w7 hbox hb; have BK758 := y0.mk (hbox); have GW758 := y0.mk (qg (w := w) hg); have GE758 := y0.mk (qg (w := w) hg); replace HB := y0.mk (y5 qb hb); clear hb hbox hg; obtain ⟨hcz8_0,hfz8_0⟩ := qz1 BK758.out))
  go_ret
  exact ⟨by first | rfl | (simp [y8,y9] <;> rfl) | (simp [*,y8,y9] <;> rfl),qb⟩
def laws_eqTuple.f (k : Nat) (l0_0 : List ByteArray) (l1_0 : List ByteArray) : Option (Bool) := (laws_eqStringS.f k l0_0 l1_0).bind fun t764 => (if t764 = true then (some true) else (some false))
set_option maxHeartbeats 8000000 in
set_option maxRecDepth 100000 in
theorem laws_eqTuple.calls (k : Nat) (A0_0 : Option Addr) (c0_0 : Nat) (l0_0 : List ByteArray) (A1_0 : Option Addr) (c1_0 : Nat) (l1_0 : List ByteArray) (r : Bool) (w : World) (hr0_0 : Kd.C Kd.string w A0_0 l0_0.length l0_0) (hc0_0 : l0_0.length ≤ c0_0) (hr1_0 : Kd.C Kd.string w A1_0 l1_0.length l1_0) (hc1_0 : l1_0.length ≤ c1_0) (h : laws_eqTuple.f k l0_0 l1_0 = some r) (htrue_ : r = true) :
  Calls Tryd.prog 34 #[.agg #[.slice A0_0 l0_0.length c0_0],.agg #[.slice A1_0 l1_0.length c1_0]] w fun e w' => e = .returned (.bool r) ∧ Below w.heap.size w w' := by
 have hu36 := Tryd.underlying36
 have HR0_0 := y0.mk hr0_0
 have HC0_0 := y0.mk hc0_0
 clear hr0_0 hc0_0
 have HR1_0 := y0.mk hr1_0
 have HC1_0 := y0.mk hc1_0
 clear hr1_0 hc1_0
 have HB := y0.mk (Below.refl w.heap.size w)
 have H : ((laws_eqStringS.f k l0_0 l1_0).bind fun t764 => (if t764 = true then (some true) else (some false))) = some r := h
 clear h
 obtain ⟨t764,A3,H⟩ := qB H
 by_cases c4 : t764 = true
 ·subst c4
  replace H := qT H
  obtain rfl := Option.some.inj H
  go_enter Tryd.func34,Tryd.ntmps34
  go_wp2_with (first | ((with_reducible refine gate_dst (N := 2) rfl ?_); refine qe 2 #[.slice A0_0 l0_0.length c0_0] 36 ?_; intro gb762 hg w5 hbox hb; have BK762 := y0.mk (hbox); have GW762 := y0.mk (qg (w := w) hg); have GE762 := y0.mk (qg (w := w) hg); replace HB := y0.mk (y5 qb hb); clear hb hbox hg) | ((with_reducible refine gate_dst (N := 3) rfl ?_); refine qe 3 #[.slice A1_0 l1_0.length c1_0] 36 ?_; intro gb763 hg w6 hbox hb; have BK763 := y0.mk (hbox); have GW763 := y0.mk (qg (w := w) hg); have GE763 := y0.mk (qg (w := w) hg); replace HB := y0.mk (y5 qb hb); have NB762_763 := y0.mk (qn BK762.out hg); have NB763_762 := y0.mk (qm BK762.out hg); replace BK762 := y0.mk (qK BK762.out hb); clear hb hbox hg; have hnb7 := NB762_763.out; have hnc7 := NB763_762.out; obtain ⟨hcz8_0,hfz8_0⟩ := qz1 BK762.out; obtain ⟨hcz9_0,hfz9_0⟩ := qz1 BK763.out) | ((with_reducible refine y10 (f := 39) rfl ?_); refine y11 (some 9) rfl rfl Tryd.func39 (by kernel_rfl) rfl #[.slice A0_0 l0_0.length c0_0,.slice A1_0 l1_0.length c1_0] rfl qy0 ?_; (with_reducible refine (laws_eqStringS.calls k _ _ l0_0 _ _ l1_0 true _ (qc (Kd.C_below HR0_0.out HB.out)) HC0_0.out (qc (Kd.C_below HR1_0.out HB.out)) HC1_0.out A3.out rfl).mono ?_); rintro e w' ⟨rfl,⟨nd,rfl⟩⟩; refine ⟨_,rfl, ?_⟩))
  go_ret
  exact ⟨by first | rfl | (simp [y8,y9] <;> rfl) | (simp [*,y8,y9] <;> rfl),qb⟩
 ·replace c4 := Bool.eq_false_iff.mpr c4
  subst c4
  replace H := qF H
  exact absurd ((Option.some.inj H).trans htrue_) (by decide)
end Go.Proofs.YtebadckdihgklaaDoor.Pb
end
section
namespace Go.Proofs.YtebadckdihgklaaDoor.Pb
open Go.RowKit Go.Proofs.YtebadckdihgklaaDoorW.PrintWords Go.Proofs.YtebadckdihgklaaDoorW.PrintLast Go.Proofs.YtebadckdihgklaaDoorW.PrintMore
attribute [local go_sem] max2_int min2_int max_two min_two max_three min_three max_four min_four   -- for this text's walks alone
set_option linter.unusedVariables false
set_option linter.unusedSimpArgs false
def z1_.l0 : Nat → List ByteArray → List ByteArray → List ByteArray → Int → Int → Option (Int)
 | 0,_,_,_,_,_ => none
 | k + 1,x0,x1,x11,x12,x13 => if x13 < x12 then (if 0 ≤ x13 then (if x13 < (x11.length : Int) then (if x13 ≥ (x1.length : Int) then (some 1) else (if x13 < (x1.length : Int) then ((impl_compareTerms.f k (rdOf ByteArray.empty x11 x13) (rdOf ByteArray.empty x1 x13)).bind fun t793 => (if t793 = 0 then (z1_.l0 k x0 x1 x11 x12 (wrap64 (x13 + 1))) else (some t793))) else (none))) else (none)) else (none)) else (if (x0.length : Int) < (x1.length : Int) then (some (-1)) else (some 0))
def z1_.f (k : Nat) (l0 : List ByteArray) (l1 : List ByteArray)  : Option (Int) := z1_.l0 k l0 l1 l0 (l0.length : Int) 0
set_option maxHeartbeats 8000000 in
set_option maxRecDepth 100000 in
theorem z1_.calls (k : Nat) (A0 : Option Addr) (c0 : Nat) (l0 : List ByteArray) (A1 : Option Addr) (c1 : Nat) (l1 : List ByteArray)  (r : Int) (w : World) (hr0 : Kd.C Kd.string w A0 l0.length l0) (hc0 : l0.length ≤ c0) (hr1 : Kd.C Kd.string w A1 l1.length l1) (hc1 : l1.length ≤ c1) (hT : Tb w) (h : z1_.f k l0 l1 = some r) :
  Calls Tryd.prog 119 #[.slice A0 l0.length c0,.slice A1 l1.length c1,.func (.func 92) #[] #[]] w fun e w' => e = .returned (.int .i64 r) ∧ Below w.heap.size w w' := by
 have HT := y0.mk hT
 clear hT
 have HR0 := y0.mk hr0
 have HC0 := y0.mk hc0
 clear hr0 hc0
 have HR1 := y0.mk hr1
 have HC1 := y0.mk hc1
 clear hr1 hc1
 have HB := y0.mk (Below.refl w.heap.size w)
 have H : (z1_.l0 k l0 l1 l0 (l0.length : Int) 0) = some r := h
 clear h
 have H' := y0.mk H
 clear H
 go_enter Tryd.func119,Tryd.ntmps119
 go_wp2
 go_loopg [13] k (fun kq v13 w' => ∃ (x13_1 : Int),v13 = .int .i64 x13_1 ∧ y0 (z1_.l0 kq l0 l1 l0 (l0.length : Int) x13_1 = some r) ∧ y0 (kq ≤ k) ∧ y0 (Below w.heap.size w w'))
 case atStart => exact ⟨(0),qy2,H',⟨Nat.le_refl _⟩,⟨qb⟩⟩
 case round =>
  clear H'
  obtain ⟨x13_1,rfl,HA,HK1,HB⟩ := hrel
  cases gk with
  | zero => exact absurd HA.out (by simp [z1_.l0])
  | succ k1 =>
   have H := HA.out
   clear HA
   simp only [z1_.l0] at H
   by_cases c4 : x13_1 < (l0.length : Int)
   ·rw [if_pos c4] at H
    have c4b0 := decide_eq_true c4
    clear c4
    obtain ⟨c5,H⟩ := qo H
    have c5b0 : decide (0 ≤ x13_1) = true := decide_eq_true c5
    clear c5
    obtain ⟨c6,H⟩ := qo H
    have c6b0 : decide (x13_1 < (l0.length : Int)) = true := decide_eq_true c6
    clear c6
    by_cases c7 : x13_1 ≥ (l1.length : Int)
    ·rw [if_pos c7] at H
     have c7b0 : decide ((l1.length : Int) ≤ x13_1) = true := decide_eq_true c7
     clear c7
     obtain rfl := Option.some.inj H
     have p791 : 0 ≤ (x13_1 : Int) := of_decide_eq_true qy1
     have q791 : x13_1 < (l0.length : Int) := of_decide_eq_true qy1
     obtain ⟨ad791,e791,hx791_0⟩ := Kd.at_string HR0.out x13_1 p791 q791
     cases e791
     replace hx791_0 := (HB.out.cell (World.block_lt_of_cell? w _ hx791_0)).trans hx791_0
     replace p791 := eq_true p791
     replace q791 := eq_true q791
     go_wp2
     go_ret
     exact ⟨by first | rfl | (simp [y8,y9] <;> rfl) | (simp [*,y8,y9] <;> rfl),qb⟩
    ·rw [if_neg c7] at H
     have c7b0 : decide ((l1.length : Int) ≤ x13_1) = false := decide_eq_false c7
     clear c7
     obtain ⟨c8,H⟩ := qo H
     have c8b0 : decide (x13_1 < (l1.length : Int)) = true := decide_eq_true c8
     clear c8
     obtain ⟨t793,A9,H⟩ := qB H
     by_cases c10 : t793 = 0
     ·rw [if_pos c10] at H
      have c10b0 : (t793 == 0) = true := beq_iff_eq.mpr c10
      have c10b1 : (t793 != 0) = false := bne_eq_false_iff_eq.mpr c10
      clear c10
      have H' := y0.mk H
      clear H
      have p791 : 0 ≤ (x13_1 : Int) := of_decide_eq_true qy1
      have q791 : x13_1 < (l0.length : Int) := of_decide_eq_true qy1
      obtain ⟨ad791,e791,hx791_0⟩ := Kd.at_string HR0.out x13_1 p791 q791
      cases e791
      replace hx791_0 := (HB.out.cell (World.block_lt_of_cell? w _ hx791_0)).trans hx791_0
      replace p791 := eq_true p791
      replace q791 := eq_true q791
      have p792 : 0 ≤ (x13_1 : Int) := of_decide_eq_true qy1
      have q792 : x13_1 < (l1.length : Int) := of_decide_eq_true qy1
      obtain ⟨ad792,e792,hx792_0⟩ := Kd.at_string HR1.out x13_1 p792 q792
      cases e792
      replace hx792_0 := (HB.out.cell (World.block_lt_of_cell? w _ hx792_0)).trans hx792_0
      replace p792 := eq_true p792
      replace q792 := eq_true q792
      go_wp2_with (first | (go_at_call 92; (with_reducible refine (impl_compareTerms.calls k1 (rdOf ByteArray.empty l0 x13_1) (rdOf ByteArray.empty l1 x13_1) t793 _ (by exact Tb.below HT.out qb) A9.out).mono ?_); rintro e w11 ⟨rfl,hb⟩; replace HB := y0.mk (y5 qb hb); (try clear hb); (try clear hb2); (try clear hk); (try clear hi)))
      go_roundg k1
      case measure => have := HK1.out; omega
      exact ⟨(wrap64 (x13_1 + 1)),qy2,H',⟨by have := HK1.out; omega⟩,⟨qb⟩⟩
     ·rw [if_neg c10] at H
      have c10b0 : (t793 == 0) = false := beq_eq_false_iff_ne.mpr c10
      have c10b1 : (t793 != 0) = true := bne_iff_ne.mpr c10
      obtain rfl := Option.some.inj H
      have p791 : 0 ≤ (x13_1 : Int) := of_decide_eq_true qy1
      have q791 : x13_1 < (l0.length : Int) := of_decide_eq_true qy1
      obtain ⟨ad791,e791,hx791_0⟩ := Kd.at_string HR0.out x13_1 p791 q791
      cases e791
      replace hx791_0 := (HB.out.cell (World.block_lt_of_cell? w _ hx791_0)).trans hx791_0
      replace p791 := eq_true p791
      replace q791 := eq_true q791
      have p792 : 0 ≤ (x13_1 : Int) := of_decide_eq_true qy1
      have q792 : x13_1 < (l1.length : Int) := of_decide_eq_true qy1
      obtain ⟨ad792,e792,hx792_0⟩ := Kd.at_string HR1.out x13_1 p792 q792
      cases e792
      replace hx792_0 := (HB.out.cell (World.block_lt_of_cell? w _ hx792_0)).trans hx792_0
      replace p792 := eq_true p792
      replace q792 := eq_true q792
      go_wp2_with (first | (go_at_call 92; (with_reducible refine (impl_compareTerms.calls k1 (rdOf ByteArray.empty l0 x13_1) (rdOf ByteArray.empty l1 x13_1) t793 _ (by exact Tb.below HT.out qb) A9.out).mono ?_); rintro e w12 ⟨rfl,hb⟩; replace HB := y0.mk (y5 qb hb); (try clear hb); (try clear hb2); (try clear hk); (try clear hi)))
      go_ret
      exact ⟨by first | rfl | (simp [y8,y9] <;> rfl) | (simp [*,y8,y9] <;> rfl),qb⟩
   ·rw [if_neg c4] at H
    have c4b0 := decide_eq_false c4
    clear c4
    by_cases c13 : (l0.length : Int) < (l1.length : Int)
    ·rw [if_pos c13] at H
     have c13b0 := decide_eq_true c13
     have c13b1 : decide (l0.length < l1.length) = true := decide_eq_true (Int.ofNat_lt.mp c13)
     clear c13
     obtain rfl := Option.some.inj H
     go_wp2
     go_ret
     exact ⟨by first | rfl | (simp [y8,y9] <;> rfl) | (simp [*,y8,y9] <;> rfl),qb⟩
    ·rw [if_neg c13] at H
     have c13b0 := decide_eq_false c13
     have c13b1 : decide (l0.length < l1.length) = false := decide_eq_false (fun h => c13 (Int.ofNat_lt.mpr h))
     clear c13
     obtain rfl := Option.some.inj H
     go_wp2
     go_ret
     exact ⟨by first | rfl | (simp [y8,y9] <;> rfl) | (simp [*,y8,y9] <;> rfl),qb⟩
def impl_compareTuples.f (k : Nat) (l0_0 : List ByteArray) (l1_0 : List ByteArray) : Option (Int) := (z1_.f k l0_0 l1_0).bind fun t796 => (some t796)
set_option maxHeartbeats 8000000 in
set_option maxRecDepth 100000 in
theorem impl_compareTuples.calls (k : Nat) (A0_0 : Option Addr) (c0_0 : Nat) (l0_0 : List ByteArray) (A1_0 : Option Addr) (c1_0 : Nat) (l1_0 : List ByteArray) (r : Int) (w : World) (hr0_0 : Kd.C Kd.string w A0_0 l0_0.length l0_0) (hc0_0 : l0_0.length ≤ c0_0) (hr1_0 : Kd.C Kd.string w A1_0 l1_0.length l1_0) (hc1_0 : l1_0.length ≤ c1_0) (hT : Tb w) (h : impl_compareTuples.f k l0_0 l1_0 = some r) :
  Calls Tryd.prog 95 #[.agg #[.slice A0_0 l0_0.length c0_0],.agg #[.slice A1_0 l1_0.length c1_0]] w fun e w' => e = .returned (.int .i64 r) ∧ Below w.heap.size w w' := by
 have hu36 := Tryd.underlying36
 have HT := y0.mk hT
 clear hT
 have HR0_0 := y0.mk hr0_0
 have HC0_0 := y0.mk hc0_0
 clear hr0_0 hc0_0
 have HR1_0 := y0.mk hr1_0
 have HC1_0 := y0.mk hc1_0
 clear hr1_0 hc1_0
 have HB := y0.mk (Below.refl w.heap.size w)
 have H : ((z1_.f k l0_0 l1_0).bind fun t796 => (some t796)) = some r := h
 clear h
 obtain ⟨t796,A3,H⟩ := qB H
 obtain rfl := Option.some.inj H
 go_enter Tryd.func95,Tryd.ntmps95
 go_wp2_with (first | ((with_reducible refine gate_dst (N := 2) rfl ?_); refine qe 2 #[.slice A0_0 l0_0.length c0_0] 36 ?_; intro gb794 hg w4 hbox hb; have BK794 := y0.mk (hbox); have GW794 := y0.mk (qg (w := w) hg); have GE794 := y0.mk (qg (w := w) hg); replace HB := y0.mk (y5 qb hb); clear hb hbox hg) | ((with_reducible refine gate_dst (N := 3) rfl ?_); refine qe 3 #[.slice A1_0 l1_0.length c1_0] 36 ?_; intro gb795 hg w5 hbox hb; have BK795 := y0.mk (hbox); have GW795 := y0.mk (qg (w := w) hg); have GE795 := y0.mk (qg (w := w) hg); replace HB := y0.mk (y5 qb hb); have NB794_795 := y0.mk (qn BK794.out hg); have NB795_794 := y0.mk (qm BK794.out hg); replace BK794 := y0.mk (qK BK794.out hb); clear hb hbox hg; have hnb6 := NB794_795.out; have hnc6 := NB795_794.out; obtain ⟨hcz7_0,hfz7_0⟩ := qz1 BK794.out; obtain ⟨hcz8_0,hfz8_0⟩ := qz1 BK795.out) | ((with_reducible refine y10 (f := 119) rfl ?_); refine y11 (some 9) rfl rfl Tryd.func119 (by kernel_rfl) rfl #[.slice A0_0 l0_0.length c0_0,.slice A1_0 l1_0.length c1_0,.func (.func 92) #[] #[]] rfl qy0 ?_; (with_reducible refine (z1_.calls k _ _ l0_0 _ _ l1_0  t796 _ (qc (Kd.C_below HR0_0.out HB.out)) HC0_0.out (qc (Kd.C_below HR1_0.out HB.out)) HC1_0.out (by exact Tb.below HT.out qb) A3.out).mono ?_); rintro e w9 ⟨rfl,hb⟩; refine ⟨_,rfl, ?_⟩; replace BK794 := y0.mk (qK BK794.out hb); replace BK795 := y0.mk (qK BK795.out hb); replace HB := y0.mk (y5 qb hb); (try clear hb); (try clear hb2); (try clear hk); (try clear hi)))
 go_ret
 exact ⟨by first | rfl | (simp [y8,y9] <;> rfl) | (simp [*,y8,y9] <;> rfl),qb⟩
end Go.Proofs.YtebadckdihgklaaDoor.Pb
end

-- Cut by prune.py, a program of this session, out of the texts of this claim: Lean checks it.
import Derived.Test.YtkajecadkkgfmaaGreatDoorVptPex0
import Derived.Test.YtkajecadkkgfmaaGreatDoorVptPex5
section
namespace Go.Proofs.YtkajecadkkgfmaaGreatDoor.Pe
open Go.RowKit Go.Proofs.YtkajecadkkgfmaaGreatDoorW.PrintWords Go.Proofs.YtkajecadkkgfmaaGreatDoorW.PrintLast Go.Proofs.YtkajecadkkgfmaaGreatDoorW.PrintMore
attribute [local go_sem] max2_int min2_int max_two min_two max_three min_three max_four min_four   -- for this text's walks alone
set_option linter.unusedVariables false
set_option linter.unusedSimpArgs false
mutual
def spec_RelOk.j0 : Nat → Bool → Int → List (S36) → Option (Bool)
 | 0,_,_,_ => none
 | k + 1,x13,x238000,x238001 => if x13 = true then (some false) else (spec_RelOk.l0 k 0 x238000 x238001)
def spec_RelOk.l0 : Nat → Int → Int → List (S36) → Option (Bool)
 | 0,_,_,_ => none
 | k + 1,x3,x238000,x238001 => if x3 < (x238001.length : Int) then (if 0 ≤ x3 then (if (((y21 x238001 x3).f0).length : Int) = x238000 then ((spec_TupleOk.f k ((y21 x238001 x3).f0)).bind fun t241 => (if t241 = true then (if x3 > 0 then (if 0 ≤ (wrap64 (x3 - 1)) then (if (wrap64 (x3 - 1)) < (x238001.length : Int) then ((spec_l02Cmp.f k ((y21 x238001 (wrap64 (x3 - 1))).f0) ((y21 x238001 x3).f0)).bind fun t244 => (if t244 ≥ 0 then (some false) else (spec_RelOk.l0 k (wrap64 (x3 + 1)) x238000 x238001))) else (none)) else (none)) else (spec_RelOk.l0 k (wrap64 (x3 + 1)) x238000 x238001)) else (some false))) else (some false)) else (none)) else (some true)
end
def spec_RelOk.f (k : Nat) (a0_0 : Int) (l0_1 : List (S36)) : Option (Bool) := (spec_l01Between.f a0_0 0 6).bind fun t238 => (if t238 = true then (spec_RelOk.j0 k (decide ((l0_1.length : Int) > 400)) a0_0 l0_1) else (spec_RelOk.j0 k true a0_0 l0_1))
def spec_RelOk.T6 : Bool × List (List Nat × List Nat) := (true,[([],[]),([0],[0]),([],[]),([1,2],[1,2]),([3],[3]),([4],[4]),([5],[5]),([],[]),([7],[7]),([6,8],[6,8]),([9],[9]),([10],[10]),([11,10],[10,11]),([10],[10]),([12,13,10],[10,12,13]),([14,10],[10,14]),([15,10,10],[10,15]),([16,10],[10,16]),([10,17],[10,17]),([18,16],[18]),([19],[19]),([20,19],[19,20]),([21,19,19],[19,21]),([22],[22]),([23,22],[22,23]),([22],[22]),([25,22],[22,25]),([24,26,22],[22,24,26]),([27,22],[22,27]),([22],[22]),([29,22],[22,29]),([22],[22]),([30,31,22],[22,30,31]),([32,22],[22,32]),([28,33,22,22],[22,28,33]),([34,22],[22,34]),([22,35,19],[19,22,35]),([19,36],[19,36])])
def spec_RelOk.B6 : List Nat := [0,1,0,7,15,31,63,0,128,511,1023,2047,4095,2047,16383,32767,65535,131071,262143,524287,1048575,2097151,4194303,8388607,16777215,8388607,41943039,134217727,268435455,8388607,545259519,8388607,3766484991,8061452287,17179869183,34359738367,68719476735,137438953471]
theorem spec_RelOk.tab6 : rtab .any (opsOf Tryz.f22 6) = spec_RelOk.T6 := by kernel_rfl
theorem spec_RelOk.bits6 : waitsOk spec_RelOk.T6.2 spec_RelOk.B6 = true := by kernel_rfl
set_option maxHeartbeats 8000000 in
set_option maxRecDepth 100000 in
theorem spec_RelOk.calls (k : Nat) (a0_0 : Int) (A0_1 : Option Addr) (c0_1 : Nat) (l0_1 : List (S36)) (r : Bool) (w : World) (hr0_1 : Kd.C k36 w A0_1 l0_1.length l0_1) (hc0_1 : l0_1.length ≤ c0_1) (h : spec_RelOk.f k a0_0 l0_1 = some r) :
  Calls Tryz.prog 22 #[.agg #[.int .i64 a0_0,.slice A0_1 l0_1.length c0_1]] w fun e w' => e = .returned (.bool r) ∧ Below w.heap.size w w' := by
 have hu32 := Tryz.underlying32
 have hu36 := Tryz.underlying36
 have HR0_1 := y0.mk hr0_1
 have HC0_1 := y0.mk hc0_1
 clear hr0_1 hc0_1
 have HB := y0.mk (Below.refl w.heap.size w)
 have H : ((spec_l01Between.f a0_0 0 6).bind fun t238 => (if t238 = true then (spec_RelOk.j0 k (decide ((l0_1.length : Int) > 400)) a0_0 l0_1) else (spec_RelOk.j0 k true a0_0 l0_1))) = some r := h
 clear h
 have HC2 := y0.mk H
 clear H
 go_enter Tryz.func22,Tryz.ntmps22
 go_upto_region 1 with (first | ((with_reducible refine y16 (N := 1) rfl ?_); (try (refine gate_guard (by rfl) ?_; dsimp only)); refine qe 1 #[.int .i64 a0_0,.slice A0_1 l0_1.length c0_1] 32 ?_; intro gb237 hg w3 hbox hb; have BK237 := y0.mk (hbox); have GW237 := y0.mk (qg (w := w) hg); have GE237 := y0.mk (qg (w := w) hg); replace HB := y0.mk (y6 qb hb); clear hb hbox hg))
 (try simp only [Act.put,qS_,qZ_,qC_])
 go_cut [13] (fun v13 wc => ∃ (kq : Nat) (x13_1 : Bool),v13 = .bool x13_1 ∧ y0 (spec_RelOk.j0 kq x13_1 a0_0 l0_1 = some r) ∧ y0 (kq ≤ k) ∧ y0 (wc.heap[gb237]? = some (.cells #[.int .i64 a0_0,(.slice A0_1 l0_1.length c0_1)] 32 (0,0))) ∧ y0 (Below w.heap.size w wc))
 case first =>
  have H := HC2.out
  clear HC2
  obtain ⟨t238,A4,H⟩ := qB H
  by_cases c5 : t238 = true
  ·subst c5
   replace H := qT H
   have H' := y0.mk H
   clear H
   obtain ⟨hcz6_0,hcz6_1,hfz6_0,hfz6_1⟩ := qz2 BK237.out
   go_wp2_with (first | ((with_reducible refine y15 (f := 56) rfl ?_); refine y17 (some 6) rfl rfl Tryz.func56 (by kernel_rfl) rfl #[.int .i64 a0_0,.int .i64 0,.int .i64 6] rfl qy0 ?_; (with_reducible refine (spec_l01Between.calls a0_0 0 6 true _ A4.out).mono ?_); rintro e w' ⟨rfl,⟨nd,rfl⟩⟩; refine ⟨_,rfl, ?_⟩))
   go_meet
   exact ⟨_,(decide ((l0_1.length : Int) > 400)),qy2,H',⟨by first | omega | exact Nat.le_refl _⟩,⟨qk BK237.out⟩,⟨qb⟩⟩
  ·replace c5 := Bool.eq_false_iff.mpr c5
   subst c5
   replace H := qF H
   have H' := y0.mk H
   clear H
   obtain ⟨hcz7_0,hcz7_1,hfz7_0,hfz7_1⟩ := qz2 BK237.out
   go_wp2_with (first | ((with_reducible refine y15 (f := 56) rfl ?_); refine y17 (some 6) rfl rfl Tryz.func56 (by kernel_rfl) rfl #[.int .i64 a0_0,.int .i64 0,.int .i64 6] rfl qy0 ?_; (with_reducible refine (spec_l01Between.calls a0_0 0 6 false _ A4.out).mono ?_); rintro e w' ⟨rfl,⟨nd,rfl⟩⟩; refine ⟨_,rfl, ?_⟩))
   go_meet
   exact ⟨_,(true),qy2,H',⟨by first | omega | exact Nat.le_refl _⟩,⟨qk BK237.out⟩,⟨qb⟩⟩
 case rest =>
  clear HC2
  obtain ⟨kq,x13_1,rfl,HA,HJ1,BK237,HB⟩ := hcut
  cases kq with
  | zero => exact absurd HA.out (by simp [spec_RelOk.j0])
  | succ kj1 =>
   have H := HA.out
   clear HA
   simp only [spec_RelOk.j0] at H
   by_cases c8 : x13_1 = true
   ·subst c8
    replace H := qT H
    obtain rfl := Option.some.inj H
    go_wp2
    go_ret
    exact ⟨by first | rfl | (simp [y13,y14] <;> rfl) | (simp [*,y13,y14] <;> rfl),qb⟩
   ·replace c8 := Bool.eq_false_iff.mpr c8
    subst c8
    replace H := qF H
    have H' := y0.mk H
    clear H
    go_wp2
    go_loopg [3] kj1 (fun kq v3 w' => ∃ (x3_2 : Int),v3 = .int .i64 x3_2 ∧ y0 (spec_RelOk.l0 kq x3_2 a0_0 l0_1 = some r) ∧ y0 (kq ≤ kj1) ∧ y0 (w'.heap[gb237]? = some (.cells #[.int .i64 a0_0,(.slice A0_1 l0_1.length c0_1)] 32 (0,0))) ∧ y0 (Below w.heap.size w w'))
    case atStart => exact ⟨(0),qy2,H',⟨Nat.le_refl _⟩,⟨qk BK237.out⟩,⟨qb⟩⟩
    case round =>
     clear H'
     (try clear c8)
     obtain ⟨x3_2,rfl,HA,HK2,BK237,HB⟩ := hrel
     cases gk with
     | zero => exact absurd HA.out (by simp [spec_RelOk.l0])
     | succ k2 =>
      have H := HA.out
      clear HA
      simp only [spec_RelOk.l0] at H
      by_cases c9 : x3_2 < (l0_1.length : Int)
      ·as_aux_lemma =>
       rw [if_pos c9] at H
       have c9b0 := decide_eq_true c9
       clear c9
       obtain ⟨c10,H⟩ := qo H
       have c10b0 : decide (0 ≤ x3_2) = true := decide_eq_true c10
       clear c10
       by_cases c11 : (((y21 l0_1 x3_2).f0).length : Int) = a0_0
       ·as_aux_lemma =>
        rw [if_pos c11] at H
        have c11b0 : ((((y21 l0_1 x3_2).f0).length : Int) == a0_0) = true := beq_iff_eq.mpr c11
        have c11b1 : ((((y21 l0_1 x3_2).f0).length : Int) != a0_0) = false := bne_eq_false_iff_eq.mpr c11
        clear c11
        obtain ⟨t241,A12,H⟩ := qB H
        by_cases c13 : t241 = true
        ·subst c13
         replace H := qT H
         by_cases c14 : x3_2 > 0
         ·as_aux_lemma =>
          rw [if_pos c14] at H
          have c14b0 : decide (0 < x3_2) = true := decide_eq_true c14
          clear c14
          obtain ⟨ji15,hji15⟩ : ∃ j_ : Int,(wrap64 (x3_2 - 1)) = j_ := ⟨_,rfl⟩
          replace H : (if 0 ≤ (ji15) then (if (ji15) < (l0_1.length : Int) then ((spec_l02Cmp.f k2 ((y21 l0_1 (ji15)).f0) ((y21 l0_1 x3_2).f0)).bind fun t244 => (if t244 ≥ 0 then (some false) else (spec_RelOk.l0 k2 (wrap64 (x3_2 + 1)) a0_0 l0_1))) else (none)) else (none)) = some r := by first | (rw [hji15] at H; exact H) | (simp only [hji15] at H ⊢; exact H)
          (try rw [hji15] at A12)
          have hji15w : (IntKind.i64.wrap (x3_2 - 1)) = ji15 := (y19 _).trans hji15
          obtain ⟨c16,H⟩ := qo H
          have c16b0 : decide (0 ≤ (ji15)) = true := decide_eq_true c16
          clear c16
          obtain ⟨c17,H⟩ := qo H
          have c17b0 : decide ((ji15) < (l0_1.length : Int)) = true := decide_eq_true c17
          clear c17
          obtain ⟨t244,A18,H⟩ := qB H
          by_cases c19 : t244 ≥ 0
          ·as_aux_lemma =>
           rw [if_pos c19] at H
           have c19b0 : decide (0 ≤ t244) = true := decide_eq_true c19
           clear c19
           obtain rfl := Option.some.inj H
           obtain ⟨hcz20_0,hcz20_1,hfz20_0,hfz20_1⟩ := qz2 BK237.out
           try go_wp2
           replace BK237 := y0.mk (y10 BK237.out)
           replace HB := y0.mk (y4 HB.out)
           have p239 : 0 ≤ (x3_2 : Int) := of_decide_eq_true qy1
           have q239 : x3_2 < (l0_1.length : Int) := of_decide_eq_true qy1
           obtain ⟨ad239,A239_0,c239_0,e239,hx239_0,hl239_0,hi239_0⟩ := at_T36 HR0_1.out x3_2 p239 q239
           have hw239_0 := hx239_0
           cases e239
           replace hx239_0 := (HB.out.cell (World.block_lt_of_cell? w _ hx239_0)).trans hx239_0
           have HR239_0 := y0.mk hi239_0
           have HC239_0 := y0.mk hl239_0
           clear hi239_0 hl239_0
           replace p239 := eq_true p239
           replace q239 := eq_true q239
           have p240 : 0 ≤ (x3_2 : Int) := of_decide_eq_true qy1
           have q240 : x3_2 < (l0_1.length : Int) := of_decide_eq_true qy1
           obtain ⟨ad240,A240_0,c240_0,e240,hx240_0,hl240_0,hi240_0⟩ := at_T36 HR0_1.out x3_2 p240 q240
           have hw240_0 := hx240_0
           obtain rfl : ad239 = ad240 := (by injection e240)
           replace hx240_0 := (HB.out.cell (World.block_lt_of_cell? w _ hx240_0)).trans hx240_0
           have HR240_0 := y0.mk hi240_0
           have HC240_0 := y0.mk hl240_0
           clear hi240_0 hl240_0
           replace p240 := eq_true p240
           replace q240 := eq_true q240
           have ea_ := Option.some.inj (hx239_0.symm.trans hx240_0)
           injection ea_ with ea_ en_ ec_
           subst ea_
           subst ec_
           clear en_
           have p242 : 0 ≤ ((ji15) : Int) := of_decide_eq_true qy1
           have q242 : (ji15) < (l0_1.length : Int) := of_decide_eq_true qy1
           obtain ⟨ad242,A242_0,c242_0,e242,hx242_0,hl242_0,hi242_0⟩ := at_T36 HR0_1.out (ji15) p242 q242
           have hw242_0 := hx242_0
           obtain rfl : ad239 = ad242 := (by injection e242)
           replace hx242_0 := (HB.out.cell (World.block_lt_of_cell? w _ hx242_0)).trans hx242_0
           have HR242_0 := y0.mk hi242_0
           have HC242_0 := y0.mk hl242_0
           clear hi242_0 hl242_0
           replace p242 := eq_true p242
           replace q242 := eq_true q242
           have p243 : 0 ≤ (x3_2 : Int) := of_decide_eq_true qy1
           have q243 : x3_2 < (l0_1.length : Int) := of_decide_eq_true qy1
           obtain ⟨ad243,A243_0,c243_0,e243,hx243_0,hl243_0,hi243_0⟩ := at_T36 HR0_1.out x3_2 p243 q243
           have hw243_0 := hx243_0
           obtain rfl : ad239 = ad243 := (by injection e243)
           replace hx243_0 := (HB.out.cell (World.block_lt_of_cell? w _ hx243_0)).trans hx243_0
           have HR243_0 := y0.mk hi243_0
           have HC243_0 := y0.mk hl243_0
           clear hi243_0 hl243_0
           replace p243 := eq_true p243
           replace q243 := eq_true q243
           refine start_ (n := 38) (S := fun w' => w'.cell? ⟨gb237,0,none⟩ = some (.int .i64 a0_0) ∧ w'.cell? ⟨gb237,1,none⟩ = some (.slice (some ad239) l0_1.length c0_1) ∧ w'.cell? (ad239.add (x3_2).toNat) = some (.slice A239_0 ((y21 l0_1 x3_2).f0).length c239_0) ∧ w'.cell? (ad239.add (x3_2).toNat) = some (.slice A239_0 ((y21 l0_1 x3_2).f0).length c239_0) ∧ w'.cell? (ad239.add ((ji15)).toNat) = some (.slice A242_0 ((y21 l0_1 (ji15)).f0).length c242_0) ∧ w'.cell? (ad239.add (x3_2).toNat) = some (.slice A243_0 ((y21 l0_1 x3_2).f0).length c243_0)) (ds := []) (fl_ 38 0) (by kernel_rfl) rfl rfl ⟨(y9 BK237.out 0).trans rfl,(y9 BK237.out 1).trans rfl,((HB.out.cell (World.block_lt_of_cell? w _ hw239_0)).trans hw239_0),((HB.out.cell (World.block_lt_of_cell? w _ hw240_0)).trans hw240_0),((HB.out.cell (World.block_lt_of_cell? w _ hw242_0)).trans hw242_0),((HB.out.cell (World.block_lt_of_cell? w _ hw243_0)).trans hw243_0)⟩ (fun hHeld => ?_); refine with_tabW spec_RelOk.tab6 spec_RelOk.bits6 (fun HT_ HW_ => ?_)
           generalize wr.drew = w21 at BK237 HB HR239_0 HR240_0 HR242_0 HR243_0 hx239_0 hx240_0 hx242_0 hx243_0 hHeld ⊢
           refine qp 0 21 (fl_ 38 1) ?_
           refine qp 2 23 (fl_ 38 5) ?_
           refine qp 7 28 (fl_ 38 133) ?_
           refine qt 1 22 (fl_ 38 135) hHeld ?_
           refine qp 3 24 (fl_ 38 143) ?_
           refine qp 4 25 (fl_ 38 159) ?_
           refine qt 5 26 (fl_ 38 191) hHeld ?_
           refine qp 6 27 (fl_ 38 255) ?_
           refine qt 8 29 (fl_ 38 511) hHeld ?_
           refine qp 9 30 (fl_ 38 1023) ?_
           refine qp 10 31 (fl_ 38 2047) ?_
           refine qp 11 32 (fl_ 38 4095) ?_
           refine qp 13 34 (fl_ 38 12287) ?_
           refine qt 12 33 (fl_ 38 16383) hHeld ?_
           refine qp 14 35 (fl_ 38 32767) ?_
           refine qt 15 36 (fl_ 38 65535) hHeld ?_
           refine one_ (i := 16) (N := some 37) (fl_ 38 131071) rfl rfl (one_of HT_.out (by kernel_rfl)) (by decide) (fun K hK => ?_)
           refine goes_ Tryz.func35 (by kernel_rfl) rfl #[.agg #[.slice A239_0 ((y21 l0_1 x3_2).f0).length c239_0]] (by rfl) rfl rfl qy0 ?_
           with_reducible refine (spec_TupleOk.calls k2 _ _ ((y21 l0_1 x3_2).f0) true _ (qc (Kd.C_below HR240_0.out HB.out)) HC240_0.out A12.out).mono ?_
           rintro e w22 ⟨rfl,hb⟩
           refine ⟨_,rfl, ?_⟩
           replace BK237 := y0.mk (qK BK237.out hb)
           replace HB := y0.mk (y6 qb hb)
           (try clear hb)
           (try clear hb2)
           (try clear hk)
           (try clear hi)
           refine hK.out _ _ ⟨(y9 BK237.out 0).trans rfl,(y9 BK237.out 1).trans rfl,((HB.out.cell (World.block_lt_of_cell? w _ hw239_0)).trans hw239_0),((HB.out.cell (World.block_lt_of_cell? w _ hw240_0)).trans hw240_0),((HB.out.cell (World.block_lt_of_cell? w _ hw242_0)).trans hw242_0),((HB.out.cell (World.block_lt_of_cell? w _ hw243_0)).trans hw243_0)⟩ (fun hHeld => ?_)
           clear hK K
           refine norm_ (a' := ?_) ?_ ?_
           rotate_left
           ·show Act.put _ (some 37) _ = _
            simp only [Act.put,qS_,qZ_,qC_,y19,y18]
            rfl
           refine qp 17 38 (fl_ 38 262143) ?_
           refine qp 18 39 (fl_ 38 524287) ?_
           refine qp 19 40 (fl_ 38 1048575) ?_
           refine qp 20 41 (fl_ 38 2097151) ?_
           refine qp 21 42 (fl_ 38 4194303) ?_
           refine qp 22 43 (fl_ 38 8388607) ?_
           refine qp 23 44 (fl_ 38 16777215) ?_
           refine qp 25 46 (fl_ 38 50331647) ?_
           refine qp 26 47 (fl_ 38 117440511) ?_
           refine qp 29 50 (fl_ 38 654311423) ?_
           refine qp 31 52 (fl_ 38 2801795071) ?_
           refine qt 24 45 (fl_ 38 2818572287) hHeld ?_
           refine qp 27 48 (fl_ 38 2952790015) ?_
           refine qt 28 49 (fl_ 38 3221225471) hHeld ?_
           refine qt 30 51 (fl_ 38 4294967295) hHeld ?_
           refine qp 32 53 (fl_ 38 8589934591) ?_
           refine qt 33 54 (fl_ 38 17179869183) hHeld ?_
           refine one_ (i := 34) (N := some 55) (fl_ 38 34359738367) rfl rfl (one_of HT_.out (by kernel_rfl)) (by decide) (fun K hK => ?_)
           refine goes_ Tryz.func57 (by kernel_rfl) rfl #[.agg #[.slice A242_0 ((y21 l0_1 (ji15)).f0).length c242_0],.agg #[.slice A243_0 ((y21 l0_1 x3_2).f0).length c243_0]] (by rfl) rfl rfl (by (try simp only [qM_,List.map_cons,List.map_nil]); first | done | (have e9_ := hx239_0.symm.trans hx243_0; simp only [Option.some.injEq,Value.slice.injEq] at e9_; obtain ⟨e1_,_,e2_⟩ := e9_; subst e1_; subst e2_; rfl) | (simp only [hji15]; rfl) | rfl | (simp only [qD_,qT_]; rfl)) ?_
           with_reducible refine (spec_l02Cmp.calls k2 _ _ ((y21 l0_1 (ji15)).f0) _ _ ((y21 l0_1 x3_2).f0) t244 _ (qc (Kd.C_below HR242_0.out HB.out)) HC242_0.out (qc (Kd.C_below HR243_0.out HB.out)) HC243_0.out A18.out).mono ?_
           rintro e w23 ⟨rfl,hb⟩
           refine ⟨_,rfl, ?_⟩
           replace BK237 := y0.mk (qK BK237.out hb)
           replace HB := y0.mk (y6 qb hb)
           (try clear hb)
           (try clear hb2)
           (try clear hk)
           (try clear hi)
           refine hK.out _ _ ⟨(y9 BK237.out 0).trans rfl,(y9 BK237.out 1).trans rfl,((HB.out.cell (World.block_lt_of_cell? w _ hw239_0)).trans hw239_0),((HB.out.cell (World.block_lt_of_cell? w _ hw240_0)).trans hw240_0),((HB.out.cell (World.block_lt_of_cell? w _ hw242_0)).trans hw242_0),((HB.out.cell (World.block_lt_of_cell? w _ hw243_0)).trans hw243_0)⟩ (fun hHeld => ?_)
           clear hK K
           refine norm_ (a' := ?_) ?_ ?_
           rotate_left
           ·show Act.put _ (some 55) _ = _
            simp only [Act.put,qS_,qZ_,qC_,y19,y18]
            rfl
           refine qp 35 56 (fl_ 38 68719476735) ?_
           refine qp 36 57 (fl_ 38 137438953471) ?_
           refine qp 37 58 (fl_ 38 274877906943) ?_
           refine done_ (done_of HT_.out (by kernel_rfl)) ?_
           try go_wp2
           go_ret
           exact ⟨by first | rfl | (simp [y13,y14] <;> rfl) | (simp only [← hji15]; first | rfl | (simp [y13,y14] <;> rfl)) | (simp [*,y13,y14] <;> rfl),qb⟩
          ·as_aux_lemma =>
           rw [if_neg c19] at H
           have c19b0 : decide (0 ≤ t244) = false := decide_eq_false c19
           clear c19
           have H' := y0.mk H
           clear H
           obtain ⟨hcz24_0,hcz24_1,hfz24_0,hfz24_1⟩ := qz2 BK237.out
           try go_wp2
           replace BK237 := y0.mk (y10 BK237.out)
           replace HB := y0.mk (y4 HB.out)
           have p239 : 0 ≤ (x3_2 : Int) := of_decide_eq_true qy1
           have q239 : x3_2 < (l0_1.length : Int) := of_decide_eq_true qy1
           obtain ⟨ad239,A239_0,c239_0,e239,hx239_0,hl239_0,hi239_0⟩ := at_T36 HR0_1.out x3_2 p239 q239
           have hw239_0 := hx239_0
           cases e239
           replace hx239_0 := (HB.out.cell (World.block_lt_of_cell? w _ hx239_0)).trans hx239_0
           have HR239_0 := y0.mk hi239_0
           have HC239_0 := y0.mk hl239_0
           clear hi239_0 hl239_0
           replace p239 := eq_true p239
           replace q239 := eq_true q239
           have p240 : 0 ≤ (x3_2 : Int) := of_decide_eq_true qy1
           have q240 : x3_2 < (l0_1.length : Int) := of_decide_eq_true qy1
           obtain ⟨ad240,A240_0,c240_0,e240,hx240_0,hl240_0,hi240_0⟩ := at_T36 HR0_1.out x3_2 p240 q240
           have hw240_0 := hx240_0
           obtain rfl : ad239 = ad240 := (by injection e240)
           replace hx240_0 := (HB.out.cell (World.block_lt_of_cell? w _ hx240_0)).trans hx240_0
           have HR240_0 := y0.mk hi240_0
           have HC240_0 := y0.mk hl240_0
           clear hi240_0 hl240_0
           replace p240 := eq_true p240
           replace q240 := eq_true q240
           have ea_ := Option.some.inj (hx239_0.symm.trans hx240_0)
           injection ea_ with ea_ en_ ec_
           subst ea_
           subst ec_
           clear en_
           have p242 : 0 ≤ ((ji15) : Int) := of_decide_eq_true qy1
           have q242 : (ji15) < (l0_1.length : Int) := of_decide_eq_true qy1
           obtain ⟨ad242,A242_0,c242_0,e242,hx242_0,hl242_0,hi242_0⟩ := at_T36 HR0_1.out (ji15) p242 q242
           have hw242_0 := hx242_0
           obtain rfl : ad239 = ad242 := (by injection e242)
           replace hx242_0 := (HB.out.cell (World.block_lt_of_cell? w _ hx242_0)).trans hx242_0
           have HR242_0 := y0.mk hi242_0
           have HC242_0 := y0.mk hl242_0
           clear hi242_0 hl242_0
           replace p242 := eq_true p242
           replace q242 := eq_true q242
           have p243 : 0 ≤ (x3_2 : Int) := of_decide_eq_true qy1
           have q243 : x3_2 < (l0_1.length : Int) := of_decide_eq_true qy1
           obtain ⟨ad243,A243_0,c243_0,e243,hx243_0,hl243_0,hi243_0⟩ := at_T36 HR0_1.out x3_2 p243 q243
           have hw243_0 := hx243_0
           obtain rfl : ad239 = ad243 := (by injection e243)
           replace hx243_0 := (HB.out.cell (World.block_lt_of_cell? w _ hx243_0)).trans hx243_0
           have HR243_0 := y0.mk hi243_0
           have HC243_0 := y0.mk hl243_0
           clear hi243_0 hl243_0
           replace p243 := eq_true p243
           replace q243 := eq_true q243
           refine start_ (n := 38) (S := fun w' => w'.cell? ⟨gb237,0,none⟩ = some (.int .i64 a0_0) ∧ w'.cell? ⟨gb237,1,none⟩ = some (.slice (some ad239) l0_1.length c0_1) ∧ w'.cell? (ad239.add (x3_2).toNat) = some (.slice A239_0 ((y21 l0_1 x3_2).f0).length c239_0) ∧ w'.cell? (ad239.add (x3_2).toNat) = some (.slice A239_0 ((y21 l0_1 x3_2).f0).length c239_0) ∧ w'.cell? (ad239.add ((ji15)).toNat) = some (.slice A242_0 ((y21 l0_1 (ji15)).f0).length c242_0) ∧ w'.cell? (ad239.add (x3_2).toNat) = some (.slice A243_0 ((y21 l0_1 x3_2).f0).length c243_0)) (ds := []) (fl_ 38 0) (by kernel_rfl) rfl rfl ⟨(y9 BK237.out 0).trans rfl,(y9 BK237.out 1).trans rfl,((HB.out.cell (World.block_lt_of_cell? w _ hw239_0)).trans hw239_0),((HB.out.cell (World.block_lt_of_cell? w _ hw240_0)).trans hw240_0),((HB.out.cell (World.block_lt_of_cell? w _ hw242_0)).trans hw242_0),((HB.out.cell (World.block_lt_of_cell? w _ hw243_0)).trans hw243_0)⟩ (fun hHeld => ?_); refine with_tabW spec_RelOk.tab6 spec_RelOk.bits6 (fun HT_ HW_ => ?_)
           generalize wr.drew = w25 at BK237 HB HR239_0 HR240_0 HR242_0 HR243_0 hx239_0 hx240_0 hx242_0 hx243_0 hHeld ⊢
           refine qp 0 21 (fl_ 38 1) ?_
           refine qp 2 23 (fl_ 38 5) ?_
           refine qp 7 28 (fl_ 38 133) ?_
           refine qt 1 22 (fl_ 38 135) hHeld ?_
           refine qp 3 24 (fl_ 38 143) ?_
           refine qp 4 25 (fl_ 38 159) ?_
           refine qt 5 26 (fl_ 38 191) hHeld ?_
           refine qp 6 27 (fl_ 38 255) ?_
           refine qt 8 29 (fl_ 38 511) hHeld ?_
           refine qp 9 30 (fl_ 38 1023) ?_
           refine qp 10 31 (fl_ 38 2047) ?_
           refine qp 11 32 (fl_ 38 4095) ?_
           refine qp 13 34 (fl_ 38 12287) ?_
           refine qt 12 33 (fl_ 38 16383) hHeld ?_
           refine qp 14 35 (fl_ 38 32767) ?_
           refine qt 15 36 (fl_ 38 65535) hHeld ?_
           refine one_ (i := 16) (N := some 37) (fl_ 38 131071) rfl rfl (one_of HT_.out (by kernel_rfl)) (by decide) (fun K hK => ?_)
           refine goes_ Tryz.func35 (by kernel_rfl) rfl #[.agg #[.slice A239_0 ((y21 l0_1 x3_2).f0).length c239_0]] (by rfl) rfl rfl qy0 ?_
           with_reducible refine (spec_TupleOk.calls k2 _ _ ((y21 l0_1 x3_2).f0) true _ (qc (Kd.C_below HR240_0.out HB.out)) HC240_0.out A12.out).mono ?_
           rintro e w26 ⟨rfl,hb⟩
           refine ⟨_,rfl, ?_⟩
           replace BK237 := y0.mk (qK BK237.out hb)
           replace HB := y0.mk (y6 qb hb)
           (try clear hb)
           (try clear hb2)
           (try clear hk)
           (try clear hi)
           refine hK.out _ _ ⟨(y9 BK237.out 0).trans rfl,(y9 BK237.out 1).trans rfl,((HB.out.cell (World.block_lt_of_cell? w _ hw239_0)).trans hw239_0),((HB.out.cell (World.block_lt_of_cell? w _ hw240_0)).trans hw240_0),((HB.out.cell (World.block_lt_of_cell? w _ hw242_0)).trans hw242_0),((HB.out.cell (World.block_lt_of_cell? w _ hw243_0)).trans hw243_0)⟩ (fun hHeld => ?_)
           clear hK K
           refine norm_ (a' := ?_) ?_ ?_
           rotate_left
           ·show Act.put _ (some 37) _ = _
            simp only [Act.put,qS_,qZ_,qC_,y19,y18]
            rfl
           refine qp 17 38 (fl_ 38 262143) ?_
           refine qp 18 39 (fl_ 38 524287) ?_
           refine qp 19 40 (fl_ 38 1048575) ?_
           refine qp 20 41 (fl_ 38 2097151) ?_
           refine qp 21 42 (fl_ 38 4194303) ?_
           refine qp 22 43 (fl_ 38 8388607) ?_
           refine qp 23 44 (fl_ 38 16777215) ?_
           refine qp 25 46 (fl_ 38 50331647) ?_
           refine qp 26 47 (fl_ 38 117440511) ?_
           refine qp 29 50 (fl_ 38 654311423) ?_
           refine qp 31 52 (fl_ 38 2801795071) ?_
           refine qt 24 45 (fl_ 38 2818572287) hHeld ?_
           refine qp 27 48 (fl_ 38 2952790015) ?_
           refine qt 28 49 (fl_ 38 3221225471) hHeld ?_
           refine qt 30 51 (fl_ 38 4294967295) hHeld ?_
           refine qp 32 53 (fl_ 38 8589934591) ?_
           refine qt 33 54 (fl_ 38 17179869183) hHeld ?_
           refine one_ (i := 34) (N := some 55) (fl_ 38 34359738367) rfl rfl (one_of HT_.out (by kernel_rfl)) (by decide) (fun K hK => ?_)
           refine goes_ Tryz.func57 (by kernel_rfl) rfl #[.agg #[.slice A242_0 ((y21 l0_1 (ji15)).f0).length c242_0],.agg #[.slice A243_0 ((y21 l0_1 x3_2).f0).length c243_0]] (by rfl) rfl rfl (by (try simp only [qM_,List.map_cons,List.map_nil]); first | done | (have e9_ := hx239_0.symm.trans hx243_0; simp only [Option.some.injEq,Value.slice.injEq] at e9_; obtain ⟨e1_,_,e2_⟩ := e9_; subst e1_; subst e2_; rfl) | (simp only [hji15]; rfl) | rfl | (simp only [qD_,qT_]; rfl)) ?_
           with_reducible refine (spec_l02Cmp.calls k2 _ _ ((y21 l0_1 (ji15)).f0) _ _ ((y21 l0_1 x3_2).f0) t244 _ (qc (Kd.C_below HR242_0.out HB.out)) HC242_0.out (qc (Kd.C_below HR243_0.out HB.out)) HC243_0.out A18.out).mono ?_
           rintro e w27 ⟨rfl,hb⟩
           refine ⟨_,rfl, ?_⟩
           replace BK237 := y0.mk (qK BK237.out hb)
           replace HB := y0.mk (y6 qb hb)
           (try clear hb)
           (try clear hb2)
           (try clear hk)
           (try clear hi)
           refine hK.out _ _ ⟨(y9 BK237.out 0).trans rfl,(y9 BK237.out 1).trans rfl,((HB.out.cell (World.block_lt_of_cell? w _ hw239_0)).trans hw239_0),((HB.out.cell (World.block_lt_of_cell? w _ hw240_0)).trans hw240_0),((HB.out.cell (World.block_lt_of_cell? w _ hw242_0)).trans hw242_0),((HB.out.cell (World.block_lt_of_cell? w _ hw243_0)).trans hw243_0)⟩ (fun hHeld => ?_)
           clear hK K
           refine norm_ (a' := ?_) ?_ ?_
           rotate_left
           ·show Act.put _ (some 55) _ = _
            simp only [Act.put,qS_,qZ_,qC_,y19,y18]
            rfl
           refine qp 35 56 (fl_ 38 68719476735) ?_
           refine qp 36 57 (fl_ 38 137438953471) ?_
           refine qp 37 58 (fl_ 38 274877906943) ?_
           refine done_ (done_of HT_.out (by kernel_rfl)) ?_
           try go_wp2
           go_roundg k2
           case measure => have := HJ1.out; have := HK2.out; omega
           exact ⟨(wrap64 (x3_2 + 1)),qy2,H',⟨by have := HJ1.out; have := HK2.out; omega⟩,⟨qk BK237.out⟩,⟨qb⟩⟩
         ·as_aux_lemma =>
          rw [if_neg c14] at H
          have c14b0 : decide (0 < x3_2) = false := decide_eq_false c14
          clear c14
          have H' := y0.mk H
          clear H
          obtain ⟨hcz28_0,hcz28_1,hfz28_0,hfz28_1⟩ := qz2 BK237.out
          try go_wp2
          replace BK237 := y0.mk (y10 BK237.out)
          replace HB := y0.mk (y4 HB.out)
          have p239 : 0 ≤ (x3_2 : Int) := of_decide_eq_true qy1
          have q239 : x3_2 < (l0_1.length : Int) := of_decide_eq_true qy1
          obtain ⟨ad239,A239_0,c239_0,e239,hx239_0,hl239_0,hi239_0⟩ := at_T36 HR0_1.out x3_2 p239 q239
          have hw239_0 := hx239_0
          cases e239
          replace hx239_0 := (HB.out.cell (World.block_lt_of_cell? w _ hx239_0)).trans hx239_0
          have HR239_0 := y0.mk hi239_0
          have HC239_0 := y0.mk hl239_0
          clear hi239_0 hl239_0
          replace p239 := eq_true p239
          replace q239 := eq_true q239
          have p240 : 0 ≤ (x3_2 : Int) := of_decide_eq_true qy1
          have q240 : x3_2 < (l0_1.length : Int) := of_decide_eq_true qy1
          obtain ⟨ad240,A240_0,c240_0,e240,hx240_0,hl240_0,hi240_0⟩ := at_T36 HR0_1.out x3_2 p240 q240
          have hw240_0 := hx240_0
          obtain rfl : ad239 = ad240 := (by injection e240)
          replace hx240_0 := (HB.out.cell (World.block_lt_of_cell? w _ hx240_0)).trans hx240_0
          have HR240_0 := y0.mk hi240_0
          have HC240_0 := y0.mk hl240_0
          clear hi240_0 hl240_0
          replace p240 := eq_true p240
          replace q240 := eq_true q240
          have ea_ := Option.some.inj (hx239_0.symm.trans hx240_0)
          injection ea_ with ea_ en_ ec_
          subst ea_
          subst ec_
          clear en_
          refine start_ (n := 38) (S := fun w' => w'.cell? ⟨gb237,0,none⟩ = some (.int .i64 a0_0) ∧ w'.cell? ⟨gb237,1,none⟩ = some (.slice (some ad239) l0_1.length c0_1) ∧ w'.cell? (ad239.add (x3_2).toNat) = some (.slice A239_0 ((y21 l0_1 x3_2).f0).length c239_0) ∧ w'.cell? (ad239.add (x3_2).toNat) = some (.slice A239_0 ((y21 l0_1 x3_2).f0).length c239_0)) (ds := []) (fl_ 38 0) (by kernel_rfl) rfl rfl ⟨(y9 BK237.out 0).trans rfl,(y9 BK237.out 1).trans rfl,((HB.out.cell (World.block_lt_of_cell? w _ hw239_0)).trans hw239_0),((HB.out.cell (World.block_lt_of_cell? w _ hw240_0)).trans hw240_0)⟩ (fun hHeld => ?_); refine with_tabW spec_RelOk.tab6 spec_RelOk.bits6 (fun HT_ HW_ => ?_)
          generalize wr.drew = w29 at BK237 HB HR239_0 HR240_0 hx239_0 hx240_0 hHeld ⊢
          refine qp 0 21 (fl_ 38 1) ?_
          refine qp 2 23 (fl_ 38 5) ?_
          refine qp 7 28 (fl_ 38 133) ?_
          refine qt 1 22 (fl_ 38 135) hHeld ?_
          refine qp 3 24 (fl_ 38 143) ?_
          refine qp 4 25 (fl_ 38 159) ?_
          refine qt 5 26 (fl_ 38 191) hHeld ?_
          refine qp 6 27 (fl_ 38 255) ?_
          refine qt 8 29 (fl_ 38 511) hHeld ?_
          refine qp 9 30 (fl_ 38 1023) ?_
          refine qp 10 31 (fl_ 38 2047) ?_
          refine qp 11 32 (fl_ 38 4095) ?_
          refine qp 13 34 (fl_ 38 12287) ?_
          refine qt 12 33 (fl_ 38 16383) hHeld ?_
          refine qp 14 35 (fl_ 38 32767) ?_
          refine qt 15 36 (fl_ 38 65535) hHeld ?_
          refine one_ (i := 16) (N := some 37) (fl_ 38 131071) rfl rfl (one_of HT_.out (by kernel_rfl)) (by decide) (fun K hK => ?_)
          refine goes_ Tryz.func35 (by kernel_rfl) rfl #[.agg #[.slice A239_0 ((y21 l0_1 x3_2).f0).length c239_0]] (by rfl) rfl rfl qy0 ?_
          with_reducible refine (spec_TupleOk.calls k2 _ _ ((y21 l0_1 x3_2).f0) true _ (qc (Kd.C_below HR240_0.out HB.out)) HC240_0.out A12.out).mono ?_
          rintro e w30 ⟨rfl,hb⟩
          refine ⟨_,rfl, ?_⟩
          replace BK237 := y0.mk (qK BK237.out hb)
          replace HB := y0.mk (y6 qb hb)
          (try clear hb)
          (try clear hb2)
          (try clear hk)
          (try clear hi)
          refine hK.out _ _ ⟨(y9 BK237.out 0).trans rfl,(y9 BK237.out 1).trans rfl,((HB.out.cell (World.block_lt_of_cell? w _ hw239_0)).trans hw239_0),((HB.out.cell (World.block_lt_of_cell? w _ hw240_0)).trans hw240_0)⟩ (fun hHeld => ?_)
          clear hK K
          refine norm_ (a' := ?_) ?_ ?_
          rotate_left
          ·show Act.put _ (some 37) _ = _
           simp only [Act.put,qS_,qZ_,qC_,y19,y18]
           rfl
          refine qp 17 38 (fl_ 38 262143) ?_
          refine qp 18 39 (fl_ 38 524287) ?_
          refine qp 19 40 (fl_ 38 1048575) ?_
          refine qp 20 41 (fl_ 38 2097151) ?_
          refine qp 21 42 (fl_ 38 4194303) ?_
          refine qp 22 43 (fl_ 38 8388607) ?_
          refine y20 (i := 23) (N := some 44) (v := undef) (a' := ?_) (fl_ 38 16777215) rfl rfl (y2 HT_.out (by kernel_rfl)) (fun _ _ _ h => h) (Or.inr ⟨by rfl,rfl⟩) ?_ ?_
          rotate_left
          ·simp only [Act.put,qS_,qZ_,qC_,y19,y18]
           rfl
          refine y20 (i := 24) (N := some 45) (v := undef) (a' := ?_) (fl_ 38 33554431) rfl rfl (y2 HT_.out (by kernel_rfl)) (fun _ _ _ h => h) (Or.inr ⟨by rfl,rfl⟩) ?_ ?_
          rotate_left
          ·simp only [Act.put,qS_,qZ_,qC_,y19,y18]
           rfl
          refine y20 (i := 25) (N := some 46) (v := undef) (a' := ?_) (fl_ 38 67108863) rfl rfl (y2 HT_.out (by kernel_rfl)) (fun _ _ _ h => h) (Or.inr ⟨by rfl,rfl⟩) ?_ ?_
          rotate_left
          ·simp only [Act.put,qS_,qZ_,qC_,y19,y18]
           rfl
          refine y20 (i := 26) (N := some 47) (v := undef) (a' := ?_) (fl_ 38 134217727) rfl rfl (y2 HT_.out (by kernel_rfl)) (fun _ _ _ h => h) (Or.inr ⟨by rfl,rfl⟩) ?_ ?_
          rotate_left
          ·simp only [Act.put,qS_,qZ_,qC_,y19,y18]
           rfl
          refine y20 (i := 27) (N := some 48) (v := undef) (a' := ?_) (fl_ 38 268435455) rfl rfl (y2 HT_.out (by kernel_rfl)) (fun _ _ _ h => h) (Or.inr ⟨by rfl,rfl⟩) ?_ ?_
          rotate_left
          ·simp only [Act.put,qS_,qZ_,qC_,y19,y18]
           rfl
          refine y20 (i := 28) (N := some 49) (v := undef) (a' := ?_) (fl_ 38 536870911) rfl rfl (y2 HT_.out (by kernel_rfl)) (fun _ _ _ h => h) (Or.inr ⟨by rfl,rfl⟩) ?_ ?_
          rotate_left
          ·simp only [Act.put,qS_,qZ_,qC_,y19,y18]
           rfl
          refine y20 (i := 29) (N := some 50) (v := undef) (a' := ?_) (fl_ 38 1073741823) rfl rfl (y2 HT_.out (by kernel_rfl)) (fun _ _ _ h => h) (Or.inr ⟨by rfl,rfl⟩) ?_ ?_
          rotate_left
          ·simp only [Act.put,qS_,qZ_,qC_,y19,y18]
           rfl
          refine y20 (i := 30) (N := some 51) (v := undef) (a' := ?_) (fl_ 38 2147483647) rfl rfl (y2 HT_.out (by kernel_rfl)) (fun _ _ _ h => h) (Or.inr ⟨by rfl,rfl⟩) ?_ ?_
          rotate_left
          ·simp only [Act.put,qS_,qZ_,qC_,y19,y18]
           rfl
          refine y20 (i := 31) (N := some 52) (v := undef) (a' := ?_) (fl_ 38 4294967295) rfl rfl (y2 HT_.out (by kernel_rfl)) (fun _ _ _ h => h) (Or.inr ⟨by rfl,rfl⟩) ?_ ?_
          rotate_left
          ·simp only [Act.put,qS_,qZ_,qC_,y19,y18]
           rfl
          refine y20 (i := 32) (N := some 53) (v := undef) (a' := ?_) (fl_ 38 8589934591) rfl rfl (y2 HT_.out (by kernel_rfl)) (fun _ _ _ h => h) (Or.inr ⟨by rfl,rfl⟩) ?_ ?_
          rotate_left
          ·simp only [Act.put,qS_,qZ_,qC_,y19,y18]
           rfl
          refine y20 (i := 33) (N := some 54) (v := undef) (a' := ?_) (fl_ 38 17179869183) rfl rfl (y2 HT_.out (by kernel_rfl)) (fun _ _ _ h => h) (Or.inr ⟨by rfl,rfl⟩) ?_ ?_
          rotate_left
          ·simp only [Act.put,qS_,qZ_,qC_,y19,y18]
           rfl
          refine y20 (i := 34) (N := some 55) (v := undef) (a' := ?_) (fl_ 38 34359738367) rfl rfl (y2 HT_.out (by kernel_rfl)) (fun _ _ _ h => h) (Or.inr ⟨by rfl,rfl⟩) ?_ ?_
          rotate_left
          ·simp only [Act.put,qS_,qZ_,qC_,y19,y18]
           rfl
          refine y20 (i := 35) (N := some 56) (v := undef) (a' := ?_) (fl_ 38 68719476735) rfl rfl (y2 HT_.out (by kernel_rfl)) (fun _ _ _ h => h) (Or.inr ⟨by rfl,rfl⟩) ?_ ?_
          rotate_left
          ·simp only [Act.put,qS_,qZ_,qC_,y19,y18]
           rfl
          refine qp 36 57 (fl_ 38 137438953471) ?_
          refine qp 37 58 (fl_ 38 274877906943) ?_
          refine done_ (done_of HT_.out (by kernel_rfl)) ?_
          try go_wp2
          go_roundg k2
          case measure => have := HJ1.out; have := HK2.out; omega
          exact ⟨(wrap64 (x3_2 + 1)),qy2,H',⟨by have := HJ1.out; have := HK2.out; omega⟩,⟨qk BK237.out⟩,⟨qb⟩⟩
        ·replace c13 := Bool.eq_false_iff.mpr c13
         subst c13
         replace H := qF H
         obtain rfl := Option.some.inj H
         obtain ⟨hcz31_0,hcz31_1,hfz31_0,hfz31_1⟩ := qz2 BK237.out
         try go_wp2
         replace BK237 := y0.mk (y10 BK237.out)
         replace HB := y0.mk (y4 HB.out)
         have p239 : 0 ≤ (x3_2 : Int) := of_decide_eq_true qy1
         have q239 : x3_2 < (l0_1.length : Int) := of_decide_eq_true qy1
         obtain ⟨ad239,A239_0,c239_0,e239,hx239_0,hl239_0,hi239_0⟩ := at_T36 HR0_1.out x3_2 p239 q239
         have hw239_0 := hx239_0
         cases e239
         replace hx239_0 := (HB.out.cell (World.block_lt_of_cell? w _ hx239_0)).trans hx239_0
         have HR239_0 := y0.mk hi239_0
         have HC239_0 := y0.mk hl239_0
         clear hi239_0 hl239_0
         replace p239 := eq_true p239
         replace q239 := eq_true q239
         have p240 : 0 ≤ (x3_2 : Int) := of_decide_eq_true qy1
         have q240 : x3_2 < (l0_1.length : Int) := of_decide_eq_true qy1
         obtain ⟨ad240,A240_0,c240_0,e240,hx240_0,hl240_0,hi240_0⟩ := at_T36 HR0_1.out x3_2 p240 q240
         have hw240_0 := hx240_0
         obtain rfl : ad239 = ad240 := (by injection e240)
         replace hx240_0 := (HB.out.cell (World.block_lt_of_cell? w _ hx240_0)).trans hx240_0
         have HR240_0 := y0.mk hi240_0
         have HC240_0 := y0.mk hl240_0
         clear hi240_0 hl240_0
         replace p240 := eq_true p240
         replace q240 := eq_true q240
         have ea_ := Option.some.inj (hx239_0.symm.trans hx240_0)
         injection ea_ with ea_ en_ ec_
         subst ea_
         subst ec_
         clear en_
         refine start_ (n := 38) (S := fun w' => w'.cell? ⟨gb237,0,none⟩ = some (.int .i64 a0_0) ∧ w'.cell? ⟨gb237,1,none⟩ = some (.slice (some ad239) l0_1.length c0_1) ∧ w'.cell? (ad239.add (x3_2).toNat) = some (.slice A239_0 ((y21 l0_1 x3_2).f0).length c239_0) ∧ w'.cell? (ad239.add (x3_2).toNat) = some (.slice A239_0 ((y21 l0_1 x3_2).f0).length c239_0)) (ds := []) (fl_ 38 0) (by kernel_rfl) rfl rfl ⟨(y9 BK237.out 0).trans rfl,(y9 BK237.out 1).trans rfl,((HB.out.cell (World.block_lt_of_cell? w _ hw239_0)).trans hw239_0),((HB.out.cell (World.block_lt_of_cell? w _ hw240_0)).trans hw240_0)⟩ (fun hHeld => ?_); refine with_tabW spec_RelOk.tab6 spec_RelOk.bits6 (fun HT_ HW_ => ?_)
         generalize wr.drew = w32 at BK237 HB HR239_0 HR240_0 hx239_0 hx240_0 hHeld ⊢
         refine qp 0 21 (fl_ 38 1) ?_
         refine qp 2 23 (fl_ 38 5) ?_
         refine qp 7 28 (fl_ 38 133) ?_
         refine qt 1 22 (fl_ 38 135) hHeld ?_
         refine qp 3 24 (fl_ 38 143) ?_
         refine qp 4 25 (fl_ 38 159) ?_
         refine qt 5 26 (fl_ 38 191) hHeld ?_
         refine qp 6 27 (fl_ 38 255) ?_
         refine qt 8 29 (fl_ 38 511) hHeld ?_
         refine qp 9 30 (fl_ 38 1023) ?_
         refine qp 10 31 (fl_ 38 2047) ?_
         refine qp 11 32 (fl_ 38 4095) ?_
         refine qp 13 34 (fl_ 38 12287) ?_
         refine qt 12 33 (fl_ 38 16383) hHeld ?_
         refine qp 14 35 (fl_ 38 32767) ?_
         refine qt 15 36 (fl_ 38 65535) hHeld ?_
         refine one_ (i := 16) (N := some 37) (fl_ 38 131071) rfl rfl (one_of HT_.out (by kernel_rfl)) (by decide) (fun K hK => ?_)
         refine goes_ Tryz.func35 (by kernel_rfl) rfl #[.agg #[.slice A239_0 ((y21 l0_1 x3_2).f0).length c239_0]] (by rfl) rfl rfl qy0 ?_
         with_reducible refine (spec_TupleOk.calls k2 _ _ ((y21 l0_1 x3_2).f0) false _ (qc (Kd.C_below HR240_0.out HB.out)) HC240_0.out A12.out).mono ?_
         rintro e w33 ⟨rfl,hb⟩
         refine ⟨_,rfl, ?_⟩
         replace BK237 := y0.mk (qK BK237.out hb)
         replace HB := y0.mk (y6 qb hb)
         (try clear hb)
         (try clear hb2)
         (try clear hk)
         (try clear hi)
         refine hK.out _ _ ⟨(y9 BK237.out 0).trans rfl,(y9 BK237.out 1).trans rfl,((HB.out.cell (World.block_lt_of_cell? w _ hw239_0)).trans hw239_0),((HB.out.cell (World.block_lt_of_cell? w _ hw240_0)).trans hw240_0)⟩ (fun hHeld => ?_)
         clear hK K
         refine norm_ (a' := ?_) ?_ ?_
         rotate_left
         ·show Act.put _ (some 37) _ = _
          simp only [Act.put,qS_,qZ_,qC_,y19,y18]
          rfl
         refine qp 17 38 (fl_ 38 262143) ?_
         refine qp 18 39 (fl_ 38 524287) ?_
         refine qp 19 40 (fl_ 38 1048575) ?_
         refine y20 (i := 20) (N := some 41) (v := undef) (a' := ?_) (fl_ 38 2097151) rfl rfl (y2 HT_.out (by kernel_rfl)) (fun _ _ _ h => h) (Or.inr ⟨by rfl,rfl⟩) ?_ ?_
         rotate_left
         ·simp only [Act.put,qS_,qZ_,qC_,y19,y18]
          rfl
         refine y20 (i := 21) (N := some 42) (v := undef) (a' := ?_) (fl_ 38 4194303) rfl rfl (y2 HT_.out (by kernel_rfl)) (fun _ _ _ h => h) (Or.inr ⟨by rfl,rfl⟩) ?_ ?_
         rotate_left
         ·simp only [Act.put,qS_,qZ_,qC_,y19,y18]
          rfl
         refine y20 (i := 22) (N := some 43) (v := undef) (a' := ?_) (fl_ 38 8388607) rfl rfl (y2 HT_.out (by kernel_rfl)) (fun _ _ _ h => h) (Or.inr ⟨by rfl,rfl⟩) ?_ ?_
         rotate_left
         ·simp only [Act.put,qS_,qZ_,qC_,y19,y18]
          rfl
         refine y20 (i := 23) (N := some 44) (v := undef) (a' := ?_) (fl_ 38 16777215) rfl rfl (y2 HT_.out (by kernel_rfl)) (fun _ _ _ h => h) (Or.inr ⟨by rfl,rfl⟩) ?_ ?_
         rotate_left
         ·simp only [Act.put,qS_,qZ_,qC_,y19,y18]
          rfl
         refine y20 (i := 24) (N := some 45) (v := undef) (a' := ?_) (fl_ 38 33554431) rfl rfl (y2 HT_.out (by kernel_rfl)) (fun _ _ _ h => h) (Or.inr ⟨by rfl,rfl⟩) ?_ ?_
         rotate_left
         ·simp only [Act.put,qS_,qZ_,qC_,y19,y18]
          rfl
         refine y20 (i := 25) (N := some 46) (v := undef) (a' := ?_) (fl_ 38 67108863) rfl rfl (y2 HT_.out (by kernel_rfl)) (fun _ _ _ h => h) (Or.inr ⟨by rfl,rfl⟩) ?_ ?_
         rotate_left
         ·simp only [Act.put,qS_,qZ_,qC_,y19,y18]
          rfl
         refine y20 (i := 26) (N := some 47) (v := undef) (a' := ?_) (fl_ 38 134217727) rfl rfl (y2 HT_.out (by kernel_rfl)) (fun _ _ _ h => h) (Or.inr ⟨by rfl,rfl⟩) ?_ ?_
         rotate_left
         ·simp only [Act.put,qS_,qZ_,qC_,y19,y18]
          rfl
         refine y20 (i := 27) (N := some 48) (v := undef) (a' := ?_) (fl_ 38 268435455) rfl rfl (y2 HT_.out (by kernel_rfl)) (fun _ _ _ h => h) (Or.inr ⟨by rfl,rfl⟩) ?_ ?_
         rotate_left
         ·simp only [Act.put,qS_,qZ_,qC_,y19,y18]
          rfl
         refine y20 (i := 28) (N := some 49) (v := undef) (a' := ?_) (fl_ 38 536870911) rfl rfl (y2 HT_.out (by kernel_rfl)) (fun _ _ _ h => h) (Or.inr ⟨by rfl,rfl⟩) ?_ ?_
         rotate_left
         ·simp only [Act.put,qS_,qZ_,qC_,y19,y18]
          rfl
         refine y20 (i := 29) (N := some 50) (v := undef) (a' := ?_) (fl_ 38 1073741823) rfl rfl (y2 HT_.out (by kernel_rfl)) (fun _ _ _ h => h) (Or.inr ⟨by rfl,rfl⟩) ?_ ?_
         rotate_left
         ·simp only [Act.put,qS_,qZ_,qC_,y19,y18]
          rfl
         refine y20 (i := 30) (N := some 51) (v := undef) (a' := ?_) (fl_ 38 2147483647) rfl rfl (y2 HT_.out (by kernel_rfl)) (fun _ _ _ h => h) (Or.inr ⟨by rfl,rfl⟩) ?_ ?_
         rotate_left
         ·simp only [Act.put,qS_,qZ_,qC_,y19,y18]
          rfl
         refine y20 (i := 31) (N := some 52) (v := undef) (a' := ?_) (fl_ 38 4294967295) rfl rfl (y2 HT_.out (by kernel_rfl)) (fun _ _ _ h => h) (Or.inr ⟨by rfl,rfl⟩) ?_ ?_
         rotate_left
         ·simp only [Act.put,qS_,qZ_,qC_,y19,y18]
          rfl
         refine y20 (i := 32) (N := some 53) (v := undef) (a' := ?_) (fl_ 38 8589934591) rfl rfl (y2 HT_.out (by kernel_rfl)) (fun _ _ _ h => h) (Or.inr ⟨by rfl,rfl⟩) ?_ ?_
         rotate_left
         ·simp only [Act.put,qS_,qZ_,qC_,y19,y18]
          rfl
         refine y20 (i := 33) (N := some 54) (v := undef) (a' := ?_) (fl_ 38 17179869183) rfl rfl (y2 HT_.out (by kernel_rfl)) (fun _ _ _ h => h) (Or.inr ⟨by rfl,rfl⟩) ?_ ?_
         rotate_left
         ·simp only [Act.put,qS_,qZ_,qC_,y19,y18]
          rfl
         refine y20 (i := 34) (N := some 55) (v := undef) (a' := ?_) (fl_ 38 34359738367) rfl rfl (y2 HT_.out (by kernel_rfl)) (fun _ _ _ h => h) (Or.inr ⟨by rfl,rfl⟩) ?_ ?_
         rotate_left
         ·simp only [Act.put,qS_,qZ_,qC_,y19,y18]
          rfl
         refine y20 (i := 35) (N := some 56) (v := undef) (a' := ?_) (fl_ 38 68719476735) rfl rfl (y2 HT_.out (by kernel_rfl)) (fun _ _ _ h => h) (Or.inr ⟨by rfl,rfl⟩) ?_ ?_
         rotate_left
         ·simp only [Act.put,qS_,qZ_,qC_,y19,y18]
          rfl
         refine y20 (i := 36) (N := some 57) (v := undef) (a' := ?_) (fl_ 38 137438953471) rfl rfl (y2 HT_.out (by kernel_rfl)) (fun _ _ _ h => h) (Or.inr ⟨by rfl,rfl⟩) ?_ ?_
         rotate_left
         ·simp only [Act.put,qS_,qZ_,qC_,y19,y18]
          rfl
         refine qp 37 58 (fl_ 38 274877906943) ?_
         refine done_ (done_of HT_.out (by kernel_rfl)) ?_
         try go_wp2
         go_ret
         exact ⟨by first | rfl | (simp [y13,y14] <;> rfl) | (simp [*,y13,y14] <;> rfl),qb⟩
       ·as_aux_lemma =>
        rw [if_neg c11] at H
        have c11b0 : ((((y21 l0_1 x3_2).f0).length : Int) == a0_0) = false := beq_eq_false_iff_ne.mpr c11
        have c11b1 : ((((y21 l0_1 x3_2).f0).length : Int) != a0_0) = true := bne_iff_ne.mpr c11
        obtain rfl := Option.some.inj H
        obtain ⟨hcz34_0,hcz34_1,hfz34_0,hfz34_1⟩ := qz2 BK237.out
        try go_wp2
        replace BK237 := y0.mk (y10 BK237.out)
        replace HB := y0.mk (y4 HB.out)
        have p239 : 0 ≤ (x3_2 : Int) := of_decide_eq_true qy1
        have q239 : x3_2 < (l0_1.length : Int) := of_decide_eq_true qy1
        obtain ⟨ad239,A239_0,c239_0,e239,hx239_0,hl239_0,hi239_0⟩ := at_T36 HR0_1.out x3_2 p239 q239
        have hw239_0 := hx239_0
        cases e239
        replace hx239_0 := (HB.out.cell (World.block_lt_of_cell? w _ hx239_0)).trans hx239_0
        have HR239_0 := y0.mk hi239_0
        have HC239_0 := y0.mk hl239_0
        clear hi239_0 hl239_0
        replace p239 := eq_true p239
        replace q239 := eq_true q239
        refine start_ (n := 38) (S := fun w' => w'.cell? ⟨gb237,0,none⟩ = some (.int .i64 a0_0) ∧ w'.cell? ⟨gb237,1,none⟩ = some (.slice (some ad239) l0_1.length c0_1) ∧ w'.cell? (ad239.add (x3_2).toNat) = some (.slice A239_0 ((y21 l0_1 x3_2).f0).length c239_0)) (ds := []) (fl_ 38 0) (by kernel_rfl) rfl rfl ⟨(y9 BK237.out 0).trans rfl,(y9 BK237.out 1).trans rfl,((HB.out.cell (World.block_lt_of_cell? w _ hw239_0)).trans hw239_0)⟩ (fun hHeld => ?_); refine with_tabW spec_RelOk.tab6 spec_RelOk.bits6 (fun HT_ HW_ => ?_)
        generalize wr.drew = w35 at BK237 HB HR239_0 hx239_0 hHeld ⊢
        refine qp 0 21 (fl_ 38 1) ?_
        refine qp 2 23 (fl_ 38 5) ?_
        refine qp 7 28 (fl_ 38 133) ?_
        refine qt 1 22 (fl_ 38 135) hHeld ?_
        refine qp 3 24 (fl_ 38 143) ?_
        refine qp 4 25 (fl_ 38 159) ?_
        refine qt 5 26 (fl_ 38 191) hHeld ?_
        refine qp 6 27 (fl_ 38 255) ?_
        refine qt 8 29 (fl_ 38 511) hHeld ?_
        refine qp 9 30 (fl_ 38 1023) ?_
        refine qp 10 31 (fl_ 38 2047) ?_
        refine y20 (i := 11) (N := some 32) (v := undef) (a' := ?_) (fl_ 38 4095) rfl rfl (y2 HT_.out (by kernel_rfl)) (fun _ _ _ h => h) (Or.inr ⟨by rfl,rfl⟩) ?_ ?_
        rotate_left
        ·simp only [Act.put,qS_,qZ_,qC_,y19,y18]
         rfl
        refine y20 (i := 12) (N := some 33) (v := undef) (a' := ?_) (fl_ 38 8191) rfl rfl (y2 HT_.out (by kernel_rfl)) (fun _ _ _ h => h) (Or.inr ⟨by rfl,rfl⟩) ?_ ?_
        rotate_left
        ·simp only [Act.put,qS_,qZ_,qC_,y19,y18]
         rfl
        refine y20 (i := 13) (N := some 34) (v := undef) (a' := ?_) (fl_ 38 16383) rfl rfl (y2 HT_.out (by kernel_rfl)) (fun _ _ _ h => h) (Or.inr ⟨by rfl,rfl⟩) ?_ ?_
        rotate_left
        ·simp only [Act.put,qS_,qZ_,qC_,y19,y18]
         rfl
        refine y20 (i := 14) (N := some 35) (v := undef) (a' := ?_) (fl_ 38 32767) rfl rfl (y2 HT_.out (by kernel_rfl)) (fun _ _ _ h => h) (Or.inr ⟨by rfl,rfl⟩) ?_ ?_
        rotate_left
        ·simp only [Act.put,qS_,qZ_,qC_,y19,y18]
         rfl
        refine y20 (i := 15) (N := some 36) (v := undef) (a' := ?_) (fl_ 38 65535) rfl rfl (y2 HT_.out (by kernel_rfl)) (fun _ _ _ h => h) (Or.inr ⟨by rfl,rfl⟩) ?_ ?_
        rotate_left
        ·simp only [Act.put,qS_,qZ_,qC_,y19,y18]
         rfl
        refine y20 (i := 16) (N := some 37) (v := undef) (a' := ?_) (fl_ 38 131071) rfl rfl (y2 HT_.out (by kernel_rfl)) (fun _ _ _ h => h) (Or.inr ⟨by rfl,rfl⟩) ?_ ?_
        rotate_left
        ·simp only [Act.put,qS_,qZ_,qC_,y19,y18]
         rfl
        refine y20 (i := 17) (N := some 38) (v := undef) (a' := ?_) (fl_ 38 262143) rfl rfl (y2 HT_.out (by kernel_rfl)) (fun _ _ _ h => h) (Or.inr ⟨by rfl,rfl⟩) ?_ ?_
        rotate_left
        ·simp only [Act.put,qS_,qZ_,qC_,y19,y18]
         rfl
        refine qp 18 39 (fl_ 38 524287) ?_
        refine qp 19 40 (fl_ 38 1048575) ?_
        refine y20 (i := 20) (N := some 41) (v := undef) (a' := ?_) (fl_ 38 2097151) rfl rfl (y2 HT_.out (by kernel_rfl)) (fun _ _ _ h => h) (Or.inr ⟨by rfl,rfl⟩) ?_ ?_
        rotate_left
        ·simp only [Act.put,qS_,qZ_,qC_,y19,y18]
         rfl
        refine y20 (i := 21) (N := some 42) (v := undef) (a' := ?_) (fl_ 38 4194303) rfl rfl (y2 HT_.out (by kernel_rfl)) (fun _ _ _ h => h) (Or.inr ⟨by rfl,rfl⟩) ?_ ?_
        rotate_left
        ·simp only [Act.put,qS_,qZ_,qC_,y19,y18]
         rfl
        refine y20 (i := 22) (N := some 43) (v := undef) (a' := ?_) (fl_ 38 8388607) rfl rfl (y2 HT_.out (by kernel_rfl)) (fun _ _ _ h => h) (Or.inr ⟨by rfl,rfl⟩) ?_ ?_
        rotate_left
        ·simp only [Act.put,qS_,qZ_,qC_,y19,y18]
         rfl
        refine y20 (i := 23) (N := some 44) (v := undef) (a' := ?_) (fl_ 38 16777215) rfl rfl (y2 HT_.out (by kernel_rfl)) (fun _ _ _ h => h) (Or.inr ⟨by rfl,rfl⟩) ?_ ?_
        rotate_left
        ·simp only [Act.put,qS_,qZ_,qC_,y19,y18]
         rfl
        refine y20 (i := 24) (N := some 45) (v := undef) (a' := ?_) (fl_ 38 33554431) rfl rfl (y2 HT_.out (by kernel_rfl)) (fun _ _ _ h => h) (Or.inr ⟨by rfl,rfl⟩) ?_ ?_
        rotate_left
        ·simp only [Act.put,qS_,qZ_,qC_,y19,y18]
         rfl
        refine y20 (i := 25) (N := some 46) (v := undef) (a' := ?_) (fl_ 38 67108863) rfl rfl (y2 HT_.out (by kernel_rfl)) (fun _ _ _ h => h) (Or.inr ⟨by rfl,rfl⟩) ?_ ?_
        rotate_left
        ·simp only [Act.put,qS_,qZ_,qC_,y19,y18]
         rfl
        refine y20 (i := 26) (N := some 47) (v := undef) (a' := ?_) (fl_ 38 134217727) rfl rfl (y2 HT_.out (by kernel_rfl)) (fun _ _ _ h => h) (Or.inr ⟨by rfl,rfl⟩) ?_ ?_
        rotate_left
        ·simp only [Act.put,qS_,qZ_,qC_,y19,y18]
         rfl
        refine y20 (i := 27) (N := some 48) (v := undef) (a' := ?_) (fl_ 38 268435455) rfl rfl (y2 HT_.out (by kernel_rfl)) (fun _ _ _ h => h) (Or.inr ⟨by rfl,rfl⟩) ?_ ?_
        rotate_left
        ·simp only [Act.put,qS_,qZ_,qC_,y19,y18]
         rfl
        refine y20 (i := 28) (N := some 49) (v := undef) (a' := ?_) (fl_ 38 536870911) rfl rfl (y2 HT_.out (by kernel_rfl)) (fun _ _ _ h => h) (Or.inr ⟨by rfl,rfl⟩) ?_ ?_
        rotate_left
        ·simp only [Act.put,qS_,qZ_,qC_,y19,y18]
         rfl
        refine y20 (i := 29) (N := some 50) (v := undef) (a' := ?_) (fl_ 38 1073741823) rfl rfl (y2 HT_.out (by kernel_rfl)) (fun _ _ _ h => h) (Or.inr ⟨by rfl,rfl⟩) ?_ ?_
        rotate_left
        ·simp only [Act.put,qS_,qZ_,qC_,y19,y18]
         rfl
        refine y20 (i := 30) (N := some 51) (v := undef) (a' := ?_) (fl_ 38 2147483647) rfl rfl (y2 HT_.out (by kernel_rfl)) (fun _ _ _ h => h) (Or.inr ⟨by rfl,rfl⟩) ?_ ?_
        rotate_left
        ·simp only [Act.put,qS_,qZ_,qC_,y19,y18]
         rfl
        refine y20 (i := 31) (N := some 52) (v := undef) (a' := ?_) (fl_ 38 4294967295) rfl rfl (y2 HT_.out (by kernel_rfl)) (fun _ _ _ h => h) (Or.inr ⟨by rfl,rfl⟩) ?_ ?_
        rotate_left
        ·simp only [Act.put,qS_,qZ_,qC_,y19,y18]
         rfl
        refine y20 (i := 32) (N := some 53) (v := undef) (a' := ?_) (fl_ 38 8589934591) rfl rfl (y2 HT_.out (by kernel_rfl)) (fun _ _ _ h => h) (Or.inr ⟨by rfl,rfl⟩) ?_ ?_
        rotate_left
        ·simp only [Act.put,qS_,qZ_,qC_,y19,y18]
         rfl
        refine y20 (i := 33) (N := some 54) (v := undef) (a' := ?_) (fl_ 38 17179869183) rfl rfl (y2 HT_.out (by kernel_rfl)) (fun _ _ _ h => h) (Or.inr ⟨by rfl,rfl⟩) ?_ ?_
        rotate_left
        ·simp only [Act.put,qS_,qZ_,qC_,y19,y18]
         rfl
        refine y20 (i := 34) (N := some 55) (v := undef) (a' := ?_) (fl_ 38 34359738367) rfl rfl (y2 HT_.out (by kernel_rfl)) (fun _ _ _ h => h) (Or.inr ⟨by rfl,rfl⟩) ?_ ?_
        rotate_left
        ·simp only [Act.put,qS_,qZ_,qC_,y19,y18]
         rfl
        refine y20 (i := 35) (N := some 56) (v := undef) (a' := ?_) (fl_ 38 68719476735) rfl rfl (y2 HT_.out (by kernel_rfl)) (fun _ _ _ h => h) (Or.inr ⟨by rfl,rfl⟩) ?_ ?_
        rotate_left
        ·simp only [Act.put,qS_,qZ_,qC_,y19,y18]
         rfl
        refine y20 (i := 36) (N := some 57) (v := undef) (a' := ?_) (fl_ 38 137438953471) rfl rfl (y2 HT_.out (by kernel_rfl)) (fun _ _ _ h => h) (Or.inr ⟨by rfl,rfl⟩) ?_ ?_
        rotate_left
        ·simp only [Act.put,qS_,qZ_,qC_,y19,y18]
         rfl
        refine qp 37 58 (fl_ 38 274877906943) ?_
        refine done_ (done_of HT_.out (by kernel_rfl)) ?_
        try go_wp2
        go_ret
        exact ⟨by first | rfl | (simp [y13,y14] <;> rfl) | (simp [*,y13,y14] <;> rfl),qb⟩
      ·as_aux_lemma =>
       rw [if_neg c9] at H
       have c9b0 := decide_eq_false c9
       clear c9
       obtain rfl := Option.some.inj H
       obtain ⟨hcz36_0,hcz36_1,hfz36_0,hfz36_1⟩ := qz2 BK237.out
       go_wp2
       go_ret
       exact ⟨by first | rfl | (simp [y13,y14] <;> rfl) | (simp [*,y13,y14] <;> rfl),qb⟩
end Go.Proofs.YtkajecadkkgfmaaGreatDoor.Pe
end
section
namespace Go.Proofs.YtkajecadkkgfmaaGreatDoor.Pe
open Go.RowKit Go.Proofs.YtkajecadkkgfmaaGreatDoorW.PrintWords Go.Proofs.YtkajecadkkgfmaaGreatDoorW.PrintLast Go.Proofs.YtkajecadkkgfmaaGreatDoorW.PrintMore
attribute [local go_sem] max2_int min2_int max_two min_two max_three min_three max_four min_four   -- for this text's walks alone
set_option linter.unusedVariables false
set_option linter.unusedSimpArgs false
def spec_l02Tuple.f (l0_0 : List ByteArray) : Option (List ByteArray) := (some (([] : List ByteArray) : List ByteArray)).bind fun y247 => (if y247.length + l0_0.length < 8796093022208 then (some (y247 ++ l0_0)) else (none))
set_option maxHeartbeats 8000000 in
set_option maxRecDepth 100000 in
theorem spec_l02Tuple.calls (A0_0 : Option Addr) (c0_0 : Nat) (l0_0 : List ByteArray) (r : List ByteArray) (w : World) (hr0_0 : Kd.C Kd.string w A0_0 l0_0.length l0_0) (hc0_0 : l0_0.length ≤ c0_0) (h : spec_l02Tuple.f l0_0 = some r) :
  Calls Tryz.prog 58 #[.agg #[.slice A0_0 l0_0.length c0_0]] w fun e w' => ∃ v0_ : Value,e = .returned (.agg #[v0_]) ∧ Kd.R Kd.string 9 w' w.heap.size (fun _ => True) v0_ r ∧ Below w.heap.size w w' := by
 have hu36 := Tryz.underlying36
 have HR0_0 := y0.mk hr0_0
 have HC0_0 := y0.mk hc0_0
 clear hr0_0 hc0_0
 have HB := y0.mk (Below.refl w.heap.size w)
 have H : ((some (([] : List ByteArray) : List ByteArray)).bind fun y247 => (if y247.length + l0_0.length < 8796093022208 then (some (y247 ++ l0_0)) else (none))) = some r := h
 clear h
 obtain ⟨y247,hy247⟩ : ∃ y_ : List ByteArray,y_ = (([] : List ByteArray)) := ⟨_,rfl⟩
 replace H : (if y247.length + l0_0.length < 8796093022208 then (some (y247 ++ l0_0)) else (none)) = some r := by first | (rw [hy247]; with_reducible exact H) | (have H2_ := (Option.bind_some _ _).symm.trans H; rw [hy247]; with_reducible exact H2_) | (have H2_ := (Option.bind_some _ _).symm.trans H; with_reducible exact H2_) | with_reducible exact H | (rw [hy247]; exact H) | exact H
 have Ny247 := y0.mk hy247
 clear hy247
 obtain ⟨c2,H⟩ := qo H
 have LMc2 := y0.mk c2
 clear c2
 obtain ⟨y250,hy250⟩ : ∃ y_ : List ByteArray,y_ = (y247 ++ l0_0) := ⟨_,rfl⟩
 replace H : (some y250) = some r := by first | (rw [hy250]; with_reducible exact H) | (have H2_ := (Option.bind_some _ _).symm.trans H; rw [hy250]; with_reducible exact H2_) | (have H2_ := (Option.bind_some _ _).symm.trans H; with_reducible exact H2_) | with_reducible exact H | (rw [hy250]; exact H) | exact H
 have Ny250 := y0.mk hy250
 clear hy250
 obtain rfl := Option.some.inj H
 go_enter Tryz.func58,Tryz.ntmps58
 go_wp2_with (first | ((with_reducible refine y16 (N := 1) rfl ?_); refine qe 1 #[.slice A0_0 l0_0.length c0_0] 36 ?_; intro gb245 hg w3 hbox hb; have BK245 := y0.mk (hbox); have GW245 := y0.mk (qg (w := w) hg); have GE245 := y0.mk (qg (w := w) hg); replace HB := y0.mk (y6 qb hb); clear hb hbox hg) | ((with_reducible refine y16 (N := 2) rfl ?_); refine qe 2 #[.slice none 0 0] 36 ?_; intro gb246 hg w4 hbox hb; have BK246 := y0.mk (hbox); have GW246 := y0.mk (qg (w := w) hg); have GE246 := y0.mk (qg (w := w) hg); replace HB := y0.mk (y6 qb hb); have NB245_246 := y0.mk (qn BK245.out hg); have NB246_245 := y0.mk (qm BK245.out hg); replace BK245 := y0.mk (qK BK245.out hb); clear hb hbox hg) | ((with_reducible refine y16 (N := 3) rfl ?_); refine Kd.R_lit Kd.string _ 9 ?hg (N := 3) ?hd (xs := ([] : List ByteArray)) (inner := []) (ok := fun _ => True) (okp := fun _ => True) ?hr ?hp (fun _ hk => hk) trivial (Below.refl _ _) (Nat.le_refl _) (by simp) ?_; (case hd => rfl); (case hg => rfl); (case hr => first | (go_simp; done) | (go_simp; rfl)); (case hp => exact (Reps.none _ _)); intro v248 w5 ho6 hb hg_ hnew_; clear hg_ hnew_; (first | rw [← Ny247.out] at ho6 | (simp only [Int.reduceToNat] at ho6; rw [← Ny247.out] at ho6)); have HO249 := y0.mk (Kd.R_lower ho6 (y5 qb)); replace BK245 := y0.mk (qK BK245.out hb); replace BK246 := y0.mk (qK BK246.out hb); replace HB := y0.mk (y6 qb hb); clear hb ho6; have hnb7 := NB245_246.out; have hnc7 := NB246_245.out; obtain ⟨hcz8_0,hfz8_0⟩ := qz1 BK245.out) | ((with_reducible refine gate_builtin (b := .append) (xs := #[.tmp 3,.tmp 5]) rfl ?_); at_builtin; refine Kd.R_append_rows Kd.string (w0 := w) w.heap.size rfl (.tmp 3) (.tmp 5) 25 9 (.string ⟨#[]⟩) 16 rfl Tryz.underlying25 info9 rfl (by decide) (by omega) v248 y247 l0_0 _ _ _ (fun _ => True) (fun _ => False) rfl rfl ?aO ?aR (fun _ _ h => h) (fun _ h => h.elim) ?aF ?aB ?aS ?aL ?_; (case aR => repeat (first | exact (Kd.C_below HR0_0.out HB.out) | (with_reducible refine Kd.C_alloc ?_ _) | (with_reducible refine Kd.C_drewN ?_ _) | (with_reducible refine Kd.C_drew ?_))); (case aB => exact qb); (case aF => exact (fun _ _ => trivial)); (case aO => exact (qR HO249.out)); (case aS => exact (y5 qb)); (case aL => have := LMc2.out; omega); intro v251 w9 ho hb hg hat; rw [← Ny250.out] at ho; replace BK245 := y0.mk (blk_grown (qk BK245.out) hg (Kd.R_ne HO249.out BK245.out (by decide))); replace BK246 := y0.mk (blk_grown (qk BK246.out) hg (Kd.R_ne HO249.out BK246.out (by decide))); replace HB := y0.mk (hb); have HO252 := y0.mk (ho); clear HO249; clear ho hb hg hat; obtain ⟨Ao10,co10,eo10⟩ := Kd.R_slice HO252.out; subst eo10; obtain ⟨hcz11_0,hfz11_0⟩ := qz1 BK246.out))
 refine bodyPost_ret (results_cell_row rfl _ _ gb246 36 #[.slice Ao10 y250.length co10] (0,0) _ rfl (by (with_reducible repeat (first | refine y11 ?_ _ | refine y10 ?_ | refine y7 ?_ _)); refine blk_put (cs := #[.slice none 0 0]) ?_ 0 _ rfl; (with_reducible repeat (first | refine y11 ?_ _ | refine y10 ?_ | refine y7 ?_ _)); exact BK246.out) Tryz.underlying36 rfl (by kernel_rfl)) rfl ?_
 exact ⟨_,by first | rfl | (simp [y13,y14] <;> rfl) | (simp [*,y13,y14] <;> rfl),by (with_reducible repeat (first | apply Kd.R_alloc | apply Kd.R_drewN | apply Kd.R_drew)); exact Kd.R_mono (Kd.R_far (p := ⟨gb246,0,none⟩) (Kd.R_types HO252.out BK246.out (by decide)) (fun _ hk => hk.2) (.slice Ao10 y250.length co10)) (fun _ hk => trivial),qb⟩
def spec_l02Copy.l0 : Nat → Int → Int → List (S36) → Int → List (S36) → Option (Int × (List (S36)))
 | 0,_,_,_,_,_ => none
 | k + 1,x4,x254000,x254001,x256000,x256001 => if x4 < (x254001.length : Int) then (if 0 ≤ x4 then ((spec_l02Tuple.f ((y21 x254001 x4).f0)).bind fun t257 => (if x256001.length < 5864062014805 then (spec_l02Copy.l0 k (wrap64 (x4 + 1)) x254000 x254001 x256000 (x256001 ++ [(⟨t257⟩ : S36)])) else (none))) else (none)) else (some (x256000,x256001))
def spec_l02Copy.f (k : Nat) (a0_0 : Int) (l0_1 : List (S36)) : Option (Int × (List (S36))) := spec_l02Copy.l0 k 0 a0_0 l0_1 a0_0 ([] : List (S36))
def spec_l02Copy.T5 : Bool × List (List Nat × List Nat) := (true,[([],[]),([0],[0]),([],[]),([2],[2]),([],[]),([3,4],[3,4]),([5],[5]),([6],[6]),([7],[7]),([1,8,7],[1,8]),([0,1,2,3,4,5,6,7,8,9],[]),([10,9,9,0,1,2,3,4,5,6,7,8,9],[9,10])])
def spec_l02Copy.B5 : List Nat := [0,1,0,4,0,28,60,124,252,511,1023,2047]
theorem spec_l02Copy.tab5 : rtab .any (opsOf Tryz.f36 5) = spec_l02Copy.T5 := by kernel_rfl
theorem spec_l02Copy.bits5 : waitsOk spec_l02Copy.T5.2 spec_l02Copy.B5 = true := by kernel_rfl
set_option maxHeartbeats 8000000 in
set_option maxRecDepth 100000 in
theorem spec_l02Copy.calls (k : Nat) (a0_0 : Int) (A0_1 : Option Addr) (c0_1 : Nat) (l0_1 : List (S36)) (r1 : Int) (r2 : List (S36)) (w : World) (hr0_1 : Kd.C k36 w A0_1 l0_1.length l0_1) (hc0_1 : l0_1.length ≤ c0_1) (h : spec_l02Copy.f k a0_0 l0_1 = some (r1,r2)) :
  Calls Tryz.prog 36 #[.agg #[.int .i64 a0_0,.slice A0_1 l0_1.length c0_1]] w fun e w' => ∃ v1_ : Value,e = .returned (.agg #[.int .i64 r1,v1_]) ∧ Kd.S k36 36 w' w.heap.size (fun _ => True) v1_ r2 ∧ Below w.heap.size w w' := by
 have hu32 := Tryz.underlying32
 have hu36 := Tryz.underlying36
 have HR0_1 := y0.mk hr0_1
 have HC0_1 := y0.mk hc0_1
 clear hr0_1 hc0_1
 have HB := y0.mk (Below.refl w.heap.size w)
 have H : (spec_l02Copy.l0 k 0 a0_0 l0_1 a0_0 ([] : List (S36))) = some (r1,r2) := h
 clear h
 have H' := y0.mk H
 clear H
 go_enter Tryz.func36,Tryz.ntmps36
 go_wp2_with (first | ((with_reducible refine y16 (N := 1) rfl ?_); refine qe 1 #[.int .i64 a0_0,.slice A0_1 l0_1.length c0_1] 32 ?_; intro gb253 hg w2 hbox hb; have BK253 := y0.mk (hbox); have GW253 := y0.mk (qg (w := w) hg); have GE253 := y0.mk (qg (w := w) hg); replace HB := y0.mk (y6 qb hb); clear hb hbox hg) | ((with_reducible refine y16 (N := 2) rfl ?_); refine qe 2 #[.int .i64 0,.slice none 0 0] 32 ?_; intro gb254 hg w3 hbox hb; have BK254 := y0.mk (hbox); have GW254 := y0.mk (qg (w := w) hg); have GE254 := y0.mk (qg (w := w) hg); replace HB := y0.mk (y6 qb hb); have NB253_254 := y0.mk (qn BK253.out hg); have NB254_253 := y0.mk (qm BK253.out hg); replace BK253 := y0.mk (qK BK253.out hb); clear hb hbox hg; have hnb4 := NB253_254.out; have hnc4 := NB254_253.out; obtain ⟨hcz5_0,hcz5_1,hfz5_0,hfz5_1⟩ := qz2 BK253.out) | ((with_reducible refine y16 (N := 3) rfl ?_); refine qe 3 #[.int .i64 0,.slice none 0 0] 32 ?_; intro gb255 hg w6 hbox hb; have BK255 := y0.mk (hbox); have GW255 := y0.mk (qg (w := w) hg); have GE255 := y0.mk (qg (w := w) hg); replace HB := y0.mk (y6 qb hb); have NB253_255 := y0.mk (qn BK253.out hg); have NB255_253 := y0.mk (qm BK253.out hg); replace BK253 := y0.mk (qK BK253.out hb); have NB254_255 := y0.mk (qn BK254.out hg); have NB255_254 := y0.mk (qm BK254.out hg); replace BK254 := y0.mk (qK BK254.out hb); clear hb hbox hg; have hnb7 := NB255_253.out; have hnc7 := NB253_255.out; have hnb8 := NB255_254.out; have hnc8 := NB254_255.out; obtain ⟨hcz9_0,hcz9_1,hfz9_0,hfz9_1⟩ := qz2 BK255.out))
 go_loopg [4] k (fun kq v4 w' => ∃ (x4_1 : Int) (x256001_1 : List (S36)) (u256001 : Value),v4 = .int .i64 x4_1 ∧ y0 (spec_l02Copy.l0 kq x4_1 a0_0 l0_1 a0_0 x256001_1 = some (r1,r2)) ∧ y0 (kq ≤ k) ∧ y0 (Kd.S k36 36 w' w.heap.size (fun _ => True) u256001 x256001_1) ∧ y0 (w'.heap[gb253]? = some (.cells #[.int .i64 a0_0,(.slice A0_1 l0_1.length c0_1)] 32 (0,0))) ∧ y0 (w'.heap[gb254]? = some (.cells #[.int .i64 0,(.slice none 0 0)] 32 (0,0))) ∧ y0 (w'.heap[gb255]? = some (.cells #[.int .i64 a0_0,u256001] 32 (0,0))) ∧ y0 (Below w.heap.size w w'))
 case atStart => exact ⟨(0),(([] : List (S36))),(.slice none 0 0),qy2,H',⟨Nat.le_refl _⟩,⟨by first | exact Kd.S_nil _ _ _ _ _ | exact Kd.N_nil _ _ _ _ _ | exact Kd.V_nil _ _ _ _ _ | exact Kd.Q_nil _ _ _ _ _ | exact Kd.R_nil _ _ _ _ _⟩,⟨by (with_reducible repeat (first | refine y11 ?_ _ | refine y10 ?_ | refine y7 ?_ _)); refine y12 ?_ NB253_255.out _; (with_reducible repeat (first | refine y11 ?_ _ | refine y10 ?_ | refine y7 ?_ _)); refine y12 ?_ NB253_255.out _; (with_reducible repeat (first | refine y11 ?_ _ | refine y10 ?_ | refine y7 ?_ _)); exact BK253.out⟩,⟨by (with_reducible repeat (first | refine y11 ?_ _ | refine y10 ?_ | refine y7 ?_ _)); refine y12 ?_ NB254_255.out _; (with_reducible repeat (first | refine y11 ?_ _ | refine y10 ?_ | refine y7 ?_ _)); refine y12 ?_ NB254_255.out _; (with_reducible repeat (first | refine y11 ?_ _ | refine y10 ?_ | refine y7 ?_ _)); exact BK254.out⟩,⟨by (with_reducible repeat (first | refine y11 ?_ _ | refine y10 ?_ | refine y7 ?_ _)); refine blk_put (cs := #[.int .i64 a0_0,.slice none 0 0]) ?_ 1 _ rfl; (with_reducible repeat (first | refine y11 ?_ _ | refine y10 ?_ | refine y7 ?_ _)); refine blk_put (cs := #[.int .i64 0,.slice none 0 0]) ?_ 0 _ rfl; (with_reducible repeat (first | refine y11 ?_ _ | refine y10 ?_ | refine y7 ?_ _)); exact BK255.out⟩,⟨qb⟩⟩
 case round =>
  clear H'
  (try clear hcz5_0 hcz5_1 hcz9_0 hcz9_1 hfz5_0 hfz5_1 hfz9_0 hfz9_1)
  obtain ⟨x4_1,x256001_1,u256001,rfl,HA,HK1,HO_256001,BK253,BK254,BK255,HB⟩ := hrel
  cases gk with
  | zero => exact absurd HA.out (by simp [spec_l02Copy.l0])
  | succ k1 =>
   have H := HA.out
   clear HA
   simp only [spec_l02Copy.l0] at H
   by_cases c10 : x4_1 < (l0_1.length : Int)
   ·rw [if_pos c10] at H
    have c10b0 := decide_eq_true c10
    clear c10
    obtain ⟨c11,H⟩ := qo H
    have c11b0 : decide (0 ≤ x4_1) = true := decide_eq_true c11
    clear c11
    obtain ⟨t257,A12,H⟩ := qB H
    obtain ⟨c13,H⟩ := qo H
    have LMc13 := y0.mk c13
    clear c13
    obtain ⟨y260,hy260⟩ : ∃ y_ : List (S36),y_ = (x256001_1 ++ [(⟨t257⟩ : S36)]) := ⟨_,rfl⟩
    replace H : (spec_l02Copy.l0 k1 (wrap64 (x4_1 + 1)) a0_0 l0_1 a0_0 y260) = some (r1,r2) := by first | (rw [hy260]; with_reducible exact H) | (have H2_ := (Option.bind_some _ _).symm.trans H; rw [hy260]; with_reducible exact H2_) | (have H2_ := (Option.bind_some _ _).symm.trans H; with_reducible exact H2_) | with_reducible exact H | (rw [hy260]; exact H) | exact H
    have Ny260 := y0.mk hy260
    clear hy260
    have H' := y0.mk H
    clear H
    have hnb14 := NB253_254.out
    have hnc14 := NB254_253.out
    have hnb15 := NB253_255.out
    have hnc15 := NB255_253.out
    obtain ⟨hcz16_0,hcz16_1,hfz16_0,hfz16_1⟩ := qz2 BK253.out
    try go_wp2
    replace HO_256001 := y0.mk (Kd.S_drew HO_256001.out)
    replace BK253 := y0.mk (y10 BK253.out)
    replace BK254 := y0.mk (y10 BK254.out)
    replace BK255 := y0.mk (y10 BK255.out)
    replace HB := y0.mk (y4 HB.out)
    have p256 : 0 ≤ (x4_1 : Int) := of_decide_eq_true qy1
    have q256 : x4_1 < (l0_1.length : Int) := of_decide_eq_true qy1
    obtain ⟨ad256,A256_0,c256_0,e256,hx256_0,hl256_0,hi256_0⟩ := at_T36 HR0_1.out x4_1 p256 q256
    have hw256_0 := hx256_0
    cases e256
    replace hx256_0 := (HB.out.cell (World.block_lt_of_cell? w _ hx256_0)).trans hx256_0
    have HR256_0 := y0.mk hi256_0
    have HC256_0 := y0.mk hl256_0
    clear hi256_0 hl256_0
    replace p256 := eq_true p256
    replace q256 := eq_true q256
    refine start_ (n := 12) (S := fun w' => w'.cell? ⟨gb255,0,none⟩ = some (.int .i64 a0_0) ∧ w'.cell? ⟨gb255,1,none⟩ = some (u256001) ∧ w'.cell? ⟨gb253,0,none⟩ = some (.int .i64 a0_0) ∧ w'.cell? ⟨gb253,1,none⟩ = some (.slice (some ad256) l0_1.length c0_1) ∧ w'.cell? (ad256.add (x4_1).toNat) = some (.slice A256_0 ((y21 l0_1 x4_1).f0).length c256_0)) (ds := [11]) (fl_ 12 0) (by kernel_rfl) rfl rfl ⟨(y9 BK255.out 0).trans rfl,(y9 BK255.out 1).trans rfl,(y9 BK253.out 0).trans rfl,(y9 BK253.out 1).trans rfl,((HB.out.cell (World.block_lt_of_cell? w _ hw256_0)).trans hw256_0)⟩ (fun hHeld => ?_); refine with_tabW spec_l02Copy.tab5 spec_l02Copy.bits5 (fun HT_ HW_ => ?_)
    generalize wr.drew = w17 at HO_256001 BK253 BK254 BK255 HB HR256_0 hx256_0 hHeld ⊢
    refine qp 0 15 (fl_ 12 1) ?_
    refine qp 2 17 (fl_ 12 5) ?_
    refine qp 4 19 (fl_ 12 21) ?_
    refine qt 1 16 (fl_ 12 23) hHeld ?_
    refine qt 3 18 (fl_ 12 31) hHeld ?_
    refine qp 5 20 (fl_ 12 63) ?_
    refine qt 6 21 (fl_ 12 127) hHeld ?_
    refine one_ (i := 7) (N := some 22) (fl_ 12 255) rfl rfl (one_of HT_.out (by kernel_rfl)) (by decide) (fun K hK => ?_)
    refine goes_ Tryz.func58 (by kernel_rfl) rfl #[.agg #[.slice A256_0 ((y21 l0_1 x4_1).f0).length c256_0]] (by rfl) rfl rfl qy0 ?_
    with_reducible refine (spec_l02Tuple.calls _ _ ((y21 l0_1 x4_1).f0) t257 _ (qc (Kd.C_below HR256_0.out HB.out)) HC256_0.out A12.out).mono ?_
    rintro e w18 ⟨v258,rfl,ho0,hb⟩
    refine ⟨_,rfl, ?_⟩
    replace HO_256001 := y0.mk (Kd.S_elder' (qS HO_256001.out) (Kd.R_base ho0) hb)
    have HO259 := y0.mk (Kd.R_lower ho0 (y5 qb))
    replace BK253 := y0.mk (qK BK253.out hb)
    replace BK254 := y0.mk (qK BK254.out hb)
    replace BK255 := y0.mk (qK BK255.out hb)
    replace HB := y0.mk (y6 qb hb)
    (try clear hb)
    (try clear hb2)
    (try clear hk)
    (try clear hi)
    (try clear ho0)
    obtain ⟨Ao20,co20,eo20⟩ := Kd.R_slice HO259.out
    (first | subst eo20 | (injection eo20 with f1_ f2_ f3_; have f4_ := f1_.symm; have f5_ := f3_.symm; clear f1_ f2_ f3_; subst f4_; subst f5_))
    refine hK.out _ _ ⟨(y9 BK255.out 0).trans rfl,(y9 BK255.out 1).trans rfl,(y9 BK253.out 0).trans rfl,(y9 BK253.out 1).trans rfl,((HB.out.cell (World.block_lt_of_cell? w _ hw256_0)).trans hw256_0)⟩ (fun hHeld => ?_)
    clear hK K
    refine norm_ (a' := ?_) ?_ ?_
    rotate_left
    ·show Act.put _ (some 22) _ = _
     simp only [Act.put,qS_,qZ_,qC_,y19,y18]
     rfl
    refine one_ (i := 8) (N := some 23) (fl_ 12 511) rfl rfl (one_of HT_.out (by kernel_rfl)) (by decide) (fun K hK => ?_)
    refine value_ (w1 := ?_) (v := ?_) (by rfl) rfl ?_ ?_
    rotate_left 2
    ·go_simp
     constructor
     ·rfl
     ·rfl
    refine hK.out _ _ ⟨(y9 (y7 BK255.out _) 0).trans rfl,(y9 (y7 BK255.out _) 1).trans rfl,(y9 (y7 BK253.out _) 0).trans rfl,(y9 (y7 BK253.out _) 1).trans rfl,(World.cell?_alloc_lt _ _ _ (World.block_lt_of_cell? _ _ (((HB.out.cell (World.block_lt_of_cell? w _ hw256_0)).trans hw256_0)))).trans (((HB.out.cell (World.block_lt_of_cell? w _ hw256_0)).trans hw256_0))⟩ (fun hHeld => ?_)
    clear hK K
    refine norm_ (a' := ?_) ?_ ?_
    rotate_left
    ·show Act.put _ (some 23) _ = _
     simp only [Act.put,qS_,qZ_,qC_,y19,y18]
     rfl
    refine one_ (i := 9) (N := some 24) (fl_ 12 1023) rfl rfl (one_of HT_.out (by kernel_rfl)) (by decide) (fun K hK => ?_)
    refine Kd.S_append_step k36 (w0 := w) w.heap.size (by rfl) (.tmp 16) (.tmp 23) 30 36 (.agg #[(.slice none 0 0)]) 24 rfl Tryz.underlying30 info36 rfl (by decide) (by omega) u256001 x256001_1 (⟨t257⟩ : S36) [.slice Ao20 t257.length co20] (fun _ => True) (fun k_ => some k_ = (.slice Ao20 t257.length co20 : Value).ownBlock) rfl rfl ?aP (fun k_ hk_ => ((Kd.R_mono (ok' := fun k_ => ((fun _ => True)) k_ ∧ some k_ ≠ (u256001 : Value).ownBlock) (Kd.R_apart' (HO259.out) (Kd.S_typed HO_256001.out) (by decide)) (fun k_ hk => ⟨trivial,hk.2⟩))).1 k_ hk_.symm) ?aF ?aO ?aB ?aS ?aL ?_
    (case aP => exact k36_mkM _ _ _ (⟨t257⟩ : S36) (Kd.R_mono (Kd.R_tight rfl (Kd.R_mono (ok' := fun k_ => ((fun _ => True)) k_ ∧ some k_ ≠ (u256001 : Value).ownBlock) (Kd.R_apart' (HO259.out) (Kd.S_typed HO_256001.out) (by decide)) (fun k_ hk => ⟨trivial,hk.2⟩))) (fun _ h_ => h_)))
    (case aB => exact qb)
    (case aF => exact (fun _ _ => trivial))
    (case aO => exact (qS (Kd.S_mono HO_256001.out (fun k_ hk => ⟨trivial,fun e_ => hk.2 e_⟩))))
    (case aS => exact (y5 qb))
    (case aL => have := LMc13.out; omega)
    intro v261 w19 ho hb hg hat
    rw [← Ny260.out] at ho
    replace BK253 := y0.mk (blk_grown (qk BK253.out) hg (Kd.S_ne HO_256001.out BK253.out (by decide)))
    replace BK254 := y0.mk (blk_grown (qk BK254.out) hg (Kd.S_ne HO_256001.out BK254.out (by decide)))
    replace BK255 := y0.mk (blk_grown (qk BK255.out) hg (Kd.S_ne HO_256001.out BK255.out (by decide)))
    replace HB := y0.mk (hb)
    have HO262 := y0.mk (ho)
    clear HO_256001 HO259
    clear ho hb hg hat
    obtain ⟨Ao21,co21,eo21⟩ := Kd.S_slice HO262.out
    (first | subst eo21 | (injection eo21 with f1_ f2_ f3_; have f4_ := f1_.symm; have f5_ := f3_.symm; clear f1_ f2_ f3_; subst f4_; subst f5_))
    refine hK.out _ _ ⟨(y9 BK255.out 0).trans rfl,(y9 BK255.out 1).trans rfl,(y9 BK253.out 0).trans rfl,(y9 BK253.out 1).trans rfl,((HB.out.cell (World.block_lt_of_cell? w _ hw256_0)).trans hw256_0)⟩ (fun hHeld => ?_)
    clear hK K
    refine norm_ (a' := ?_) ?_ ?_
    rotate_left
    ·show Act.put _ (some 24) _ = _
     simp only [Act.put,qS_,qZ_,qC_,y19,y18]
     rfl
    refine qp 10 25 (fl_ 12 2047) ?_
    refine last_ (i := 11) (N := none) (fl_ 12 4095) rfl rfl (one_of HT_.out (by kernel_rfl)) (by decide) (fun K hK => ?_)
    have hs22 : w19.cell? ⟨gb255,1,none⟩ = some (u256001) := (y9 BK255.out 1).trans rfl
    have hfs22 := blk_frozen BK255.out 1
    have hns22_0 := NB253_255.out
    have hns22_1 := NB254_255.out
    have hms22_0 := NB255_253.out
    have hms22_1 := NB255_254.out
    refine skip_ (w1 := ?_) (by rfl) rfl ?_ ?_
    rotate_left
    ·go_simp
     rfl
    refine hK.out _ _ ?_
    clear hK K
    refine done_ (done_of HT_.out (by kernel_rfl)) ?_
    try go_wp2
    go_roundg k1
    case measure => have := HK1.out; omega
    exact ⟨(wrap64 (x4_1 + 1)),(y260),(.slice Ao21 y260.length co21),qy2,H',⟨by have := HK1.out; omega⟩,⟨qS (Kd.S_mono (Kd.S_far (p := ⟨gb255,1,none⟩) (Kd.S_types HO262.out BK255.out (by decide)) (fun _ hk => hk.2) (.slice Ao21 y260.length co21)) (fun _ hk => trivial))⟩,⟨by (with_reducible repeat (first | refine y11 ?_ _ | refine y10 ?_ | refine y7 ?_ _)); refine y12 ?_ NB253_255.out _; (with_reducible repeat (first | refine y11 ?_ _ | refine y10 ?_ | refine y7 ?_ _)); exact BK253.out⟩,⟨by (with_reducible repeat (first | refine y11 ?_ _ | refine y10 ?_ | refine y7 ?_ _)); refine y12 ?_ NB254_255.out _; (with_reducible repeat (first | refine y11 ?_ _ | refine y10 ?_ | refine y7 ?_ _)); exact BK254.out⟩,⟨by (with_reducible repeat (first | refine y11 ?_ _ | refine y10 ?_ | refine y7 ?_ _)); refine blk_put (cs := #[.int .i64 a0_0,u256001]) ?_ 1 _ rfl; (with_reducible repeat (first | refine y11 ?_ _ | refine y10 ?_ | refine y7 ?_ _)); exact BK255.out⟩,⟨qb⟩⟩
   ·rw [if_neg c10] at H
    have c10b0 := decide_eq_false c10
    clear c10
    simp only [Option.some.injEq,Prod.mk.injEq] at H
    obtain ⟨rfl,rfl⟩ := H
    have hnb23 := NB253_254.out
    have hnc23 := NB254_253.out
    have hnb24 := NB253_255.out
    have hnc24 := NB255_253.out
    obtain ⟨hcz25_0,hcz25_1,hfz25_0,hfz25_1⟩ := qz2 BK253.out
    have hnb26 := NB255_254.out
    have hnc26 := NB254_255.out
    obtain ⟨hcz27_0,hcz27_1,hfz27_0,hfz27_1⟩ := qz2 BK255.out
    obtain ⟨hcz28_0,hcz28_1,hfz28_0,hfz28_1⟩ := qz2 BK254.out
    obtain ⟨Ao29,co29,eo29⟩ := Kd.S_slice HO_256001.out
    subst eo29
    go_wp2
    refine bodyPost_ret (results_cell_row rfl _ _ gb254 32 #[.int .i64 a0_0,.slice Ao29 x256001_1.length co29] (0,0) _ rfl (by (with_reducible repeat (first | refine y11 ?_ _ | refine y10 ?_ | refine y7 ?_ _)); refine blk_put (cs := #[.int .i64 a0_0,.slice none 0 0]) ?_ 1 _ rfl; (with_reducible repeat (first | refine y11 ?_ _ | refine y10 ?_ | refine y7 ?_ _)); refine blk_put (cs := #[.int .i64 0,.slice none 0 0]) ?_ 0 _ rfl; (with_reducible repeat (first | refine y11 ?_ _ | refine y10 ?_ | refine y7 ?_ _)); exact BK254.out) Tryz.underlying32 rfl (by kernel_rfl)) rfl ?_
    exact ⟨_,by first | rfl | (simp [y13,y14] <;> rfl) | (simp [*,y13,y14] <;> rfl),by (with_reducible repeat (first | apply Kd.S_alloc | apply Kd.S_drewN | apply Kd.S_drew)); exact Kd.S_mono (Kd.S_far (p := ⟨gb254,1,none⟩) (Kd.S_far (p := ⟨gb254,0,none⟩) (Kd.S_types HO_256001.out BK254.out (by decide)) (fun _ hk => hk.2) (.int .i64 a0_0)) (fun _ hk => hk.2) (.slice Ao29 x256001_1.length co29)) (fun _ hk => trivial),qb⟩
end Go.Proofs.YtkajecadkkgfmaaGreatDoor.Pe
end

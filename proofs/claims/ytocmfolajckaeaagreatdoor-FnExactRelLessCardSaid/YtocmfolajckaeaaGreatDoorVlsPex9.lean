-- Cut by prune.py, a program of this session, out of the texts of this claim: Lean checks it.
import Derived.Test.YtocmfolajckaeaaGreatDoorVlsPex0
import Derived.Test.YtocmfolajckaeaaGreatDoorVlsPex5
section
namespace Go.Proofs.YtocmfolajckaeaaGreatDoor.Pe
open Go.RowKit Go.Proofs.YtocmfolajckaeaaGreatDoorW.PrintWords Go.Proofs.YtocmfolajckaeaaGreatDoorW.PrintLast Go.Proofs.YtocmfolajckaeaaGreatDoorW.PrintMore
attribute [local go_sem] max2_int min2_int max_two min_two max_three min_three max_four min_four   -- for this text's walks alone
set_option linter.unusedVariables false
set_option linter.unusedSimpArgs false
mutual
def spec_RelOk.j0 : Nat → Bool → Int → List (S48) → Option (Bool)
 | 0,_,_,_ => none
 | k + 1,x13,x238000,x238001 => if x13 = true then (some false) else (spec_RelOk.l0 k 0 x238000 x238001)
def spec_RelOk.l0 : Nat → Int → Int → List (S48) → Option (Bool)
 | 0,_,_,_ => none
 | k + 1,x3,x238000,x238001 => if x3 < (x238001.length : Int) then (if 0 ≤ x3 then (if (((y21 x238001 x3).f0).length : Int) = x238000 then ((spec_TupleOk.f k ((y21 x238001 x3).f0)).bind fun t241 => (if t241 = true then (if x3 > 0 then (if 0 ≤ (wrap64 (x3 - 1)) then (if (wrap64 (x3 - 1)) < (x238001.length : Int) then ((spec_l02Cmp.f k ((y21 x238001 (wrap64 (x3 - 1))).f0) ((y21 x238001 x3).f0)).bind fun t244 => (if t244 ≥ 0 then (some false) else (spec_RelOk.l0 k (wrap64 (x3 + 1)) x238000 x238001))) else (none)) else (none)) else (spec_RelOk.l0 k (wrap64 (x3 + 1)) x238000 x238001)) else (some false))) else (some false)) else (none)) else (some true)
end
def spec_RelOk.f (k : Nat) (a0_0 : Int) (l0_1 : List (S48)) : Option (Bool) := (spec_l01Between.f a0_0 0 6).bind fun t238 => (if t238 = true then (spec_RelOk.j0 k (decide ((l0_1.length : Int) > 400)) a0_0 l0_1) else (spec_RelOk.j0 k true a0_0 l0_1))
def spec_RelOk.T6 : Bool × List (List Nat × List Nat) := (true,[([],[]),([0],[0]),([],[]),([1,2],[1,2]),([3],[3]),([4],[4]),([5],[5]),([],[]),([7],[7]),([6,8],[6,8]),([9],[9]),([10],[10]),([11,10],[10,11]),([10],[10]),([12,13,10],[10,12,13]),([14,10],[10,14]),([15,10,10],[10,15]),([16,10],[10,16]),([10,17],[10,17]),([18,16],[18]),([19],[19]),([20,19],[19,20]),([21,19,19],[19,21]),([22],[22]),([23,22],[22,23]),([22],[22]),([25,22],[22,25]),([24,26,22],[22,24,26]),([27,22],[22,27]),([22],[22]),([29,22],[22,29]),([22],[22]),([30,31,22],[22,30,31]),([32,22],[22,32]),([28,33,22,22],[22,28,33]),([34,22],[22,34]),([22,35,19],[19,22,35]),([19,36],[19,36])])
def spec_RelOk.B6 : List Nat := [0,1,0,7,15,31,63,0,128,511,1023,2047,4095,2047,16383,32767,65535,131071,262143,524287,1048575,2097151,4194303,8388607,16777215,8388607,41943039,134217727,268435455,8388607,545259519,8388607,3766484991,8061452287,17179869183,34359738367,68719476735,137438953471]
theorem spec_RelOk.tab6 : rtab .any (opsOf Tryz.f25 6) = spec_RelOk.T6 := by kernel_rfl
theorem spec_RelOk.bits6 : waitsOk spec_RelOk.T6.2 spec_RelOk.B6 = true := by kernel_rfl
set_option maxHeartbeats 8000000 in
set_option maxRecDepth 100000 in
theorem spec_RelOk.calls (k : Nat) (a0_0 : Int) (A0_1 : Option Addr) (c0_1 : Nat) (l0_1 : List (S48)) (r : Bool) (w : World) (hr0_1 : Kd.C k48 w A0_1 l0_1.length l0_1) (hc0_1 : l0_1.length ≤ c0_1) (h : spec_RelOk.f k a0_0 l0_1 = some r) :
  Calls Tryz.prog 25 #[.agg #[.int .i64 a0_0,.slice A0_1 l0_1.length c0_1]] w fun e w' => e = .returned (.bool r) ∧ Below w.heap.size w w' := by
 have hu31 := Tryz.underlying31
 have hu48 := Tryz.underlying48
 have HR0_1 := y0.mk hr0_1
 have HC0_1 := y0.mk hc0_1
 clear hr0_1 hc0_1
 have HB := y0.mk (Below.refl w.heap.size w)
 have H : ((spec_l01Between.f a0_0 0 6).bind fun t238 => (if t238 = true then (spec_RelOk.j0 k (decide ((l0_1.length : Int) > 400)) a0_0 l0_1) else (spec_RelOk.j0 k true a0_0 l0_1))) = some r := h
 clear h
 have HC2 := y0.mk H
 clear H
 go_enter Tryz.func25,Tryz.ntmps25
 go_upto_region 1 with (first | ((with_reducible refine y16 (N := 1) rfl ?_); (try (refine gate_guard (by rfl) ?_; dsimp only)); refine qe 1 #[.int .i64 a0_0,.slice A0_1 l0_1.length c0_1] 31 ?_; intro gb237 hg w3 hbox hb; have BK237 := y0.mk (hbox); have GW237 := y0.mk (qg (w := w) hg); have GE237 := y0.mk (qg (w := w) hg); replace HB := y0.mk (y5 qb hb); clear hb hbox hg))
 (try simp only [Act.put,qS_,qZ_,qC_])
 go_cut [13] (fun v13 wc => ∃ (kq : Nat) (x13_1 : Bool),v13 = .bool x13_1 ∧ y0 (spec_RelOk.j0 kq x13_1 a0_0 l0_1 = some r) ∧ y0 (kq ≤ k) ∧ y0 (wc.heap[gb237]? = some (.cells #[.int .i64 a0_0,(.slice A0_1 l0_1.length c0_1)] 31 (0,0))) ∧ y0 (Below w.heap.size w wc))
 case first =>
  have H := HC2.out
  clear HC2
  obtain ⟨t238,A4,H⟩ := qB H
  by_cases c5 : t238 = true
  ·subst c5
   replace H := qT H
   have H' := y0.mk H
   clear H
   obtain ⟨hcz6_0,hcz6_1,hfz6_0,hfz6_1⟩ := qz2 BK237.out
   go_wp2_with (first | ((with_reducible refine y15 (f := 49) rfl ?_); refine y17 (some 6) rfl rfl Tryz.func49 (by kernel_rfl) rfl #[.int .i64 a0_0,.int .i64 0,.int .i64 6] rfl qy0 ?_; (with_reducible refine (spec_l01Between.calls a0_0 0 6 true _ A4.out).mono ?_); rintro e w' ⟨rfl,⟨nd,rfl⟩⟩; refine ⟨_,rfl, ?_⟩))
   go_meet
   exact ⟨_,(decide ((l0_1.length : Int) > 400)),qy2,H',⟨by first | omega | exact Nat.le_refl _⟩,⟨qk BK237.out⟩,⟨qb⟩⟩
  ·replace c5 := Bool.eq_false_iff.mpr c5
   subst c5
   replace H := qF H
   have H' := y0.mk H
   clear H
   obtain ⟨hcz7_0,hcz7_1,hfz7_0,hfz7_1⟩ := qz2 BK237.out
   go_wp2_with (first | ((with_reducible refine y15 (f := 49) rfl ?_); refine y17 (some 6) rfl rfl Tryz.func49 (by kernel_rfl) rfl #[.int .i64 a0_0,.int .i64 0,.int .i64 6] rfl qy0 ?_; (with_reducible refine (spec_l01Between.calls a0_0 0 6 false _ A4.out).mono ?_); rintro e w' ⟨rfl,⟨nd,rfl⟩⟩; refine ⟨_,rfl, ?_⟩))
   go_meet
   exact ⟨_,(true),qy2,H',⟨by first | omega | exact Nat.le_refl _⟩,⟨qk BK237.out⟩,⟨qb⟩⟩
 case rest =>
  clear HC2
  obtain ⟨kq,x13_1,rfl,HA,HJ1,BK237,HB⟩ := hcut
  cases kq with
  | zero => exact absurd HA.out (by simp [spec_RelOk.j0])
  | succ kj1 =>
   have H := HA.out
   clear HA
   simp only [spec_RelOk.j0] at H
   by_cases c8 : x13_1 = true
   ·subst c8
    replace H := qT H
    obtain rfl := Option.some.inj H
    go_wp2
    go_ret
    exact ⟨by first | rfl | (simp [y13,y14] <;> rfl) | (simp [*,y13,y14] <;> rfl),qb⟩
   ·replace c8 := Bool.eq_false_iff.mpr c8
    subst c8
    replace H := qF H
    have H' := y0.mk H
    clear H
    go_wp2
    go_loopg [3] kj1 (fun kq v3 w' => ∃ (x3_2 : Int),v3 = .int .i64 x3_2 ∧ y0 (spec_RelOk.l0 kq x3_2 a0_0 l0_1 = some r) ∧ y0 (kq ≤ kj1) ∧ y0 (w'.heap[gb237]? = some (.cells #[.int .i64 a0_0,(.slice A0_1 l0_1.length c0_1)] 31 (0,0))) ∧ y0 (Below w.heap.size w w'))
    case atStart => exact ⟨(0),qy2,H',⟨Nat.le_refl _⟩,⟨qk BK237.out⟩,⟨qb⟩⟩
    case round =>
     clear H'
     (try clear c8)
     obtain ⟨x3_2,rfl,HA,HK2,BK237,HB⟩ := hrel
     cases gk with
     | zero => exact absurd HA.out (by simp [spec_RelOk.l0])
     | succ k2 =>
      have H := HA.out
      clear HA
      simp only [spec_RelOk.l0] at H
      by_cases c9 : x3_2 < (l0_1.length : Int)
      ·as_aux_lemma =>
       rw [if_pos c9] at H
       have c9b0 := decide_eq_true c9
       clear c9
       obtain ⟨c10,H⟩ := qo H
       have c10b0 : decide (0 ≤ x3_2) = true := decide_eq_true c10
       clear c10
       by_cases c11 : (((y21 l0_1 x3_2).f0).length : Int) = a0_0
       ·as_aux_lemma =>
        rw [if_pos c11] at H
        have c11b0 : ((((y21 l0_1 x3_2).f0).length : Int) == a0_0) = true := beq_iff_eq.mpr c11
        have c11b1 : ((((y21 l0_1 x3_2).f0).length : Int) != a0_0) = false := bne_eq_false_iff_eq.mpr c11
        clear c11
        obtain ⟨t241,A12,H⟩ := qB H
        by_cases c13 : t241 = true
        ·subst c13
         replace H := qT H
         by_cases c14 : x3_2 > 0
         ·as_aux_lemma =>
          rw [if_pos c14] at H
          have c14b0 : decide (0 < x3_2) = true := decide_eq_true c14
          clear c14
          obtain ⟨ji15,hji15⟩ : ∃ j_ : Int,(wrap64 (x3_2 - 1)) = j_ := ⟨_,rfl⟩
          replace H : (if 0 ≤ (ji15) then (if (ji15) < (l0_1.length : Int) then ((spec_l02Cmp.f k2 ((y21 l0_1 (ji15)).f0) ((y21 l0_1 x3_2).f0)).bind fun t244 => (if t244 ≥ 0 then (some false) else (spec_RelOk.l0 k2 (wrap64 (x3_2 + 1)) a0_0 l0_1))) else (none)) else (none)) = some r := by first | (rw [hji15] at H; exact H) | (simp only [hji15] at H ⊢; exact H)
          (try rw [hji15] at A12)
          have hji15w : (IntKind.i64.wrap (x3_2 - 1)) = ji15 := (y19 _).trans hji15
          obtain ⟨c16,H⟩ := qo H
          have c16b0 : decide (0 ≤ (ji15)) = true := decide_eq_true c16
          clear c16
          obtain ⟨c17,H⟩ := qo H
          have c17b0 : decide ((ji15) < (l0_1.length : Int)) = true := decide_eq_true c17
          clear c17
          obtain ⟨t244,A18,H⟩ := qB H
          by_cases c19 : t244 ≥ 0
          ·as_aux_lemma =>
           rw [if_pos c19] at H
           have c19b0 : decide (0 ≤ t244) = true := decide_eq_true c19
           clear c19
           obtain rfl := Option.some.inj H
           obtain ⟨hcz20_0,hcz20_1,hfz20_0,hfz20_1⟩ := qz2 BK237.out
           try go_wp2
           replace BK237 := y0.mk (y9 BK237.out)
           replace HB := y0.mk (y3 HB.out)
           have p239 : 0 ≤ (x3_2 : Int) := of_decide_eq_true qy1
           have q239 : x3_2 < (l0_1.length : Int) := of_decide_eq_true qy1
           obtain ⟨ad239,A239_0,c239_0,e239,hx239_0,hl239_0,hi239_0⟩ := at_T48 HR0_1.out x3_2 p239 q239
           have hw239_0 := hx239_0
           cases e239
           replace hx239_0 := (HB.out.cell (World.block_lt_of_cell? w _ hx239_0)).trans hx239_0
           have HR239_0 := y0.mk hi239_0
           have HC239_0 := y0.mk hl239_0
           clear hi239_0 hl239_0
           replace p239 := eq_true p239
           replace q239 := eq_true q239
           have p240 : 0 ≤ (x3_2 : Int) := of_decide_eq_true qy1
           have q240 : x3_2 < (l0_1.length : Int) := of_decide_eq_true qy1
           obtain ⟨ad240,A240_0,c240_0,e240,hx240_0,hl240_0,hi240_0⟩ := at_T48 HR0_1.out x3_2 p240 q240
           have hw240_0 := hx240_0
           obtain rfl : ad239 = ad240 := (by injection e240)
           replace hx240_0 := (HB.out.cell (World.block_lt_of_cell? w _ hx240_0)).trans hx240_0
           have HR240_0 := y0.mk hi240_0
           have HC240_0 := y0.mk hl240_0
           clear hi240_0 hl240_0
           replace p240 := eq_true p240
           replace q240 := eq_true q240
           have ea_ := Option.some.inj (hx239_0.symm.trans hx240_0)
           injection ea_ with ea_ en_ ec_
           subst ea_
           subst ec_
           clear en_
           have p242 : 0 ≤ ((ji15) : Int) := of_decide_eq_true qy1
           have q242 : (ji15) < (l0_1.length : Int) := of_decide_eq_true qy1
           obtain ⟨ad242,A242_0,c242_0,e242,hx242_0,hl242_0,hi242_0⟩ := at_T48 HR0_1.out (ji15) p242 q242
           have hw242_0 := hx242_0
           obtain rfl : ad239 = ad242 := (by injection e242)
           replace hx242_0 := (HB.out.cell (World.block_lt_of_cell? w _ hx242_0)).trans hx242_0
           have HR242_0 := y0.mk hi242_0
           have HC242_0 := y0.mk hl242_0
           clear hi242_0 hl242_0
           replace p242 := eq_true p242
           replace q242 := eq_true q242
           have p243 : 0 ≤ (x3_2 : Int) := of_decide_eq_true qy1
           have q243 : x3_2 < (l0_1.length : Int) := of_decide_eq_true qy1
           obtain ⟨ad243,A243_0,c243_0,e243,hx243_0,hl243_0,hi243_0⟩ := at_T48 HR0_1.out x3_2 p243 q243
           have hw243_0 := hx243_0
           obtain rfl : ad239 = ad243 := (by injection e243)
           replace hx243_0 := (HB.out.cell (World.block_lt_of_cell? w _ hx243_0)).trans hx243_0
           have HR243_0 := y0.mk hi243_0
           have HC243_0 := y0.mk hl243_0
           clear hi243_0 hl243_0
           replace p243 := eq_true p243
           replace q243 := eq_true q243
           refine start_ (n := 38) (S := fun w' => w'.cell? ⟨gb237,0,none⟩ = some (.int .i64 a0_0) ∧ w'.cell? ⟨gb237,1,none⟩ = some (.slice (some ad239) l0_1.length c0_1) ∧ w'.cell? (ad239.add (x3_2).toNat) = some (.slice A239_0 ((y21 l0_1 x3_2).f0).length c239_0) ∧ w'.cell? (ad239.add (x3_2).toNat) = some (.slice A239_0 ((y21 l0_1 x3_2).f0).length c239_0) ∧ w'.cell? (ad239.add ((ji15)).toNat) = some (.slice A242_0 ((y21 l0_1 (ji15)).f0).length c242_0) ∧ w'.cell? (ad239.add (x3_2).toNat) = some (.slice A243_0 ((y21 l0_1 x3_2).f0).length c243_0)) (ds := []) (fl_ 38 0) (by kernel_rfl) rfl rfl ⟨(y8 BK237.out 0).trans rfl,(y8 BK237.out 1).trans rfl,((HB.out.cell (World.block_lt_of_cell? w _ hw239_0)).trans hw239_0),((HB.out.cell (World.block_lt_of_cell? w _ hw240_0)).trans hw240_0),((HB.out.cell (World.block_lt_of_cell? w _ hw242_0)).trans hw242_0),((HB.out.cell (World.block_lt_of_cell? w _ hw243_0)).trans hw243_0)⟩ (fun hHeld => ?_); refine with_tabW spec_RelOk.tab6 spec_RelOk.bits6 (fun HT_ HW_ => ?_)
           generalize wr.drew = w21 at BK237 HB HR239_0 HR240_0 HR242_0 HR243_0 hx239_0 hx240_0 hx242_0 hx243_0 hHeld ⊢
           refine qp 0 21 (fl_ 38 1) ?_
           refine qp 2 23 (fl_ 38 5) ?_
           refine qp 7 28 (fl_ 38 133) ?_
           refine qt 1 22 (fl_ 38 135) hHeld ?_
           refine qp 3 24 (fl_ 38 143) ?_
           refine qp 4 25 (fl_ 38 159) ?_
           refine qt 5 26 (fl_ 38 191) hHeld ?_
           refine qp 6 27 (fl_ 38 255) ?_
           refine qt 8 29 (fl_ 38 511) hHeld ?_
           refine qp 9 30 (fl_ 38 1023) ?_
           refine qp 10 31 (fl_ 38 2047) ?_
           refine qp 11 32 (fl_ 38 4095) ?_
           refine qp 13 34 (fl_ 38 12287) ?_
           refine qt 12 33 (fl_ 38 16383) hHeld ?_
           refine qp 14 35 (fl_ 38 32767) ?_
           refine qt 15 36 (fl_ 38 65535) hHeld ?_
           refine one_ (i := 16) (N := some 37) (fl_ 38 131071) rfl rfl (one_of HT_.out (by kernel_rfl)) (by decide) (fun K hK => ?_)
           refine goes_ Tryz.func50 (by kernel_rfl) rfl #[.agg #[.slice A239_0 ((y21 l0_1 x3_2).f0).length c239_0]] (by rfl) rfl rfl qy0 ?_
           with_reducible refine (spec_TupleOk.calls k2 _ _ ((y21 l0_1 x3_2).f0) true _ (qc (Kd.C_below HR240_0.out HB.out)) HC240_0.out A12.out).mono ?_
           rintro e w22 ⟨rfl,hb⟩
           refine ⟨_,rfl, ?_⟩
           replace BK237 := y0.mk (qK BK237.out hb)
           replace HB := y0.mk (y5 qb hb)
           (try clear hb)
           (try clear hb2)
           (try clear hk)
           (try clear hi)
           refine hK.out _ _ ⟨(y8 BK237.out 0).trans rfl,(y8 BK237.out 1).trans rfl,((HB.out.cell (World.block_lt_of_cell? w _ hw239_0)).trans hw239_0),((HB.out.cell (World.block_lt_of_cell? w _ hw240_0)).trans hw240_0),((HB.out.cell (World.block_lt_of_cell? w _ hw242_0)).trans hw242_0),((HB.out.cell (World.block_lt_of_cell? w _ hw243_0)).trans hw243_0)⟩ (fun hHeld => ?_)
           clear hK K
           refine norm_ (a' := ?_) ?_ ?_
           rotate_left
           ·show Act.put _ (some 37) _ = _
            simp only [Act.put,qS_,qZ_,qC_,y19,y18]
            rfl
           refine qp 17 38 (fl_ 38 262143) ?_
           refine qp 18 39 (fl_ 38 524287) ?_
           refine qp 19 40 (fl_ 38 1048575) ?_
           refine qp 20 41 (fl_ 38 2097151) ?_
           refine qp 21 42 (fl_ 38 4194303) ?_
           refine qp 22 43 (fl_ 38 8388607) ?_
           refine qp 23 44 (fl_ 38 16777215) ?_
           refine qp 25 46 (fl_ 38 50331647) ?_
           refine qp 26 47 (fl_ 38 117440511) ?_
           refine qp 29 50 (fl_ 38 654311423) ?_
           refine qp 31 52 (fl_ 38 2801795071) ?_
           refine qt 24 45 (fl_ 38 2818572287) hHeld ?_
           refine qp 27 48 (fl_ 38 2952790015) ?_
           refine qt 28 49 (fl_ 38 3221225471) hHeld ?_
           refine qt 30 51 (fl_ 38 4294967295) hHeld ?_
           refine qp 32 53 (fl_ 38 8589934591) ?_
           refine qt 33 54 (fl_ 38 17179869183) hHeld ?_
           refine one_ (i := 34) (N := some 55) (fl_ 38 34359738367) rfl rfl (one_of HT_.out (by kernel_rfl)) (by decide) (fun K hK => ?_)
           refine goes_ Tryz.func51 (by kernel_rfl) rfl #[.agg #[.slice A242_0 ((y21 l0_1 (ji15)).f0).length c242_0],.agg #[.slice A243_0 ((y21 l0_1 x3_2).f0).length c243_0]] (by rfl) rfl rfl (by (try simp only [qM_,List.map_cons,List.map_nil]); first | done | (have e9_ := hx239_0.symm.trans hx243_0; simp only [Option.some.injEq,Value.slice.injEq] at e9_; obtain ⟨e1_,_,e2_⟩ := e9_; subst e1_; subst e2_; rfl) | (simp only [hji15]; rfl) | rfl | (simp only [qD_,qT_]; rfl)) ?_
           with_reducible refine (spec_l02Cmp.calls k2 _ _ ((y21 l0_1 (ji15)).f0) _ _ ((y21 l0_1 x3_2).f0) t244 _ (qc (Kd.C_below HR242_0.out HB.out)) HC242_0.out (qc (Kd.C_below HR243_0.out HB.out)) HC243_0.out A18.out).mono ?_
           rintro e w23 ⟨rfl,hb⟩
           refine ⟨_,rfl, ?_⟩
           replace BK237 := y0.mk (qK BK237.out hb)
           replace HB := y0.mk (y5 qb hb)
           (try clear hb)
           (try clear hb2)
           (try clear hk)
           (try clear hi)
           refine hK.out _ _ ⟨(y8 BK237.out 0).trans rfl,(y8 BK237.out 1).trans rfl,((HB.out.cell (World.block_lt_of_cell? w _ hw239_0)).trans hw239_0),((HB.out.cell (World.block_lt_of_cell? w _ hw240_0)).trans hw240_0),((HB.out.cell (World.block_lt_of_cell? w _ hw242_0)).trans hw242_0),((HB.out.cell (World.block_lt_of_cell? w _ hw243_0)).trans hw243_0)⟩ (fun hHeld => ?_)
           clear hK K
           refine norm_ (a' := ?_) ?_ ?_
           rotate_left
           ·show Act.put _ (some 55) _ = _
            simp only [Act.put,qS_,qZ_,qC_,y19,y18]
            rfl
           refine qp 35 56 (fl_ 38 68719476735) ?_
           refine qp 36 57 (fl_ 38 137438953471) ?_
           refine qp 37 58 (fl_ 38 274877906943) ?_
           refine done_ (done_of HT_.out (by kernel_rfl)) ?_
           try go_wp2
           go_ret
           exact ⟨by first | rfl | (simp [y13,y14] <;> rfl) | (simp only [← hji15]; first | rfl | (simp [y13,y14] <;> rfl)) | (simp [*,y13,y14] <;> rfl),qb⟩
          ·as_aux_lemma =>
           rw [if_neg c19] at H
           have c19b0 : decide (0 ≤ t244) = false := decide_eq_false c19
           clear c19
           have H' := y0.mk H
           clear H
           obtain ⟨hcz24_0,hcz24_1,hfz24_0,hfz24_1⟩ := qz2 BK237.out
           try go_wp2
           replace BK237 := y0.mk (y9 BK237.out)
           replace HB := y0.mk (y3 HB.out)
           have p239 : 0 ≤ (x3_2 : Int) := of_decide_eq_true qy1
           have q239 : x3_2 < (l0_1.length : Int) := of_decide_eq_true qy1
           obtain ⟨ad239,A239_0,c239_0,e239,hx239_0,hl239_0,hi239_0⟩ := at_T48 HR0_1.out x3_2 p239 q239
           have hw239_0 := hx239_0
           cases e239
           replace hx239_0 := (HB.out.cell (World.block_lt_of_cell? w _ hx239_0)).trans hx239_0
           have HR239_0 := y0.mk hi239_0
           have HC239_0 := y0.mk hl239_0
           clear hi239_0 hl239_0
           replace p239 := eq_true p239
           replace q239 := eq_true q239
           have p240 : 0 ≤ (x3_2 : Int) := of_decide_eq_true qy1
           have q240 : x3_2 < (l0_1.length : Int) := of_decide_eq_true qy1
           obtain ⟨ad240,A240_0,c240_0,e240,hx240_0,hl240_0,hi240_0⟩ := at_T48 HR0_1.out x3_2 p240 q240
           have hw240_0 := hx240_0
           obtain rfl : ad239 = ad240 := (by injection e240)
           replace hx240_0 := (HB.out.cell (World.block_lt_of_cell? w _ hx240_0)).trans hx240_0
           have HR240_0 := y0.mk hi240_0
           have HC240_0 := y0.mk hl240_0
           clear hi240_0 hl240_0
           replace p240 := eq_true p240
           replace q240 := eq_true q240
           have ea_ := Option.some.inj (hx239_0.symm.trans hx240_0)
           injection ea_ with ea_ en_ ec_
           subst ea_
           subst ec_
           clear en_
           have p242 : 0 ≤ ((ji15) : Int) := of_decide_eq_true qy1
           have q242 : (ji15) < (l0_1.length : Int) := of_decide_eq_true qy1
           obtain ⟨ad242,A242_0,c242_0,e242,hx242_0,hl242_0,hi242_0⟩ := at_T48 HR0_1.out (ji15) p242 q242
           have hw242_0 := hx242_0
           obtain rfl : ad239 = ad242 := (by injection e242)
           replace hx242_0 := (HB.out.cell (World.block_lt_of_cell? w _ hx242_0)).trans hx242_0
           have HR242_0 := y0.mk hi242_0
           have HC242_0 := y0.mk hl242_0
           clear hi242_0 hl242_0
           replace p242 := eq_true p242
           replace q242 := eq_true q242
           have p243 : 0 ≤ (x3_2 : Int) := of_decide_eq_true qy1
           have q243 : x3_2 < (l0_1.length : Int) := of_decide_eq_true qy1
           obtain ⟨ad243,A243_0,c243_0,e243,hx243_0,hl243_0,hi243_0⟩ := at_T48 HR0_1.out x3_2 p243 q243
           have hw243_0 := hx243_0
           obtain rfl : ad239 = ad243 := (by injection e243)
           replace hx243_0 := (HB.out.cell (World.block_lt_of_cell? w _ hx243_0)).trans hx243_0
           have HR243_0 := y0.mk hi243_0
           have HC243_0 := y0.mk hl243_0
           clear hi243_0 hl243_0
           replace p243 := eq_true p243
           replace q243 := eq_true q243
           refine start_ (n := 38) (S := fun w' => w'.cell? ⟨gb237,0,none⟩ = some (.int .i64 a0_0) ∧ w'.cell? ⟨gb237,1,none⟩ = some (.slice (some ad239) l0_1.length c0_1) ∧ w'.cell? (ad239.add (x3_2).toNat) = some (.slice A239_0 ((y21 l0_1 x3_2).f0).length c239_0) ∧ w'.cell? (ad239.add (x3_2).toNat) = some (.slice A239_0 ((y21 l0_1 x3_2).f0).length c239_0) ∧ w'.cell? (ad239.add ((ji15)).toNat) = some (.slice A242_0 ((y21 l0_1 (ji15)).f0).length c242_0) ∧ w'.cell? (ad239.add (x3_2).toNat) = some (.slice A243_0 ((y21 l0_1 x3_2).f0).length c243_0)) (ds := []) (fl_ 38 0) (by kernel_rfl) rfl rfl ⟨(y8 BK237.out 0).trans rfl,(y8 BK237.out 1).trans rfl,((HB.out.cell (World.block_lt_of_cell? w _ hw239_0)).trans hw239_0),((HB.out.cell (World.block_lt_of_cell? w _ hw240_0)).trans hw240_0),((HB.out.cell (World.block_lt_of_cell? w _ hw242_0)).trans hw242_0),((HB.out.cell (World.block_lt_of_cell? w _ hw243_0)).trans hw243_0)⟩ (fun hHeld => ?_); refine with_tabW spec_RelOk.tab6 spec_RelOk.bits6 (fun HT_ HW_ => ?_)
           generalize wr.drew = w25 at BK237 HB HR239_0 HR240_0 HR242_0 HR243_0 hx239_0 hx240_0 hx242_0 hx243_0 hHeld ⊢
           refine qp 0 21 (fl_ 38 1) ?_
           refine qp 2 23 (fl_ 38 5) ?_
           refine qp 7 28 (fl_ 38 133) ?_
           refine qt 1 22 (fl_ 38 135) hHeld ?_
           refine qp 3 24 (fl_ 38 143) ?_
           refine qp 4 25 (fl_ 38 159) ?_
           refine qt 5 26 (fl_ 38 191) hHeld ?_
           refine qp 6 27 (fl_ 38 255) ?_
           refine qt 8 29 (fl_ 38 511) hHeld ?_
           refine qp 9 30 (fl_ 38 1023) ?_
           refine qp 10 31 (fl_ 38 2047) ?_
           refine qp 11 32 (fl_ 38 4095) ?_
           refine qp 13 34 (fl_ 38 12287) ?_
           refine qt 12 33 (fl_ 38 16383) hHeld ?_
           refine qp 14 35 (fl_ 38 32767) ?_
           refine qt 15 36 (fl_ 38 65535) hHeld ?_
           refine one_ (i := 16) (N := some 37) (fl_ 38 131071) rfl rfl (one_of HT_.out (by kernel_rfl)) (by decide) (fun K hK => ?_)
           refine goes_ Tryz.func50 (by kernel_rfl) rfl #[.agg #[.slice A239_0 ((y21 l0_1 x3_2).f0).length c239_0]] (by rfl) rfl rfl qy0 ?_
           with_reducible refine (spec_TupleOk.calls k2 _ _ ((y21 l0_1 x3_2).f0) true _ (qc (Kd.C_below HR240_0.out HB.out)) HC240_0.out A12.out).mono ?_
           rintro e w26 ⟨rfl,hb⟩
           refine ⟨_,rfl, ?_⟩
           replace BK237 := y0.mk (qK BK237.out hb)
           replace HB := y0.mk (y5 qb hb)
           (try clear hb)
           (try clear hb2)
           (try clear hk)
           (try clear hi)
           refine hK.out _ _ ⟨(y8 BK237.out 0).trans rfl,(y8 BK237.out 1).trans rfl,((HB.out.cell (World.block_lt_of_cell? w _ hw239_0)).trans hw239_0),((HB.out.cell (World.block_lt_of_cell? w _ hw240_0)).trans hw240_0),((HB.out.cell (World.block_lt_of_cell? w _ hw242_0)).trans hw242_0),((HB.out.cell (World.block_lt_of_cell? w _ hw243_0)).trans hw243_0)⟩ (fun hHeld => ?_)
           clear hK K
           refine norm_ (a' := ?_) ?_ ?_
           rotate_left
           ·show Act.put _ (some 37) _ = _
            simp only [Act.put,qS_,qZ_,qC_,y19,y18]
            rfl
           refine qp 17 38 (fl_ 38 262143) ?_
           refine qp 18 39 (fl_ 38 524287) ?_
           refine qp 19 40 (fl_ 38 1048575) ?_
           refine qp 20 41 (fl_ 38 2097151) ?_
           refine qp 21 42 (fl_ 38 4194303) ?_
           refine qp 22 43 (fl_ 38 8388607) ?_
           refine qp 23 44 (fl_ 38 16777215) ?_
           refine qp 25 46 (fl_ 38 50331647) ?_
           refine qp 26 47 (fl_ 38 117440511) ?_
           refine qp 29 50 (fl_ 38 654311423) ?_
           refine qp 31 52 (fl_ 38 2801795071) ?_
           refine qt 24 45 (fl_ 38 2818572287) hHeld ?_
           refine qp 27 48 (fl_ 38 2952790015) ?_
           refine qt 28 49 (fl_ 38 3221225471) hHeld ?_
           refine qt 30 51 (fl_ 38 4294967295) hHeld ?_
           refine qp 32 53 (fl_ 38 8589934591) ?_
           refine qt 33 54 (fl_ 38 17179869183) hHeld ?_
           refine one_ (i := 34) (N := some 55) (fl_ 38 34359738367) rfl rfl (one_of HT_.out (by kernel_rfl)) (by decide) (fun K hK => ?_)
           refine goes_ Tryz.func51 (by kernel_rfl) rfl #[.agg #[.slice A242_0 ((y21 l0_1 (ji15)).f0).length c242_0],.agg #[.slice A243_0 ((y21 l0_1 x3_2).f0).length c243_0]] (by rfl) rfl rfl (by (try simp only [qM_,List.map_cons,List.map_nil]); first | done | (have e9_ := hx239_0.symm.trans hx243_0; simp only [Option.some.injEq,Value.slice.injEq] at e9_; obtain ⟨e1_,_,e2_⟩ := e9_; subst e1_; subst e2_; rfl) | (simp only [hji15]; rfl) | rfl | (simp only [qD_,qT_]; rfl)) ?_
           with_reducible refine (spec_l02Cmp.calls k2 _ _ ((y21 l0_1 (ji15)).f0) _ _ ((y21 l0_1 x3_2).f0) t244 _ (qc (Kd.C_below HR242_0.out HB.out)) HC242_0.out (qc (Kd.C_below HR243_0.out HB.out)) HC243_0.out A18.out).mono ?_
           rintro e w27 ⟨rfl,hb⟩
           refine ⟨_,rfl, ?_⟩
           replace BK237 := y0.mk (qK BK237.out hb)
           replace HB := y0.mk (y5 qb hb)
           (try clear hb)
           (try clear hb2)
           (try clear hk)
           (try clear hi)
           refine hK.out _ _ ⟨(y8 BK237.out 0).trans rfl,(y8 BK237.out 1).trans rfl,((HB.out.cell (World.block_lt_of_cell? w _ hw239_0)).trans hw239_0),((HB.out.cell (World.block_lt_of_cell? w _ hw240_0)).trans hw240_0),((HB.out.cell (World.block_lt_of_cell? w _ hw242_0)).trans hw242_0),((HB.out.cell (World.block_lt_of_cell? w _ hw243_0)).trans hw243_0)⟩ (fun hHeld => ?_)
           clear hK K
           refine norm_ (a' := ?_) ?_ ?_
           rotate_left
           ·show Act.put _ (some 55) _ = _
            simp only [Act.put,qS_,qZ_,qC_,y19,y18]
            rfl
           refine qp 35 56 (fl_ 38 68719476735) ?_
           refine qp 36 57 (fl_ 38 137438953471) ?_
           refine qp 37 58 (fl_ 38 274877906943) ?_
           refine done_ (done_of HT_.out (by kernel_rfl)) ?_
           try go_wp2
           go_roundg k2
           case measure => have := HJ1.out; have := HK2.out; omega
           exact ⟨(wrap64 (x3_2 + 1)),qy2,H',⟨by have := HJ1.out; have := HK2.out; omega⟩,⟨qk BK237.out⟩,⟨qb⟩⟩
         ·as_aux_lemma =>
          rw [if_neg c14] at H
          have c14b0 : decide (0 < x3_2) = false := decide_eq_false c14
          clear c14
          have H' := y0.mk H
          clear H
          obtain ⟨hcz28_0,hcz28_1,hfz28_0,hfz28_1⟩ := qz2 BK237.out
          try go_wp2
          replace BK237 := y0.mk (y9 BK237.out)
          replace HB := y0.mk (y3 HB.out)
          have p239 : 0 ≤ (x3_2 : Int) := of_decide_eq_true qy1
          have q239 : x3_2 < (l0_1.length : Int) := of_decide_eq_true qy1
          obtain ⟨ad239,A239_0,c239_0,e239,hx239_0,hl239_0,hi239_0⟩ := at_T48 HR0_1.out x3_2 p239 q239
          have hw239_0 := hx239_0
          cases e239
          replace hx239_0 := (HB.out.cell (World.block_lt_of_cell? w _ hx239_0)).trans hx239_0
          have HR239_0 := y0.mk hi239_0
          have HC239_0 := y0.mk hl239_0
          clear hi239_0 hl239_0
          replace p239 := eq_true p239
          replace q239 := eq_true q239
          have p240 : 0 ≤ (x3_2 : Int) := of_decide_eq_true qy1
          have q240 : x3_2 < (l0_1.length : Int) := of_decide_eq_true qy1
          obtain ⟨ad240,A240_0,c240_0,e240,hx240_0,hl240_0,hi240_0⟩ := at_T48 HR0_1.out x3_2 p240 q240
          have hw240_0 := hx240_0
          obtain rfl : ad239 = ad240 := (by injection e240)
          replace hx240_0 := (HB.out.cell (World.block_lt_of_cell? w _ hx240_0)).trans hx240_0
          have HR240_0 := y0.mk hi240_0
          have HC240_0 := y0.mk hl240_0
          clear hi240_0 hl240_0
          replace p240 := eq_true p240
          replace q240 := eq_true q240
          have ea_ := Option.some.inj (hx239_0.symm.trans hx240_0)
          injection ea_ with ea_ en_ ec_
          subst ea_
          subst ec_
          clear en_
          refine start_ (n := 38) (S := fun w' => w'.cell? ⟨gb237,0,none⟩ = some (.int .i64 a0_0) ∧ w'.cell? ⟨gb237,1,none⟩ = some (.slice (some ad239) l0_1.length c0_1) ∧ w'.cell? (ad239.add (x3_2).toNat) = some (.slice A239_0 ((y21 l0_1 x3_2).f0).length c239_0) ∧ w'.cell? (ad239.add (x3_2).toNat) = some (.slice A239_0 ((y21 l0_1 x3_2).f0).length c239_0)) (ds := []) (fl_ 38 0) (by kernel_rfl) rfl rfl ⟨(y8 BK237.out 0).trans rfl,(y8 BK237.out 1).trans rfl,((HB.out.cell (World.block_lt_of_cell? w _ hw239_0)).trans hw239_0),((HB.out.cell (World.block_lt_of_cell? w _ hw240_0)).trans hw240_0)⟩ (fun hHeld => ?_); refine with_tabW spec_RelOk.tab6 spec_RelOk.bits6 (fun HT_ HW_ => ?_)
          generalize wr.drew = w29 at BK237 HB HR239_0 HR240_0 hx239_0 hx240_0 hHeld ⊢
          refine qp 0 21 (fl_ 38 1) ?_
          refine qp 2 23 (fl_ 38 5) ?_
          refine qp 7 28 (fl_ 38 133) ?_
          refine qt 1 22 (fl_ 38 135) hHeld ?_
          refine qp 3 24 (fl_ 38 143) ?_
          refine qp 4 25 (fl_ 38 159) ?_
          refine qt 5 26 (fl_ 38 191) hHeld ?_
          refine qp 6 27 (fl_ 38 255) ?_
          refine qt 8 29 (fl_ 38 511) hHeld ?_
          refine qp 9 30 (fl_ 38 1023) ?_
          refine qp 10 31 (fl_ 38 2047) ?_
          refine qp 11 32 (fl_ 38 4095) ?_
          refine qp 13 34 (fl_ 38 12287) ?_
          refine qt 12 33 (fl_ 38 16383) hHeld ?_
          refine qp 14 35 (fl_ 38 32767) ?_
          refine qt 15 36 (fl_ 38 65535) hHeld ?_
          refine one_ (i := 16) (N := some 37) (fl_ 38 131071) rfl rfl (one_of HT_.out (by kernel_rfl)) (by decide) (fun K hK => ?_)
          refine goes_ Tryz.func50 (by kernel_rfl) rfl #[.agg #[.slice A239_0 ((y21 l0_1 x3_2).f0).length c239_0]] (by rfl) rfl rfl qy0 ?_
          with_reducible refine (spec_TupleOk.calls k2 _ _ ((y21 l0_1 x3_2).f0) true _ (qc (Kd.C_below HR240_0.out HB.out)) HC240_0.out A12.out).mono ?_
          rintro e w30 ⟨rfl,hb⟩
          refine ⟨_,rfl, ?_⟩
          replace BK237 := y0.mk (qK BK237.out hb)
          replace HB := y0.mk (y5 qb hb)
          (try clear hb)
          (try clear hb2)
          (try clear hk)
          (try clear hi)
          refine hK.out _ _ ⟨(y8 BK237.out 0).trans rfl,(y8 BK237.out 1).trans rfl,((HB.out.cell (World.block_lt_of_cell? w _ hw239_0)).trans hw239_0),((HB.out.cell (World.block_lt_of_cell? w _ hw240_0)).trans hw240_0)⟩ (fun hHeld => ?_)
          clear hK K
          refine norm_ (a' := ?_) ?_ ?_
          rotate_left
          ·show Act.put _ (some 37) _ = _
           simp only [Act.put,qS_,qZ_,qC_,y19,y18]
           rfl
          refine qp 17 38 (fl_ 38 262143) ?_
          refine qp 18 39 (fl_ 38 524287) ?_
          refine qp 19 40 (fl_ 38 1048575) ?_
          refine qp 20 41 (fl_ 38 2097151) ?_
          refine qp 21 42 (fl_ 38 4194303) ?_
          refine qp 22 43 (fl_ 38 8388607) ?_
          refine y20 (i := 23) (N := some 44) (v := undef) (a' := ?_) (fl_ 38 16777215) rfl rfl (y2 HT_.out (by kernel_rfl)) (fun _ _ _ h => h) (Or.inr ⟨by rfl,rfl⟩) ?_ ?_
          rotate_left
          ·simp only [Act.put,qS_,qZ_,qC_,y19,y18]
           rfl
          refine y20 (i := 24) (N := some 45) (v := undef) (a' := ?_) (fl_ 38 33554431) rfl rfl (y2 HT_.out (by kernel_rfl)) (fun _ _ _ h => h) (Or.inr ⟨by rfl,rfl⟩) ?_ ?_
          rotate_left
          ·simp only [Act.put,qS_,qZ_,qC_,y19,y18]
           rfl
          refine y20 (i := 25) (N := some 46) (v := undef) (a' := ?_) (fl_ 38 67108863) rfl rfl (y2 HT_.out (by kernel_rfl)) (fun _ _ _ h => h) (Or.inr ⟨by rfl,rfl⟩) ?_ ?_
          rotate_left
          ·simp only [Act.put,qS_,qZ_,qC_,y19,y18]
           rfl
          refine y20 (i := 26) (N := some 47) (v := undef) (a' := ?_) (fl_ 38 134217727) rfl rfl (y2 HT_.out (by kernel_rfl)) (fun _ _ _ h => h) (Or.inr ⟨by rfl,rfl⟩) ?_ ?_
          rotate_left
          ·simp only [Act.put,qS_,qZ_,qC_,y19,y18]
           rfl
          refine y20 (i := 27) (N := some 48) (v := undef) (a' := ?_) (fl_ 38 268435455) rfl rfl (y2 HT_.out (by kernel_rfl)) (fun _ _ _ h => h) (Or.inr ⟨by rfl,rfl⟩) ?_ ?_
          rotate_left
          ·simp only [Act.put,qS_,qZ_,qC_,y19,y18]
           rfl
          refine y20 (i := 28) (N := some 49) (v := undef) (a' := ?_) (fl_ 38 536870911) rfl rfl (y2 HT_.out (by kernel_rfl)) (fun _ _ _ h => h) (Or.inr ⟨by rfl,rfl⟩) ?_ ?_
          rotate_left
          ·simp only [Act.put,qS_,qZ_,qC_,y19,y18]
           rfl
          refine y20 (i := 29) (N := some 50) (v := undef) (a' := ?_) (fl_ 38 1073741823) rfl rfl (y2 HT_.out (by kernel_rfl)) (fun _ _ _ h => h) (Or.inr ⟨by rfl,rfl⟩) ?_ ?_
          rotate_left
          ·simp only [Act.put,qS_,qZ_,qC_,y19,y18]
           rfl
          refine y20 (i := 30) (N := some 51) (v := undef) (a' := ?_) (fl_ 38 2147483647) rfl rfl (y2 HT_.out (by kernel_rfl)) (fun _ _ _ h => h) (Or.inr ⟨by rfl,rfl⟩) ?_ ?_
          rotate_left
          ·simp only [Act.put,qS_,qZ_,qC_,y19,y18]
           rfl
          refine y20 (i := 31) (N := some 52) (v := undef) (a' := ?_) (fl_ 38 4294967295) rfl rfl (y2 HT_.out (by kernel_rfl)) (fun _ _ _ h => h) (Or.inr ⟨by rfl,rfl⟩) ?_ ?_
          rotate_left
          ·simp only [Act.put,qS_,qZ_,qC_,y19,y18]
           rfl
          refine y20 (i := 32) (N := some 53) (v := undef) (a' := ?_) (fl_ 38 8589934591) rfl rfl (y2 HT_.out (by kernel_rfl)) (fun _ _ _ h => h) (Or.inr ⟨by rfl,rfl⟩) ?_ ?_
          rotate_left
          ·simp only [Act.put,qS_,qZ_,qC_,y19,y18]
           rfl
          refine y20 (i := 33) (N := some 54) (v := undef) (a' := ?_) (fl_ 38 17179869183) rfl rfl (y2 HT_.out (by kernel_rfl)) (fun _ _ _ h => h) (Or.inr ⟨by rfl,rfl⟩) ?_ ?_
          rotate_left
          ·simp only [Act.put,qS_,qZ_,qC_,y19,y18]
           rfl
          refine y20 (i := 34) (N := some 55) (v := undef) (a' := ?_) (fl_ 38 34359738367) rfl rfl (y2 HT_.out (by kernel_rfl)) (fun _ _ _ h => h) (Or.inr ⟨by rfl,rfl⟩) ?_ ?_
          rotate_left
          ·simp only [Act.put,qS_,qZ_,qC_,y19,y18]
           rfl
          refine y20 (i := 35) (N := some 56) (v := undef) (a' := ?_) (fl_ 38 68719476735) rfl rfl (y2 HT_.out (by kernel_rfl)) (fun _ _ _ h => h) (Or.inr ⟨by rfl,rfl⟩) ?_ ?_
          rotate_left
          ·simp only [Act.put,qS_,qZ_,qC_,y19,y18]
           rfl
          refine qp 36 57 (fl_ 38 137438953471) ?_
          refine qp 37 58 (fl_ 38 274877906943) ?_
          refine done_ (done_of HT_.out (by kernel_rfl)) ?_
          try go_wp2
          go_roundg k2
          case measure => have := HJ1.out; have := HK2.out; omega
          exact ⟨(wrap64 (x3_2 + 1)),qy2,H',⟨by have := HJ1.out; have := HK2.out; omega⟩,⟨qk BK237.out⟩,⟨qb⟩⟩
        ·replace c13 := Bool.eq_false_iff.mpr c13
         subst c13
         replace H := qF H
         obtain rfl := Option.some.inj H
         obtain ⟨hcz31_0,hcz31_1,hfz31_0,hfz31_1⟩ := qz2 BK237.out
         try go_wp2
         replace BK237 := y0.mk (y9 BK237.out)
         replace HB := y0.mk (y3 HB.out)
         have p239 : 0 ≤ (x3_2 : Int) := of_decide_eq_true qy1
         have q239 : x3_2 < (l0_1.length : Int) := of_decide_eq_true qy1
         obtain ⟨ad239,A239_0,c239_0,e239,hx239_0,hl239_0,hi239_0⟩ := at_T48 HR0_1.out x3_2 p239 q239
         have hw239_0 := hx239_0
         cases e239
         replace hx239_0 := (HB.out.cell (World.block_lt_of_cell? w _ hx239_0)).trans hx239_0
         have HR239_0 := y0.mk hi239_0
         have HC239_0 := y0.mk hl239_0
         clear hi239_0 hl239_0
         replace p239 := eq_true p239
         replace q239 := eq_true q239
         have p240 : 0 ≤ (x3_2 : Int) := of_decide_eq_true qy1
         have q240 : x3_2 < (l0_1.length : Int) := of_decide_eq_true qy1
         obtain ⟨ad240,A240_0,c240_0,e240,hx240_0,hl240_0,hi240_0⟩ := at_T48 HR0_1.out x3_2 p240 q240
         have hw240_0 := hx240_0
         obtain rfl : ad239 = ad240 := (by injection e240)
         replace hx240_0 := (HB.out.cell (World.block_lt_of_cell? w _ hx240_0)).trans hx240_0
         have HR240_0 := y0.mk hi240_0
         have HC240_0 := y0.mk hl240_0
         clear hi240_0 hl240_0
         replace p240 := eq_true p240
         replace q240 := eq_true q240
         have ea_ := Option.some.inj (hx239_0.symm.trans hx240_0)
         injection ea_ with ea_ en_ ec_
         subst ea_
         subst ec_
         clear en_
         refine start_ (n := 38) (S := fun w' => w'.cell? ⟨gb237,0,none⟩ = some (.int .i64 a0_0) ∧ w'.cell? ⟨gb237,1,none⟩ = some (.slice (some ad239) l0_1.length c0_1) ∧ w'.cell? (ad239.add (x3_2).toNat) = some (.slice A239_0 ((y21 l0_1 x3_2).f0).length c239_0) ∧ w'.cell? (ad239.add (x3_2).toNat) = some (.slice A239_0 ((y21 l0_1 x3_2).f0).length c239_0)) (ds := []) (fl_ 38 0) (by kernel_rfl) rfl rfl ⟨(y8 BK237.out 0).trans rfl,(y8 BK237.out 1).trans rfl,((HB.out.cell (World.block_lt_of_cell? w _ hw239_0)).trans hw239_0),((HB.out.cell (World.block_lt_of_cell? w _ hw240_0)).trans hw240_0)⟩ (fun hHeld => ?_); refine with_tabW spec_RelOk.tab6 spec_RelOk.bits6 (fun HT_ HW_ => ?_)
         generalize wr.drew = w32 at BK237 HB HR239_0 HR240_0 hx239_0 hx240_0 hHeld ⊢
         refine qp 0 21 (fl_ 38 1) ?_
         refine qp 2 23 (fl_ 38 5) ?_
         refine qp 7 28 (fl_ 38 133) ?_
         refine qt 1 22 (fl_ 38 135) hHeld ?_
         refine qp 3 24 (fl_ 38 143) ?_
         refine qp 4 25 (fl_ 38 159) ?_
         refine qt 5 26 (fl_ 38 191) hHeld ?_
         refine qp 6 27 (fl_ 38 255) ?_
         refine qt 8 29 (fl_ 38 511) hHeld ?_
         refine qp 9 30 (fl_ 38 1023) ?_
         refine qp 10 31 (fl_ 38 2047) ?_
         refine qp 11 32 (fl_ 38 4095) ?_
         refine qp 13 34 (fl_ 38 12287) ?_
         refine qt 12 33 (fl_ 38 16383) hHeld ?_
         refine qp 14 35 (fl_ 38 32767) ?_
         refine qt 15 36 (fl_ 38 65535) hHeld ?_
         refine one_ (i := 16) (N := some 37) (fl_ 38 131071) rfl rfl (one_of HT_.out (by kernel_rfl)) (by decide) (fun K hK => ?_)
         refine goes_ Tryz.func50 (by kernel_rfl) rfl #[.agg #[.slice A239_0 ((y21 l0_1 x3_2).f0).length c239_0]] (by rfl) rfl rfl qy0 ?_
         with_reducible refine (spec_TupleOk.calls k2 _ _ ((y21 l0_1 x3_2).f0) false _ (qc (Kd.C_below HR240_0.out HB.out)) HC240_0.out A12.out).mono ?_
         rintro e w33 ⟨rfl,hb⟩
         refine ⟨_,rfl, ?_⟩
         replace BK237 := y0.mk (qK BK237.out hb)
         replace HB := y0.mk (y5 qb hb)
         (try clear hb)
         (try clear hb2)
         (try clear hk)
         (try clear hi)
         refine hK.out _ _ ⟨(y8 BK237.out 0).trans rfl,(y8 BK237.out 1).trans rfl,((HB.out.cell (World.block_lt_of_cell? w _ hw239_0)).trans hw239_0),((HB.out.cell (World.block_lt_of_cell? w _ hw240_0)).trans hw240_0)⟩ (fun hHeld => ?_)
         clear hK K
         refine norm_ (a' := ?_) ?_ ?_
         rotate_left
         ·show Act.put _ (some 37) _ = _
          simp only [Act.put,qS_,qZ_,qC_,y19,y18]
          rfl
         refine qp 17 38 (fl_ 38 262143) ?_
         refine qp 18 39 (fl_ 38 524287) ?_
         refine qp 19 40 (fl_ 38 1048575) ?_
         refine y20 (i := 20) (N := some 41) (v := undef) (a' := ?_) (fl_ 38 2097151) rfl rfl (y2 HT_.out (by kernel_rfl)) (fun _ _ _ h => h) (Or.inr ⟨by rfl,rfl⟩) ?_ ?_
         rotate_left
         ·simp only [Act.put,qS_,qZ_,qC_,y19,y18]
          rfl
         refine y20 (i := 21) (N := some 42) (v := undef) (a' := ?_) (fl_ 38 4194303) rfl rfl (y2 HT_.out (by kernel_rfl)) (fun _ _ _ h => h) (Or.inr ⟨by rfl,rfl⟩) ?_ ?_
         rotate_left
         ·simp only [Act.put,qS_,qZ_,qC_,y19,y18]
          rfl
         refine y20 (i := 22) (N := some 43) (v := undef) (a' := ?_) (fl_ 38 8388607) rfl rfl (y2 HT_.out (by kernel_rfl)) (fun _ _ _ h => h) (Or.inr ⟨by rfl,rfl⟩) ?_ ?_
         rotate_left
         ·simp only [Act.put,qS_,qZ_,qC_,y19,y18]
          rfl
         refine y20 (i := 23) (N := some 44) (v := undef) (a' := ?_) (fl_ 38 16777215) rfl rfl (y2 HT_.out (by kernel_rfl)) (fun _ _ _ h => h) (Or.inr ⟨by rfl,rfl⟩) ?_ ?_
         rotate_left
         ·simp only [Act.put,qS_,qZ_,qC_,y19,y18]
          rfl
         refine y20 (i := 24) (N := some 45) (v := undef) (a' := ?_) (fl_ 38 33554431) rfl rfl (y2 HT_.out (by kernel_rfl)) (fun _ _ _ h => h) (Or.inr ⟨by rfl,rfl⟩) ?_ ?_
         rotate_left
         ·simp only [Act.put,qS_,qZ_,qC_,y19,y18]
          rfl
         refine y20 (i := 25) (N := some 46) (v := undef) (a' := ?_) (fl_ 38 67108863) rfl rfl (y2 HT_.out (by kernel_rfl)) (fun _ _ _ h => h) (Or.inr ⟨by rfl,rfl⟩) ?_ ?_
         rotate_left
         ·simp only [Act.put,qS_,qZ_,qC_,y19,y18]
          rfl
         refine y20 (i := 26) (N := some 47) (v := undef) (a' := ?_) (fl_ 38 134217727) rfl rfl (y2 HT_.out (by kernel_rfl)) (fun _ _ _ h => h) (Or.inr ⟨by rfl,rfl⟩) ?_ ?_
         rotate_left
         ·simp only [Act.put,qS_,qZ_,qC_,y19,y18]
          rfl
         refine y20 (i := 27) (N := some 48) (v := undef) (a' := ?_) (fl_ 38 268435455) rfl rfl (y2 HT_.out (by kernel_rfl)) (fun _ _ _ h => h) (Or.inr ⟨by rfl,rfl⟩) ?_ ?_
         rotate_left
         ·simp only [Act.put,qS_,qZ_,qC_,y19,y18]
          rfl
         refine y20 (i := 28) (N := some 49) (v := undef) (a' := ?_) (fl_ 38 536870911) rfl rfl (y2 HT_.out (by kernel_rfl)) (fun _ _ _ h => h) (Or.inr ⟨by rfl,rfl⟩) ?_ ?_
         rotate_left
         ·simp only [Act.put,qS_,qZ_,qC_,y19,y18]
          rfl
         refine y20 (i := 29) (N := some 50) (v := undef) (a' := ?_) (fl_ 38 1073741823) rfl rfl (y2 HT_.out (by kernel_rfl)) (fun _ _ _ h => h) (Or.inr ⟨by rfl,rfl⟩) ?_ ?_
         rotate_left
         ·simp only [Act.put,qS_,qZ_,qC_,y19,y18]
          rfl
         refine y20 (i := 30) (N := some 51) (v := undef) (a' := ?_) (fl_ 38 2147483647) rfl rfl (y2 HT_.out (by kernel_rfl)) (fun _ _ _ h => h) (Or.inr ⟨by rfl,rfl⟩) ?_ ?_
         rotate_left
         ·simp only [Act.put,qS_,qZ_,qC_,y19,y18]
          rfl
         refine y20 (i := 31) (N := some 52) (v := undef) (a' := ?_) (fl_ 38 4294967295) rfl rfl (y2 HT_.out (by kernel_rfl)) (fun _ _ _ h => h) (Or.inr ⟨by rfl,rfl⟩) ?_ ?_
         rotate_left
         ·simp only [Act.put,qS_,qZ_,qC_,y19,y18]
          rfl
         refine y20 (i := 32) (N := some 53) (v := undef) (a' := ?_) (fl_ 38 8589934591) rfl rfl (y2 HT_.out (by kernel_rfl)) (fun _ _ _ h => h) (Or.inr ⟨by rfl,rfl⟩) ?_ ?_
         rotate_left
         ·simp only [Act.put,qS_,qZ_,qC_,y19,y18]
          rfl
         refine y20 (i := 33) (N := some 54) (v := undef) (a' := ?_) (fl_ 38 17179869183) rfl rfl (y2 HT_.out (by kernel_rfl)) (fun _ _ _ h => h) (Or.inr ⟨by rfl,rfl⟩) ?_ ?_
         rotate_left
         ·simp only [Act.put,qS_,qZ_,qC_,y19,y18]
          rfl
         refine y20 (i := 34) (N := some 55) (v := undef) (a' := ?_) (fl_ 38 34359738367) rfl rfl (y2 HT_.out (by kernel_rfl)) (fun _ _ _ h => h) (Or.inr ⟨by rfl,rfl⟩) ?_ ?_
         rotate_left
         ·simp only [Act.put,qS_,qZ_,qC_,y19,y18]
          rfl
         refine y20 (i := 35) (N := some 56) (v := undef) (a' := ?_) (fl_ 38 68719476735) rfl rfl (y2 HT_.out (by kernel_rfl)) (fun _ _ _ h => h) (Or.inr ⟨by rfl,rfl⟩) ?_ ?_
         rotate_left
         ·simp only [Act.put,qS_,qZ_,qC_,y19,y18]
          rfl
         refine y20 (i := 36) (N := some 57) (v := undef) (a' := ?_) (fl_ 38 137438953471) rfl rfl (y2 HT_.out (by kernel_rfl)) (fun _ _ _ h => h) (Or.inr ⟨by rfl,rfl⟩) ?_ ?_
         rotate_left
         ·simp only [Act.put,qS_,qZ_,qC_,y19,y18]
          rfl
         refine qp 37 58 (fl_ 38 274877906943) ?_
         refine done_ (done_of HT_.out (by kernel_rfl)) ?_
         try go_wp2
         go_ret
         exact ⟨by first | rfl | (simp [y13,y14] <;> rfl) | (simp [*,y13,y14] <;> rfl),qb⟩
       ·as_aux_lemma =>
        rw [if_neg c11] at H
        have c11b0 : ((((y21 l0_1 x3_2).f0).length : Int) == a0_0) = false := beq_eq_false_iff_ne.mpr c11
        have c11b1 : ((((y21 l0_1 x3_2).f0).length : Int) != a0_0) = true := bne_iff_ne.mpr c11
        obtain rfl := Option.some.inj H
        obtain ⟨hcz34_0,hcz34_1,hfz34_0,hfz34_1⟩ := qz2 BK237.out
        try go_wp2
        replace BK237 := y0.mk (y9 BK237.out)
        replace HB := y0.mk (y3 HB.out)
        have p239 : 0 ≤ (x3_2 : Int) := of_decide_eq_true qy1
        have q239 : x3_2 < (l0_1.length : Int) := of_decide_eq_true qy1
        obtain ⟨ad239,A239_0,c239_0,e239,hx239_0,hl239_0,hi239_0⟩ := at_T48 HR0_1.out x3_2 p239 q239
        have hw239_0 := hx239_0
        cases e239
        replace hx239_0 := (HB.out.cell (World.block_lt_of_cell? w _ hx239_0)).trans hx239_0
        have HR239_0 := y0.mk hi239_0
        have HC239_0 := y0.mk hl239_0
        clear hi239_0 hl239_0
        replace p239 := eq_true p239
        replace q239 := eq_true q239
        refine start_ (n := 38) (S := fun w' => w'.cell? ⟨gb237,0,none⟩ = some (.int .i64 a0_0) ∧ w'.cell? ⟨gb237,1,none⟩ = some (.slice (some ad239) l0_1.length c0_1) ∧ w'.cell? (ad239.add (x3_2).toNat) = some (.slice A239_0 ((y21 l0_1 x3_2).f0).length c239_0)) (ds := []) (fl_ 38 0) (by kernel_rfl) rfl rfl ⟨(y8 BK237.out 0).trans rfl,(y8 BK237.out 1).trans rfl,((HB.out.cell (World.block_lt_of_cell? w _ hw239_0)).trans hw239_0)⟩ (fun hHeld => ?_); refine with_tabW spec_RelOk.tab6 spec_RelOk.bits6 (fun HT_ HW_ => ?_)
        generalize wr.drew = w35 at BK237 HB HR239_0 hx239_0 hHeld ⊢
        refine qp 0 21 (fl_ 38 1) ?_
        refine qp 2 23 (fl_ 38 5) ?_
        refine qp 7 28 (fl_ 38 133) ?_
        refine qt 1 22 (fl_ 38 135) hHeld ?_
        refine qp 3 24 (fl_ 38 143) ?_
        refine qp 4 25 (fl_ 38 159) ?_
        refine qt 5 26 (fl_ 38 191) hHeld ?_
        refine qp 6 27 (fl_ 38 255) ?_
        refine qt 8 29 (fl_ 38 511) hHeld ?_
        refine qp 9 30 (fl_ 38 1023) ?_
        refine qp 10 31 (fl_ 38 2047) ?_
        refine y20 (i := 11) (N := some 32) (v := undef) (a' := ?_) (fl_ 38 4095) rfl rfl (y2 HT_.out (by kernel_rfl)) (fun _ _ _ h => h) (Or.inr ⟨by rfl,rfl⟩) ?_ ?_
        rotate_left
        ·simp only [Act.put,qS_,qZ_,qC_,y19,y18]
         rfl
        refine y20 (i := 12) (N := some 33) (v := undef) (a' := ?_) (fl_ 38 8191) rfl rfl (y2 HT_.out (by kernel_rfl)) (fun _ _ _ h => h) (Or.inr ⟨by rfl,rfl⟩) ?_ ?_
        rotate_left
        ·simp only [Act.put,qS_,qZ_,qC_,y19,y18]
         rfl
        refine y20 (i := 13) (N := some 34) (v := undef) (a' := ?_) (fl_ 38 16383) rfl rfl (y2 HT_.out (by kernel_rfl)) (fun _ _ _ h => h) (Or.inr ⟨by rfl,rfl⟩) ?_ ?_
        rotate_left
        ·simp only [Act.put,qS_,qZ_,qC_,y19,y18]
         rfl
        refine y20 (i := 14) (N := some 35) (v := undef) (a' := ?_) (fl_ 38 32767) rfl rfl (y2 HT_.out (by kernel_rfl)) (fun _ _ _ h => h) (Or.inr ⟨by rfl,rfl⟩) ?_ ?_
        rotate_left
        ·simp only [Act.put,qS_,qZ_,qC_,y19,y18]
         rfl
        refine y20 (i := 15) (N := some 36) (v := undef) (a' := ?_) (fl_ 38 65535) rfl rfl (y2 HT_.out (by kernel_rfl)) (fun _ _ _ h => h) (Or.inr ⟨by rfl,rfl⟩) ?_ ?_
        rotate_left
        ·simp only [Act.put,qS_,qZ_,qC_,y19,y18]
         rfl
        refine y20 (i := 16) (N := some 37) (v := undef) (a' := ?_) (fl_ 38 131071) rfl rfl (y2 HT_.out (by kernel_rfl)) (fun _ _ _ h => h) (Or.inr ⟨by rfl,rfl⟩) ?_ ?_
        rotate_left
        ·simp only [Act.put,qS_,qZ_,qC_,y19,y18]
         rfl
        refine y20 (i := 17) (N := some 38) (v := undef) (a' := ?_) (fl_ 38 262143) rfl rfl (y2 HT_.out (by kernel_rfl)) (fun _ _ _ h => h) (Or.inr ⟨by rfl,rfl⟩) ?_ ?_
        rotate_left
        ·simp only [Act.put,qS_,qZ_,qC_,y19,y18]
         rfl
        refine qp 18 39 (fl_ 38 524287) ?_
        refine qp 19 40 (fl_ 38 1048575) ?_
        refine y20 (i := 20) (N := some 41) (v := undef) (a' := ?_) (fl_ 38 2097151) rfl rfl (y2 HT_.out (by kernel_rfl)) (fun _ _ _ h => h) (Or.inr ⟨by rfl,rfl⟩) ?_ ?_
        rotate_left
        ·simp only [Act.put,qS_,qZ_,qC_,y19,y18]
         rfl
        refine y20 (i := 21) (N := some 42) (v := undef) (a' := ?_) (fl_ 38 4194303) rfl rfl (y2 HT_.out (by kernel_rfl)) (fun _ _ _ h => h) (Or.inr ⟨by rfl,rfl⟩) ?_ ?_
        rotate_left
        ·simp only [Act.put,qS_,qZ_,qC_,y19,y18]
         rfl
        refine y20 (i := 22) (N := some 43) (v := undef) (a' := ?_) (fl_ 38 8388607) rfl rfl (y2 HT_.out (by kernel_rfl)) (fun _ _ _ h => h) (Or.inr ⟨by rfl,rfl⟩) ?_ ?_
        rotate_left
        ·simp only [Act.put,qS_,qZ_,qC_,y19,y18]
         rfl
        refine y20 (i := 23) (N := some 44) (v := undef) (a' := ?_) (fl_ 38 16777215) rfl rfl (y2 HT_.out (by kernel_rfl)) (fun _ _ _ h => h) (Or.inr ⟨by rfl,rfl⟩) ?_ ?_
        rotate_left
        ·simp only [Act.put,qS_,qZ_,qC_,y19,y18]
         rfl
        refine y20 (i := 24) (N := some 45) (v := undef) (a' := ?_) (fl_ 38 33554431) rfl rfl (y2 HT_.out (by kernel_rfl)) (fun _ _ _ h => h) (Or.inr ⟨by rfl,rfl⟩) ?_ ?_
        rotate_left
        ·simp only [Act.put,qS_,qZ_,qC_,y19,y18]
         rfl
        refine y20 (i := 25) (N := some 46) (v := undef) (a' := ?_) (fl_ 38 67108863) rfl rfl (y2 HT_.out (by kernel_rfl)) (fun _ _ _ h => h) (Or.inr ⟨by rfl,rfl⟩) ?_ ?_
        rotate_left
        ·simp only [Act.put,qS_,qZ_,qC_,y19,y18]
         rfl
        refine y20 (i := 26) (N := some 47) (v := undef) (a' := ?_) (fl_ 38 134217727) rfl rfl (y2 HT_.out (by kernel_rfl)) (fun _ _ _ h => h) (Or.inr ⟨by rfl,rfl⟩) ?_ ?_
        rotate_left
        ·simp only [Act.put,qS_,qZ_,qC_,y19,y18]
         rfl
        refine y20 (i := 27) (N := some 48) (v := undef) (a' := ?_) (fl_ 38 268435455) rfl rfl (y2 HT_.out (by kernel_rfl)) (fun _ _ _ h => h) (Or.inr ⟨by rfl,rfl⟩) ?_ ?_
        rotate_left
        ·simp only [Act.put,qS_,qZ_,qC_,y19,y18]
         rfl
        refine y20 (i := 28) (N := some 49) (v := undef) (a' := ?_) (fl_ 38 536870911) rfl rfl (y2 HT_.out (by kernel_rfl)) (fun _ _ _ h => h) (Or.inr ⟨by rfl,rfl⟩) ?_ ?_
        rotate_left
        ·simp only [Act.put,qS_,qZ_,qC_,y19,y18]
         rfl
        refine y20 (i := 29) (N := some 50) (v := undef) (a' := ?_) (fl_ 38 1073741823) rfl rfl (y2 HT_.out (by kernel_rfl)) (fun _ _ _ h => h) (Or.inr ⟨by rfl,rfl⟩) ?_ ?_
        rotate_left
        ·simp only [Act.put,qS_,qZ_,qC_,y19,y18]
         rfl
        refine y20 (i := 30) (N := some 51) (v := undef) (a' := ?_) (fl_ 38 2147483647) rfl rfl (y2 HT_.out (by kernel_rfl)) (fun _ _ _ h => h) (Or.inr ⟨by rfl,rfl⟩) ?_ ?_
        rotate_left
        ·simp only [Act.put,qS_,qZ_,qC_,y19,y18]
         rfl
        refine y20 (i := 31) (N := some 52) (v := undef) (a' := ?_) (fl_ 38 4294967295) rfl rfl (y2 HT_.out (by kernel_rfl)) (fun _ _ _ h => h) (Or.inr ⟨by rfl,rfl⟩) ?_ ?_
        rotate_left
        ·simp only [Act.put,qS_,qZ_,qC_,y19,y18]
         rfl
        refine y20 (i := 32) (N := some 53) (v := undef) (a' := ?_) (fl_ 38 8589934591) rfl rfl (y2 HT_.out (by kernel_rfl)) (fun _ _ _ h => h) (Or.inr ⟨by rfl,rfl⟩) ?_ ?_
        rotate_left
        ·simp only [Act.put,qS_,qZ_,qC_,y19,y18]
         rfl
        refine y20 (i := 33) (N := some 54) (v := undef) (a' := ?_) (fl_ 38 17179869183) rfl rfl (y2 HT_.out (by kernel_rfl)) (fun _ _ _ h => h) (Or.inr ⟨by rfl,rfl⟩) ?_ ?_
        rotate_left
        ·simp only [Act.put,qS_,qZ_,qC_,y19,y18]
         rfl
        refine y20 (i := 34) (N := some 55) (v := undef) (a' := ?_) (fl_ 38 34359738367) rfl rfl (y2 HT_.out (by kernel_rfl)) (fun _ _ _ h => h) (Or.inr ⟨by rfl,rfl⟩) ?_ ?_
        rotate_left
        ·simp only [Act.put,qS_,qZ_,qC_,y19,y18]
         rfl
        refine y20 (i := 35) (N := some 56) (v := undef) (a' := ?_) (fl_ 38 68719476735) rfl rfl (y2 HT_.out (by kernel_rfl)) (fun _ _ _ h => h) (Or.inr ⟨by rfl,rfl⟩) ?_ ?_
        rotate_left
        ·simp only [Act.put,qS_,qZ_,qC_,y19,y18]
         rfl
        refine y20 (i := 36) (N := some 57) (v := undef) (a' := ?_) (fl_ 38 137438953471) rfl rfl (y2 HT_.out (by kernel_rfl)) (fun _ _ _ h => h) (Or.inr ⟨by rfl,rfl⟩) ?_ ?_
        rotate_left
        ·simp only [Act.put,qS_,qZ_,qC_,y19,y18]
         rfl
        refine qp 37 58 (fl_ 38 274877906943) ?_
        refine done_ (done_of HT_.out (by kernel_rfl)) ?_
        try go_wp2
        go_ret
        exact ⟨by first | rfl | (simp [y13,y14] <;> rfl) | (simp [*,y13,y14] <;> rfl),qb⟩
      ·as_aux_lemma =>
       rw [if_neg c9] at H
       have c9b0 := decide_eq_false c9
       clear c9
       obtain rfl := Option.some.inj H
       obtain ⟨hcz36_0,hcz36_1,hfz36_0,hfz36_1⟩ := qz2 BK237.out
       go_wp2
       go_ret
       exact ⟨by first | rfl | (simp [y13,y14] <;> rfl) | (simp [*,y13,y14] <;> rfl),qb⟩
end Go.Proofs.YtocmfolajckaeaaGreatDoor.Pe
end
section
namespace Go.Proofs.YtocmfolajckaeaaGreatDoor.Pe
open Go.RowKit Go.Proofs.YtocmfolajckaeaaGreatDoorW.PrintWords Go.Proofs.YtocmfolajckaeaaGreatDoorW.PrintLast Go.Proofs.YtocmfolajckaeaaGreatDoorW.PrintMore
attribute [local go_sem] max2_int min2_int max_two min_two max_three min_three max_four min_four   -- for this text's walks alone
set_option linter.unusedVariables false
set_option linter.unusedSimpArgs false
def spec_l02Same.l0 : Nat → Int → List ByteArray → List ByteArray → Option (Bool)
 | 0,_,_,_ => none
 | k + 1,x5,x246000,x247000 => if x5 < (x246000.length : Int) then (if 0 ≤ x5 then (if x5 < (x247000.length : Int) then (if (rdOf ByteArray.empty x246000 x5).toList = (rdOf ByteArray.empty x247000 x5).toList then (spec_l02Same.l0 k (wrap64 (x5 + 1)) x246000 x247000) else (some false)) else (none)) else (none)) else (some true)
def spec_l02Same.f (k : Nat) (l0_0 : List ByteArray) (l1_0 : List ByteArray) : Option (Bool) := if (l0_0.length : Int) = (l1_0.length : Int) then (spec_l02Same.l0 k 0 l0_0 l1_0) else (some false)
set_option maxHeartbeats 8000000 in
set_option maxRecDepth 100000 in
theorem spec_l02Same.calls (k : Nat) (A0_0 : Option Addr) (c0_0 : Nat) (l0_0 : List ByteArray) (A1_0 : Option Addr) (c1_0 : Nat) (l1_0 : List ByteArray) (r : Bool) (w : World) (hr0_0 : Kd.C Kd.string w A0_0 l0_0.length l0_0) (hc0_0 : l0_0.length ≤ c0_0) (hr1_0 : Kd.C Kd.string w A1_0 l1_0.length l1_0) (hc1_0 : l1_0.length ≤ c1_0) (h : spec_l02Same.f k l0_0 l1_0 = some r) :
  Calls Tryz.prog 34 #[.agg #[.slice A0_0 l0_0.length c0_0],.agg #[.slice A1_0 l1_0.length c1_0]] w fun e w' => e = .returned (.bool r) ∧ Below w.heap.size w w' := by
 have hu48 := Tryz.underlying48
 have HR0_0 := y0.mk hr0_0
 have HC0_0 := y0.mk hc0_0
 clear hr0_0 hc0_0
 have HR1_0 := y0.mk hr1_0
 have HC1_0 := y0.mk hc1_0
 clear hr1_0 hc1_0
 have HB := y0.mk (Below.refl w.heap.size w)
 have H : (if (l0_0.length : Int) = (l1_0.length : Int) then (spec_l02Same.l0 k 0 l0_0 l1_0) else (some false)) = some r := h
 clear h
 by_cases c3 : (l0_0.length : Int) = (l1_0.length : Int)
 ·rw [if_pos c3] at H
  have c3b0 : ((l0_0.length : Int) == (l1_0.length : Int)) = true := beq_iff_eq.mpr c3
  have c3b1 : ((l0_0.length : Int) != (l1_0.length : Int)) = false := bne_eq_false_iff_eq.mpr c3
  have c3b2 : (l0_0.length == l1_0.length) = true := by first | simpa using c3 | (simp at c3 ⊢; omega)
  clear c3
  have H' := y0.mk H
  clear H
  go_enter Tryz.func34,Tryz.ntmps34
  go_wp2_with (first | ((with_reducible refine y16 (N := 2) rfl ?_); refine qe 2 #[.slice A0_0 l0_0.length c0_0] 48 ?_; intro gb245 hg w4 hbox hb; have BK245 := y0.mk (hbox); have GW245 := y0.mk (qg (w := w) hg); have GE245 := y0.mk (qg (w := w) hg); replace HB := y0.mk (y5 qb hb); clear hb hbox hg) | ((with_reducible refine y16 (N := 3) rfl ?_); refine qe 3 #[.slice A1_0 l1_0.length c1_0] 48 ?_; intro gb246 hg w5 hbox hb; have BK246 := y0.mk (hbox); have GW246 := y0.mk (qg (w := w) hg); have GE246 := y0.mk (qg (w := w) hg); replace HB := y0.mk (y5 qb hb); have NB245_246 := y0.mk (qn BK245.out hg); have NB246_245 := y0.mk (qm BK245.out hg); replace BK245 := y0.mk (qK BK245.out hb); clear hb hbox hg; have hnb6 := NB245_246.out; have hnc6 := NB246_245.out; obtain ⟨hcz7_0,hfz7_0⟩ := qz1 BK245.out; obtain ⟨hcz8_0,hfz8_0⟩ := qz1 BK246.out))
  repeat (go_quiet (first | ((with_reducible refine y16 (N := 2) rfl ?_); refine qe 2 #[.slice A0_0 l0_0.length c0_0] 48 ?_; intro gb245 hg w4 hbox hb; have BK245 := y0.mk (hbox); have GW245 := y0.mk (qg (w := w) hg); have GE245 := y0.mk (qg (w := w) hg); replace HB := y0.mk (y5 qb hb); clear hb hbox hg) | ((with_reducible refine y16 (N := 3) rfl ?_); refine qe 3 #[.slice A1_0 l1_0.length c1_0] 48 ?_; intro gb246 hg w5 hbox hb; have BK246 := y0.mk (hbox); have GW246 := y0.mk (qg (w := w) hg); have GE246 := y0.mk (qg (w := w) hg); replace HB := y0.mk (y5 qb hb); have NB245_246 := y0.mk (qn BK245.out hg); have NB246_245 := y0.mk (qm BK245.out hg); replace BK245 := y0.mk (qK BK245.out hb); clear hb hbox hg; have hnb6 := NB245_246.out; have hnc6 := NB246_245.out; obtain ⟨hcz7_0,hfz7_0⟩ := qz1 BK245.out; obtain ⟨hcz8_0,hfz8_0⟩ := qz1 BK246.out)); try go_wp2_with (first | ((with_reducible refine y16 (N := 2) rfl ?_); refine qe 2 #[.slice A0_0 l0_0.length c0_0] 48 ?_; intro gb245 hg w4 hbox hb; have BK245 := y0.mk (hbox); have GW245 := y0.mk (qg (w := w) hg); have GE245 := y0.mk (qg (w := w) hg); replace HB := y0.mk (y5 qb hb); clear hb hbox hg) | ((with_reducible refine y16 (N := 3) rfl ?_); refine qe 3 #[.slice A1_0 l1_0.length c1_0] 48 ?_; intro gb246 hg w5 hbox hb; have BK246 := y0.mk (hbox); have GW246 := y0.mk (qg (w := w) hg); have GE246 := y0.mk (qg (w := w) hg); replace HB := y0.mk (y5 qb hb); have NB245_246 := y0.mk (qn BK245.out hg); have NB246_245 := y0.mk (qm BK245.out hg); replace BK245 := y0.mk (qK BK245.out hb); clear hb hbox hg; have hnb6 := NB245_246.out; have hnc6 := NB246_245.out; obtain ⟨hcz7_0,hfz7_0⟩ := qz1 BK245.out; obtain ⟨hcz8_0,hfz8_0⟩ := qz1 BK246.out)))
  go_loopg [5] k (fun kq v5 w' => ∃ (x5_1 : Int),v5 = .int .i64 x5_1 ∧ y0 (spec_l02Same.l0 kq x5_1 l0_0 l1_0 = some r) ∧ y0 (kq ≤ k) ∧ y0 (w'.heap[gb245]? = some (.cells #[(.slice A0_0 l0_0.length c0_0)] 48 (0,0))) ∧ y0 (w'.heap[gb246]? = some (.cells #[(.slice A1_0 l1_0.length c1_0)] 48 (0,0))) ∧ y0 (Below w.heap.size w w'))
  case atStart => exact ⟨(0),qy2,H',⟨Nat.le_refl _⟩,⟨qk BK245.out⟩,⟨qk BK246.out⟩,⟨qb⟩⟩
  case round =>
   clear H'
   (try clear c3b0 c3b1 c3b2 hcz7_0 hcz8_0 hfz7_0 hfz8_0)
   obtain ⟨x5_1,rfl,HA,HK1,BK245,BK246,HB⟩ := hrel
   cases gk with
   | zero => exact absurd HA.out (by simp [spec_l02Same.l0])
   | succ k1 =>
    have H := HA.out
    clear HA
    simp only [spec_l02Same.l0] at H
    by_cases c9 : x5_1 < (l0_0.length : Int)
    ·rw [if_pos c9] at H
     have c9b0 := decide_eq_true c9
     clear c9
     obtain ⟨c10,H⟩ := qo H
     have c10b0 : decide (0 ≤ x5_1) = true := decide_eq_true c10
     clear c10
     obtain ⟨c11,H⟩ := qo H
     have c11b0 : decide (x5_1 < (l1_0.length : Int)) = true := decide_eq_true c11
     clear c11
     by_cases c12 : (rdOf ByteArray.empty l0_0 x5_1).toList = (rdOf ByteArray.empty l1_0 x5_1).toList
     ·rw [if_pos c12] at H
      have c12b0 : ((rdOf ByteArray.empty l0_0 x5_1).toList == (rdOf ByteArray.empty l1_0 x5_1).toList) = true := beq_iff_eq.mpr c12
      have c12b1 : ((rdOf ByteArray.empty l0_0 x5_1).toList != (rdOf ByteArray.empty l1_0 x5_1).toList) = false := bne_eq_false_iff_eq.mpr c12
      clear c12
      have H' := y0.mk H
      clear H
      have hnb13 := NB245_246.out
      have hnc13 := NB246_245.out
      obtain ⟨hcz14_0,hfz14_0⟩ := qz1 BK245.out
      have p247 : 0 ≤ (x5_1 : Int) := of_decide_eq_true qy1
      have q247 : x5_1 < (l0_0.length : Int) := of_decide_eq_true qy1
      obtain ⟨ad247,e247,hx247_0⟩ := Kd.at_string HR0_0.out x5_1 p247 q247
      cases e247
      replace hx247_0 := (HB.out.cell (World.block_lt_of_cell? w _ hx247_0)).trans hx247_0
      replace p247 := eq_true p247
      replace q247 := eq_true q247
      obtain ⟨hcz15_0,hfz15_0⟩ := qz1 BK246.out
      have p248 : 0 ≤ (x5_1 : Int) := of_decide_eq_true qy1
      have q248 : x5_1 < (l1_0.length : Int) := of_decide_eq_true qy1
      obtain ⟨ad248,e248,hx248_0⟩ := Kd.at_string HR1_0.out x5_1 p248 q248
      cases e248
      replace hx248_0 := (HB.out.cell (World.block_lt_of_cell? w _ hx248_0)).trans hx248_0
      replace p248 := eq_true p248
      replace q248 := eq_true q248
      go_wp2
      repeat (go_quiet (fail); try go_wp2)
      go_roundg k1
      case measure => have := HK1.out; omega
      exact ⟨(wrap64 (x5_1 + 1)),qy2,H',⟨by have := HK1.out; omega⟩,⟨qk BK245.out⟩,⟨qk BK246.out⟩,⟨qb⟩⟩
     ·rw [if_neg c12] at H
      have c12b0 : ((rdOf ByteArray.empty l0_0 x5_1).toList == (rdOf ByteArray.empty l1_0 x5_1).toList) = false := beq_eq_false_iff_ne.mpr c12
      have c12b1 : ((rdOf ByteArray.empty l0_0 x5_1).toList != (rdOf ByteArray.empty l1_0 x5_1).toList) = true := bne_iff_ne.mpr c12
      obtain rfl := Option.some.inj H
      have hnb16 := NB245_246.out
      have hnc16 := NB246_245.out
      obtain ⟨hcz17_0,hfz17_0⟩ := qz1 BK245.out
      have p247 : 0 ≤ (x5_1 : Int) := of_decide_eq_true qy1
      have q247 : x5_1 < (l0_0.length : Int) := of_decide_eq_true qy1
      obtain ⟨ad247,e247,hx247_0⟩ := Kd.at_string HR0_0.out x5_1 p247 q247
      cases e247
      replace hx247_0 := (HB.out.cell (World.block_lt_of_cell? w _ hx247_0)).trans hx247_0
      replace p247 := eq_true p247
      replace q247 := eq_true q247
      obtain ⟨hcz18_0,hfz18_0⟩ := qz1 BK246.out
      have p248 : 0 ≤ (x5_1 : Int) := of_decide_eq_true qy1
      have q248 : x5_1 < (l1_0.length : Int) := of_decide_eq_true qy1
      obtain ⟨ad248,e248,hx248_0⟩ := Kd.at_string HR1_0.out x5_1 p248 q248
      cases e248
      replace hx248_0 := (HB.out.cell (World.block_lt_of_cell? w _ hx248_0)).trans hx248_0
      replace p248 := eq_true p248
      replace q248 := eq_true q248
      go_wp2
      repeat (go_quiet (fail); try go_wp2)
      go_ret
      exact ⟨by first | rfl | (simp [y13,y14] <;> rfl) | (simp [*,y13,y14] <;> rfl),qb⟩
    ·rw [if_neg c9] at H
     have c9b0 := decide_eq_false c9
     clear c9
     obtain rfl := Option.some.inj H
     have hnb19 := NB245_246.out
     have hnc19 := NB246_245.out
     obtain ⟨hcz20_0,hfz20_0⟩ := qz1 BK245.out
     go_wp2
     repeat (go_quiet (fail); try go_wp2)
     go_ret
     exact ⟨by first | rfl | (simp [y13,y14] <;> rfl) | (simp [*,y13,y14] <;> rfl),qb⟩
 ·rw [if_neg c3] at H
  have c3b0 : ((l0_0.length : Int) == (l1_0.length : Int)) = false := beq_eq_false_iff_ne.mpr c3
  have c3b1 : ((l0_0.length : Int) != (l1_0.length : Int)) = true := bne_iff_ne.mpr c3
  have c3b2 : (l0_0.length == l1_0.length) = false := by first | simpa using c3 | (simp at c3 ⊢; omega)
  obtain rfl := Option.some.inj H
  go_enter Tryz.func34,Tryz.ntmps34
  go_wp2_with (first | ((with_reducible refine y16 (N := 2) rfl ?_); refine qe 2 #[.slice A0_0 l0_0.length c0_0] 48 ?_; intro gb245 hg w21 hbox hb; have BK245 := y0.mk (hbox); have GW245 := y0.mk (qg (w := w) hg); have GE245 := y0.mk (qg (w := w) hg); replace HB := y0.mk (y5 qb hb); clear hb hbox hg) | ((with_reducible refine y16 (N := 3) rfl ?_); refine qe 3 #[.slice A1_0 l1_0.length c1_0] 48 ?_; intro gb246 hg w22 hbox hb; have BK246 := y0.mk (hbox); have GW246 := y0.mk (qg (w := w) hg); have GE246 := y0.mk (qg (w := w) hg); replace HB := y0.mk (y5 qb hb); have NB245_246 := y0.mk (qn BK245.out hg); have NB246_245 := y0.mk (qm BK245.out hg); replace BK245 := y0.mk (qK BK245.out hb); clear hb hbox hg; have hnb23 := NB245_246.out; have hnc23 := NB246_245.out; obtain ⟨hcz24_0,hfz24_0⟩ := qz1 BK245.out; obtain ⟨hcz25_0,hfz25_0⟩ := qz1 BK246.out))
  repeat (go_quiet (first | ((with_reducible refine y16 (N := 2) rfl ?_); refine qe 2 #[.slice A0_0 l0_0.length c0_0] 48 ?_; intro gb245 hg w21 hbox hb; have BK245 := y0.mk (hbox); have GW245 := y0.mk (qg (w := w) hg); have GE245 := y0.mk (qg (w := w) hg); replace HB := y0.mk (y5 qb hb); clear hb hbox hg) | ((with_reducible refine y16 (N := 3) rfl ?_); refine qe 3 #[.slice A1_0 l1_0.length c1_0] 48 ?_; intro gb246 hg w22 hbox hb; have BK246 := y0.mk (hbox); have GW246 := y0.mk (qg (w := w) hg); have GE246 := y0.mk (qg (w := w) hg); replace HB := y0.mk (y5 qb hb); have NB245_246 := y0.mk (qn BK245.out hg); have NB246_245 := y0.mk (qm BK245.out hg); replace BK245 := y0.mk (qK BK245.out hb); clear hb hbox hg; have hnb23 := NB245_246.out; have hnc23 := NB246_245.out; obtain ⟨hcz24_0,hfz24_0⟩ := qz1 BK245.out; obtain ⟨hcz25_0,hfz25_0⟩ := qz1 BK246.out)); try go_wp2_with (first | ((with_reducible refine y16 (N := 2) rfl ?_); refine qe 2 #[.slice A0_0 l0_0.length c0_0] 48 ?_; intro gb245 hg w21 hbox hb; have BK245 := y0.mk (hbox); have GW245 := y0.mk (qg (w := w) hg); have GE245 := y0.mk (qg (w := w) hg); replace HB := y0.mk (y5 qb hb); clear hb hbox hg) | ((with_reducible refine y16 (N := 3) rfl ?_); refine qe 3 #[.slice A1_0 l1_0.length c1_0] 48 ?_; intro gb246 hg w22 hbox hb; have BK246 := y0.mk (hbox); have GW246 := y0.mk (qg (w := w) hg); have GE246 := y0.mk (qg (w := w) hg); replace HB := y0.mk (y5 qb hb); have NB245_246 := y0.mk (qn BK245.out hg); have NB246_245 := y0.mk (qm BK245.out hg); replace BK245 := y0.mk (qK BK245.out hb); clear hb hbox hg; have hnb23 := NB245_246.out; have hnc23 := NB246_245.out; obtain ⟨hcz24_0,hfz24_0⟩ := qz1 BK245.out; obtain ⟨hcz25_0,hfz25_0⟩ := qz1 BK246.out)))
  go_ret
  exact ⟨by first | rfl | (simp [y13,y14] <;> rfl) | (simp [*,y13,y14] <;> rfl),qb⟩
def spec_l02Tuple.f (l0_0 : List ByteArray) : Option (List ByteArray) := (some (([] : List ByteArray) : List ByteArray)).bind fun y251 => (if y251.length + l0_0.length < 8796093022208 then (some (y251 ++ l0_0)) else (none))
set_option maxHeartbeats 8000000 in
set_option maxRecDepth 100000 in
theorem spec_l02Tuple.calls (A0_0 : Option Addr) (c0_0 : Nat) (l0_0 : List ByteArray) (r : List ByteArray) (w : World) (hr0_0 : Kd.C Kd.string w A0_0 l0_0.length l0_0) (hc0_0 : l0_0.length ≤ c0_0) (h : spec_l02Tuple.f l0_0 = some r) :
  Calls Tryz.prog 35 #[.agg #[.slice A0_0 l0_0.length c0_0]] w fun e w' => ∃ v0_ : Value,e = .returned (.agg #[v0_]) ∧ Kd.R Kd.string 9 w' w.heap.size (fun _ => True) v0_ r ∧ Below w.heap.size w w' := by
 have hu48 := Tryz.underlying48
 have HR0_0 := y0.mk hr0_0
 have HC0_0 := y0.mk hc0_0
 clear hr0_0 hc0_0
 have HB := y0.mk (Below.refl w.heap.size w)
 have H : ((some (([] : List ByteArray) : List ByteArray)).bind fun y251 => (if y251.length + l0_0.length < 8796093022208 then (some (y251 ++ l0_0)) else (none))) = some r := h
 clear h
 obtain ⟨y251,hy251⟩ : ∃ y_ : List ByteArray,y_ = (([] : List ByteArray)) := ⟨_,rfl⟩
 replace H : (if y251.length + l0_0.length < 8796093022208 then (some (y251 ++ l0_0)) else (none)) = some r := by first | (rw [hy251]; with_reducible exact H) | (have H2_ := (Option.bind_some _ _).symm.trans H; rw [hy251]; with_reducible exact H2_) | (have H2_ := (Option.bind_some _ _).symm.trans H; with_reducible exact H2_) | with_reducible exact H | (rw [hy251]; exact H) | exact H
 have Ny251 := y0.mk hy251
 clear hy251
 obtain ⟨c2,H⟩ := qo H
 have LMc2 := y0.mk c2
 clear c2
 obtain ⟨y254,hy254⟩ : ∃ y_ : List ByteArray,y_ = (y251 ++ l0_0) := ⟨_,rfl⟩
 replace H : (some y254) = some r := by first | (rw [hy254]; with_reducible exact H) | (have H2_ := (Option.bind_some _ _).symm.trans H; rw [hy254]; with_reducible exact H2_) | (have H2_ := (Option.bind_some _ _).symm.trans H; with_reducible exact H2_) | with_reducible exact H | (rw [hy254]; exact H) | exact H
 have Ny254 := y0.mk hy254
 clear hy254
 obtain rfl := Option.some.inj H
 go_enter Tryz.func35,Tryz.ntmps35
 go_wp2_with (first | ((with_reducible refine y16 (N := 1) rfl ?_); refine qe 1 #[.slice A0_0 l0_0.length c0_0] 48 ?_; intro gb249 hg w3 hbox hb; have BK249 := y0.mk (hbox); have GW249 := y0.mk (qg (w := w) hg); have GE249 := y0.mk (qg (w := w) hg); replace HB := y0.mk (y5 qb hb); clear hb hbox hg) | ((with_reducible refine y16 (N := 2) rfl ?_); refine qe 2 #[.slice none 0 0] 48 ?_; intro gb250 hg w4 hbox hb; have BK250 := y0.mk (hbox); have GW250 := y0.mk (qg (w := w) hg); have GE250 := y0.mk (qg (w := w) hg); replace HB := y0.mk (y5 qb hb); have NB249_250 := y0.mk (qn BK249.out hg); have NB250_249 := y0.mk (qm BK249.out hg); replace BK249 := y0.mk (qK BK249.out hb); clear hb hbox hg) | ((with_reducible refine y16 (N := 3) rfl ?_); refine Kd.R_lit Kd.string _ 9 ?hg (N := 3) ?hd (xs := ([] : List ByteArray)) (inner := []) (ok := fun _ => True) (okp := fun _ => True) ?hr ?hp (fun _ hk => hk) trivial (Below.refl _ _) (Nat.le_refl _) (by simp) ?_; (case hd => rfl); (case hg => rfl); (case hr => first | (go_simp; done) | (go_simp; rfl)); (case hp => exact (Reps.none _ _)); intro v252 w5 ho6 hb hg_ hnew_; clear hg_ hnew_; (first | rw [← Ny251.out] at ho6 | (simp only [Int.reduceToNat] at ho6; rw [← Ny251.out] at ho6)); have HO253 := y0.mk (Kd.R_lower ho6 (y4 qb)); replace BK249 := y0.mk (qK BK249.out hb); replace BK250 := y0.mk (qK BK250.out hb); replace HB := y0.mk (y5 qb hb); clear hb ho6; have hnb7 := NB249_250.out; have hnc7 := NB250_249.out; obtain ⟨hcz8_0,hfz8_0⟩ := qz1 BK249.out) | ((with_reducible refine gate_builtin (b := .append) (xs := #[.tmp 3,.tmp 5]) rfl ?_); at_builtin; refine Kd.R_append_rows Kd.string (w0 := w) w.heap.size rfl (.tmp 3) (.tmp 5) 25 9 (.string ⟨#[]⟩) 16 rfl Tryz.underlying25 info9 rfl (by decide) (by omega) v252 y251 l0_0 _ _ _ (fun _ => True) (fun _ => False) rfl rfl ?aO ?aR (fun _ _ h => h) (fun _ h => h.elim) ?aF ?aB ?aS ?aL ?_; (case aR => repeat (first | exact (Kd.C_below HR0_0.out HB.out) | (with_reducible refine Kd.C_alloc ?_ _) | (with_reducible refine Kd.C_drewN ?_ _) | (with_reducible refine Kd.C_drew ?_))); (case aB => exact qb); (case aF => exact (fun _ _ => trivial)); (case aO => exact (qR HO253.out)); (case aS => exact (y4 qb)); (case aL => have := LMc2.out; omega); intro v255 w9 ho hb hg hat; rw [← Ny254.out] at ho; replace BK249 := y0.mk (blk_grown (qk BK249.out) hg (Kd.R_ne HO253.out BK249.out (by decide))); replace BK250 := y0.mk (blk_grown (qk BK250.out) hg (Kd.R_ne HO253.out BK250.out (by decide))); replace HB := y0.mk (hb); have HO256 := y0.mk (ho); clear HO253; clear ho hb hg hat; obtain ⟨Ao10,co10,eo10⟩ := Kd.R_slice HO256.out; subst eo10; obtain ⟨hcz11_0,hfz11_0⟩ := qz1 BK250.out))
 refine bodyPost_ret (results_cell_row rfl _ _ gb250 48 #[.slice Ao10 y254.length co10] (0,0) _ rfl (by (with_reducible repeat (first | refine y10 ?_ _ | refine y9 ?_ | refine y6 ?_ _)); refine blk_put (cs := #[.slice none 0 0]) ?_ 0 _ rfl; (with_reducible repeat (first | refine y10 ?_ _ | refine y9 ?_ | refine y6 ?_ _)); exact BK250.out) Tryz.underlying48 rfl (by kernel_rfl)) rfl ?_
 exact ⟨_,by first | rfl | (simp [y13,y14] <;> rfl) | (simp [*,y13,y14] <;> rfl),by (with_reducible repeat (first | apply Kd.R_alloc | apply Kd.R_drewN | apply Kd.R_drew)); exact Kd.R_mono (Kd.R_far (p := ⟨gb250,0,none⟩) (Kd.R_types HO256.out BK250.out (by decide)) (fun _ hk => hk.2) (.slice Ao10 y254.length co10)) (fun _ hk => trivial),qb⟩
def impl_in.f (a0 : Int) (a1 : Int) (a2 : Int) : Option (Bool) := if a0 ≥ a1 then (some (decide (a0 ≤ a2))) else (some false)
set_option maxHeartbeats 8000000 in
set_option maxRecDepth 100000 in
theorem impl_in.calls (a0 : Int) (a1 : Int) (a2 : Int) (r : Bool) (w : World) (h : impl_in.f a0 a1 a2 = some r) :
  Calls Tryz.prog 58 #[.int .i64 a0,.int .i64 a1,.int .i64 a2] w fun e w' => e = .returned (.bool r) ∧ y1 w w' := by
 have H : (if a0 ≥ a1 then (some (decide (a0 ≤ a2))) else (some false)) = some r := h
 clear h
 by_cases c4 : a0 ≥ a1
 ·rw [if_pos c4] at H
  have c4b0 : decide (a1 ≤ a0) = true := decide_eq_true c4
  clear c4
  obtain rfl := Option.some.inj H
  go_enter Tryz.func58,Tryz.ntmps58
  go_wp2
  go_ret
  exact ⟨by first | rfl | (simp; done) | (simp [*]; done),by repeat (first | exact y1.refl _ | apply y1.step)⟩
 ·rw [if_neg c4] at H
  have c4b0 : decide (a1 ≤ a0) = false := decide_eq_false c4
  clear c4
  obtain rfl := Option.some.inj H
  go_enter Tryz.func58,Tryz.ntmps58
  go_wp2
  go_ret
  exact ⟨by first | rfl | (simp; done) | (simp [*]; done),by repeat (first | exact y1.refl _ | apply y1.step)⟩
end Go.Proofs.YtocmfolajckaeaaGreatDoor.Pe
end

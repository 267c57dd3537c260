-- Cut by prune.py, a program of this session, out of the texts of this claim: Lean checks it.
import Derived.Test.YtocmfolajckaeaaGreatDoorVlsPex0
import Derived.Test.YtocmfolajckaeaaGreatDoorVlsPex17
import Derived.Test.YtocmfolajckaeaaGreatDoorVlsPex15
section
namespace Go.Proofs.YtocmfolajckaeaaGreatDoor.Pe
open Go.RowKit Go.Proofs.YtocmfolajckaeaaGreatDoorW.PrintWords Go.Proofs.YtocmfolajckaeaaGreatDoorW.PrintLast Go.Proofs.YtocmfolajckaeaaGreatDoorW.PrintMore
attribute [local go_sem] max2_int min2_int max_two min_two max_three min_three max_four min_four   -- for this text's walks alone
set_option linter.unusedVariables false
set_option linter.unusedSimpArgs false
def impl_copyRel.l0 : Nat → List (S48) → Int → Int → Int → List (S48) → Option (Int × (List (S48)))
 | 0,_,_,_,_,_ => none
 | k + 1,x10,x11,x12,x421000,x421001 => if x12 < x11 then (if 0 ≤ x12 then (if x12 < (x10.length : Int) then ((impl_copyTuple.f ((y21 x10 x12).f0)).bind fun t423 => (if x421001.length < 5864062014805 then (impl_copyRel.l0 k x10 x11 (wrap64 (x12 + 1)) x421000 (x421001 ++ [(⟨t423⟩ : S48)])) else (none))) else (none)) else (none)) else (some (x421000,x421001))
def impl_copyRel.f (k : Nat) (a0_0 : Int) (l0_1 : List (S48)) : Option (Int × (List (S48))) := impl_copyRel.l0 k l0_1 (l0_1.length : Int) 0 a0_0 ([] : List (S48))
def impl_copyRel.T5 : Bool × List (List Nat × List Nat) := (true,[([],[]),([0],[0]),([],[]),([2],[2]),([3],[3]),([1,4,3],[1,4]),([0,1,2,3,4,5],[]),([6,5,5,0,1,2,3,4,5],[5,6])])
def impl_copyRel.B5 : List Nat := [0,1,0,4,12,31,63,127]
theorem impl_copyRel.tab5 : rtab .any (opsOf Tryz.f43 5) = impl_copyRel.T5 := by kernel_rfl
theorem impl_copyRel.bits5 : waitsOk impl_copyRel.T5.2 impl_copyRel.B5 = true := by kernel_rfl
set_option maxHeartbeats 8000000 in
set_option maxRecDepth 100000 in
theorem impl_copyRel.calls (k : Nat) (a0_0 : Int) (A0_1 : Option Addr) (c0_1 : Nat) (l0_1 : List (S48)) (r1 : Int) (r2 : List (S48)) (w : World) (hr0_1 : Kd.C k48 w A0_1 l0_1.length l0_1) (hc0_1 : l0_1.length ≤ c0_1) (h : impl_copyRel.f k a0_0 l0_1 = some (r1,r2)) :
  Calls Tryz.prog 43 #[.agg #[.int .i64 a0_0,.slice A0_1 l0_1.length c0_1]] w fun e w' => ∃ v1_ : Value,e = .returned (.agg #[.int .i64 r1,v1_]) ∧ Kd.S k48 48 w' w.heap.size (fun _ => True) v1_ r2 ∧ Below w.heap.size w w' := by
 have hu31 := Tryz.underlying31
 have hu48 := Tryz.underlying48
 have HR0_1 := y0.mk hr0_1
 have HC0_1 := y0.mk hc0_1
 clear hr0_1 hc0_1
 have HB := y0.mk (Below.refl w.heap.size w)
 have H : (impl_copyRel.l0 k l0_1 (l0_1.length : Int) 0 a0_0 ([] : List (S48))) = some (r1,r2) := h
 clear h
 have H' := y0.mk H
 clear H
 go_enter Tryz.func43,Tryz.ntmps43
 go_wp2_with (first | ((with_reducible refine y16 (N := 1) rfl ?_); refine qe 1 #[.int .i64 a0_0,.slice A0_1 l0_1.length c0_1] 31 ?_; intro gb418 hg w2 hbox hb; have BK418 := y0.mk (hbox); have GW418 := y0.mk (qg (w := w) hg); have GE418 := y0.mk (qg (w := w) hg); replace HB := y0.mk (y5 qb hb); clear hb hbox hg) | ((with_reducible refine y16 (N := 2) rfl ?_); refine qe 2 #[.int .i64 0,.slice none 0 0] 31 ?_; intro gb419 hg w3 hbox hb; have BK419 := y0.mk (hbox); have GW419 := y0.mk (qg (w := w) hg); have GE419 := y0.mk (qg (w := w) hg); replace HB := y0.mk (y5 qb hb); have NB418_419 := y0.mk (qn BK418.out hg); have NB419_418 := y0.mk (qm BK418.out hg); replace BK418 := y0.mk (qK BK418.out hb); clear hb hbox hg; have hnb4 := NB418_419.out; have hnc4 := NB419_418.out; obtain ⟨hcz5_0,hcz5_1,hfz5_0,hfz5_1⟩ := qz2 BK418.out) | ((with_reducible refine y16 (N := 3) rfl ?_); refine qe 3 #[.int .i64 0,.slice none 0 0] 31 ?_; intro gb420 hg w6 hbox hb; have BK420 := y0.mk (hbox); have GW420 := y0.mk (qg (w := w) hg); have GE420 := y0.mk (qg (w := w) hg); replace HB := y0.mk (y5 qb hb); have NB418_420 := y0.mk (qn BK418.out hg); have NB420_418 := y0.mk (qm BK418.out hg); replace BK418 := y0.mk (qK BK418.out hb); have NB419_420 := y0.mk (qn BK419.out hg); have NB420_419 := y0.mk (qm BK419.out hg); replace BK419 := y0.mk (qK BK419.out hb); clear hb hbox hg; have hnb7 := NB420_418.out; have hnc7 := NB418_420.out; have hnb8 := NB420_419.out; have hnc8 := NB419_420.out; obtain ⟨hcz9_0,hcz9_1,hfz9_0,hfz9_1⟩ := qz2 BK420.out; obtain ⟨hcz10_0,hcz10_1,hfz10_0,hfz10_1⟩ := qz2 BK418.out))
 go_loopg [12] k (fun kq v12 w' => ∃ (x12_1 : Int) (x421001_1 : List (S48)) (u421001 : Value),v12 = .int .i64 x12_1 ∧ y0 (impl_copyRel.l0 kq l0_1 (l0_1.length : Int) x12_1 a0_0 x421001_1 = some (r1,r2)) ∧ y0 (kq ≤ k) ∧ y0 (Kd.S k48 48 w' w.heap.size (fun _ => True) u421001 x421001_1) ∧ y0 (w'.heap[gb418]? = some (.cells #[.int .i64 a0_0,(.slice A0_1 l0_1.length c0_1)] 31 (0,0))) ∧ y0 (w'.heap[gb419]? = some (.cells #[.int .i64 0,(.slice none 0 0)] 31 (0,0))) ∧ y0 (w'.heap[gb420]? = some (.cells #[.int .i64 a0_0,u421001] 31 (0,0))) ∧ y0 (Below w.heap.size w w'))
 case atStart => exact ⟨(0),(([] : List (S48))),(.slice none 0 0),qy2,H',⟨Nat.le_refl _⟩,⟨by first | exact Kd.S_nil _ _ _ _ _ | exact Kd.N_nil _ _ _ _ _ | exact Kd.V_nil _ _ _ _ _ | exact Kd.Q_nil _ _ _ _ _ | exact Kd.R_nil _ _ _ _ _⟩,⟨by (with_reducible repeat (first | refine y10 ?_ _ | refine y9 ?_ | refine y6 ?_ _)); refine y11 ?_ NB418_420.out _; (with_reducible repeat (first | refine y10 ?_ _ | refine y9 ?_ | refine y6 ?_ _)); refine y11 ?_ NB418_420.out _; (with_reducible repeat (first | refine y10 ?_ _ | refine y9 ?_ | refine y6 ?_ _)); exact BK418.out⟩,⟨by (with_reducible repeat (first | refine y10 ?_ _ | refine y9 ?_ | refine y6 ?_ _)); refine y11 ?_ NB419_420.out _; (with_reducible repeat (first | refine y10 ?_ _ | refine y9 ?_ | refine y6 ?_ _)); refine y11 ?_ NB419_420.out _; (with_reducible repeat (first | refine y10 ?_ _ | refine y9 ?_ | refine y6 ?_ _)); exact BK419.out⟩,⟨by (with_reducible repeat (first | refine y10 ?_ _ | refine y9 ?_ | refine y6 ?_ _)); refine blk_put (cs := #[.int .i64 a0_0,.slice none 0 0]) ?_ 1 _ rfl; (with_reducible repeat (first | refine y10 ?_ _ | refine y9 ?_ | refine y6 ?_ _)); refine blk_put (cs := #[.int .i64 0,.slice none 0 0]) ?_ 0 _ rfl; (with_reducible repeat (first | refine y10 ?_ _ | refine y9 ?_ | refine y6 ?_ _)); exact BK420.out⟩,⟨qb⟩⟩
 case round =>
  clear H'
  (try clear hcz10_0 hcz10_1 hcz5_0 hcz5_1 hcz9_0 hcz9_1 hfz10_0 hfz10_1 hfz5_0 hfz5_1 hfz9_0 hfz9_1)
  obtain ⟨x12_1,x421001_1,u421001,rfl,HA,HK1,HO_421001,BK418,BK419,BK420,HB⟩ := hrel
  cases gk with
  | zero => exact absurd HA.out (by simp [impl_copyRel.l0])
  | succ k1 =>
   have H := HA.out
   clear HA
   simp only [impl_copyRel.l0] at H
   by_cases c11 : x12_1 < (l0_1.length : Int)
   ·rw [if_pos c11] at H
    have c11b0 := decide_eq_true c11
    clear c11
    obtain ⟨c12,H⟩ := qo H
    have c12b0 : decide (0 ≤ x12_1) = true := decide_eq_true c12
    clear c12
    obtain ⟨c13,H⟩ := qo H
    have c13b0 : decide (x12_1 < (l0_1.length : Int)) = true := decide_eq_true c13
    clear c13
    obtain ⟨t423,A14,H⟩ := qB H
    obtain ⟨c15,H⟩ := qo H
    have LMc15 := y0.mk c15
    clear c15
    obtain ⟨y426,hy426⟩ : ∃ y_ : List (S48),y_ = (x421001_1 ++ [(⟨t423⟩ : S48)]) := ⟨_,rfl⟩
    replace H : (impl_copyRel.l0 k1 l0_1 (l0_1.length : Int) (wrap64 (x12_1 + 1)) a0_0 y426) = some (r1,r2) := by first | (rw [hy426]; with_reducible exact H) | (have H2_ := (Option.bind_some _ _).symm.trans H; rw [hy426]; with_reducible exact H2_) | (have H2_ := (Option.bind_some _ _).symm.trans H; with_reducible exact H2_) | with_reducible exact H | (rw [hy426]; exact H) | exact H
    have Ny426 := y0.mk hy426
    clear hy426
    have H' := y0.mk H
    clear H
    have p421 : 0 ≤ (x12_1 : Int) := of_decide_eq_true qy1
    have q421 : x12_1 < (l0_1.length : Int) := of_decide_eq_true qy1
    obtain ⟨ad421,A421_0,c421_0,e421,hx421_0,hl421_0,hi421_0⟩ := at_T48 HR0_1.out x12_1 p421 q421
    cases e421
    replace hx421_0 := (HB.out.cell (World.block_lt_of_cell? w _ hx421_0)).trans hx421_0
    have HR421_0 := y0.mk hi421_0
    have HC421_0 := y0.mk hl421_0
    clear hi421_0 hl421_0
    replace p421 := eq_true p421
    replace q421 := eq_true q421
    try go_wp2_with (first | ((with_reducible refine y16 (N := 5) rfl ?_); refine qe 5 #[.slice none 0 0] 48 ?_; intro gb422 hg w16 hbox hb; replace HO_421001 := y0.mk (Kd.S_below (Kd.S_elderB (qS HO_421001.out) gb422 (Nat.le_of_eq hg.symm)) hb); have BK422 := y0.mk (hbox); have GW422 := y0.mk (qg (w := w) hg); have GE422 := y0.mk (qg (w := w) hg); replace HB := y0.mk (y5 qb hb); have NB418_422 := y0.mk (qn BK418.out hg); have NB422_418 := y0.mk (qm BK418.out hg); replace BK418 := y0.mk (qK BK418.out hb); have NB419_422 := y0.mk (qn BK419.out hg); have NB422_419 := y0.mk (qm BK419.out hg); replace BK419 := y0.mk (qK BK419.out hb); have NB420_422 := y0.mk (qn BK420.out hg); have NB422_420 := y0.mk (qm BK420.out hg); replace BK420 := y0.mk (qK BK420.out hb); clear hb hbox hg; have hnb17 := NB422_418.out; have hnc17 := NB418_422.out; have hnb18 := NB422_419.out; have hnc18 := NB419_422.out; have hnb19 := NB422_420.out; have hnc19 := NB420_422.out; obtain ⟨hcz20_0,hfz20_0⟩ := qz1 BK422.out))
    have n0_ : y0 (Kd.S k48 48 (w16.setCell ⟨gb422,0,none⟩ (.slice A421_0 ((y21 l0_1 x12_1).f0).length c421_0)) w.heap.size (fun k_ => k_ ≠ gb422) u421001 x421001_1) := ⟨qS (Kd.S_mono (Kd.S_far (p := ⟨gb422,0,none⟩) (Kd.S_mono HO_421001.out (fun k_ hk => (⟨hk,hk.2⟩ : _ ∧ k_ ≠ gb422))) (fun _ hk => hk.2) (.slice A421_0 ((y21 l0_1 x12_1).f0).length c421_0)) (fun _ hk => hk.1.2))⟩
    have n1_ : y0 ((w16.setCell ⟨gb422,0,none⟩ (.slice A421_0 ((y21 l0_1 x12_1).f0).length c421_0)).heap[gb418]? = some (.cells #[.int .i64 a0_0,.slice (some ad421) l0_1.length c0_1] 31 (0,0))) := ⟨by (with_reducible repeat (first | refine y10 ?_ _ | refine y9 ?_ | refine y6 ?_ _)); refine y11 ?_ NB418_422.out _; (with_reducible repeat (first | refine y10 ?_ _ | refine y9 ?_ | refine y6 ?_ _)); exact BK418.out⟩
    have n2_ : y0 ((w16.setCell ⟨gb422,0,none⟩ (.slice A421_0 ((y21 l0_1 x12_1).f0).length c421_0)).heap[gb419]? = some (.cells #[.int .i64 0,.slice none 0 0] 31 (0,0))) := ⟨by (with_reducible repeat (first | refine y10 ?_ _ | refine y9 ?_ | refine y6 ?_ _)); refine y11 ?_ NB419_422.out _; (with_reducible repeat (first | refine y10 ?_ _ | refine y9 ?_ | refine y6 ?_ _)); exact BK419.out⟩
    have n3_ : y0 ((w16.setCell ⟨gb422,0,none⟩ (.slice A421_0 ((y21 l0_1 x12_1).f0).length c421_0)).heap[gb420]? = some (.cells #[.int .i64 a0_0,u421001] 31 (0,0))) := ⟨by (with_reducible repeat (first | refine y10 ?_ _ | refine y9 ?_ | refine y6 ?_ _)); refine y11 ?_ NB420_422.out _; (with_reducible repeat (first | refine y10 ?_ _ | refine y9 ?_ | refine y6 ?_ _)); exact BK420.out⟩
    have n4_ : y0 ((w16.setCell ⟨gb422,0,none⟩ (.slice A421_0 ((y21 l0_1 x12_1).f0).length c421_0)).heap[gb422]? = some (.cells #[.slice A421_0 ((y21 l0_1 x12_1).f0).length c421_0] 48 (0,0))) := ⟨by (with_reducible repeat (first | refine y10 ?_ _ | refine y9 ?_ | refine y6 ?_ _)); refine blk_put (cs := #[.slice none 0 0]) ?_ 0 _ rfl; (with_reducible repeat (first | refine y10 ?_ _ | refine y9 ?_ | refine y6 ?_ _)); exact BK422.out⟩
    have n5_ : y0 (Below w.heap.size w (w16.setCell ⟨gb422,0,none⟩ (.slice A421_0 ((y21 l0_1 x12_1).f0).length c421_0))) := ⟨qb⟩
    (try clear HO_421001)
    (try clear BK418)
    (try clear BK419)
    (try clear BK420)
    (try clear BK422)
    (try clear HB)
    generalize (w16.setCell ⟨gb422,0,none⟩ (.slice A421_0 ((y21 l0_1 x12_1).f0).length c421_0)) = w21 at n0_ n1_ n2_ n3_ n4_ n5_ ⊢
    have HO_421001 := n0_
    have BK418 := n1_
    have BK419 := n2_
    have BK420 := n3_
    have BK422 := n4_
    have HB := n5_
    clear n0_ n1_ n2_ n3_ n4_ n5_
    replace HO_421001 := y0.mk (Kd.S_drew HO_421001.out)
    replace BK418 := y0.mk (y9 BK418.out)
    replace BK419 := y0.mk (y9 BK419.out)
    replace BK420 := y0.mk (y9 BK420.out)
    replace BK422 := y0.mk (y9 BK422.out)
    replace HB := y0.mk (y3 HB.out)
    refine start_ (n := 8) (S := fun w' => w'.cell? ⟨gb420,0,none⟩ = some (.int .i64 a0_0) ∧ w'.cell? ⟨gb420,1,none⟩ = some (u421001) ∧ w'.cell? ⟨gb422,0,none⟩ = some (.slice A421_0 ((y21 l0_1 x12_1).f0).length c421_0)) (ds := [7]) (fl_ 8 0) (by kernel_rfl) rfl rfl ⟨(y8 BK420.out 0).trans rfl,(y8 BK420.out 1).trans rfl,(y8 BK422.out 0).trans rfl⟩ (fun hHeld => ?_); refine with_tabW impl_copyRel.tab5 impl_copyRel.bits5 (fun HT_ HW_ => ?_)
    generalize w21.drew = w22 at HO_421001 BK418 BK419 BK420 BK422 HB hHeld ⊢
    refine qp 0 16 (fl_ 8 1) ?_
    refine qt 1 17 (fl_ 8 3) hHeld ?_
    refine qt 2 18 (fl_ 8 7) hHeld ?_
    refine one_ (i := 3) (N := some 19) (fl_ 8 15) rfl rfl (one_of HT_.out (by kernel_rfl)) (by decide) (fun K hK => ?_)
    refine goes_ Tryz.func39 (by kernel_rfl) rfl #[.agg #[.slice A421_0 ((y21 l0_1 x12_1).f0).length c421_0]] (by rfl) rfl rfl qy0 ?_
    with_reducible refine (impl_copyTuple.calls _ _ ((y21 l0_1 x12_1).f0) t423 _ (qc (Kd.C_below HR421_0.out HB.out)) HC421_0.out A14.out).mono ?_
    rintro e w23 ⟨v424,rfl,ho0,hb⟩
    refine ⟨_,rfl, ?_⟩
    replace HO_421001 := y0.mk (Kd.S_elder' (qS HO_421001.out) (Kd.R_base ho0) hb)
    have HO425 := y0.mk (Kd.R_lower ho0 (y4 qb))
    replace BK418 := y0.mk (qK BK418.out hb)
    replace BK419 := y0.mk (qK BK419.out hb)
    replace BK420 := y0.mk (qK BK420.out hb)
    replace BK422 := y0.mk (qK BK422.out hb)
    replace HB := y0.mk (y5 qb hb)
    (try clear hb)
    (try clear hb2)
    (try clear hk)
    (try clear hi)
    (try clear ho0)
    obtain ⟨Ao25,co25,eo25⟩ := Kd.R_slice HO425.out
    (first | subst eo25 | (injection eo25 with f1_ f2_ f3_; have f4_ := f1_.symm; have f5_ := f3_.symm; clear f1_ f2_ f3_; subst f4_; subst f5_))
    refine hK.out _ _ ⟨(y8 BK420.out 0).trans rfl,(y8 BK420.out 1).trans rfl,(y8 BK422.out 0).trans rfl⟩ (fun hHeld => ?_)
    clear hK K
    refine norm_ (a' := ?_) ?_ ?_
    rotate_left
    ·show Act.put _ (some 19) _ = _
     simp only [Act.put,qS_,qZ_,qC_,y19,y18]
     rfl
    refine one_ (i := 4) (N := some 20) (fl_ 8 31) rfl rfl (one_of HT_.out (by kernel_rfl)) (by decide) (fun K hK => ?_)
    refine value_ (w1 := ?_) (v := ?_) (by rfl) rfl ?_ ?_
    rotate_left 2
    ·go_simp
     constructor
     ·rfl
     ·rfl
    refine hK.out _ _ ⟨(y8 (y6 BK420.out _) 0).trans rfl,(y8 (y6 BK420.out _) 1).trans rfl,(y8 (y6 BK422.out _) 0).trans rfl⟩ (fun hHeld => ?_)
    clear hK K
    refine norm_ (a' := ?_) ?_ ?_
    rotate_left
    ·show Act.put _ (some 20) _ = _
     simp only [Act.put,qS_,qZ_,qC_,y19,y18]
     rfl
    refine one_ (i := 5) (N := some 21) (fl_ 8 63) rfl rfl (one_of HT_.out (by kernel_rfl)) (by decide) (fun K hK => ?_)
    refine Kd.S_append_step k48 (w0 := w) w.heap.size (by rfl) (.tmp 17) (.tmp 20) 28 48 (.agg #[(.slice none 0 0)]) 24 rfl Tryz.underlying28 info48 rfl (by decide) (by omega) u421001 x421001_1 (⟨t423⟩ : S48) [.slice Ao25 t423.length co25] (fun k_ => k_ ≠ gb422) (fun k_ => some k_ = (.slice Ao25 t423.length co25 : Value).ownBlock) rfl rfl ?aP (fun k_ hk_ => ((Kd.R_mono (ok' := fun k_ => ((fun k_ => k_ ≠ gb422)) k_ ∧ some k_ ≠ (u421001 : Value).ownBlock) (Kd.R_types (Kd.R_apart' (HO425.out) (Kd.S_typed HO_421001.out) (by decide)) BK422.out (by decide)) (fun k_ hk => ⟨hk.2,hk.1.2⟩))).1 k_ hk_.symm) ?aF ?aO ?aB ?aS ?aL ?_
    (case aP => exact k48_mkM _ _ _ (⟨t423⟩ : S48) (Kd.R_mono (Kd.R_tight rfl (Kd.R_mono (ok' := fun k_ => ((fun k_ => k_ ≠ gb422)) k_ ∧ some k_ ≠ (u421001 : Value).ownBlock) (Kd.R_types (Kd.R_apart' (HO425.out) (Kd.S_typed HO_421001.out) (by decide)) BK422.out (by decide)) (fun k_ hk => ⟨hk.2,hk.1.2⟩))) (fun _ h_ => h_)))
    (case aB => exact qb)
    (case aF => exact (fun k_ hk => Kd.freshB (g := gb422) (o := .cells #[.slice A421_0 ((y21 l0_1 x12_1).f0).length c421_0] 48 (0,0)) (qk BK422.out) k_ hk))
    (case aO => exact (qS (Kd.S_mono HO_421001.out (fun k_ hk => ⟨hk.1,fun e_ => hk.2 e_⟩))))
    (case aS => exact (y4 qb))
    (case aL => have := LMc15.out; omega)
    intro v427 w24 ho hb hg hat
    rw [← Ny426.out] at ho
    replace BK418 := y0.mk (blk_grown (qk BK418.out) hg (Kd.S_ne HO_421001.out BK418.out (by decide)))
    replace BK419 := y0.mk (blk_grown (qk BK419.out) hg (Kd.S_ne HO_421001.out BK419.out (by decide)))
    replace BK420 := y0.mk (blk_grown (qk BK420.out) hg (Kd.S_ne HO_421001.out BK420.out (by decide)))
    replace BK422 := y0.mk (blk_grown (qk BK422.out) hg (Kd.S_away HO_421001.out (fun _ hk => hk.1)))
    replace HB := y0.mk (hb)
    have HO428 := y0.mk (ho)
    clear HO_421001 HO425
    clear ho hb hg hat
    obtain ⟨Ao26,co26,eo26⟩ := Kd.S_slice HO428.out
    (first | subst eo26 | (injection eo26 with f1_ f2_ f3_; have f4_ := f1_.symm; have f5_ := f3_.symm; clear f1_ f2_ f3_; subst f4_; subst f5_))
    refine hK.out _ _ ⟨(y8 BK420.out 0).trans rfl,(y8 BK420.out 1).trans rfl,(y8 BK422.out 0).trans rfl⟩ (fun hHeld => ?_)
    clear hK K
    refine norm_ (a' := ?_) ?_ ?_
    rotate_left
    ·show Act.put _ (some 21) _ = _
     simp only [Act.put,qS_,qZ_,qC_,y19,y18]
     rfl
    refine qp 6 22 (fl_ 8 127) ?_
    refine last_ (i := 7) (N := none) (fl_ 8 255) rfl rfl (one_of HT_.out (by kernel_rfl)) (by decide) (fun K hK => ?_)
    have hs27 : w24.cell? ⟨gb420,1,none⟩ = some (u421001) := (y8 BK420.out 1).trans rfl
    have hfs27 := y12 BK420.out 1
    have hns27_0 := NB418_420.out
    have hns27_1 := NB419_420.out
    have hns27_3 := NB422_420.out
    have hms27_0 := NB420_418.out
    have hms27_1 := NB420_419.out
    have hms27_3 := NB420_422.out
    refine skip_ (w1 := ?_) (by rfl) rfl ?_ ?_
    rotate_left
    ·go_simp
     rfl
    refine hK.out _ _ ?_
    clear hK K
    refine done_ (done_of HT_.out (by kernel_rfl)) ?_
    try go_wp2
    go_roundg k1
    case measure => have := HK1.out; omega
    exact ⟨(wrap64 (x12_1 + 1)),(y426),(.slice Ao26 y426.length co26),qy2,H',⟨by have := HK1.out; omega⟩,⟨qS (Kd.S_mono (Kd.S_far (p := ⟨gb420,1,none⟩) (Kd.S_types HO428.out BK420.out (by decide)) (fun _ hk => hk.2) (.slice Ao26 y426.length co26)) (fun _ hk => trivial))⟩,⟨by (with_reducible repeat (first | refine y10 ?_ _ | refine y9 ?_ | refine y6 ?_ _)); refine y11 ?_ NB418_420.out _; (with_reducible repeat (first | refine y10 ?_ _ | refine y9 ?_ | refine y6 ?_ _)); exact BK418.out⟩,⟨by (with_reducible repeat (first | refine y10 ?_ _ | refine y9 ?_ | refine y6 ?_ _)); refine y11 ?_ NB419_420.out _; (with_reducible repeat (first | refine y10 ?_ _ | refine y9 ?_ | refine y6 ?_ _)); exact BK419.out⟩,⟨by (with_reducible repeat (first | refine y10 ?_ _ | refine y9 ?_ | refine y6 ?_ _)); refine blk_put (cs := #[.int .i64 a0_0,u421001]) ?_ 1 _ rfl; (with_reducible repeat (first | refine y10 ?_ _ | refine y9 ?_ | refine y6 ?_ _)); exact BK420.out⟩,⟨qb⟩⟩
   ·rw [if_neg c11] at H
    have c11b0 := decide_eq_false c11
    clear c11
    simp only [Option.some.injEq,Prod.mk.injEq] at H
    obtain ⟨rfl,rfl⟩ := H
    have hnb28 := NB420_418.out
    have hnc28 := NB418_420.out
    have hnb29 := NB420_419.out
    have hnc29 := NB419_420.out
    obtain ⟨hcz30_0,hcz30_1,hfz30_0,hfz30_1⟩ := qz2 BK420.out
    have hnb31 := NB419_418.out
    have hnc31 := NB418_419.out
    obtain ⟨hcz32_0,hcz32_1,hfz32_0,hfz32_1⟩ := qz2 BK419.out
    obtain ⟨Ao33,co33,eo33⟩ := Kd.S_slice HO_421001.out
    subst eo33
    go_wp2
    refine bodyPost_ret (results_cell_row rfl _ _ gb419 31 #[.int .i64 a0_0,.slice Ao33 x421001_1.length co33] (0,0) _ rfl (by (with_reducible repeat (first | refine y10 ?_ _ | refine y9 ?_ | refine y6 ?_ _)); refine blk_put (cs := #[.int .i64 a0_0,.slice none 0 0]) ?_ 1 _ rfl; (with_reducible repeat (first | refine y10 ?_ _ | refine y9 ?_ | refine y6 ?_ _)); refine blk_put (cs := #[.int .i64 0,.slice none 0 0]) ?_ 0 _ rfl; (with_reducible repeat (first | refine y10 ?_ _ | refine y9 ?_ | refine y6 ?_ _)); exact BK419.out) Tryz.underlying31 rfl (by kernel_rfl)) rfl ?_
    exact ⟨_,by first | rfl | (simp [y13,y14] <;> rfl) | (simp [*,y13,y14] <;> rfl),by (with_reducible repeat (first | apply Kd.S_alloc | apply Kd.S_drewN | apply Kd.S_drew)); exact Kd.S_mono (Kd.S_far (p := ⟨gb419,1,none⟩) (Kd.S_far (p := ⟨gb419,0,none⟩) (Kd.S_types HO_421001.out BK419.out (by decide)) (fun _ hk => hk.2) (.int .i64 a0_0)) (fun _ hk => hk.2) (.slice Ao33 x421001_1.length co33)) (fun _ hk => trivial),qb⟩
def impl_sameTuple.f (k : Nat) (l0_0 : List ByteArray) (l1_0 : List ByteArray) : Option (Bool) := (slices_Equal_string_string.f k l0_0 l1_0).bind fun t431 => (some t431)
set_option maxHeartbeats 8000000 in
set_option maxRecDepth 100000 in
theorem impl_sameTuple.calls (k : Nat) (A0_0 : Option Addr) (c0_0 : Nat) (l0_0 : List ByteArray) (A1_0 : Option Addr) (c1_0 : Nat) (l1_0 : List ByteArray) (r : Bool) (w : World) (hr0_0 : Kd.C Kd.string w A0_0 l0_0.length l0_0) (hc0_0 : l0_0.length ≤ c0_0) (hr1_0 : Kd.C Kd.string w A1_0 l1_0.length l1_0) (hc1_0 : l1_0.length ≤ c1_0) (h : impl_sameTuple.f k l0_0 l1_0 = some r) :
  Calls Tryz.prog 62 #[.agg #[.slice A0_0 l0_0.length c0_0],.agg #[.slice A1_0 l1_0.length c1_0]] w fun e w' => e = .returned (.bool r) ∧ Below w.heap.size w w' := by
 have hu48 := Tryz.underlying48
 have HR0_0 := y0.mk hr0_0
 have HC0_0 := y0.mk hc0_0
 clear hr0_0 hc0_0
 have HR1_0 := y0.mk hr1_0
 have HC1_0 := y0.mk hc1_0
 clear hr1_0 hc1_0
 have HB := y0.mk (Below.refl w.heap.size w)
 have H : ((slices_Equal_string_string.f k l0_0 l1_0).bind fun t431 => (some t431)) = some r := h
 clear h
 obtain ⟨t431,A3,H⟩ := qB H
 obtain rfl := Option.some.inj H
 go_enter Tryz.func62,Tryz.ntmps62
 go_wp2_with (first | ((with_reducible refine y16 (N := 2) rfl ?_); refine qe 2 #[.slice A0_0 l0_0.length c0_0] 48 ?_; intro gb429 hg w4 hbox hb; have BK429 := y0.mk (hbox); have GW429 := y0.mk (qg (w := w) hg); have GE429 := y0.mk (qg (w := w) hg); replace HB := y0.mk (y5 qb hb); clear hb hbox hg) | ((with_reducible refine y16 (N := 3) rfl ?_); refine qe 3 #[.slice A1_0 l1_0.length c1_0] 48 ?_; intro gb430 hg w5 hbox hb; have BK430 := y0.mk (hbox); have GW430 := y0.mk (qg (w := w) hg); have GE430 := y0.mk (qg (w := w) hg); replace HB := y0.mk (y5 qb hb); have NB429_430 := y0.mk (qn BK429.out hg); have NB430_429 := y0.mk (qm BK429.out hg); replace BK429 := y0.mk (qK BK429.out hb); clear hb hbox hg; have hnb6 := NB429_430.out; have hnc6 := NB430_429.out; obtain ⟨hcz7_0,hfz7_0⟩ := qz1 BK429.out; obtain ⟨hcz8_0,hfz8_0⟩ := qz1 BK430.out) | ((with_reducible refine y15 (f := 38) rfl ?_); refine y17 (some 9) rfl rfl Tryz.func38 (by kernel_rfl) rfl #[.slice A0_0 l0_0.length c0_0,.slice A1_0 l1_0.length c1_0] rfl qy0 ?_; (with_reducible refine (slices_Equal_string_string.calls k _ _ l0_0 _ _ l1_0 t431 _ (qc (Kd.C_below HR0_0.out HB.out)) HC0_0.out (qc (Kd.C_below HR1_0.out HB.out)) HC1_0.out A3.out).mono ?_); rintro e w' ⟨rfl,⟨nd,rfl⟩⟩; refine ⟨_,rfl, ?_⟩))
 go_ret
 exact ⟨by first | rfl | (simp [y13,y14] <;> rfl) | (simp [*,y13,y14] <;> rfl),qb⟩
/-- Two tuples of the same texts. -/
def sameT (a b : List ByteArray) : Bool := decide (a.map (·.data.toList) = b.map (·.data.toList))
theorem bl_of_pw {B : Nat} {w w' : World} (h : Below B w w') {g : Nat} {o : Obj} (hg : g < B) (hb : w.heap[g]? = some o) : w'.heap[g]? = some o := (h.block g hg).trans hb
theorem blk_lt' {w : World} {g : Nat} {o : Obj} (hb : w.heap[g]? = some o) : g < w.heap.size := (Array.getElem?_eq_some_iff.1 hb).1
set_option maxHeartbeats 8000000 in
set_option maxRecDepth 100000 in
theorem impl_Rel_has_1.calls (A0 : Option Addr) (c0 : Nat) (l0 : List ByteArray) (g : Nat) (A1 : Option Addr) (c1 : Nat) (l1 : List ByteArray) (w : World) (hr0 : Kd.C Kd.string w A0 l0.length l0) (hc0 : l0.length ≤ c0) (hr1 : Kd.C Kd.string w A1 l1.length l1) (hc1 : l1.length ≤ c1)
  (hb1 : w.heap[g]? = some (.cells #[.slice A1 l1.length c1] 48 (0,0))) (hsame : ∃ k,impl_sameTuple.f k l0 l1 = some (sameT l0 l1)) :
  Calls Tryz.prog 61 #[.agg #[.slice A0 l0.length c0],.pointer (some ⟨g,0,none⟩)] w fun e w' => e = .returned (.bool (sameT l0 l1)) ∧ Below w.heap.size w w' := by
 have hu48 := Tryz.underlying48
 obtain ⟨k,A3⟩ := hsame
 have HB := y0.mk (Below.refl w.heap.size w)
 have hlt := blk_lt' hb1
 have hr0a := y0.mk hr0
 have hr1a := y0.mk hr1
 go_enter Tryz.func61,Tryz.ntmps61
 go_wp2_with (first
  | ((with_reducible refine y16 (N := 2) rfl ?_); refine qe 2 #[.slice A0 l0.length c0] 48 ?_; intro gb hg w4 hbox hb; have n0_ := y0.mk (y5 qb hb); have n2_ := bl_of_pw qb hlt hb1; have n3_ := bl_of_pw n0_.out hlt hb1; clear HB; have HB := n0_; clear n0_ n2_ hg; have hcz0 : w4.cell? ⟨gb,0,none⟩ = some (.slice A0 l0.length c0) := (y8 hbox 0).trans rfl; have hfz0 := y12 hbox 0; have hcz1 : w4.cell? ⟨g,0,none⟩ = some (.slice A1 l1.length c1) := (y8 n3_ 0).trans rfl; have hfz1 := y12 n3_ 0; clear hbox hb n3_)
  | ((with_reducible refine y15 (f := 62) rfl ?_); refine y17 (some 6) rfl rfl Tryz.func62 (by kernel_rfl) rfl #[.agg #[.slice A0 l0.length c0],.agg #[.slice A1 l1.length c1]] rfl qy0 ?_; (with_reducible refine (impl_sameTuple.calls k _ _ l0 _ _ l1 (sameT l0 l1) _ (by exact Kd.C_below hr0a.out HB.out) hc0 (by exact Kd.C_below hr1a.out HB.out) hc1 A3).mono ?_); rintro e w5 ⟨rfl,hb⟩; refine ⟨_,rfl, ?_⟩; replace HB := y0.mk (y5 qb hb); (try clear hb)))
 go_ret
 exact ⟨by first | rfl | (simp [y13,y14] <;> rfl),qb⟩
/-- The loop: the first row, from a place on, that is the tuple. -/
def impl_Rel_has.l0 (lt : List ByteArray) : Nat → List S48 → Int → Option Int
 | 0,_,_ => none
 | k + 1,x0,x8 => if x8 < (x0.length : Int) then (if 0 ≤ x8 then (if sameT (y21 x0 x8).f0 lt = true then (some x8) else impl_Rel_has.l0 lt k x0 (wrap64 (x8 + 1))) else none) else (some (-1))
set_option maxHeartbeats 8000000 in
set_option maxRecDepth 100000 in
theorem slices_IndexFunc_has.calls (k : Nat) (A0 : Option Addr) (c0 : Nat) (l0 : List (S48)) (g : Nat) (A1 : Option Addr) (c1 : Nat) (l1 : List ByteArray) (r : Int) (w : World) (hr0 : Kd.C k48 w A0 l0.length l0) (hc0 : l0.length ≤ c0) (hr1 : Kd.C Kd.string w A1 l1.length l1) (hc1 : l1.length ≤ c1)
  (hb1 : w.heap[g]? = some (.cells #[.slice A1 l1.length c1] 48 (0,0))) (hsame : ∀ l : List ByteArray,∃ k,impl_sameTuple.f k l l1 = some (sameT l l1)) (h : impl_Rel_has.l0 l1 k l0 0 = some r) :
  Calls Tryz.prog 59 #[.slice A0 l0.length c0,.func (.func 61) #[] #[.pointer (some ⟨g,0,none⟩)]] w fun e w' => e = .returned (.int .i64 r) ∧ Below w.heap.size w w' := by
 have hu48 := Tryz.underlying48
 have hlt := blk_lt' hb1
 have HR0 := y0.mk hr0
 have HC0 := y0.mk hc0
 have HR1 := y0.mk hr1
 have HC1 := y0.mk hc1
 have HB1 := y0.mk hb1
 have HS := y0.mk hsame
 clear hr0 hc0 hr1 hc1 hb1 hsame
 have HB := y0.mk (Below.refl w.heap.size w)
 have H' := y0.mk h
 clear h
 go_enter Tryz.func59,Tryz.ntmps59
 go_wp2
 go_loopg [8] k (fun kq v8 w' => ∃ (x8_1 : Int),v8 = .int .i64 x8_1 ∧ y0 (impl_Rel_has.l0 l1 kq l0 x8_1 = some r) ∧ y0 (kq ≤ k) ∧ y0 (Below w.heap.size w w'))
 case atStart => exact ⟨(0),qy2,H',⟨Nat.le_refl _⟩,⟨qb⟩⟩
 case round =>
  clear H'
  obtain ⟨x8_1,rfl,HA,HK1,HB⟩ := hrel
  cases gk with
  | zero => exact absurd HA.out (by simp [impl_Rel_has.l0])
  | succ k1 =>
   have H := HA.out
   clear HA
   simp only [impl_Rel_has.l0] at H
   by_cases c3 : x8_1 < (l0.length : Int)
   ·rw [if_pos c3] at H
    have c3b0 := decide_eq_true c3
    clear c3
    obtain ⟨c4,H⟩ := qo H
    have c4b0 : decide (0 ≤ x8_1) = true := decide_eq_true c4
    clear c4
    have p274 : 0 ≤ (x8_1 : Int) := of_decide_eq_true qy1
    have q274 : x8_1 < (l0.length : Int) := of_decide_eq_true qy1
    obtain ⟨ad274,A2,c2,e274,hx274_0,hl274,hi274⟩ := at_T48 HR0.out x8_1 p274 q274
    cases e274
    replace hx274_0 := (HB.out.cell (World.block_lt_of_cell? w _ hx274_0)).trans hx274_0
    have HI := y0.mk hi274
    have HL := y0.mk hl274
    clear hi274 hl274
    replace p274 := eq_true p274
    replace q274 := eq_true q274
    obtain ⟨b,hbb⟩ : ∃ b,sameT (y21 l0 x8_1).f0 l1 = b := ⟨_,rfl⟩
    rw [hbb] at H
    have HBB := y0.mk hbb
    clear hbb
    have step : ∀ (w1 : World),Below w.heap.size w w1 → Calls Tryz.prog 61 #[.agg #[.slice A2 (y21 l0 x8_1).f0.length c2],.pointer (some ⟨g,0,none⟩)] w1 fun e w' => e = .returned (.bool b) ∧ Below w1.heap.size w1 w' := by
     intro w1 hb
     rw [← HBB.out]
     exact impl_Rel_has_1.calls A2 c2 _ g A1 c1 l1 w1 (Kd.C_below HI.out hb) HL.out (Kd.C_below HR1.out hb) HC1.out (bl_of_pw hb hlt HB1.out) (HS.out _)
    have HSt := y0.mk step
    clear step
    cases b with
    | true =>
     rw [if_pos rfl] at H
     obtain rfl := Option.some.inj H
     go_wp2_with (first | (go_at_call 61; (with_reducible refine (HSt.out _ qb).mono ?_); rintro e w8 ⟨rfl,hb⟩; replace HB := y0.mk (y5 qb hb); (try clear hb)))
     go_ret
     exact ⟨by first | rfl | (simp [y13,y14] <;> rfl),qb⟩
    | false =>
     rw [if_neg (by decide)] at H
     have H' := y0.mk H
     clear H
     go_wp2_with (first | (go_at_call 61; (with_reducible refine (HSt.out _ qb).mono ?_); rintro e w9 ⟨rfl,hb⟩; replace HB := y0.mk (y5 qb hb); (try clear hb)))
     go_roundg k1
     case measure => have := HK1.out; omega
     exact ⟨(wrap64 (x8_1 + 1)),qy2,H',⟨by have := HK1.out; omega⟩,⟨qb⟩⟩
   ·rw [if_neg c3] at H
    have c3b0 := decide_eq_false c3
    clear c3
    obtain rfl := Option.some.inj H
    go_wp2
    go_ret
    exact ⟨by first | rfl | (simp [y13,y14] <;> rfl),qb⟩
set_option maxHeartbeats 8000000 in
set_option maxRecDepth 100000 in
theorem slices_ContainsFunc_has.calls (k : Nat) (A0 : Option Addr) (c0 : Nat) (l0 : List (S48)) (g : Nat) (A1 : Option Addr) (c1 : Nat) (l1 : List ByteArray) (r : Int) (w : World) (hr0 : Kd.C k48 w A0 l0.length l0) (hc0 : l0.length ≤ c0) (hr1 : Kd.C Kd.string w A1 l1.length l1) (hc1 : l1.length ≤ c1)
  (hb1 : w.heap[g]? = some (.cells #[.slice A1 l1.length c1] 48 (0,0))) (hsame : ∀ l : List ByteArray,∃ k,impl_sameTuple.f k l l1 = some (sameT l l1)) (h : impl_Rel_has.l0 l1 k l0 0 = some r) :
  Calls Tryz.prog 60 #[.slice A0 l0.length c0,.func (.func 61) #[] #[.pointer (some ⟨g,0,none⟩)]] w fun e w' => e = .returned (.bool (decide (r ≥ 0))) ∧ Below w.heap.size w w' := by
 have HC := y0.mk (slices_IndexFunc_has.calls k A0 c0 l0 g A1 c1 l1 r w hr0 hc0 hr1 hc1 hb1 hsame h)
 have HB := y0.mk (Below.refl w.heap.size w)
 clear h hsame hb1 hr0 hr1
 go_enter Tryz.func60,Tryz.ntmps60
 go_wp2_with (first | ((with_reducible refine y15 (f := 59) rfl ?_); refine y17 (some 7) rfl rfl Tryz.func59 (by kernel_rfl) rfl #[.slice A0 l0.length c0,.func (.func 61) #[] #[.pointer (some ⟨g,0,none⟩)]] rfl qy0 ?_; (with_reducible refine HC.out.mono ?_); rintro e w4 ⟨rfl,hb⟩; refine ⟨_,rfl, ?_⟩; replace HB := y0.mk (y5 qb hb); (try clear hb)))
 go_ret
 exact ⟨by first | rfl | (simp [y13,y14] <;> rfl),qb⟩
theorem toList_data (s : ByteArray) : s.toList = s.data.toList := by
 obtain ⟨a⟩ := s
 obtain ⟨l⟩ := a
 exact ByteArray.toList_mk l
theorem sameT_cons (a b : ByteArray) (l m : List ByteArray) : sameT (a :: l) (b :: m) = (decide (a.data.toList = b.data.toList) && sameT l m) := by
 unfold sameT
 rw [List.map_cons,List.map_cons,← Bool.decide_and]
 exact decide_eq_decide.2 (by rw [List.cons.injEq])
theorem sameT_len {l m : List ByteArray} (h : l.length ≠ m.length) : sameT l m = false :=
 decide_eq_false (fun e => h (by have := congrArg List.length e; rwa [List.length_map,List.length_map] at this))
theorem rdOf_at (xs : List ByteArray) (i : Nat) (h : i < xs.length) : rdOf ByteArray.empty xs (i : Int) = xs[i] := by
 unfold rdOf
 rw [show ((i : Int)).toNat = i from rfl,List.getD_eq_getElem?_getD,List.getElem?_eq_getElem h]
 rfl
theorem wrap_up {i : Nat} (h : i ≤ 281474976710656) : wrap64 ((i : Int) + 1) = ((i + 1 : Nat) : Int) := by
 unfold wrap64
 omega
theorem same_l (l m : List ByteArray) (hl : l.length = m.length) (hn : l.length ≤ 281474976710656) : ∀ (d i k : Nat),i + d = l.length → d < k → slices_Equal_string_string.l0 k l m (l.length : Int) (i : Int) = some (sameT (l.drop i) (m.drop i))
 | d,i,0,_,hk => absurd hk (Nat.not_lt_zero d)
 | 0,i,k + 1,h,_ => by
  rw [slices_Equal_string_string.l0,if_neg (by omega),List.drop_of_length_le (by omega),List.drop_of_length_le (by omega)]
  rfl
 | d + 1,i,k + 1,h,hk => by
  have hi : i < l.length := by omega
  have hj : i < m.length := by omega
  rw [slices_Equal_string_string.l0,if_pos (by omega),if_pos (by omega),if_pos (by omega),if_pos (by omega),rdOf_at l i hi,rdOf_at m i hj,toList_data,toList_data,List.drop_eq_getElem_cons hi,List.drop_eq_getElem_cons hj,sameT_cons]
  by_cases e : l[i].data.toList = m[i].data.toList
  ·rw [if_pos e,wrap_up (by omega),same_l l m hl hn d (i + 1) k (by omega) (by omega),decide_eq_true e,Bool.true_and]
  ·rw [if_neg e,decide_eq_false e,Bool.false_and]
theorem same_f (m : List ByteArray) (hn : m.length ≤ 281474976710656) (l : List ByteArray) : ∃ k,impl_sameTuple.f k l m = some (sameT l m) := by
 refine ⟨l.length + 1, ?_⟩
 unfold impl_sameTuple.f slices_Equal_string_string.f
 by_cases hl : l.length = m.length
 ·rw [if_pos (by omega),show (0 : Int) = ((0 : Nat) : Int) from rfl,same_l l m hl (by omega) l.length 0 _ (by omega) (by omega)]
  rfl
 ·rw [if_neg (by omega),sameT_len hl]
  rfl
/-- Whether a tuple is one of the rows. -/
def hasT (l0 : List S48) (l1 : List ByteArray) : Bool := l0.any fun o => sameT o.f0 l1
theorem rd_at (xs : List S48) (i : Nat) (h : i < xs.length) : y21 xs (i : Int) = xs[i] := by
 unfold y21
 rw [show ((i : Int)).toNat = i from rfl,List.getD_eq_getElem?_getD,List.getElem?_eq_getElem h]
 rfl
theorem has_l (l1 : List ByteArray) (l0 : List S48) (hn : l0.length ≤ 281474976710656) : ∀ (d i : Nat),i + d = l0.length → ∃ r,impl_Rel_has.l0 l1 (d + 1) l0 (i : Int) = some r ∧ decide (r ≥ 0) = hasT (l0.drop i) l1
 | 0,i,h => by
  refine ⟨-1, ?_, ?_⟩
  ·rw [impl_Rel_has.l0,if_neg (by omega)]
  ·rw [List.drop_of_length_le (by omega)]
   rfl
 | d + 1,i,h => by
  have hi : i < l0.length := by omega
  rw [impl_Rel_has.l0,if_pos (by omega),if_pos (by omega),rd_at l0 i hi,List.drop_eq_getElem_cons hi]
  by_cases e : sameT l0[i].f0 l1 = true
  ·rw [if_pos e]
   refine ⟨_,rfl, ?_⟩
   unfold hasT
   rw [List.any_cons,e,Bool.true_or]
   exact decide_eq_true (by omega)
  ·rw [if_neg e,wrap_up (by omega)]
   obtain ⟨r,h1,h2⟩ := has_l l1 l0 hn d (i + 1) (by omega)
   refine ⟨r,h1, ?_⟩
   rw [h2]
   unfold hasT
   rw [List.any_cons,Bool.eq_false_iff.2 e,Bool.false_or]
def impl_Rel_has.f (a0_0 : Int) (l0_1 : List (S48)) (l1_0 : List ByteArray) : Option Bool := if l0_1.length ≤ 281474976710656 then (if l1_0.length ≤ 281474976710656 then some (hasT l0_1 l1_0) else none) else none
set_option maxHeartbeats 8000000 in
set_option maxRecDepth 100000 in
theorem impl_Rel_has.calls (a0_0 : Int) (A0_1 : Option Addr) (c0_1 : Nat) (l0_1 : List (S48)) (A1_0 : Option Addr) (c1_0 : Nat) (l1_0 : List ByteArray) (r : Bool) (w : World) (hr0_1 : Kd.C k48 w A0_1 l0_1.length l0_1) (hc0_1 : l0_1.length ≤ c0_1) (hr1_0 : Kd.C Kd.string w A1_0 l1_0.length l1_0) (hc1_0 : l1_0.length ≤ c1_0) (h : impl_Rel_has.f a0_0 l0_1 l1_0 = some r) :
  Calls Tryz.prog 45 #[.agg #[.int .i64 a0_0,.slice A0_1 l0_1.length c0_1],.agg #[.slice A1_0 l1_0.length c1_0]] w fun e w' => e = .returned (.bool r) ∧ Below w.heap.size w w' := by
 have hu48 := Tryz.underlying48
 have hu31 := Tryz.underlying31
 unfold impl_Rel_has.f at h
 by_cases h1 : l0_1.length ≤ 281474976710656
 ·rw [if_pos h1] at h
  by_cases h2 : l1_0.length ≤ 281474976710656
  ·rw [if_pos h2] at h
   obtain rfl := Option.some.inj h
   clear h
   obtain ⟨r',g1,g2⟩ := has_l l1_0 l0_1 h1 l0_1.length 0 (by omega)
   rw [List.drop_zero] at g2
   replace g1 : impl_Rel_has.l0 l1_0 (l0_1.length + 1) l0_1 0 = some r' := g1
   rw [← g2]
   have HG := y0.mk g1
   clear g1 g2
   have HS := y0.mk (same_f l1_0 h2)
   clear h1 h2
   have HR0 := y0.mk hr0_1
   have HC0 := y0.mk hc0_1
   have HR1 := y0.mk hr1_0
   have HC1 := y0.mk hc1_0
   clear hr0_1 hc0_1 hr1_0 hc1_0
   have HB := y0.mk (Below.refl w.heap.size w)
   go_enter Tryz.func45,Tryz.ntmps45
   go_wp2_with (first
    | ((with_reducible refine y16 (N := 2) rfl ?_); refine qe 2 #[.int .i64 a0_0,.slice A0_1 l0_1.length c0_1] 31 ?_; intro ga hg w4 hbox hb; have n0_ := y0.mk (y5 qb hb); have BKA := y0.mk hbox; have hlta := blk_lt' hbox; clear HB; have HB := n0_; clear n0_ hg hbox hb)
    | ((with_reducible refine y16 (N := 3) rfl ?_); refine qe 3 #[.slice A1_0 l1_0.length c1_0] 48 ?_; intro gb hg w5 hbox hb; have n0_ := y0.mk (y5 qb hb); have n1_ := y0.mk (qK BKA.out hb); have BKB := y0.mk hbox; clear BKA; have BKA := n1_; clear HB; have HB := n0_; clear n0_ n1_ hg hbox hb; have hcz0 : w5.cell? ⟨ga,0,none⟩ = some (.int .i64 a0_0) := (y8 BKA.out 0).trans rfl; have hcz1 : w5.cell? ⟨ga,1,none⟩ = some (.slice A0_1 l0_1.length c0_1) := (y8 BKA.out 1).trans rfl; have hfz0 := y12 BKA.out 0; have hfz1 := y12 BKA.out 1)
    | (go_at_call 60; (with_reducible refine (slices_ContainsFunc_has.calls (l0_1.length + 1) _ _ l0_1 gb A1_0 c1_0 l1_0 r' _ (by exact Kd.C_below HR0.out qb) HC0.out (by exact Kd.C_below HR1.out qb) HC1.out (by (with_reducible repeat (first | refine y10 ?_ _ | refine y9 ?_ | refine y6 ?_ _)); exact BKB.out) HS.out HG.out).mono ?_); rintro e w6 ⟨rfl,hb⟩; replace HB := y0.mk (y5 qb hb); (try clear hb)))
   go_ret
   exact ⟨by first | rfl | (simp [y13,y14] <;> rfl),qb⟩
  ·rw [if_neg h2] at h
   cases h
 ·rw [if_neg h1] at h
  cases h
end Go.Proofs.YtocmfolajckaeaaGreatDoor.Pe
end
section
namespace Go.Proofs.YtocmfolajckaeaaGreatDoor.Pe
open Go.RowKit Go.Proofs.YtocmfolajckaeaaGreatDoorW.PrintWords Go.Proofs.YtocmfolajckaeaaGreatDoorW.PrintLast Go.Proofs.YtocmfolajckaeaaGreatDoorW.PrintMore
attribute [local go_sem] max2_int min2_int max_two min_two max_three min_three max_four min_four   -- for this text's walks alone
set_option linter.unusedVariables false
set_option linter.unusedSimpArgs false
/-- A row that stays: it is none of the others. -/
def keepB (lb : List S48) (r : S48) : Bool := !hasT lb r.f0
/-- The first row, from a place on, that goes. -/
def fidx (lb : List S48) : List S48 → Nat → Int
 | [],_ => -1
 | r :: l,i => if hasT lb r.f0 = true then (i : Int) else fidx lb l (i + 1)
theorem fidx_cons (lb : List S48) (l : List S48) (i : Nat) (h : i < l.length) : fidx lb (l.drop i) i = if hasT lb l[i].f0 = true then (i : Int) else fidx lb (l.drop (i + 1)) (i + 1) := by
 rw [List.drop_eq_getElem_cons h]
 rfl
theorem fidx_none (lb : List S48) : ∀ (l : List S48) (i : Nat),fidx lb l i = -1 → ∀ r ∈ l,keepB lb r = true
 | [],_,_,r,hr => by cases hr
 | x :: l,i,h,r,hr => by
  unfold fidx at h
  by_cases e : hasT lb x.f0 = true
  ·rw [if_pos e] at h
   omega
  ·rw [if_neg e] at h
   rcases List.mem_cons.1 hr with rfl | hr
   ·unfold keepB
    rw [Bool.eq_false_iff.2 e]
    rfl
   ·exact fidx_none lb l (i + 1) h r hr
theorem fidx_some (lb : List S48) : ∀ (l : List S48) (i : Nat),fidx lb l i ≠ -1 → ∃ j,∃ h : j < l.length,fidx lb l i = ((i + j : Nat) : Int) ∧ (∀ r ∈ l.take j,keepB lb r = true) ∧ hasT lb l[j].f0 = true
 | [],_,h => absurd rfl h
 | x :: l,i,h => by
  unfold fidx at h ⊢
  by_cases e : hasT lb x.f0 = true
  ·rw [if_pos e]
   exact ⟨0,by simp,rfl,(fun r hr => by cases hr),e⟩
  ·rw [if_neg e] at h ⊢
   obtain ⟨j,hj,h1,h2,h3⟩ := fidx_some lb l (i + 1) h
   refine ⟨j + 1,by simpa using hj,by rw [h1]; omega,fun r hr => ?_,h3⟩
   rw [List.take_succ_cons] at hr
   rcases List.mem_cons.1 hr with rfl | hr
   ·unfold keepB
    rw [Bool.eq_false_iff.2 e]
    rfl
   ·exact h2 r hr
theorem wrap_lup {i : Nat} (h : i ≤ 281474976710656) : wrap64 ((i : Int) + 1) = ((i + 1 : Nat) : Int) := by
 unfold wrap64
 omega
theorem has_some (b0 : Int) (lb : List S48) (l : List ByteArray) (h1 : lb.length ≤ 281474976710656) (h2 : l.length ≤ 281474976710656) : impl_Rel_has.f b0 lb l = some (hasT lb l) := by
 unfold impl_Rel_has.f
 rw [if_pos h1,if_pos h2]
set_option maxHeartbeats 8000000 in
set_option maxRecDepth 100000 in
theorem slices_IndexFunc_bound.calls (A0 : Option Addr) (c0 : Nat) (l0 : List (S48)) (b0 : Int) (Ab : Option Addr) (cb : Nat) (lb : List (S48)) (w : World) (hr0 : Kd.C k48 w A0 l0.length l0) (hc0 : l0.length ≤ c0) (hrb : Kd.C k48 w Ab lb.length lb) (hcb : lb.length ≤ cb)
  (hlb : lb.length ≤ 281474976710656) (hl0 : l0.length ≤ 281474976710656) (hls : ∀ r ∈ l0,r.f0.length ≤ 281474976710656) :
  Calls Tryz.prog 59 #[.slice A0 l0.length c0,.func (.func 45) #[.agg #[.int .i64 b0,.slice Ab lb.length cb]] #[]] w fun e w' => e = .returned (.int .i64 (fidx lb l0 0)) ∧ Below w.heap.size w w' := by
 have hu48 := Tryz.underlying48
 have HR0 := y0.mk hr0
 have HC0 := y0.mk hc0
 have HRb := y0.mk hrb
 have HCb := y0.mk hcb
 have HL := y0.mk hlb
 have HL0 := y0.mk hl0
 have HLS := y0.mk hls
 clear hr0 hc0 hrb hcb hlb hl0 hls
 have HB := y0.mk (Below.refl w.heap.size w)
 go_enter Tryz.func59,Tryz.ntmps59
 go_wp2
 go_loopg [8] l0.length (fun kq v8 w' => ∃ (xi : Int) (i : Nat),v8 = .int .i64 xi ∧ y0 (xi = (i : Int)) ∧ y0 (kq + i = l0.length) ∧ y0 (fidx lb (l0.drop i) i = fidx lb l0 0) ∧ y0 (Below w.heap.size w w'))
 case atStart => exact ⟨0,0,rfl,⟨rfl⟩,⟨Nat.add_zero _⟩,⟨rfl⟩,HB⟩
 case round =>
  obtain ⟨xi,i,rfl,HX,HK1,HA,HB⟩ := hrel
  by_cases c : xi < (l0.length : Int)
  ·have hi : i < l0.length := by have := HX.out; omega
   have p1 : 0 ≤ xi := by have := HX.out; omega
   obtain ⟨ad,A2,c2,e2,hx0,hl2,hi2⟩ := at_T48 HR0.out xi p1 c
   cases e2
   replace hx0 := (HB.out.cell (World.block_lt_of_cell? w _ hx0)).trans hx0
   have hrd : y21 l0 xi = l0[i] := by
    rw [HX.out]
    exact rd_at l0 i hi
   have hH := fidx_cons lb l0 i hi
   rw [HA.out] at hH
   have hin := HLS.out _ (List.getElem_mem hi)
   rw [← hrd] at hH hin
   obtain ⟨b,hb⟩ : ∃ b,hasT lb (y21 l0 xi).f0 = b := ⟨_,rfl⟩
   rw [hb] at hH
   have step : y0 (∀ (w1 : World),Below w.heap.size w w1 → Calls Tryz.prog 45 #[.agg #[.int .i64 b0,.slice Ab lb.length cb],.agg #[.slice A2 (y21 l0 xi).f0.length c2]] w1 fun e w' => e = .returned (.bool b) ∧ Below w1.heap.size w1 w') :=
    ⟨fun w1 h1 => impl_Rel_has.calls b0 Ab cb lb A2 c2 _ b w1 (Kd.C_below HRb.out h1) HCb.out (Kd.C_below hi2 h1) hl2 (by rw [has_some b0 lb _ HL.out hin,hb])⟩
   have HHt : y0 (b = true → fidx lb l0 0 = (i : Int)) := ⟨fun e => by rw [hH,if_pos e]⟩
   have HHf : y0 (b = false → fidx lb l0 0 = fidx lb (l0.drop (i + 1)) (i + 1)) := ⟨fun e => by rw [hH,if_neg (by rw [e]; decide)]⟩
   have HI := y0.mk hi
   have q1 := eq_true c
   replace p1 := eq_true p1
   have cb1 : decide (xi < (l0.length : Int)) = true := decide_eq_true c
   clear hH hin hrd hb hi hi2 hl2 c
   cases b with
   | true =>
    go_wp2_with (first | (go_at_call 45; (with_reducible refine (step.out _ HB.out).mono ?_); rintro e w5 ⟨rfl,hb⟩; have n0_ := y0.mk (y5 HB.out hb); clear HB hb; have HB := n0_; clear n0_))
    go_ret
    refine ⟨?_,HB.out⟩
    rw [(by first | exact HHt.out rfl | exact HHt.out trivial : fidx lb l0 0 = (i : Int)),HX.out]
    rfl
   | false =>
    go_wp2_with (first | (go_at_call 45; (with_reducible refine (step.out _ HB.out).mono ?_); rintro e w5 ⟨rfl,hb⟩; have n0_ := y0.mk (y5 HB.out hb); clear HB hb; have HB := n0_; clear n0_))
    go_roundg (l0.length - i - 1)
    case measure => have := HK1.out; have := HI.out; omega
    case rel =>
     refine ⟨wrap64 (xi + 1),i + 1,qy2,⟨?_⟩,⟨by have := HI.out; omega⟩,⟨?_⟩,HB⟩
     ·rw [HX.out]
      exact wrap_lup (by have := HI.out; have := HL0.out; omega)
     ·exact (by first | exact HHf.out rfl | exact HHf.out trivial : fidx lb l0 0 = fidx lb (l0.drop (i + 1)) (i + 1)).symm
  ·have cb1 : decide (xi < (l0.length : Int)) = false := decide_eq_false c
   go_wp2
   go_ret
   refine ⟨?_,HB.out⟩
   have h1 := HA.out
   rw [List.drop_of_length_le (by have := HX.out; omega)] at h1
   rw [← h1]
   rfl
/-- clear(s), s a slice of n > 0 elements of one cell each. -/
theorem run_clear1 {P : Program} (w : World) (t e ty : TypeId) (z u : Value) (ht : P.underlying t = some (.slice e)) (hv : ∀ w,(zeroValue e).run P w = .ok z w) (hz : z.cells = #[u]) (h1 : u.oneCell' = true) (b o n c : Nat) (hn : 0 < n)
  (hc : ∀ j,j < n → (w.cell? ⟨b,o + j,none⟩).isSome = true) (hf : ∀ j,j < n → w.frozen? ⟨b,o + j,none⟩ = false) :
  (Builtin.clear_ #[t] ty #[.slice (some ⟨b,o,none⟩) n c]).run P w = .ok (.tuple #[]) (w.setCells b o (List.replicate n u)) := by
 have hzc : (Builtin.zeroCells z.cells n).toList = List.replicate n u := by
  rw [hz]
  simp [Builtin.zeroCells]
  apply List.ext_getElem
  ·simp
  ·intro i h1 h2
   simp [Nat.mod_one]
 have hst := run_storeCells_cells (P := P) b o (List.replicate n u) 0 w (by simpa using hc) (by simpa using hf) (by intro v hv'; rw [List.eq_of_mem_replicate hv']; exact h1)
 simp only [Nat.add_zero] at hst
 obtain ⟨m,rfl⟩ : ∃ m,n = m + 1 := ⟨n - 1,by omega⟩
 simp [Builtin.clear_,run_underlying ht,hv,hzc,hst]
theorem zip_fst (l : List S48) : ∀ n,(l.zipIdx n).map Prod.fst = l := by
 induction l with
 | nil => intro n; rfl
 | cons x l ih =>
  intro n
  rw [List.zipIdx_cons,List.map_cons,ih]
theorem filter_fst (q : S48 → Bool) (zs : List (S48 × Nat)) : (zs.filter fun p => q p.1).map Prod.fst = (zs.map Prod.fst).filter q := by
 rw [List.filter_map]
 rfl
theorem zip_apart (l : List S48) : l.zipIdx.Pairwise fun x y => x.2 ≠ y.2 := by
 refine List.pairwise_iff_getElem.2 fun i j hi hj hij => ?_
 rw [List.getElem_zipIdx,List.getElem_zipIdx]
 show 0 + i ≠ 0 + j
 omega
theorem tk_drop (q : S48 → Bool) {l : List S48} {zs : List (S48 × Nat)} {i j : Nat} (hj : j < l.length) (h : zs.take i = (l.zipIdx.take j).filter fun p => q p.1) (hq : q l[j] = false) : zs.take i = (l.zipIdx.take (j + 1)).filter fun p => q p.1 := by
 rw [List.take_succ_eq_append_getElem (by rw [List.length_zipIdx]; exact hj),List.filter_append,← h,List.getElem_zipIdx,List.filter_cons,if_neg (by show ¬ q l[j] = true; rw [hq]; decide),List.filter_nil,List.append_nil]
theorem tk_keep (q : S48 → Bool) {l : List S48} {zs : List (S48 × Nat)} {i j : Nat} (hj : j < l.length) (hi : i < zs.length) (h : zs.take i = (l.zipIdx.take j).filter fun p => q p.1) (hq : q l[j] = true) : (zs.set i (l[j],j)).take (i + 1) = (l.zipIdx.take (j + 1)).filter fun p => q p.1 := by
 have h1 : l.zipIdx.take (j + 1) = l.zipIdx.take j ++ [(l[j],j)] := by
  rw [List.take_succ_eq_append_getElem (by rw [List.length_zipIdx]; exact hj),List.getElem_zipIdx]
  simp
 have h2 : (zs.set i (l[j],j)).take (i + 1) = zs.take i ++ [(l[j],j)] := by
  rw [List.take_succ_eq_append_getElem (by rw [List.length_set]; exact hi),List.take_set_of_le (Nat.le_refl i),List.getElem_set_self]
 rw [h1,h2,List.filter_append,← h,List.filter_cons,if_pos (by show q l[j] = true; exact hq),List.filter_nil]
theorem dr_set {l zs : List (S48 × Nat)} {i j : Nat} (p : S48 × Nat) (hij : i < j + 1) (h : zs.drop j = l.drop j) : (zs.set i p).drop (j + 1) = l.drop (j + 1) := by
 rw [List.drop_set_of_lt hij,← List.drop_drop,h,List.drop_drop]
theorem dr_one {l zs : List (S48 × Nat)} {j : Nat} (h : zs.drop j = l.drop j) : zs.drop (j + 1) = l.drop (j + 1) := by
 rw [← List.drop_drop,h,List.drop_drop]
/-- s[i:] and s[:i], i < n ≤ c. -/
theorem cut_lo {P : Program} (t e : TypeId) {ii : TypeInfo} (ht : P.underlying t = some (.slice e)) (hi : P.info? e = some ii) (hsz : ii.size = 1) (g n c i : Nat) (hin : i < n) (hnc : n ≤ c) (W : World) : (Instr.slice t (.slice (some ⟨g,0,none⟩) n c) (some (.int .i64 (i : Int))) none none).run P W = .ok (.slice (some ⟨g,i,none⟩) (n - i) (c - i)) W := by
 have hel : P.elem t = e := by simp [Program.elem,ht]
 have hu : P.underlying t = some (.slice (P.elem t)) := by rw [hel]; exact ht
 rw [run_slice_l W t (some ⟨g,0,none⟩) n c hu .i64 (i : Int) (Int.natCast_nonneg _) (by omega),hel]
 simp [sizeOf,typeInfo,hi,hsz,sliced,Result.andThen,show c ≠ i by omega,add_at]
theorem cut_hi {P : Program} (t e : TypeId) {ii : TypeInfo} (ht : P.underlying t = some (.slice e)) (hi : P.info? e = some ii) (hsz : ii.size = 1) (g n c i : Nat) (hin : i < n) (hnc : n ≤ c) (W : World) : (Instr.slice t (.slice (some ⟨g,0,none⟩) n c) none (some (.int .i64 (i : Int))) none).run P W = .ok (.slice (some ⟨g,0,none⟩) i c) W := by
 have hel : P.elem t = e := by simp [Program.elem,ht]
 have hu : P.underlying t = some (.slice (P.elem t)) := by rw [hel]; exact ht
 rw [run_slice_h W t (some ⟨g,0,none⟩) n c hu .i64 (i : Int) (Int.natCast_nonneg _) (by omega),hel]
 simp [sizeOf,typeInfo,hi,hsz,sliced,Result.andThen,add_at]
section
variable {f : Nat → Nat} {lo hi : Nat} {g n c : Nat} {zs : List (S48 × Nat)} {W : World}
abbrev kTag (f : Nat → Nat) : Kd (S48 × Nat) := Kd.tag f k48
/-- Element i: its one cell, a row. -/
theorem tag_at (h : QIv.OR (kTag f) 48 lo hi (.slice (some ⟨g,0,none⟩) n c) zs W) (i : Nat) (hin : i < n) (p : S48 × Nat) (hp : zs[i]? = some p) :
  ∃ A cx,W.cell? ⟨g,i,none⟩ = some (.slice A p.1.f0.length cx) ∧ W.frozen? ⟨g,i,none⟩ = false ∧ p.1.f0.length ≤ cx ∧ Kd.C Kd.string W A p.1.f0.length p.1.f0 ∧ (kTag f).M W lo (fun k => k < hi ∧ k ≠ g) p [.slice A p.1.f0.length cx] := by
 obtain ⟨cs,hcl,hM,hcc,hfr⟩ := Kd.R_elem h p (i : Int) (by omega) (by omega)
 rw [show ((i : Int)).toNat = i from rfl] at hM hcc hfr
 rw [List.getD_eq_getElem?_getD,hp,Option.getD_some] at hM
 obtain ⟨u,rfl,hR⟩ := k48_openM hM
 obtain ⟨A,cx,rfl⟩ := Kd.R_slice hR
 have h1 := hcc 0 _ rfl
 have h2 := hfr 0
 have hz : i * (kTag f).sz + 0 = i := by show i * 1 + 0 = i; omega
 rw [hz] at h1 h2
 obtain ⟨hl,hle,hC⟩ := Kd.R_reads' hR
 exact ⟨A,cx,h1,h2,hle,hC,hM⟩
/-- An element is stored at place i. -/
theorem tag_put (h : QIv.OR (kTag f) 48 lo hi (.slice (some ⟨g,0,none⟩) n c) zs W) (i : Nat) (hin : i < n) (p : S48 × Nat) (u : Value) (hM : (kTag f).M W lo (fun k => k < hi ∧ k ≠ g) p [u]) :
  QIv.OR (kTag f) 48 lo hi (.slice (some ⟨g,0,none⟩) n c) (zs.set i p) (W.setCell ⟨g,i,none⟩ u) := by
 obtain ⟨cs,hcl,_,hcc,_⟩ := Kd.R_elem h p (i : Int) (by omega) (by omega)
 have h1 : cs.length = 1 := hcl
 have key := (Kd.R_seg h (i : Int) (by omega) (by omega) (c := cs) (seg := [u]) (j := 0) hcl hcc (by show 0 + 1 ≤ 1; omega) (x' := p) (okp := fun k => k < hi ∧ k ≠ g) (by rw [List.take_zero,List.nil_append,List.drop_of_length_le (by rw [h1]; simp),List.append_nil]; exact hM) (fun _ hk => hk)).1
 have hz : ((i : Int)).toNat * (kTag f).sz + 0 = i := by show i * 1 + 0 = i; omega
 rw [hz] at key
 exact key
end
set_option maxHeartbeats 8000000 in
set_option maxRecDepth 100000 in
theorem slices_DeleteFunc_bound.calls (lo hi : Nat) (A0 : Option Addr) (c0 : Nat) (l0 : List (S48)) (b0 : Int) (Ab : Option Addr) (cb : Nat) (lb : List (S48)) (w0 w : World) (hB : Below w0.heap.size w0 w) (hlo : w0.heap.size ≤ lo) (hhi : hi ≤ w.heap.size) (ho : QIv.OS k48 48 lo hi (.slice A0 l0.length c0) l0 w)
  (hrb : ∀ w1,QIv.KI lo hi w w1 → Kd.C k48 w1 Ab lb.length lb) (hcb : lb.length ≤ cb) (hlb : lb.length ≤ 281474976710656) (hl0 : l0.length ≤ 281474976710656) (hls : ∀ r ∈ l0,r.f0.length ≤ 281474976710656) :
  Calls Tryz.prog 44 #[.slice A0 l0.length c0,.func (.func 45) #[.agg #[.int .i64 b0,.slice Ab lb.length cb]] #[]] w fun e w' => e = .returned (.slice A0 (l0.filter (keepB lb)).length c0) ∧ QIv.OS k48 48 lo hi (.slice A0 (l0.filter (keepB lb)).length c0) (l0.filter (keepB lb)) w' ∧ Below w0.heap.size w0 w' ∧ QIv.KI lo hi w w' := by
 have hu48 := Tryz.underlying48
 have HO := y0.mk ho
 have HB := y0.mk hB
 have HLO := y0.mk hlo
 have HHI := y0.mk hhi
 have HRb := y0.mk hrb
 have HCb := y0.mk hcb
 have HL := y0.mk hlb
 have HL0 := y0.mk hl0
 have HLS := y0.mk hls
 have HK := y0.mk (QIv.ki_refl lo hi w)
 have IDX := y0.mk (fun (W : World) (hk : QIv.KI lo hi w W) (hC : Kd.C k48 W A0 l0.length l0) => slices_IndexFunc_bound.calls A0 c0 l0 b0 Ab cb lb W hC (QIv.OS.le ho) (hrb W hk) hcb hlb hl0 hls)
 clear hB hlo hhi ho hrb hcb hlb hl0 hls
 by_cases hno : fidx lb l0 0 = -1
 ·have hall := fidx_none lb l0 0 hno
  have hfl : l0.filter (keepB lb) = l0 := List.filter_eq_self.2 hall
  rw [hfl]
  have hb1 : (fidx lb l0 0 == -1) = true := beq_iff_eq.mpr hno
  clear hall hfl hno
  go_enter Tryz.func44,Tryz.ntmps44
  go_wp2_with (first | (go_at_call 59; (with_reducible refine (IDX.out _ HK.out HO.out.C).mono ?_); rintro e w2 ⟨rfl,hb⟩; have n0_ := y0.mk (HO.out.below hb); have n1_ := y0.mk (y5 HB.out hb); have n2_ := y0.mk (QIv.ki_below HK.out hb); clear HO HB HK hb; have HO := n0_; have HB := n1_; have HK := n2_; clear n0_ n1_ n2_))
  go_ret
  exact ⟨by first | rfl | (simp [y13,y14] <;> rfl),HO.out,HB.out,HK.out⟩
 ·obtain ⟨i0,hi0,hfi,hpre,hhas⟩ := fidx_some lb l0 0 hno
  rw [Nat.zero_add] at hfi
  rw [hfi] at IDX
  have hb1 : ((i0 : Int) == -1) = false := beq_eq_false_iff_ne.mpr (by omega)
  obtain ⟨g,cap,hsl,hbg,_⟩ := Kd.S_form HO.out (by omega)
  injection hsl with e1 _ e3
  subst e1
  clear e3 hno
  obtain ⟨ft,hR⟩ := HO.out
  have HR : y0 (QIv.OR (kTag ft) 48 lo hi (.slice (some ⟨g,0,none⟩) l0.length c0) l0.zipIdx w) := ⟨hR⟩
  have hg : lo ≤ g ∧ g < hi := ⟨Kd.R_base hR g (by simp [Value.ownBlock]),hR.1 g (by simp [Value.ownBlock])⟩
  have HG := y0.mk hg
  have hnc := (Kd.R_reads' hR).2.1
  have HNC := y0.mk hnc
  have hpre2 : (l0.zipIdx.take i0).filter (fun p => keepB lb p.1) = l0.zipIdx.take i0 := by
   refine List.filter_eq_self.2 fun p hp => hpre p.1 ?_
   have h1 : p.1 ∈ (l0.zipIdx.take i0).map Prod.fst := List.mem_map_of_mem hp
   rwa [List.map_take,zip_fst] at h1
  have hst : l0.zipIdx.take i0 = (l0.zipIdx.take (i0 + 1)).filter (fun p => keepB lb p.1) := by
   rw [List.take_succ_eq_append_getElem (by rw [List.length_zipIdx]; exact hi0),List.filter_append,hpre2,List.getElem_zipIdx]
   have : keepB lb l0[i0] = false := by
    unfold keepB
    rw [hhas]
    rfl
   rw [List.filter_cons,if_neg (by show ¬ keepB lb l0[i0] = true; rw [this]; decide),List.filter_nil,List.append_nil]
  have HST := y0.mk hst
  have HI0 := y0.mk hi0
  clear hR hg hnc hpre2 hst hi0 hpre hhas hfi hbg
  go_enter Tryz.func44,Tryz.ntmps44
  go_wp2_with (first | (go_at_call 59; (with_reducible refine (IDX.out _ HK.out HO.out.C).mono ?_); rintro e w2 ⟨rfl,hb⟩; have n0_ := y0.mk (HR.out.below hb); have n1_ := y0.mk (y5 HB.out hb); have n2_ := y0.mk (QIv.ki_below HK.out hb); have n3_ := y0.mk (Nat.le_trans HHI.out hb.size); clear HR HB HK HO hb; have HR := n0_; have HB := n1_; have HK := n2_; have HHW := n3_; clear n0_ n1_ n2_ n3_))
  go_loopg [5,6] (l0.length - i0 - 1) (fun kq v5 v6 w' => ∃ (xi xj : Int) (i j : Nat) (zs : List (S48 × Nat)),v5 = .int .i64 xi ∧ v6 = .int .i64 xj ∧ y0 (xi = (i : Int)) ∧ y0 (xj = (j : Int)) ∧ y0 (kq + j = l0.length) ∧ y0 (i < j) ∧ y0 (zs.length = l0.length) ∧ y0 (zs.take i = (l0.zipIdx.take j).filter (fun p => keepB lb p.1)) ∧ y0 (zs.drop j = l0.zipIdx.drop j) ∧ y0 (QIv.OR (kTag ft) 48 lo hi (.slice (some ⟨g,0,none⟩) l0.length c0) zs w') ∧ y0 (QIv.KI lo hi w w') ∧ y0 (Below w0.heap.size w0 w') ∧ y0 (hi ≤ w'.heap.size))
  case atStart => exact ⟨(i0 : Int),wrap64 ((i0 : Int) + 1),i0,i0 + 1,l0.zipIdx,rfl,qy2,⟨rfl⟩,⟨wrap_lup (by have := HI0.out; have := HL0.out; omega)⟩,⟨(by have := HI0.out; omega)⟩,⟨(by omega)⟩,⟨List.length_zipIdx⟩,HST,⟨rfl⟩,HR,HK,HB,HHW⟩
  case round =>
   clear HR HK HB HHW
   obtain ⟨xi,xj,i,j,zs,rfl,rfl,HX,HXJ,HK1,HIJ,HZL,HZT,HZD,HR,HK,HB,HHW⟩ := hrel
   by_cases c : xj < (l0.length : Int)
   ·have hj : j < l0.length := by have := HXJ.out; omega
    have hzj : zs[j]? = some (l0[j],j) := by
     have h1 : (zs.drop j)[0]? = (l0.zipIdx.drop j)[0]? := by rw [HZD.out]
     rw [List.getElem?_drop,List.getElem?_drop,Nat.add_zero,List.getElem?_zipIdx,List.getElem?_eq_getElem hj] at h1
     rw [h1]
     simp
    obtain ⟨Ax,cx,hx0,hf0,hle,hCx,hMx⟩ := tag_at HR.out j hj _ hzj
    obtain ⟨x,hxe⟩ : ∃ x,l0[j] = x := ⟨_,rfl⟩
    rw [hxe] at hx0 hle hCx hMx hzj
    have hxn : x.f0.length ≤ 281474976710656 := by rw [← hxe]; exact HLS.out _ (List.getElem_mem hj)
    obtain ⟨b,hb⟩ : ∃ b,hasT lb x.f0 = b := ⟨_,rfl⟩
    have p1 : (0 ≤ xj) = True := eq_true (by have := HXJ.out; omega)
    have q1 : (xj < (l0.length : Int)) = True := eq_true c
    have cb1 : decide (xj < (l0.length : Int)) = true := decide_eq_true c
    have hx1 : wr.cell? ⟨g,xj.toNat,none⟩ = some (.slice Ax x.f0.length cx) := by
     rw [show xj.toNat = j by have := HXJ.out; omega]
     exact hx0
    have STEP : y0 (∀ w1,Below wr.heap.size wr w1 → Calls Tryz.prog 45 #[.agg #[.int .i64 b0,.slice Ab lb.length cb],.agg #[.slice Ax x.f0.length cx]] w1 fun e w' => e = .returned (.bool b) ∧ Below w1.heap.size w1 w') :=
     ⟨fun w1 h1 => impl_Rel_has.calls b0 Ab cb lb Ax cx _ b w1 (HRb.out _ (QIv.ki_below HK.out h1)) HCb.out (Kd.C_below hCx h1) hle (by rw [has_some b0 lb _ HL.out hxn,hb])⟩
    have HMX := y0.mk hMx
    have HBB := y0.mk hb
    have HXE := y0.mk hxe
    have HJ := y0.mk hj
    have HBW := y0.mk (Below.refl wr.heap.size wr)
    have KP : y0 (b = true → keepB lb l0[j] = false) := ⟨fun e => by unfold keepB; rw [hxe,hb,e]; rfl⟩
    have KQ : y0 (b = false → keepB lb l0[j] = true) := ⟨fun e => by unfold keepB; rw [hxe,hb,e]; rfl⟩
    have HI := y0.mk (show i < l0.length by have := HIJ.out; omega)
    have p3 : (0 ≤ xi) = True := eq_true (by have := HX.out; omega)
    have q3 : (xi < (l0.length : Int)) = True := eq_true (by have := HX.out; have := HI.out; omega)
    have hzi : zs[i]? = some (zs[i]'(by rw [HZL.out]; exact HI.out)) := List.getElem?_eq_getElem _
    have ATI : y0 (∀ W : World,Below wr.heap.size wr W → ∃ A cx,W.cell? ⟨g,xi.toNat,none⟩ = some (.slice A _ cx) ∧ W.frozen? ⟨g,xi.toNat,none⟩ = false) := ⟨fun W hW => by
     obtain ⟨A,cx,h1,h2,_⟩ := tag_at (HR.out.below hW) i HI.out _ hzi
     rw [show xi.toNat = i by have := HX.out; omega]
     exact ⟨A,cx,h1,h2⟩⟩
    have NXT : y0 (∀ W : World,Below wr.heap.size wr W → QIv.OR (kTag ft) 48 lo hi (.slice (some ⟨g,0,none⟩) l0.length c0) (zs.set i (l0[j],j)) (W.setCell ⟨g,xi.toNat,none⟩ (.slice Ax x.f0.length cx))) := ⟨fun W hW => by
     rw [show xi.toNat = i by have := HX.out; omega]
     refine tag_put (HR.out.below hW) i HI.out _ _ ((kTag ft).M_move (fun k hk => hW.block k (Nat.lt_of_lt_of_le hk.1 HHW.out)) ?_)
     rw [hxe]
     exact HMX.out⟩
    clear hb hxn hx0 hf0 hle hCx hMx hzj hzi c
    cases b with
    | true =>
     go_wp2_with (first | ((with_reducible refine y16 (N := 7) rfl ?_); (try (refine gate_guard (by rfl) ?_; dsimp only)); refine qe 7 #[.slice none 0 0] 48 ?_; intro gb hg w21 hbox hb; have n0_ := y0.mk hb; have BK := y0.mk hbox; have GE := y0.mk (Nat.le_of_eq hg.symm : wr.heap.size ≤ gb); clear HBW hb hg hbox; have HBW := n0_; clear n0_; have hcz : w21.cell? ⟨gb,0,none⟩ = some (.slice none 0 0) := (y8 BK.out 0).trans rfl; have hfz := y12 BK.out 0) | (go_at_call 45; (with_reducible refine (STEP.out _ (below_set HBW.out GE.out)).mono ?_); rintro e w23 ⟨rfl,hb⟩; have n0_ := y0.mk (y5 (below_set HBW.out GE.out) hb); clear HBW hb; have HBW := n0_; clear n0_))
     go_roundg (l0.length - j - 1)
     case measure => have := HK1.out; have := HJ.out; omega
     case rel =>
      exact ⟨xi,wrap64 (xj + 1),i,j + 1,zs,rfl,qy2,HX,⟨by rw [HXJ.out]; exact wrap_lup (by have := HJ.out; have := HL0.out; omega)⟩,⟨by have := HJ.out; omega⟩,⟨by have := HIJ.out; omega⟩,HZL,⟨tk_drop _ HJ.out HZT.out (by first | exact KP.out rfl | exact KP.out trivial)⟩,⟨dr_one HZD.out⟩,⟨HR.out.below HBW.out⟩,⟨QIv.ki_below HK.out HBW.out⟩,⟨y5 HB.out HBW.out⟩,⟨Nat.le_trans HHW.out HBW.out.size⟩⟩
    | false =>
     go_wp2_with (first | ((with_reducible refine y16 (N := 7) rfl ?_); (try (refine gate_guard (by rfl) ?_; dsimp only)); refine qe 7 #[.slice none 0 0] 48 ?_; intro gb hg w21 hbox hb; have n0_ := y0.mk hb; have BK := y0.mk hbox; have GE := y0.mk (Nat.le_of_eq hg.symm : wr.heap.size ≤ gb); clear HBW hb hg hbox; have HBW := n0_; clear n0_; have hcz : w21.cell? ⟨gb,0,none⟩ = some (.slice none 0 0) := (y8 BK.out 0).trans rfl; have hfz := y12 BK.out 0) | (go_at_call 45; (with_reducible refine (STEP.out _ (below_set HBW.out GE.out)).mono ?_); rintro e w23 ⟨rfl,hb⟩; have n0_ := y0.mk (y5 (below_set HBW.out GE.out) hb); have n1_ := y0.mk (y7 (blk_put BK.out 0 (.slice Ax x.f0.length cx) rfl) hb); clear HBW BK hb; have HBW := n0_; have BK := n1_; clear n0_ n1_; have hcz2 : w23.cell? ⟨gb,0,none⟩ = some (.slice Ax x.f0.length cx) := (y8 BK.out 0).trans rfl; have hfz2 := y12 BK.out 0; obtain ⟨As,cs,hs1,hs2⟩ := ATI.out w23 HBW.out))
     go_roundg (l0.length - j - 1)
     case measure => have := HK1.out; have := HJ.out; omega
     case rel =>
      refine ⟨wrap64 (xi + 1),wrap64 (xj + 1),i + 1,j + 1,zs.set i (l0[j]'HJ.out,j),qy2,qy2,⟨by rw [HX.out]; exact wrap_lup (by have := HI.out; have := HL0.out; omega)⟩,⟨by rw [HXJ.out]; exact wrap_lup (by have := HJ.out; have := HL0.out; omega)⟩,⟨by have := HJ.out; omega⟩,⟨by have := HIJ.out; omega⟩,⟨by rw [List.length_set]; exact HZL.out⟩,⟨tk_keep _ HJ.out (by rw [HZL.out]; exact HI.out) HZT.out (by first | exact KQ.out rfl | exact KQ.out trivial)⟩,⟨dr_set _ (by have := HIJ.out; omega) HZD.out⟩,⟨NXT.out _ HBW.out⟩,⟨?_⟩,⟨?_⟩,⟨?_⟩⟩
      ·exact QIv.ki_set (QIv.ki_below HK.out HBW.out) HG.out
      ·exact below_set (y5 HB.out HBW.out) (Nat.le_trans HLO.out HG.out.1)
      ·exact Nat.le_trans (Nat.le_trans HHW.out HBW.out.size) (by simp [World.setCell])
   ·have hjn : j = l0.length := by have := HXJ.out; have := HK1.out; omega
    have hil : i < l0.length := by have := HIJ.out; omega
    have cb1 : decide (xj < (l0.length : Int)) = false := decide_eq_false c
    obtain ⟨ii,hii,_,hsz,_⟩ := info_parts info48
    have hx := HX.out
    have hcut : ∀ W,(Instr.slice 28 (.slice (some ⟨g,0,none⟩) l0.length c0) (some (.int .i64 xi)) none none).run Tryz.prog W = .ok (.slice (some ⟨g,i,none⟩) (l0.length - i) (c0 - i)) W := by
     rw [hx]
     exact cut_lo _ _ Tryz.underlying28 hii hsz g l0.length c0 i hil HNC.out
    have hcut2 : ∀ W,(Instr.slice 28 (.slice (some ⟨g,0,none⟩) l0.length c0) none (some (.int .i64 xi)) none).run Tryz.prog W = .ok (.slice (some ⟨g,0,none⟩) i c0) W := by
     rw [hx]
     exact cut_hi _ _ Tryz.underlying28 hii hsz g l0.length c0 i hil HNC.out
    have hat : ∀ k,k < l0.length - i → ∃ A cx n,wr.cell? ⟨g,i + k,none⟩ = some (.slice A n cx) ∧ wr.frozen? ⟨g,i + k,none⟩ = false := fun k hk => by
     obtain ⟨A,cx,h1,h2,_⟩ := tag_at HR.out (i + k) (by omega) _ (List.getElem?_eq_getElem (show i + k < zs.length by rw [HZL.out]; omega))
     exact ⟨A,cx,_,h1,h2⟩
    have hclr : (Builtin.clear_ #[28] 0 #[.slice (some ⟨g,i,none⟩) (l0.length - i) (c0 - i)]).run Tryz.prog wr = .ok (.tuple #[]) (wr.setCells g i (List.replicate (l0.length - i) (.slice none 0 0))) := by
     refine run_clear1 wr _ _ _ (.agg #[.slice none 0 0]) _ Tryz.underlying28 ?_ rfl rfl g i _ _ (by omega) (fun k hk => ?_) (fun k hk => ?_)
     ·intro w2
      go_simp
     ·obtain ⟨A,cx,n,h1,h2⟩ := hat k hk
      rw [h1]
      rfl
     ·obtain ⟨A,cx,n,h1,h2⟩ := hat k hk
      exact h2
    have HCUT := y0.mk hcut
    have HCUT2 := y0.mk hcut2
    have HCLR := y0.mk hclr
    clear hat hii hsz hx c hcut hcut2 hclr
    have hcut := HCUT.out
    have hcut2 := HCUT2.out
    have hclr := HCLR.out
    go_wp2
    go_ret
    have hz1 : (zs.take i).map Prod.fst = l0.filter (keepB lb) := by
     rw [HZT.out,hjn,List.take_of_length_le (by rw [List.length_zipIdx]; omega),filter_fst,zip_fst]
    have hln : (l0.filter (keepB lb)).length = i := by
     rw [← hz1,List.length_map,qT_,HZL.out]
     omega
    have hpw : (zs.take i).Pairwise fun x y => x.2 ≠ y.2 := by
     rw [HZT.out,hjn,List.take_of_length_le (by rw [List.length_zipIdx]; omega)]
     exact (zip_apart l0).filter _
    rw [hln]
    have hR2 : QIv.OR (kTag ft) 48 lo hi (.slice (some ⟨g,0,none⟩) i c0) (zs.take i) wr := Kd.R_take HR.out (by rw [HZL.out]; omega)
    have hR3 := QIv.R_pasts (g := g) (List.replicate (l0.length - i) (Value.slice none 0 0)) hR2 (off := i) (by show i * 1 ≤ i; omega)
    refine ⟨rfl, ?_,QIv.below_sets _ HB.out (Nat.le_trans HLO.out HG.out.1),QIv.ki_sets _ HK.out HG.out⟩
    have h9 := QIv.S_sub hR3 hpw
    rw [hz1] at h9
    exact h9
/-- What the walk asks for: no row too long to be told. -/
def okB (lb l : List S48) : Bool := decide (lb.length ≤ 281474976710656) && (decide (l.length ≤ 281474976710656) && l.all fun x => decide (x.f0.length ≤ 281474976710656))
def impl_RelLess.f (k : Nat) (a0_0 : Int) (l0_1 : List S48) (a1_0 : Int) (l1_1 : List S48) : Option (Int × List S48) :=
 (impl_isRel.f k a0_0 l0_1).bind fun ta => if ta = true then (impl_isRel.f k a1_0 l1_1).bind fun tb => if tb = true then (if a0_0 = a1_0 then (impl_copyRel.f k a0_0 l0_1).bind fun r => (if okB l1_1 r.2 = true then some (r.1,r.2.filter (keepB l1_1)) else none) else some (0,[])) else some (0,[]) else some (0,[])
theorem heapT : Kd.Heap k48 := Kd.heap_iso _ (Kd.heap_slice _ Kd.heap_string)
theorem ki_came {lo hi : Nat} {w W : World} {A : Option Addr} {xs : List S48} (h : Kd.C k48 w A xs.length xs) (hb : Below w.heap.size w W) (hlo : w.heap.size ≤ lo) (w1 : World) (hk : QIv.KI lo hi W w1) : Kd.C k48 w1 A xs.length xs :=
 heapT.C (fun k hlt => (hk.2 k (Nat.lt_of_lt_of_le hlt hb.size) (fun h2 => by have := h2.1; omega)).trans (hb.block k hlt)) h
set_option maxHeartbeats 8000000 in
set_option maxRecDepth 100000 in
theorem impl_RelLess.calls (k : Nat) (a0_0 : Int) (A0_1 : Option Addr) (c0_1 : Nat) (l0_1 : List (S48)) (a1_0 : Int) (A1_1 : Option Addr) (c1_1 : Nat) (l1_1 : List (S48)) (r1 : Int) (r2 : List (S48)) (w : World) (hr0_1 : Kd.C k48 w A0_1 l0_1.length l0_1) (hc0_1 : l0_1.length ≤ c0_1) (hr1_1 : Kd.C k48 w A1_1 l1_1.length l1_1) (hc1_1 : l1_1.length ≤ c1_1) (hT : Tb w) (h : impl_RelLess.f k a0_0 l0_1 a1_0 l1_1 = some (r1,r2)) :
  Calls Tryz.prog 21 #[.agg #[.int .i64 a0_0,.slice A0_1 l0_1.length c0_1],.agg #[.int .i64 a1_0,.slice A1_1 l1_1.length c1_1]] w fun e w' => ∃ v1_ : Value,e = .returned (.agg #[.int .i64 r1,v1_]) ∧ Kd.S k48 48 w' w.heap.size (fun _ => True) v1_ r2 ∧ Below w.heap.size w w' := by
 have hu31 := Tryz.underlying31
 have hu48 := Tryz.underlying48
 unfold impl_RelLess.f at h
 obtain ⟨ta,E1,h⟩ := Option.bind_eq_some_iff.1 h
 have STA : y0 (∀ W,Below w.heap.size w W → Calls Tryz.prog 37 #[.agg #[.int .i64 a0_0,.slice A0_1 l0_1.length c0_1]] W fun e w' => e = .returned (.bool ta) ∧ Below W.heap.size W w') := ⟨fun W hW => impl_isRel.calls k a0_0 A0_1 c0_1 l0_1 ta W (Kd.C_below hr0_1 hW) hc0_1 (Tb.below hT hW) E1⟩
 have HB := y0.mk (Below.refl w.heap.size w)
 clear E1
 cases ta with
 | false =>
  rw [if_neg Bool.false_ne_true] at h
  simp only [Option.some.injEq,Prod.mk.injEq] at h
  obtain ⟨rfl,rfl⟩ := h
  clear hr0_1 hc0_1 hr1_1 hc1_1 hT
  go_enter Tryz.func21,Tryz.ntmps21
  go_wp2_with (first
    | ((with_reducible refine y16 (N := 2) rfl ?_); refine qe 2 #[.int .i64 a0_0,.slice A0_1 l0_1.length c0_1] 31 ?_; intro ga hg w1 hbox hb; replace BKa := y0.mk (hbox); replace GEa := y0.mk ((by rw [hg]; exact HB.out.size : w.heap.size ≤ ga)); replace HB := y0.mk (y5 HB.out hb); clear hb hbox hg)
    | ((with_reducible refine y16 (N := 3) rfl ?_); refine qe 3 #[.int .i64 a1_0,.slice A1_1 l1_1.length c1_1] 31 ?_; intro gb hg w2 hbox hb; replace NBa_b := y0.mk ((by rw [hg]; exact Nat.ne_of_lt (blk_lt BKa.out) : ga ≠ gb)); replace NBb_a := y0.mk ((by rw [hg]; exact Nat.ne_of_gt (blk_lt BKa.out) : gb ≠ ga)); replace BKa := y0.mk (y7 BKa.out hb); replace BKb := y0.mk (hbox); replace GEb := y0.mk ((by rw [hg]; exact HB.out.size : w.heap.size ≤ gb)); replace HB := y0.mk (y5 HB.out hb); clear hb hbox hg)
    | ((with_reducible refine y16 (N := 4) rfl ?_); refine qe 4 #[.int .i64 0,.slice none 0 0] 31 ?_; intro gr hg w3 hbox hb; replace NBa_r := y0.mk ((by rw [hg]; exact Nat.ne_of_lt (blk_lt BKa.out) : ga ≠ gr)); replace NBb_r := y0.mk ((by rw [hg]; exact Nat.ne_of_lt (blk_lt BKb.out) : gb ≠ gr)); replace NBr_a := y0.mk ((by rw [hg]; exact Nat.ne_of_gt (blk_lt BKa.out) : gr ≠ ga)); replace BKa := y0.mk (y7 BKa.out hb); replace NBr_b := y0.mk ((by rw [hg]; exact Nat.ne_of_gt (blk_lt BKb.out) : gr ≠ gb)); replace BKb := y0.mk (y7 BKb.out hb); replace BKr := y0.mk (hbox); replace GEr := y0.mk ((by rw [hg]; exact HB.out.size : w.heap.size ≤ gr)); replace HB := y0.mk (y5 HB.out hb); clear hb hbox hg; have hcua_0 : w3.cell? ⟨ga,0,none⟩ = some (.int .i64 a0_0) := (y8 BKa.out 0).trans rfl; have hcua_1 : w3.cell? ⟨ga,1,none⟩ = some (.slice A0_1 l0_1.length c0_1) := (y8 BKa.out 1).trans rfl; have hfua_0 := y12 BKa.out 0; have hfua_1 := y12 BKa.out 1; have hcub_0 : w3.cell? ⟨gb,0,none⟩ = some (.int .i64 a1_0) := (y8 BKb.out 0).trans rfl; have hcub_1 : w3.cell? ⟨gb,1,none⟩ = some (.slice A1_1 l1_1.length c1_1) := (y8 BKb.out 1).trans rfl; have hfub_0 := y12 BKb.out 0; have hfub_1 := y12 BKb.out 1; have hcur_0 : w3.cell? ⟨gr,0,none⟩ = some (.int .i64 0) := (y8 BKr.out 0).trans rfl; have hcur_1 : w3.cell? ⟨gr,1,none⟩ = some (.slice none 0 0) := (y8 BKr.out 1).trans rfl; have hfur_0 := y12 BKr.out 0; have hfur_1 := y12 BKr.out 1; have haab_ := NBa_b.out; have haar_ := NBa_r.out; have haba_ := NBb_a.out; have habr_ := NBb_r.out; have hara_ := NBr_a.out; have harb_ := NBr_b.out)
    | ((try (refine gate_guard (by rfl) ?_; dsimp only)); go_at_call 37; ((with_reducible refine (STA.out _ HB.out).mono ?_); rintro e w4 ⟨rfl,hb⟩; replace BKa := y0.mk (y7 BKa.out hb); replace BKb := y0.mk (y7 BKb.out hb); replace BKr := y0.mk (y7 BKr.out hb); replace HB := y0.mk (y5 HB.out hb); clear hb; have hcva_0 : w4.cell? ⟨ga,0,none⟩ = some (.int .i64 a0_0) := (y8 BKa.out 0).trans rfl; have hcva_1 : w4.cell? ⟨ga,1,none⟩ = some (.slice A0_1 l0_1.length c0_1) := (y8 BKa.out 1).trans rfl; have hfva_0 := y12 BKa.out 0; have hfva_1 := y12 BKa.out 1; have hcvb_0 : w4.cell? ⟨gb,0,none⟩ = some (.int .i64 a1_0) := (y8 BKb.out 0).trans rfl; have hcvb_1 : w4.cell? ⟨gb,1,none⟩ = some (.slice A1_1 l1_1.length c1_1) := (y8 BKb.out 1).trans rfl; have hfvb_0 := y12 BKb.out 0; have hfvb_1 := y12 BKb.out 1; have hcvr_0 : w4.cell? ⟨gr,0,none⟩ = some (.int .i64 0) := (y8 BKr.out 0).trans rfl; have hcvr_1 : w4.cell? ⟨gr,1,none⟩ = some (.slice none 0 0) := (y8 BKr.out 1).trans rfl; have hfvr_0 := y12 BKr.out 0; have hfvr_1 := y12 BKr.out 1)))
  refine bodyPost_ret (results_cell_row rfl _ _ gr 31 #[.int .i64 0,.slice none 0 0] (0,0) _ rfl (by (with_reducible repeat (first | refine y10 ?_ _ | refine y9 ?_ | refine y6 ?_ _)); refine blk_put (cs := #[.int .i64 0,.slice none 0 0]) ?_ 1 _ rfl; refine blk_put (cs := #[.int .i64 0,.slice none 0 0]) ?_ 0 _ rfl; exact BKr.out) Tryz.underlying31 rfl (by kernel_rfl)) rfl ?_
  exact ⟨.slice none 0 0,by first | rfl | (simp [y13,y14] <;> rfl),Kd.S_nil _ _ _ _ _,below_set (below_set HB.out GEr.out) GEr.out⟩
 | true =>
  rw [if_pos rfl] at h
  obtain ⟨tb,E2,h⟩ := Option.bind_eq_some_iff.1 h
  have STB : y0 (∀ W,Below w.heap.size w W → Calls Tryz.prog 37 #[.agg #[.int .i64 a1_0,.slice A1_1 l1_1.length c1_1]] W fun e w' => e = .returned (.bool tb) ∧ Below W.heap.size W w') := ⟨fun W hW => impl_isRel.calls k a1_0 A1_1 c1_1 l1_1 tb W (Kd.C_below hr1_1 hW) hc1_1 (Tb.below hT hW) E2⟩
  clear E2 hT
  cases tb with
  | false =>
   rw [if_neg Bool.false_ne_true] at h
   simp only [Option.some.injEq,Prod.mk.injEq] at h
   obtain ⟨rfl,rfl⟩ := h
   clear hr0_1 hc0_1 hr1_1 hc1_1
   go_enter Tryz.func21,Tryz.ntmps21
   go_wp2_with (first
     | ((with_reducible refine y16 (N := 2) rfl ?_); refine qe 2 #[.int .i64 a0_0,.slice A0_1 l0_1.length c0_1] 31 ?_; intro ga hg w1 hbox hb; replace BKa := y0.mk (hbox); replace GEa := y0.mk ((by rw [hg]; exact HB.out.size : w.heap.size ≤ ga)); replace HB := y0.mk (y5 HB.out hb); clear hb hbox hg)
     | ((with_reducible refine y16 (N := 3) rfl ?_); refine qe 3 #[.int .i64 a1_0,.slice A1_1 l1_1.length c1_1] 31 ?_; intro gb hg w2 hbox hb; replace NBa_b := y0.mk ((by rw [hg]; exact Nat.ne_of_lt (blk_lt BKa.out) : ga ≠ gb)); replace NBb_a := y0.mk ((by rw [hg]; exact Nat.ne_of_gt (blk_lt BKa.out) : gb ≠ ga)); replace BKa := y0.mk (y7 BKa.out hb); replace BKb := y0.mk (hbox); replace GEb := y0.mk ((by rw [hg]; exact HB.out.size : w.heap.size ≤ gb)); replace HB := y0.mk (y5 HB.out hb); clear hb hbox hg)
     | ((with_reducible refine y16 (N := 4) rfl ?_); refine qe 4 #[.int .i64 0,.slice none 0 0] 31 ?_; intro gr hg w3 hbox hb; replace NBa_r := y0.mk ((by rw [hg]; exact Nat.ne_of_lt (blk_lt BKa.out) : ga ≠ gr)); replace NBb_r := y0.mk ((by rw [hg]; exact Nat.ne_of_lt (blk_lt BKb.out) : gb ≠ gr)); replace NBr_a := y0.mk ((by rw [hg]; exact Nat.ne_of_gt (blk_lt BKa.out) : gr ≠ ga)); replace BKa := y0.mk (y7 BKa.out hb); replace NBr_b := y0.mk ((by rw [hg]; exact Nat.ne_of_gt (blk_lt BKb.out) : gr ≠ gb)); replace BKb := y0.mk (y7 BKb.out hb); replace BKr := y0.mk (hbox); replace GEr := y0.mk ((by rw [hg]; exact HB.out.size : w.heap.size ≤ gr)); replace HB := y0.mk (y5 HB.out hb); clear hb hbox hg; have hcua_0 : w3.cell? ⟨ga,0,none⟩ = some (.int .i64 a0_0) := (y8 BKa.out 0).trans rfl; have hcua_1 : w3.cell? ⟨ga,1,none⟩ = some (.slice A0_1 l0_1.length c0_1) := (y8 BKa.out 1).trans rfl; have hfua_0 := y12 BKa.out 0; have hfua_1 := y12 BKa.out 1; have hcub_0 : w3.cell? ⟨gb,0,none⟩ = some (.int .i64 a1_0) := (y8 BKb.out 0).trans rfl; have hcub_1 : w3.cell? ⟨gb,1,none⟩ = some (.slice A1_1 l1_1.length c1_1) := (y8 BKb.out 1).trans rfl; have hfub_0 := y12 BKb.out 0; have hfub_1 := y12 BKb.out 1; have hcur_0 : w3.cell? ⟨gr,0,none⟩ = some (.int .i64 0) := (y8 BKr.out 0).trans rfl; have hcur_1 : w3.cell? ⟨gr,1,none⟩ = some (.slice none 0 0) := (y8 BKr.out 1).trans rfl; have hfur_0 := y12 BKr.out 0; have hfur_1 := y12 BKr.out 1; have haab_ := NBa_b.out; have haar_ := NBa_r.out; have haba_ := NBb_a.out; have habr_ := NBb_r.out; have hara_ := NBr_a.out; have harb_ := NBr_b.out)
     | ((try (refine gate_guard (by rfl) ?_; dsimp only)); go_at_call 37; ((with_reducible refine (STA.out _ HB.out).mono ?_); rintro e w4 ⟨rfl,hb⟩; replace BKa := y0.mk (y7 BKa.out hb); replace BKb := y0.mk (y7 BKb.out hb); replace BKr := y0.mk (y7 BKr.out hb); replace HB := y0.mk (y5 HB.out hb); clear hb; have hcva_0 : w4.cell? ⟨ga,0,none⟩ = some (.int .i64 a0_0) := (y8 BKa.out 0).trans rfl; have hcva_1 : w4.cell? ⟨ga,1,none⟩ = some (.slice A0_1 l0_1.length c0_1) := (y8 BKa.out 1).trans rfl; have hfva_0 := y12 BKa.out 0; have hfva_1 := y12 BKa.out 1; have hcvb_0 : w4.cell? ⟨gb,0,none⟩ = some (.int .i64 a1_0) := (y8 BKb.out 0).trans rfl; have hcvb_1 : w4.cell? ⟨gb,1,none⟩ = some (.slice A1_1 l1_1.length c1_1) := (y8 BKb.out 1).trans rfl; have hfvb_0 := y12 BKb.out 0; have hfvb_1 := y12 BKb.out 1; have hcvr_0 : w4.cell? ⟨gr,0,none⟩ = some (.int .i64 0) := (y8 BKr.out 0).trans rfl; have hcvr_1 : w4.cell? ⟨gr,1,none⟩ = some (.slice none 0 0) := (y8 BKr.out 1).trans rfl; have hfvr_0 := y12 BKr.out 0; have hfvr_1 := y12 BKr.out 1))
     | ((try (refine gate_guard (by rfl) ?_; dsimp only)); go_at_call 37; ((with_reducible refine (STB.out _ HB.out).mono ?_); rintro e w5 ⟨rfl,hb⟩; replace BKa := y0.mk (y7 BKa.out hb); replace BKb := y0.mk (y7 BKb.out hb); replace BKr := y0.mk (y7 BKr.out hb); replace HB := y0.mk (y5 HB.out hb); clear hb; have hcxa_0 : w5.cell? ⟨ga,0,none⟩ = some (.int .i64 a0_0) := (y8 BKa.out 0).trans rfl; have hcxa_1 : w5.cell? ⟨ga,1,none⟩ = some (.slice A0_1 l0_1.length c0_1) := (y8 BKa.out 1).trans rfl; have hfxa_0 := y12 BKa.out 0; have hfxa_1 := y12 BKa.out 1; have hcxb_0 : w5.cell? ⟨gb,0,none⟩ = some (.int .i64 a1_0) := (y8 BKb.out 0).trans rfl; have hcxb_1 : w5.cell? ⟨gb,1,none⟩ = some (.slice A1_1 l1_1.length c1_1) := (y8 BKb.out 1).trans rfl; have hfxb_0 := y12 BKb.out 0; have hfxb_1 := y12 BKb.out 1; have hcxr_0 : w5.cell? ⟨gr,0,none⟩ = some (.int .i64 0) := (y8 BKr.out 0).trans rfl; have hcxr_1 : w5.cell? ⟨gr,1,none⟩ = some (.slice none 0 0) := (y8 BKr.out 1).trans rfl; have hfxr_0 := y12 BKr.out 0; have hfxr_1 := y12 BKr.out 1)))
   refine bodyPost_ret (results_cell_row rfl _ _ gr 31 #[.int .i64 0,.slice none 0 0] (0,0) _ rfl (by (with_reducible repeat (first | refine y10 ?_ _ | refine y9 ?_ | refine y6 ?_ _)); refine blk_put (cs := #[.int .i64 0,.slice none 0 0]) ?_ 1 _ rfl; refine blk_put (cs := #[.int .i64 0,.slice none 0 0]) ?_ 0 _ rfl; exact BKr.out) Tryz.underlying31 rfl (by kernel_rfl)) rfl ?_
   exact ⟨.slice none 0 0,by first | rfl | (simp [y13,y14] <;> rfl),Kd.S_nil _ _ _ _ _,below_set (below_set HB.out GEr.out) GEr.out⟩
  | true =>
   rw [if_pos rfl] at h
   by_cases e0 : a0_0 = a1_0
   ·rw [if_pos e0] at h
    obtain ⟨⟨q1,rl⟩,E3,h⟩ := Option.bind_eq_some_iff.1 h
    by_cases e1 : okB l1_1 rl = true
    ·rw [if_pos e1] at h
     simp only [Option.some.injEq,Prod.mk.injEq] at h
     obtain ⟨rfl,rfl⟩ := h
     simp only [okB,Bool.and_eq_true,List.all_eq_true,decide_eq_true_eq] at e1
     have HE := y0.mk e1
     have HE3 := y0.mk E3
     have HR0 := y0.mk hr0_1
     have HC0 := y0.mk hc0_1
     have HR1 := y0.mk hr1_1
     have HC1 := y0.mk hc1_1
     have ce : (a0_0 != a1_0) = false := by rw [e0]; simp
     clear e0 e1 E3 hr0_1 hc0_1 hr1_1 hc1_1
     go_enter Tryz.func21,Tryz.ntmps21
     go_wp2_with (first
      | ((with_reducible refine y16 (N := 2) rfl ?_); refine qe 2 #[.int .i64 a0_0,.slice A0_1 l0_1.length c0_1] 31 ?_; intro ga hg w1 hbox hb; replace BKa := y0.mk (hbox); replace GEa := y0.mk ((by rw [hg]; exact HB.out.size : w.heap.size ≤ ga)); replace HB := y0.mk (y5 HB.out hb); clear hb hbox hg)
      | ((with_reducible refine y16 (N := 3) rfl ?_); refine qe 3 #[.int .i64 a1_0,.slice A1_1 l1_1.length c1_1] 31 ?_; intro gb hg w2 hbox hb; replace NBa_b := y0.mk ((by rw [hg]; exact Nat.ne_of_lt (blk_lt BKa.out) : ga ≠ gb)); replace NBb_a := y0.mk ((by rw [hg]; exact Nat.ne_of_gt (blk_lt BKa.out) : gb ≠ ga)); replace BKa := y0.mk (y7 BKa.out hb); replace BKb := y0.mk (hbox); replace GEb := y0.mk ((by rw [hg]; exact HB.out.size : w.heap.size ≤ gb)); replace HB := y0.mk (y5 HB.out hb); clear hb hbox hg)
      | ((with_reducible refine y16 (N := 4) rfl ?_); refine qe 4 #[.int .i64 0,.slice none 0 0] 31 ?_; intro gr hg w3 hbox hb; replace NBa_r := y0.mk ((by rw [hg]; exact Nat.ne_of_lt (blk_lt BKa.out) : ga ≠ gr)); replace NBb_r := y0.mk ((by rw [hg]; exact Nat.ne_of_lt (blk_lt BKb.out) : gb ≠ gr)); replace NBr_a := y0.mk ((by rw [hg]; exact Nat.ne_of_gt (blk_lt BKa.out) : gr ≠ ga)); replace BKa := y0.mk (y7 BKa.out hb); replace NBr_b := y0.mk ((by rw [hg]; exact Nat.ne_of_gt (blk_lt BKb.out) : gr ≠ gb)); replace BKb := y0.mk (y7 BKb.out hb); replace BKr := y0.mk (hbox); replace GEr := y0.mk ((by rw [hg]; exact HB.out.size : w.heap.size ≤ gr)); replace HB := y0.mk (y5 HB.out hb); clear hb hbox hg; have hcua_0 : w3.cell? ⟨ga,0,none⟩ = some (.int .i64 a0_0) := (y8 BKa.out 0).trans rfl; have hcua_1 : w3.cell? ⟨ga,1,none⟩ = some (.slice A0_1 l0_1.length c0_1) := (y8 BKa.out 1).trans rfl; have hfua_0 := y12 BKa.out 0; have hfua_1 := y12 BKa.out 1; have hcub_0 : w3.cell? ⟨gb,0,none⟩ = some (.int .i64 a1_0) := (y8 BKb.out 0).trans rfl; have hcub_1 : w3.cell? ⟨gb,1,none⟩ = some (.slice A1_1 l1_1.length c1_1) := (y8 BKb.out 1).trans rfl; have hfub_0 := y12 BKb.out 0; have hfub_1 := y12 BKb.out 1; have hcur_0 : w3.cell? ⟨gr,0,none⟩ = some (.int .i64 0) := (y8 BKr.out 0).trans rfl; have hcur_1 : w3.cell? ⟨gr,1,none⟩ = some (.slice none 0 0) := (y8 BKr.out 1).trans rfl; have hfur_0 := y12 BKr.out 0; have hfur_1 := y12 BKr.out 1; have haab_ := NBa_b.out; have haar_ := NBa_r.out; have haba_ := NBb_a.out; have habr_ := NBb_r.out; have hara_ := NBr_a.out; have harb_ := NBr_b.out)
      | ((try (refine gate_guard (by rfl) ?_; dsimp only)); go_at_call 37; ((with_reducible refine (STA.out _ HB.out).mono ?_); rintro e w4 ⟨rfl,hb⟩; replace BKa := y0.mk (y7 BKa.out hb); replace BKb := y0.mk (y7 BKb.out hb); replace BKr := y0.mk (y7 BKr.out hb); replace HB := y0.mk (y5 HB.out hb); clear hb; have hcva_0 : w4.cell? ⟨ga,0,none⟩ = some (.int .i64 a0_0) := (y8 BKa.out 0).trans rfl; have hcva_1 : w4.cell? ⟨ga,1,none⟩ = some (.slice A0_1 l0_1.length c0_1) := (y8 BKa.out 1).trans rfl; have hfva_0 := y12 BKa.out 0; have hfva_1 := y12 BKa.out 1; have hcvb_0 : w4.cell? ⟨gb,0,none⟩ = some (.int .i64 a1_0) := (y8 BKb.out 0).trans rfl; have hcvb_1 : w4.cell? ⟨gb,1,none⟩ = some (.slice A1_1 l1_1.length c1_1) := (y8 BKb.out 1).trans rfl; have hfvb_0 := y12 BKb.out 0; have hfvb_1 := y12 BKb.out 1; have hcvr_0 : w4.cell? ⟨gr,0,none⟩ = some (.int .i64 0) := (y8 BKr.out 0).trans rfl; have hcvr_1 : w4.cell? ⟨gr,1,none⟩ = some (.slice none 0 0) := (y8 BKr.out 1).trans rfl; have hfvr_0 := y12 BKr.out 0; have hfvr_1 := y12 BKr.out 1))
      | ((try (refine gate_guard (by rfl) ?_; dsimp only)); go_at_call 37; ((with_reducible refine (STB.out _ HB.out).mono ?_); rintro e w5 ⟨rfl,hb⟩; replace BKa := y0.mk (y7 BKa.out hb); replace BKb := y0.mk (y7 BKb.out hb); replace BKr := y0.mk (y7 BKr.out hb); replace HB := y0.mk (y5 HB.out hb); clear hb; have hcxa_0 : w5.cell? ⟨ga,0,none⟩ = some (.int .i64 a0_0) := (y8 BKa.out 0).trans rfl; have hcxa_1 : w5.cell? ⟨ga,1,none⟩ = some (.slice A0_1 l0_1.length c0_1) := (y8 BKa.out 1).trans rfl; have hfxa_0 := y12 BKa.out 0; have hfxa_1 := y12 BKa.out 1; have hcxb_0 : w5.cell? ⟨gb,0,none⟩ = some (.int .i64 a1_0) := (y8 BKb.out 0).trans rfl; have hcxb_1 : w5.cell? ⟨gb,1,none⟩ = some (.slice A1_1 l1_1.length c1_1) := (y8 BKb.out 1).trans rfl; have hfxb_0 := y12 BKb.out 0; have hfxb_1 := y12 BKb.out 1; have hcxr_0 : w5.cell? ⟨gr,0,none⟩ = some (.int .i64 0) := (y8 BKr.out 0).trans rfl; have hcxr_1 : w5.cell? ⟨gr,1,none⟩ = some (.slice none 0 0) := (y8 BKr.out 1).trans rfl; have hfxr_0 := y12 BKr.out 0; have hfxr_1 := y12 BKr.out 1))
      | (go_at_call 43; (with_reducible refine (impl_copyRel.calls k a0_0 _ _ l0_1 q1 rl _ (Kd.C_below HR0.out HB.out) HC0.out HE3.out).mono ?_); rintro e w6 ⟨v6,rfl,ho6,hb⟩; obtain ⟨lo,hi,hlo,hhi,hos⟩ := QIv.OS.new ho6; obtain ⟨Ao,co,eo⟩ := hos.slice; subst eo; have HO := y0.mk hos; have HLO := y0.mk (by rw [hlo]; exact HB.out.size : w.heap.size ≤ lo); have LTa := y0.mk (by rw [hlo]; exact blk_lt BKa.out : ga < lo); have LTb := y0.mk (by rw [hlo]; exact blk_lt BKb.out : gb < lo); have LTr := y0.mk (by rw [hlo]; exact blk_lt BKr.out : gr < lo); have HHI := y0.mk (Nat.le_of_eq hhi); replace BKa := y0.mk (y7 BKa.out hb); replace BKb := y0.mk (y7 BKb.out hb); replace BKr := y0.mk (y7 BKr.out hb); replace HB := y0.mk (y5 HB.out hb); clear hb ho6 hos hlo hhi)
      | ((with_reducible refine y16 (N := 5) rfl ?_); refine qe 5 #[.int .i64 0,.slice none 0 0] 31 ?_; intro go hg w7 hbox hb; replace NBa_o := y0.mk ((by rw [hg]; exact Nat.ne_of_lt (blk_lt BKa.out) : ga ≠ go)); replace NBb_o := y0.mk ((by rw [hg]; exact Nat.ne_of_lt (blk_lt BKb.out) : gb ≠ go)); replace NBr_o := y0.mk ((by rw [hg]; exact Nat.ne_of_lt (blk_lt BKr.out) : gr ≠ go)); replace NBo_a := y0.mk ((by rw [hg]; exact Nat.ne_of_gt (blk_lt BKa.out) : go ≠ ga)); replace BKa := y0.mk (y7 BKa.out hb); replace NBo_b := y0.mk ((by rw [hg]; exact Nat.ne_of_gt (blk_lt BKb.out) : go ≠ gb)); replace BKb := y0.mk (y7 BKb.out hb); replace NBo_r := y0.mk ((by rw [hg]; exact Nat.ne_of_gt (blk_lt BKr.out) : go ≠ gr)); replace BKr := y0.mk (y7 BKr.out hb); replace BKo := y0.mk (hbox); replace GEo := y0.mk ((by rw [hg]; exact HB.out.size : w.heap.size ≤ go)); replace HO := y0.mk (HO.out.below hb); replace LEo := y0.mk ((by rw [hg]; exact HHI.out : hi ≤ go)); replace HHI := y0.mk (Nat.le_trans HHI.out hb.size); replace HB := y0.mk (y5 HB.out hb); clear hb hbox hg; have hcya_0 : w7.cell? ⟨ga,0,none⟩ = some (.int .i64 a0_0) := (y8 BKa.out 0).trans rfl; have hcya_1 : w7.cell? ⟨ga,1,none⟩ = some (.slice A0_1 l0_1.length c0_1) := (y8 BKa.out 1).trans rfl; have hfya_0 := y12 BKa.out 0; have hfya_1 := y12 BKa.out 1; have hcyb_0 : w7.cell? ⟨gb,0,none⟩ = some (.int .i64 a1_0) := (y8 BKb.out 0).trans rfl; have hcyb_1 : w7.cell? ⟨gb,1,none⟩ = some (.slice A1_1 l1_1.length c1_1) := (y8 BKb.out 1).trans rfl; have hfyb_0 := y12 BKb.out 0; have hfyb_1 := y12 BKb.out 1; have hcyr_0 : w7.cell? ⟨gr,0,none⟩ = some (.int .i64 0) := (y8 BKr.out 0).trans rfl; have hcyr_1 : w7.cell? ⟨gr,1,none⟩ = some (.slice none 0 0) := (y8 BKr.out 1).trans rfl; have hfyr_0 := y12 BKr.out 0; have hfyr_1 := y12 BKr.out 1; have hcyo_0 : w7.cell? ⟨go,0,none⟩ = some (.int .i64 0) := (y8 BKo.out 0).trans rfl; have hcyo_1 : w7.cell? ⟨go,1,none⟩ = some (.slice none 0 0) := (y8 BKo.out 1).trans rfl; have hfyo_0 := y12 BKo.out 0; have hfyo_1 := y12 BKo.out 1; have haab_ := NBa_b.out; have haar_ := NBa_r.out; have haao_ := NBa_o.out; have haba_ := NBb_a.out; have habr_ := NBb_r.out; have habo_ := NBb_o.out; have hara_ := NBr_a.out; have harb_ := NBr_b.out; have haro_ := NBr_o.out; have haoa_ := NBo_a.out; have haob_ := NBo_b.out; have haor_ := NBo_r.out)
      | (go_at_call 44; (with_reducible refine (slices_DeleteFunc_bound.calls lo hi Ao co rl a1_0 A1_1 c1_1 l1_1 w _ (below_set (below_set HB.out GEo.out) GEo.out) HLO.out (Nat.le_trans HHI.out (by simp [World.setCell])) ((HO.out.set (.inr LEo.out) 0 _).set (.inr LEo.out) 1 _) (ki_came HR1.out (below_set (below_set HB.out GEo.out) GEo.out) HLO.out) HC1.out HE.out.1 HE.out.2.1 HE.out.2.2).mono ?_); rintro e w8 ⟨rfl,hos,hb,hk⟩; replace BKa := y0.mk (QIv.ki_blk (y11 (y11 BKa.out NBa_o.out _) NBa_o.out _) hk (.inl LTa.out)); replace BKb := y0.mk (QIv.ki_blk (y11 (y11 BKb.out NBb_o.out _) NBb_o.out _) hk (.inl LTb.out)); replace BKr := y0.mk (QIv.ki_blk (y11 (y11 BKr.out NBr_o.out _) NBr_o.out _) hk (.inl LTr.out)); replace BKo := y0.mk (QIv.ki_blk (blk_put (cs := #[.int .i64 q1,.slice none 0 0]) (blk_put (cs := #[.int .i64 0,.slice none 0 0]) BKo.out 0 (.int .i64 q1) rfl) 1 (.slice Ao rl.length co) rfl) hk (.inr LEo.out)); replace HO := y0.mk (hos); replace HB := y0.mk (hb); clear hos hb hk; obtain ⟨hcza_0,hcza_1,hfza_0,hfza_1⟩ := qz2 BKa.out; obtain ⟨hczb_0,hczb_1,hfzb_0,hfzb_1⟩ := qz2 BKb.out; obtain ⟨hczr_0,hczr_1,hfzr_0,hfzr_1⟩ := qz2 BKr.out; obtain ⟨hczo_0,hczo_1,hfzo_0,hfzo_1⟩ := qz2 BKo.out))
     refine bodyPost_ret (results_cell_row rfl _ _ gr 31 #[.int .i64 q1,.slice Ao (rl.filter (keepB l1_1)).length co] (0,0) _ rfl (by (with_reducible repeat (first | refine y10 ?_ _ | refine y9 ?_ | refine y6 ?_ _)); refine blk_put (cs := #[.int .i64 q1,.slice none 0 0]) ?_ 1 _ rfl; refine blk_put (cs := #[.int .i64 0,.slice none 0 0]) ?_ 0 _ rfl; exact y11 BKr.out NBr_o.out _) Tryz.underlying31 rfl (by kernel_rfl)) rfl ?_
     refine ⟨_,by first | rfl | (simp [y13,y14] <;> rfl), ?_,below_set (below_set (below_set HB.out GEo.out) GEr.out) GEr.out⟩
     exact Kd.S_lower (Kd.S_mono (((HO.out.set (.inr LEo.out) 1 _).set (.inl LTr.out) 0 _).set (.inl LTr.out) 1 _) (fun _ _ => trivial)) HLO.out
    ·rw [if_neg e1] at h
     cases h
   ·rw [if_neg e0] at h
    simp only [Option.some.injEq,Prod.mk.injEq] at h
    obtain ⟨rfl,rfl⟩ := h
    have ce : (a0_0 != a1_0) = true := by simp [e0]
    clear e0 hr0_1 hc0_1 hr1_1 hc1_1
    go_enter Tryz.func21,Tryz.ntmps21
    go_wp2_with (first
     | ((with_reducible refine y16 (N := 2) rfl ?_); refine qe 2 #[.int .i64 a0_0,.slice A0_1 l0_1.length c0_1] 31 ?_; intro ga hg w1 hbox hb; replace BKa := y0.mk (hbox); replace GEa := y0.mk ((by rw [hg]; exact HB.out.size : w.heap.size ≤ ga)); replace HB := y0.mk (y5 HB.out hb); clear hb hbox hg)
     | ((with_reducible refine y16 (N := 3) rfl ?_); refine qe 3 #[.int .i64 a1_0,.slice A1_1 l1_1.length c1_1] 31 ?_; intro gb hg w2 hbox hb; replace NBa_b := y0.mk ((by rw [hg]; exact Nat.ne_of_lt (blk_lt BKa.out) : ga ≠ gb)); replace NBb_a := y0.mk ((by rw [hg]; exact Nat.ne_of_gt (blk_lt BKa.out) : gb ≠ ga)); replace BKa := y0.mk (y7 BKa.out hb); replace BKb := y0.mk (hbox); replace GEb := y0.mk ((by rw [hg]; exact HB.out.size : w.heap.size ≤ gb)); replace HB := y0.mk (y5 HB.out hb); clear hb hbox hg)
     | ((with_reducible refine y16 (N := 4) rfl ?_); refine qe 4 #[.int .i64 0,.slice none 0 0] 31 ?_; intro gr hg w3 hbox hb; replace NBa_r := y0.mk ((by rw [hg]; exact Nat.ne_of_lt (blk_lt BKa.out) : ga ≠ gr)); replace NBb_r := y0.mk ((by rw [hg]; exact Nat.ne_of_lt (blk_lt BKb.out) : gb ≠ gr)); replace NBr_a := y0.mk ((by rw [hg]; exact Nat.ne_of_gt (blk_lt BKa.out) : gr ≠ ga)); replace BKa := y0.mk (y7 BKa.out hb); replace NBr_b := y0.mk ((by rw [hg]; exact Nat.ne_of_gt (blk_lt BKb.out) : gr ≠ gb)); replace BKb := y0.mk (y7 BKb.out hb); replace BKr := y0.mk (hbox); replace GEr := y0.mk ((by rw [hg]; exact HB.out.size : w.heap.size ≤ gr)); replace HB := y0.mk (y5 HB.out hb); clear hb hbox hg; have hcua_0 : w3.cell? ⟨ga,0,none⟩ = some (.int .i64 a0_0) := (y8 BKa.out 0).trans rfl; have hcua_1 : w3.cell? ⟨ga,1,none⟩ = some (.slice A0_1 l0_1.length c0_1) := (y8 BKa.out 1).trans rfl; have hfua_0 := y12 BKa.out 0; have hfua_1 := y12 BKa.out 1; have hcub_0 : w3.cell? ⟨gb,0,none⟩ = some (.int .i64 a1_0) := (y8 BKb.out 0).trans rfl; have hcub_1 : w3.cell? ⟨gb,1,none⟩ = some (.slice A1_1 l1_1.length c1_1) := (y8 BKb.out 1).trans rfl; have hfub_0 := y12 BKb.out 0; have hfub_1 := y12 BKb.out 1; have hcur_0 : w3.cell? ⟨gr,0,none⟩ = some (.int .i64 0) := (y8 BKr.out 0).trans rfl; have hcur_1 : w3.cell? ⟨gr,1,none⟩ = some (.slice none 0 0) := (y8 BKr.out 1).trans rfl; have hfur_0 := y12 BKr.out 0; have hfur_1 := y12 BKr.out 1; have haab_ := NBa_b.out; have haar_ := NBa_r.out; have haba_ := NBb_a.out; have habr_ := NBb_r.out; have hara_ := NBr_a.out; have harb_ := NBr_b.out)
     | ((try (refine gate_guard (by rfl) ?_; dsimp only)); go_at_call 37; ((with_reducible refine (STA.out _ HB.out).mono ?_); rintro e w4 ⟨rfl,hb⟩; replace BKa := y0.mk (y7 BKa.out hb); replace BKb := y0.mk (y7 BKb.out hb); replace BKr := y0.mk (y7 BKr.out hb); replace HB := y0.mk (y5 HB.out hb); clear hb; have hcva_0 : w4.cell? ⟨ga,0,none⟩ = some (.int .i64 a0_0) := (y8 BKa.out 0).trans rfl; have hcva_1 : w4.cell? ⟨ga,1,none⟩ = some (.slice A0_1 l0_1.length c0_1) := (y8 BKa.out 1).trans rfl; have hfva_0 := y12 BKa.out 0; have hfva_1 := y12 BKa.out 1; have hcvb_0 : w4.cell? ⟨gb,0,none⟩ = some (.int .i64 a1_0) := (y8 BKb.out 0).trans rfl; have hcvb_1 : w4.cell? ⟨gb,1,none⟩ = some (.slice A1_1 l1_1.length c1_1) := (y8 BKb.out 1).trans rfl; have hfvb_0 := y12 BKb.out 0; have hfvb_1 := y12 BKb.out 1; have hcvr_0 : w4.cell? ⟨gr,0,none⟩ = some (.int .i64 0) := (y8 BKr.out 0).trans rfl; have hcvr_1 : w4.cell? ⟨gr,1,none⟩ = some (.slice none 0 0) := (y8 BKr.out 1).trans rfl; have hfvr_0 := y12 BKr.out 0; have hfvr_1 := y12 BKr.out 1))
     | ((try (refine gate_guard (by rfl) ?_; dsimp only)); go_at_call 37; ((with_reducible refine (STB.out _ HB.out).mono ?_); rintro e w5 ⟨rfl,hb⟩; replace BKa := y0.mk (y7 BKa.out hb); replace BKb := y0.mk (y7 BKb.out hb); replace BKr := y0.mk (y7 BKr.out hb); replace HB := y0.mk (y5 HB.out hb); clear hb; have hcxa_0 : w5.cell? ⟨ga,0,none⟩ = some (.int .i64 a0_0) := (y8 BKa.out 0).trans rfl; have hcxa_1 : w5.cell? ⟨ga,1,none⟩ = some (.slice A0_1 l0_1.length c0_1) := (y8 BKa.out 1).trans rfl; have hfxa_0 := y12 BKa.out 0; have hfxa_1 := y12 BKa.out 1; have hcxb_0 : w5.cell? ⟨gb,0,none⟩ = some (.int .i64 a1_0) := (y8 BKb.out 0).trans rfl; have hcxb_1 : w5.cell? ⟨gb,1,none⟩ = some (.slice A1_1 l1_1.length c1_1) := (y8 BKb.out 1).trans rfl; have hfxb_0 := y12 BKb.out 0; have hfxb_1 := y12 BKb.out 1; have hcxr_0 : w5.cell? ⟨gr,0,none⟩ = some (.int .i64 0) := (y8 BKr.out 0).trans rfl; have hcxr_1 : w5.cell? ⟨gr,1,none⟩ = some (.slice none 0 0) := (y8 BKr.out 1).trans rfl; have hfxr_0 := y12 BKr.out 0; have hfxr_1 := y12 BKr.out 1)))
    refine bodyPost_ret (results_cell_row rfl _ _ gr 31 #[.int .i64 0,.slice none 0 0] (0,0) _ rfl (by (with_reducible repeat (first | refine y10 ?_ _ | refine y9 ?_ | refine y6 ?_ _)); refine blk_put (cs := #[.int .i64 0,.slice none 0 0]) ?_ 1 _ rfl; refine blk_put (cs := #[.int .i64 0,.slice none 0 0]) ?_ 0 _ rfl; exact BKr.out) Tryz.underlying31 rfl (by kernel_rfl)) rfl ?_
    exact ⟨.slice none 0 0,by first | rfl | (simp [y13,y14] <;> rfl),Kd.S_nil _ _ _ _ _,below_set (below_set HB.out GEr.out) GEr.out⟩
def laws_heldRel.f (k : Nat) (a0_0 : Int) (l0_1 : List (S48)) (a1 : Int) : Option (Int) := (laws_heldTupleS.f k l0_1 a1).bind fun t433 => (if t433 < 0 then (some (-1)) else (some t433))
set_option maxHeartbeats 8000000 in
set_option maxRecDepth 100000 in
theorem laws_heldRel.calls (k : Nat) (a0_0 : Int) (A0_1 : Option Addr) (c0_1 : Nat) (l0_1 : List (S48)) (a1 : Int) (r : Int) (w : World) (hr0_1 : Kd.C k48 w A0_1 l0_1.length l0_1) (hc0_1 : l0_1.length ≤ c0_1) (h : laws_heldRel.f k a0_0 l0_1 a1 = some r) :
  Calls Tryz.prog 22 #[.agg #[.int .i64 a0_0,.slice A0_1 l0_1.length c0_1],.int .i64 a1] w fun e w' => e = .returned (.int .i64 r) ∧ Below w.heap.size w w' := by
 have hu31 := Tryz.underlying31
 have HR0_1 := y0.mk hr0_1
 have HC0_1 := y0.mk hc0_1
 clear hr0_1 hc0_1
 have HB := y0.mk (Below.refl w.heap.size w)
 have H : ((laws_heldTupleS.f k l0_1 a1).bind fun t433 => (if t433 < 0 then (some (-1)) else (some t433))) = some r := h
 clear h
 obtain ⟨t433,A3,H⟩ := qB H
 by_cases c4 : t433 < 0
 ·rw [if_pos c4] at H
  have c4b0 := decide_eq_true c4
  clear c4
  obtain rfl := Option.some.inj H
  go_enter Tryz.func22,Tryz.ntmps22
  go_wp2_with (first | ((with_reducible refine y16 (N := 2) rfl ?_); refine qe 2 #[.int .i64 a0_0,.slice A0_1 l0_1.length c0_1] 31 ?_; intro gb432 hg w5 hbox hb; have BK432 := y0.mk (hbox); have GW432 := y0.mk (qg (w := w) hg); have GE432 := y0.mk (qg (w := w) hg); replace HB := y0.mk (y5 qb hb); clear hb hbox hg; obtain ⟨hcz6_0,hcz6_1,hfz6_0,hfz6_1⟩ := qz2 BK432.out) | ((with_reducible refine y15 (f := 19) rfl ?_); refine y17 (some 8) rfl rfl Tryz.func19 (by kernel_rfl) rfl #[.slice A0_1 l0_1.length c0_1,.int .i64 a1] rfl qy0 ?_; (with_reducible refine (laws_heldTupleS.calls k _ _ l0_1 a1 t433 _ (qc (Kd.C_below HR0_1.out HB.out)) HC0_1.out A3.out).mono ?_); rintro e w7 ⟨rfl,hb⟩; refine ⟨_,rfl, ?_⟩; replace BK432 := y0.mk (qK BK432.out hb); replace HB := y0.mk (y5 qb hb); (try clear hb); (try clear hb2); (try clear hk); (try clear hi)))
  go_ret
  exact ⟨by first | rfl | (simp [y13,y14] <;> rfl) | (simp [*,y13,y14] <;> rfl),qb⟩
 ·rw [if_neg c4] at H
  have c4b0 := decide_eq_false c4
  clear c4
  obtain rfl := Option.some.inj H
  go_enter Tryz.func22,Tryz.ntmps22
  go_wp2_with (first | ((with_reducible refine y16 (N := 2) rfl ?_); refine qe 2 #[.int .i64 a0_0,.slice A0_1 l0_1.length c0_1] 31 ?_; intro gb432 hg w8 hbox hb; have BK432 := y0.mk (hbox); have GW432 := y0.mk (qg (w := w) hg); have GE432 := y0.mk (qg (w := w) hg); replace HB := y0.mk (y5 qb hb); clear hb hbox hg; obtain ⟨hcz9_0,hcz9_1,hfz9_0,hfz9_1⟩ := qz2 BK432.out) | ((with_reducible refine y15 (f := 19) rfl ?_); refine y17 (some 8) rfl rfl Tryz.func19 (by kernel_rfl) rfl #[.slice A0_1 l0_1.length c0_1,.int .i64 a1] rfl qy0 ?_; (with_reducible refine (laws_heldTupleS.calls k _ _ l0_1 a1 t433 _ (qc (Kd.C_below HR0_1.out HB.out)) HC0_1.out A3.out).mono ?_); rintro e w10 ⟨rfl,hb⟩; refine ⟨_,rfl, ?_⟩; replace BK432 := y0.mk (qK BK432.out hb); replace HB := y0.mk (y5 qb hb); (try clear hb); (try clear hb2); (try clear hk); (try clear hi)))
  go_ret
  exact ⟨by first | rfl | (simp [y13,y14] <;> rfl) | (simp [*,y13,y14] <;> rfl),qb⟩
end Go.Proofs.YtocmfolajckaeaaGreatDoor.Pe
end

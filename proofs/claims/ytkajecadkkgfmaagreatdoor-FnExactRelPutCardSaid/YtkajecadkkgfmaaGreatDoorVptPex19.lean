-- Cut by prune.py, a program of this session, out of the texts of this claim: Lean checks it.
import Derived.Test.YtkajecadkkgfmaaGreatDoorVptPex0
import Derived.Test.YtkajecadkkgfmaaGreatDoorVptPex14
import Derived.Test.YtkajecadkkgfmaaGreatDoorVptPex17
section
namespace Go.Proofs.YtkajecadkkgfmaaGreatDoor.Pe
open Go.RowKit Go.Proofs.YtkajecadkkgfmaaGreatDoorW.PrintWords Go.Proofs.YtkajecadkkgfmaaGreatDoorW.PrintLast Go.Proofs.YtkajecadkkgfmaaGreatDoorW.PrintMore
attribute [local go_sem] max2_int min2_int max_two min_two max_three min_three max_four min_four   -- for this text's walks alone
set_option linter.unusedVariables false
set_option linter.unusedSimpArgs false
def impl_copyTuple.f (l0_0 : List ByteArray) : Option (List ByteArray) := (some (([] : List ByteArray) : List ByteArray)).bind fun y417 => (if y417.length + l0_0.length < 8796093022208 then (some (y417 ++ l0_0)) else (none))
set_option maxHeartbeats 8000000 in
set_option maxRecDepth 100000 in
theorem impl_copyTuple.calls (A0_0 : Option Addr) (c0_0 : Nat) (l0_0 : List ByteArray) (r : List ByteArray) (w : World) (hr0_0 : Kd.C Kd.string w A0_0 l0_0.length l0_0) (hc0_0 : l0_0.length ≤ c0_0) (h : impl_copyTuple.f l0_0 = some r) :
  Calls Tryz.prog 46 #[.agg #[.slice A0_0 l0_0.length c0_0]] w fun e w' => ∃ v0_ : Value,e = .returned (.agg #[v0_]) ∧ Kd.R Kd.string 9 w' w.heap.size (fun _ => True) v0_ r ∧ Below w.heap.size w w' := by
 have hu36 := Tryz.underlying36
 have HR0_0 := y0.mk hr0_0
 have HC0_0 := y0.mk hc0_0
 clear hr0_0 hc0_0
 have HB := y0.mk (Below.refl w.heap.size w)
 have H : ((some (([] : List ByteArray) : List ByteArray)).bind fun y417 => (if y417.length + l0_0.length < 8796093022208 then (some (y417 ++ l0_0)) else (none))) = some r := h
 clear h
 obtain ⟨y417,hy417⟩ : ∃ y_ : List ByteArray,y_ = (([] : List ByteArray)) := ⟨_,rfl⟩
 replace H : (if y417.length + l0_0.length < 8796093022208 then (some (y417 ++ l0_0)) else (none)) = some r := by first | (rw [hy417]; with_reducible exact H) | (have H2_ := (Option.bind_some _ _).symm.trans H; rw [hy417]; with_reducible exact H2_) | (have H2_ := (Option.bind_some _ _).symm.trans H; with_reducible exact H2_) | with_reducible exact H | (rw [hy417]; exact H) | exact H
 have Ny417 := y0.mk hy417
 clear hy417
 obtain ⟨c2,H⟩ := qo H
 have LMc2 := y0.mk c2
 clear c2
 obtain ⟨y420,hy420⟩ : ∃ y_ : List ByteArray,y_ = (y417 ++ l0_0) := ⟨_,rfl⟩
 replace H : (some y420) = some r := by first | (rw [hy420]; with_reducible exact H) | (have H2_ := (Option.bind_some _ _).symm.trans H; rw [hy420]; with_reducible exact H2_) | (have H2_ := (Option.bind_some _ _).symm.trans H; with_reducible exact H2_) | with_reducible exact H | (rw [hy420]; exact H) | exact H
 have Ny420 := y0.mk hy420
 clear hy420
 obtain rfl := Option.some.inj H
 go_enter Tryz.func46,Tryz.ntmps46
 go_wp2_with (first | ((with_reducible refine y16 (N := 1) rfl ?_); refine qe 1 #[.slice A0_0 l0_0.length c0_0] 36 ?_; intro gb415 hg w3 hbox hb; have BK415 := y0.mk (hbox); have GW415 := y0.mk (qg (w := w) hg); have GE415 := y0.mk (qg (w := w) hg); replace HB := y0.mk (y6 qb hb); clear hb hbox hg) | ((with_reducible refine y16 (N := 2) rfl ?_); refine qe 2 #[.slice none 0 0] 36 ?_; intro gb416 hg w4 hbox hb; have BK416 := y0.mk (hbox); have GW416 := y0.mk (qg (w := w) hg); have GE416 := y0.mk (qg (w := w) hg); replace HB := y0.mk (y6 qb hb); have NB415_416 := y0.mk (qn BK415.out hg); have NB416_415 := y0.mk (qm BK415.out hg); replace BK415 := y0.mk (qK BK415.out hb); clear hb hbox hg) | ((with_reducible refine y16 (N := 3) rfl ?_); refine Kd.R_lit Kd.string _ 9 ?hg (N := 3) ?hd (xs := ([] : List ByteArray)) (inner := []) (ok := fun _ => True) (okp := fun _ => True) ?hr ?hp (fun _ hk => hk) trivial (Below.refl _ _) (Nat.le_refl _) (by simp) ?_; (case hd => rfl); (case hg => rfl); (case hr => first | (go_simp; done) | (go_simp; rfl)); (case hp => exact (Reps.none _ _)); intro v418 w5 ho6 hb hg_ hnew_; clear hg_ hnew_; (first | rw [← Ny417.out] at ho6 | (simp only [Int.reduceToNat] at ho6; rw [← Ny417.out] at ho6)); have HO419 := y0.mk (Kd.R_lower ho6 (y5 qb)); replace BK415 := y0.mk (qK BK415.out hb); replace BK416 := y0.mk (qK BK416.out hb); replace HB := y0.mk (y6 qb hb); clear hb ho6; have hnb7 := NB415_416.out; have hnc7 := NB416_415.out; obtain ⟨hcz8_0,hfz8_0⟩ := qz1 BK415.out) | ((with_reducible refine gate_builtin (b := .append) (xs := #[.tmp 3,.tmp 5]) rfl ?_); at_builtin; refine Kd.R_append_rows Kd.string (w0 := w) w.heap.size rfl (.tmp 3) (.tmp 5) 25 9 (.string ⟨#[]⟩) 16 rfl Tryz.underlying25 info9 rfl (by decide) (by omega) v418 y417 l0_0 _ _ _ (fun _ => True) (fun _ => False) rfl rfl ?aO ?aR (fun _ _ h => h) (fun _ h => h.elim) ?aF ?aB ?aS ?aL ?_; (case aR => repeat (first | exact (Kd.C_below HR0_0.out HB.out) | (with_reducible refine Kd.C_alloc ?_ _) | (with_reducible refine Kd.C_drewN ?_ _) | (with_reducible refine Kd.C_drew ?_))); (case aB => exact qb); (case aF => exact (fun _ _ => trivial)); (case aO => exact (qR HO419.out)); (case aS => exact (y5 qb)); (case aL => have := LMc2.out; omega); intro v421 w9 ho hb hg hat; rw [← Ny420.out] at ho; replace BK415 := y0.mk (blk_grown (qk BK415.out) hg (Kd.R_ne HO419.out BK415.out (by decide))); replace BK416 := y0.mk (blk_grown (qk BK416.out) hg (Kd.R_ne HO419.out BK416.out (by decide))); replace HB := y0.mk (hb); have HO422 := y0.mk (ho); clear HO419; clear ho hb hg hat; obtain ⟨Ao10,co10,eo10⟩ := Kd.R_slice HO422.out; subst eo10; obtain ⟨hcz11_0,hfz11_0⟩ := qz1 BK416.out))
 refine bodyPost_ret (results_cell_row rfl _ _ gb416 36 #[.slice Ao10 y420.length co10] (0,0) _ rfl (by (with_reducible repeat (first | refine y11 ?_ _ | refine y10 ?_ | refine y7 ?_ _)); refine blk_put (cs := #[.slice none 0 0]) ?_ 0 _ rfl; (with_reducible repeat (first | refine y11 ?_ _ | refine y10 ?_ | refine y7 ?_ _)); exact BK416.out) Tryz.underlying36 rfl (by kernel_rfl)) rfl ?_
 exact ⟨_,by first | rfl | (simp [y13,y14] <;> rfl) | (simp [*,y13,y14] <;> rfl),by (with_reducible repeat (first | apply Kd.R_alloc | apply Kd.R_drewN | apply Kd.R_drew)); exact Kd.R_mono (Kd.R_far (p := ⟨gb416,0,none⟩) (Kd.R_types HO422.out BK416.out (by decide)) (fun _ hk => hk.2) (.slice Ao10 y420.length co10)) (fun _ hk => trivial),qb⟩
def impl_copyRel.l0 : Nat → List (S36) → Int → Int → Int → List (S36) → Option (Int × (List (S36)))
 | 0,_,_,_,_,_ => none
 | k + 1,x10,x11,x12,x426000,x426001 => if x12 < x11 then (if 0 ≤ x12 then (if x12 < (x10.length : Int) then ((impl_copyTuple.f ((y21 x10 x12).f0)).bind fun t428 => (if x426001.length < 5864062014805 then (impl_copyRel.l0 k x10 x11 (wrap64 (x12 + 1)) x426000 (x426001 ++ [(⟨t428⟩ : S36)])) else (none))) else (none)) else (none)) else (some (x426000,x426001))
def impl_copyRel.f (k : Nat) (a0_0 : Int) (l0_1 : List (S36)) : Option (Int × (List (S36))) := impl_copyRel.l0 k l0_1 (l0_1.length : Int) 0 a0_0 ([] : List (S36))
def impl_copyRel.T5 : Bool × List (List Nat × List Nat) := (true,[([],[]),([0],[0]),([],[]),([2],[2]),([3],[3]),([1,4,3],[1,4]),([0,1,2,3,4,5],[]),([6,5,5,0,1,2,3,4,5],[5,6])])
def impl_copyRel.B5 : List Nat := [0,1,0,4,12,31,63,127]
theorem impl_copyRel.tab5 : rtab .any (opsOf Tryz.f42 5) = impl_copyRel.T5 := by kernel_rfl
theorem impl_copyRel.bits5 : waitsOk impl_copyRel.T5.2 impl_copyRel.B5 = true := by kernel_rfl
set_option maxHeartbeats 8000000 in
set_option maxRecDepth 100000 in
theorem impl_copyRel.calls (k : Nat) (a0_0 : Int) (A0_1 : Option Addr) (c0_1 : Nat) (l0_1 : List (S36)) (r1 : Int) (r2 : List (S36)) (w : World) (hr0_1 : Kd.C k36 w A0_1 l0_1.length l0_1) (hc0_1 : l0_1.length ≤ c0_1) (h : impl_copyRel.f k a0_0 l0_1 = some (r1,r2)) :
  Calls Tryz.prog 42 #[.agg #[.int .i64 a0_0,.slice A0_1 l0_1.length c0_1]] w fun e w' => ∃ v1_ : Value,e = .returned (.agg #[.int .i64 r1,v1_]) ∧ Kd.S k36 36 w' w.heap.size (fun _ => True) v1_ r2 ∧ Below w.heap.size w w' := by
 have hu32 := Tryz.underlying32
 have hu36 := Tryz.underlying36
 have HR0_1 := y0.mk hr0_1
 have HC0_1 := y0.mk hc0_1
 clear hr0_1 hc0_1
 have HB := y0.mk (Below.refl w.heap.size w)
 have H : (impl_copyRel.l0 k l0_1 (l0_1.length : Int) 0 a0_0 ([] : List (S36))) = some (r1,r2) := h
 clear h
 have H' := y0.mk H
 clear H
 go_enter Tryz.func42,Tryz.ntmps42
 go_wp2_with (first | ((with_reducible refine y16 (N := 1) rfl ?_); refine qe 1 #[.int .i64 a0_0,.slice A0_1 l0_1.length c0_1] 32 ?_; intro gb423 hg w2 hbox hb; have BK423 := y0.mk (hbox); have GW423 := y0.mk (qg (w := w) hg); have GE423 := y0.mk (qg (w := w) hg); replace HB := y0.mk (y6 qb hb); clear hb hbox hg) | ((with_reducible refine y16 (N := 2) rfl ?_); refine qe 2 #[.int .i64 0,.slice none 0 0] 32 ?_; intro gb424 hg w3 hbox hb; have BK424 := y0.mk (hbox); have GW424 := y0.mk (qg (w := w) hg); have GE424 := y0.mk (qg (w := w) hg); replace HB := y0.mk (y6 qb hb); have NB423_424 := y0.mk (qn BK423.out hg); have NB424_423 := y0.mk (qm BK423.out hg); replace BK423 := y0.mk (qK BK423.out hb); clear hb hbox hg; have hnb4 := NB423_424.out; have hnc4 := NB424_423.out; obtain ⟨hcz5_0,hcz5_1,hfz5_0,hfz5_1⟩ := qz2 BK423.out) | ((with_reducible refine y16 (N := 3) rfl ?_); refine qe 3 #[.int .i64 0,.slice none 0 0] 32 ?_; intro gb425 hg w6 hbox hb; have BK425 := y0.mk (hbox); have GW425 := y0.mk (qg (w := w) hg); have GE425 := y0.mk (qg (w := w) hg); replace HB := y0.mk (y6 qb hb); have NB423_425 := y0.mk (qn BK423.out hg); have NB425_423 := y0.mk (qm BK423.out hg); replace BK423 := y0.mk (qK BK423.out hb); have NB424_425 := y0.mk (qn BK424.out hg); have NB425_424 := y0.mk (qm BK424.out hg); replace BK424 := y0.mk (qK BK424.out hb); clear hb hbox hg; have hnb7 := NB425_423.out; have hnc7 := NB423_425.out; have hnb8 := NB425_424.out; have hnc8 := NB424_425.out; obtain ⟨hcz9_0,hcz9_1,hfz9_0,hfz9_1⟩ := qz2 BK425.out; obtain ⟨hcz10_0,hcz10_1,hfz10_0,hfz10_1⟩ := qz2 BK423.out))
 go_loopg [12] k (fun kq v12 w' => ∃ (x12_1 : Int) (x426001_1 : List (S36)) (u426001 : Value),v12 = .int .i64 x12_1 ∧ y0 (impl_copyRel.l0 kq l0_1 (l0_1.length : Int) x12_1 a0_0 x426001_1 = some (r1,r2)) ∧ y0 (kq ≤ k) ∧ y0 (Kd.S k36 36 w' w.heap.size (fun _ => True) u426001 x426001_1) ∧ y0 (w'.heap[gb423]? = some (.cells #[.int .i64 a0_0,(.slice A0_1 l0_1.length c0_1)] 32 (0,0))) ∧ y0 (w'.heap[gb424]? = some (.cells #[.int .i64 0,(.slice none 0 0)] 32 (0,0))) ∧ y0 (w'.heap[gb425]? = some (.cells #[.int .i64 a0_0,u426001] 32 (0,0))) ∧ y0 (Below w.heap.size w w'))
 case atStart => exact ⟨(0),(([] : List (S36))),(.slice none 0 0),qy2,H',⟨Nat.le_refl _⟩,⟨by first | exact Kd.S_nil _ _ _ _ _ | exact Kd.N_nil _ _ _ _ _ | exact Kd.V_nil _ _ _ _ _ | exact Kd.Q_nil _ _ _ _ _ | exact Kd.R_nil _ _ _ _ _⟩,⟨by (with_reducible repeat (first | refine y11 ?_ _ | refine y10 ?_ | refine y7 ?_ _)); refine y12 ?_ NB423_425.out _; (with_reducible repeat (first | refine y11 ?_ _ | refine y10 ?_ | refine y7 ?_ _)); refine y12 ?_ NB423_425.out _; (with_reducible repeat (first | refine y11 ?_ _ | refine y10 ?_ | refine y7 ?_ _)); exact BK423.out⟩,⟨by (with_reducible repeat (first | refine y11 ?_ _ | refine y10 ?_ | refine y7 ?_ _)); refine y12 ?_ NB424_425.out _; (with_reducible repeat (first | refine y11 ?_ _ | refine y10 ?_ | refine y7 ?_ _)); refine y12 ?_ NB424_425.out _; (with_reducible repeat (first | refine y11 ?_ _ | refine y10 ?_ | refine y7 ?_ _)); exact BK424.out⟩,⟨by (with_reducible repeat (first | refine y11 ?_ _ | refine y10 ?_ | refine y7 ?_ _)); refine blk_put (cs := #[.int .i64 a0_0,.slice none 0 0]) ?_ 1 _ rfl; (with_reducible repeat (first | refine y11 ?_ _ | refine y10 ?_ | refine y7 ?_ _)); refine blk_put (cs := #[.int .i64 0,.slice none 0 0]) ?_ 0 _ rfl; (with_reducible repeat (first | refine y11 ?_ _ | refine y10 ?_ | refine y7 ?_ _)); exact BK425.out⟩,⟨qb⟩⟩
 case round =>
  clear H'
  (try clear hcz10_0 hcz10_1 hcz5_0 hcz5_1 hcz9_0 hcz9_1 hfz10_0 hfz10_1 hfz5_0 hfz5_1 hfz9_0 hfz9_1)
  obtain ⟨x12_1,x426001_1,u426001,rfl,HA,HK1,HO_426001,BK423,BK424,BK425,HB⟩ := hrel
  cases gk with
  | zero => exact absurd HA.out (by simp [impl_copyRel.l0])
  | succ k1 =>
   have H := HA.out
   clear HA
   simp only [impl_copyRel.l0] at H
   by_cases c11 : x12_1 < (l0_1.length : Int)
   ·rw [if_pos c11] at H
    have c11b0 := decide_eq_true c11
    clear c11
    obtain ⟨c12,H⟩ := qo H
    have c12b0 : decide (0 ≤ x12_1) = true := decide_eq_true c12
    clear c12
    obtain ⟨c13,H⟩ := qo H
    have c13b0 : decide (x12_1 < (l0_1.length : Int)) = true := decide_eq_true c13
    clear c13
    obtain ⟨t428,A14,H⟩ := qB H
    obtain ⟨c15,H⟩ := qo H
    have LMc15 := y0.mk c15
    clear c15
    obtain ⟨y431,hy431⟩ : ∃ y_ : List (S36),y_ = (x426001_1 ++ [(⟨t428⟩ : S36)]) := ⟨_,rfl⟩
    replace H : (impl_copyRel.l0 k1 l0_1 (l0_1.length : Int) (wrap64 (x12_1 + 1)) a0_0 y431) = some (r1,r2) := by first | (rw [hy431]; with_reducible exact H) | (have H2_ := (Option.bind_some _ _).symm.trans H; rw [hy431]; with_reducible exact H2_) | (have H2_ := (Option.bind_some _ _).symm.trans H; with_reducible exact H2_) | with_reducible exact H | (rw [hy431]; exact H) | exact H
    have Ny431 := y0.mk hy431
    clear hy431
    have H' := y0.mk H
    clear H
    have p426 : 0 ≤ (x12_1 : Int) := of_decide_eq_true qy1
    have q426 : x12_1 < (l0_1.length : Int) := of_decide_eq_true qy1
    obtain ⟨ad426,A426_0,c426_0,e426,hx426_0,hl426_0,hi426_0⟩ := at_T36 HR0_1.out x12_1 p426 q426
    cases e426
    replace hx426_0 := (HB.out.cell (World.block_lt_of_cell? w _ hx426_0)).trans hx426_0
    have HR426_0 := y0.mk hi426_0
    have HC426_0 := y0.mk hl426_0
    clear hi426_0 hl426_0
    replace p426 := eq_true p426
    replace q426 := eq_true q426
    try go_wp2_with (first | ((with_reducible refine y16 (N := 5) rfl ?_); refine qe 5 #[.slice none 0 0] 36 ?_; intro gb427 hg w16 hbox hb; replace HO_426001 := y0.mk (Kd.S_below (Kd.S_elderB (qS HO_426001.out) gb427 (Nat.le_of_eq hg.symm)) hb); have BK427 := y0.mk (hbox); have GW427 := y0.mk (qg (w := w) hg); have GE427 := y0.mk (qg (w := w) hg); replace HB := y0.mk (y6 qb hb); have NB423_427 := y0.mk (qn BK423.out hg); have NB427_423 := y0.mk (qm BK423.out hg); replace BK423 := y0.mk (qK BK423.out hb); have NB424_427 := y0.mk (qn BK424.out hg); have NB427_424 := y0.mk (qm BK424.out hg); replace BK424 := y0.mk (qK BK424.out hb); have NB425_427 := y0.mk (qn BK425.out hg); have NB427_425 := y0.mk (qm BK425.out hg); replace BK425 := y0.mk (qK BK425.out hb); clear hb hbox hg; have hnb17 := NB427_423.out; have hnc17 := NB423_427.out; have hnb18 := NB427_424.out; have hnc18 := NB424_427.out; have hnb19 := NB427_425.out; have hnc19 := NB425_427.out; obtain ⟨hcz20_0,hfz20_0⟩ := qz1 BK427.out))
    have n0_ : y0 (Kd.S k36 36 (w16.setCell ⟨gb427,0,none⟩ (.slice A426_0 ((y21 l0_1 x12_1).f0).length c426_0)) w.heap.size (fun k_ => k_ ≠ gb427) u426001 x426001_1) := ⟨qS (Kd.S_mono (Kd.S_far (p := ⟨gb427,0,none⟩) (Kd.S_mono HO_426001.out (fun k_ hk => (⟨hk,hk.2⟩ : _ ∧ k_ ≠ gb427))) (fun _ hk => hk.2) (.slice A426_0 ((y21 l0_1 x12_1).f0).length c426_0)) (fun _ hk => hk.1.2))⟩
    have n1_ : y0 ((w16.setCell ⟨gb427,0,none⟩ (.slice A426_0 ((y21 l0_1 x12_1).f0).length c426_0)).heap[gb423]? = some (.cells #[.int .i64 a0_0,.slice (some ad426) l0_1.length c0_1] 32 (0,0))) := ⟨by (with_reducible repeat (first | refine y11 ?_ _ | refine y10 ?_ | refine y7 ?_ _)); refine y12 ?_ NB423_427.out _; (with_reducible repeat (first | refine y11 ?_ _ | refine y10 ?_ | refine y7 ?_ _)); exact BK423.out⟩
    have n2_ : y0 ((w16.setCell ⟨gb427,0,none⟩ (.slice A426_0 ((y21 l0_1 x12_1).f0).length c426_0)).heap[gb424]? = some (.cells #[.int .i64 0,.slice none 0 0] 32 (0,0))) := ⟨by (with_reducible repeat (first | refine y11 ?_ _ | refine y10 ?_ | refine y7 ?_ _)); refine y12 ?_ NB424_427.out _; (with_reducible repeat (first | refine y11 ?_ _ | refine y10 ?_ | refine y7 ?_ _)); exact BK424.out⟩
    have n3_ : y0 ((w16.setCell ⟨gb427,0,none⟩ (.slice A426_0 ((y21 l0_1 x12_1).f0).length c426_0)).heap[gb425]? = some (.cells #[.int .i64 a0_0,u426001] 32 (0,0))) := ⟨by (with_reducible repeat (first | refine y11 ?_ _ | refine y10 ?_ | refine y7 ?_ _)); refine y12 ?_ NB425_427.out _; (with_reducible repeat (first | refine y11 ?_ _ | refine y10 ?_ | refine y7 ?_ _)); exact BK425.out⟩
    have n4_ : y0 ((w16.setCell ⟨gb427,0,none⟩ (.slice A426_0 ((y21 l0_1 x12_1).f0).length c426_0)).heap[gb427]? = some (.cells #[.slice A426_0 ((y21 l0_1 x12_1).f0).length c426_0] 36 (0,0))) := ⟨by (with_reducible repeat (first | refine y11 ?_ _ | refine y10 ?_ | refine y7 ?_ _)); refine blk_put (cs := #[.slice none 0 0]) ?_ 0 _ rfl; (with_reducible repeat (first | refine y11 ?_ _ | refine y10 ?_ | refine y7 ?_ _)); exact BK427.out⟩
    have n5_ : y0 (Below w.heap.size w (w16.setCell ⟨gb427,0,none⟩ (.slice A426_0 ((y21 l0_1 x12_1).f0).length c426_0))) := ⟨qb⟩
    (try clear HO_426001)
    (try clear BK423)
    (try clear BK424)
    (try clear BK425)
    (try clear BK427)
    (try clear HB)
    generalize (w16.setCell ⟨gb427,0,none⟩ (.slice A426_0 ((y21 l0_1 x12_1).f0).length c426_0)) = w21 at n0_ n1_ n2_ n3_ n4_ n5_ ⊢
    have HO_426001 := n0_
    have BK423 := n1_
    have BK424 := n2_
    have BK425 := n3_
    have BK427 := n4_
    have HB := n5_
    clear n0_ n1_ n2_ n3_ n4_ n5_
    replace HO_426001 := y0.mk (Kd.S_drew HO_426001.out)
    replace BK423 := y0.mk (y10 BK423.out)
    replace BK424 := y0.mk (y10 BK424.out)
    replace BK425 := y0.mk (y10 BK425.out)
    replace BK427 := y0.mk (y10 BK427.out)
    replace HB := y0.mk (y4 HB.out)
    refine start_ (n := 8) (S := fun w' => w'.cell? ⟨gb425,0,none⟩ = some (.int .i64 a0_0) ∧ w'.cell? ⟨gb425,1,none⟩ = some (u426001) ∧ w'.cell? ⟨gb427,0,none⟩ = some (.slice A426_0 ((y21 l0_1 x12_1).f0).length c426_0)) (ds := [7]) (fl_ 8 0) (by kernel_rfl) rfl rfl ⟨(y9 BK425.out 0).trans rfl,(y9 BK425.out 1).trans rfl,(y9 BK427.out 0).trans rfl⟩ (fun hHeld => ?_); refine with_tabW impl_copyRel.tab5 impl_copyRel.bits5 (fun HT_ HW_ => ?_)
    generalize w21.drew = w22 at HO_426001 BK423 BK424 BK425 BK427 HB hHeld ⊢
    refine qp 0 16 (fl_ 8 1) ?_
    refine qt 1 17 (fl_ 8 3) hHeld ?_
    refine qt 2 18 (fl_ 8 7) hHeld ?_
    refine one_ (i := 3) (N := some 19) (fl_ 8 15) rfl rfl (one_of HT_.out (by kernel_rfl)) (by decide) (fun K hK => ?_)
    refine goes_ Tryz.func46 (by kernel_rfl) rfl #[.agg #[.slice A426_0 ((y21 l0_1 x12_1).f0).length c426_0]] (by rfl) rfl rfl qy0 ?_
    with_reducible refine (impl_copyTuple.calls _ _ ((y21 l0_1 x12_1).f0) t428 _ (qc (Kd.C_below HR426_0.out HB.out)) HC426_0.out A14.out).mono ?_
    rintro e w23 ⟨v429,rfl,ho0,hb⟩
    refine ⟨_,rfl, ?_⟩
    replace HO_426001 := y0.mk (Kd.S_elder' (qS HO_426001.out) (Kd.R_base ho0) hb)
    have HO430 := y0.mk (Kd.R_lower ho0 (y5 qb))
    replace BK423 := y0.mk (qK BK423.out hb)
    replace BK424 := y0.mk (qK BK424.out hb)
    replace BK425 := y0.mk (qK BK425.out hb)
    replace BK427 := y0.mk (qK BK427.out hb)
    replace HB := y0.mk (y6 qb hb)
    (try clear hb)
    (try clear hb2)
    (try clear hk)
    (try clear hi)
    (try clear ho0)
    obtain ⟨Ao25,co25,eo25⟩ := Kd.R_slice HO430.out
    (first | subst eo25 | (injection eo25 with f1_ f2_ f3_; have f4_ := f1_.symm; have f5_ := f3_.symm; clear f1_ f2_ f3_; subst f4_; subst f5_))
    refine hK.out _ _ ⟨(y9 BK425.out 0).trans rfl,(y9 BK425.out 1).trans rfl,(y9 BK427.out 0).trans rfl⟩ (fun hHeld => ?_)
    clear hK K
    refine norm_ (a' := ?_) ?_ ?_
    rotate_left
    ·show Act.put _ (some 19) _ = _
     simp only [Act.put,qS_,qZ_,qC_,y19,y18]
     rfl
    refine one_ (i := 4) (N := some 20) (fl_ 8 31) rfl rfl (one_of HT_.out (by kernel_rfl)) (by decide) (fun K hK => ?_)
    refine value_ (w1 := ?_) (v := ?_) (by rfl) rfl ?_ ?_
    rotate_left 2
    ·go_simp
     constructor
     ·rfl
     ·rfl
    refine hK.out _ _ ⟨(y9 (y7 BK425.out _) 0).trans rfl,(y9 (y7 BK425.out _) 1).trans rfl,(y9 (y7 BK427.out _) 0).trans rfl⟩ (fun hHeld => ?_)
    clear hK K
    refine norm_ (a' := ?_) ?_ ?_
    rotate_left
    ·show Act.put _ (some 20) _ = _
     simp only [Act.put,qS_,qZ_,qC_,y19,y18]
     rfl
    refine one_ (i := 5) (N := some 21) (fl_ 8 63) rfl rfl (one_of HT_.out (by kernel_rfl)) (by decide) (fun K hK => ?_)
    refine Kd.S_append_step k36 (w0 := w) w.heap.size (by rfl) (.tmp 17) (.tmp 20) 30 36 (.agg #[(.slice none 0 0)]) 24 rfl Tryz.underlying30 info36 rfl (by decide) (by omega) u426001 x426001_1 (⟨t428⟩ : S36) [.slice Ao25 t428.length co25] (fun k_ => k_ ≠ gb427) (fun k_ => some k_ = (.slice Ao25 t428.length co25 : Value).ownBlock) rfl rfl ?aP (fun k_ hk_ => ((Kd.R_mono (ok' := fun k_ => ((fun k_ => k_ ≠ gb427)) k_ ∧ some k_ ≠ (u426001 : Value).ownBlock) (Kd.R_types (Kd.R_apart' (HO430.out) (Kd.S_typed HO_426001.out) (by decide)) BK427.out (by decide)) (fun k_ hk => ⟨hk.2,hk.1.2⟩))).1 k_ hk_.symm) ?aF ?aO ?aB ?aS ?aL ?_
    (case aP => exact k36_mkM _ _ _ (⟨t428⟩ : S36) (Kd.R_mono (Kd.R_tight rfl (Kd.R_mono (ok' := fun k_ => ((fun k_ => k_ ≠ gb427)) k_ ∧ some k_ ≠ (u426001 : Value).ownBlock) (Kd.R_types (Kd.R_apart' (HO430.out) (Kd.S_typed HO_426001.out) (by decide)) BK427.out (by decide)) (fun k_ hk => ⟨hk.2,hk.1.2⟩))) (fun _ h_ => h_)))
    (case aB => exact qb)
    (case aF => exact (fun k_ hk => Kd.freshB (g := gb427) (o := .cells #[.slice A426_0 ((y21 l0_1 x12_1).f0).length c426_0] 36 (0,0)) (qk BK427.out) k_ hk))
    (case aO => exact (qS (Kd.S_mono HO_426001.out (fun k_ hk => ⟨hk.1,fun e_ => hk.2 e_⟩))))
    (case aS => exact (y5 qb))
    (case aL => have := LMc15.out; omega)
    intro v432 w24 ho hb hg hat
    rw [← Ny431.out] at ho
    replace BK423 := y0.mk (blk_grown (qk BK423.out) hg (Kd.S_ne HO_426001.out BK423.out (by decide)))
    replace BK424 := y0.mk (blk_grown (qk BK424.out) hg (Kd.S_ne HO_426001.out BK424.out (by decide)))
    replace BK425 := y0.mk (blk_grown (qk BK425.out) hg (Kd.S_ne HO_426001.out BK425.out (by decide)))
    replace BK427 := y0.mk (blk_grown (qk BK427.out) hg (Kd.S_away HO_426001.out (fun _ hk => hk.1)))
    replace HB := y0.mk (hb)
    have HO433 := y0.mk (ho)
    clear HO_426001 HO430
    clear ho hb hg hat
    obtain ⟨Ao26,co26,eo26⟩ := Kd.S_slice HO433.out
    (first | subst eo26 | (injection eo26 with f1_ f2_ f3_; have f4_ := f1_.symm; have f5_ := f3_.symm; clear f1_ f2_ f3_; subst f4_; subst f5_))
    refine hK.out _ _ ⟨(y9 BK425.out 0).trans rfl,(y9 BK425.out 1).trans rfl,(y9 BK427.out 0).trans rfl⟩ (fun hHeld => ?_)
    clear hK K
    refine norm_ (a' := ?_) ?_ ?_
    rotate_left
    ·show Act.put _ (some 21) _ = _
     simp only [Act.put,qS_,qZ_,qC_,y19,y18]
     rfl
    refine qp 6 22 (fl_ 8 127) ?_
    refine last_ (i := 7) (N := none) (fl_ 8 255) rfl rfl (one_of HT_.out (by kernel_rfl)) (by decide) (fun K hK => ?_)
    have hs27 : w24.cell? ⟨gb425,1,none⟩ = some (u426001) := (y9 BK425.out 1).trans rfl
    have hfs27 := blk_frozen BK425.out 1
    have hns27_0 := NB423_425.out
    have hns27_1 := NB424_425.out
    have hns27_3 := NB427_425.out
    have hms27_0 := NB425_423.out
    have hms27_1 := NB425_424.out
    have hms27_3 := NB425_427.out
    refine skip_ (w1 := ?_) (by rfl) rfl ?_ ?_
    rotate_left
    ·go_simp
     rfl
    refine hK.out _ _ ?_
    clear hK K
    refine done_ (done_of HT_.out (by kernel_rfl)) ?_
    try go_wp2
    go_roundg k1
    case measure => have := HK1.out; omega
    exact ⟨(wrap64 (x12_1 + 1)),(y431),(.slice Ao26 y431.length co26),qy2,H',⟨by have := HK1.out; omega⟩,⟨qS (Kd.S_mono (Kd.S_far (p := ⟨gb425,1,none⟩) (Kd.S_types HO433.out BK425.out (by decide)) (fun _ hk => hk.2) (.slice Ao26 y431.length co26)) (fun _ hk => trivial))⟩,⟨by (with_reducible repeat (first | refine y11 ?_ _ | refine y10 ?_ | refine y7 ?_ _)); refine y12 ?_ NB423_425.out _; (with_reducible repeat (first | refine y11 ?_ _ | refine y10 ?_ | refine y7 ?_ _)); exact BK423.out⟩,⟨by (with_reducible repeat (first | refine y11 ?_ _ | refine y10 ?_ | refine y7 ?_ _)); refine y12 ?_ NB424_425.out _; (with_reducible repeat (first | refine y11 ?_ _ | refine y10 ?_ | refine y7 ?_ _)); exact BK424.out⟩,⟨by (with_reducible repeat (first | refine y11 ?_ _ | refine y10 ?_ | refine y7 ?_ _)); refine blk_put (cs := #[.int .i64 a0_0,u426001]) ?_ 1 _ rfl; (with_reducible repeat (first | refine y11 ?_ _ | refine y10 ?_ | refine y7 ?_ _)); exact BK425.out⟩,⟨qb⟩⟩
   ·rw [if_neg c11] at H
    have c11b0 := decide_eq_false c11
    clear c11
    simp only [Option.some.injEq,Prod.mk.injEq] at H
    obtain ⟨rfl,rfl⟩ := H
    have hnb28 := NB425_423.out
    have hnc28 := NB423_425.out
    have hnb29 := NB425_424.out
    have hnc29 := NB424_425.out
    obtain ⟨hcz30_0,hcz30_1,hfz30_0,hfz30_1⟩ := qz2 BK425.out
    have hnb31 := NB424_423.out
    have hnc31 := NB423_424.out
    obtain ⟨hcz32_0,hcz32_1,hfz32_0,hfz32_1⟩ := qz2 BK424.out
    obtain ⟨Ao33,co33,eo33⟩ := Kd.S_slice HO_426001.out
    subst eo33
    go_wp2
    refine bodyPost_ret (results_cell_row rfl _ _ gb424 32 #[.int .i64 a0_0,.slice Ao33 x426001_1.length co33] (0,0) _ rfl (by (with_reducible repeat (first | refine y11 ?_ _ | refine y10 ?_ | refine y7 ?_ _)); refine blk_put (cs := #[.int .i64 a0_0,.slice none 0 0]) ?_ 1 _ rfl; (with_reducible repeat (first | refine y11 ?_ _ | refine y10 ?_ | refine y7 ?_ _)); refine blk_put (cs := #[.int .i64 0,.slice none 0 0]) ?_ 0 _ rfl; (with_reducible repeat (first | refine y11 ?_ _ | refine y10 ?_ | refine y7 ?_ _)); exact BK424.out) Tryz.underlying32 rfl (by kernel_rfl)) rfl ?_
    exact ⟨_,by first | rfl | (simp [y13,y14] <;> rfl) | (simp [*,y13,y14] <;> rfl),by (with_reducible repeat (first | apply Kd.S_alloc | apply Kd.S_drewN | apply Kd.S_drew)); exact Kd.S_mono (Kd.S_far (p := ⟨gb424,1,none⟩) (Kd.S_far (p := ⟨gb424,0,none⟩) (Kd.S_types HO_426001.out BK424.out (by decide)) (fun _ hk => hk.2) (.int .i64 a0_0)) (fun _ hk => hk.2) (.slice Ao33 x426001_1.length co33)) (fun _ hk => trivial),qb⟩
end Go.Proofs.YtkajecadkkgfmaaGreatDoor.Pe
end
section
namespace Go.Proofs.YtkajecadkkgfmaaGreatDoor.Pe
open Go.RowKit Go.Proofs.YtkajecadkkgfmaaGreatDoorW.PrintWords Go.Proofs.YtkajecadkkgfmaaGreatDoorW.PrintLast Go.Proofs.YtkajecadkkgfmaaGreatDoorW.PrintMore
attribute [local go_sem] max2_int min2_int max_two min_two max_three min_three max_four min_four   -- for this text's walks alone
set_option linter.unusedVariables false
set_option linter.unusedSimpArgs false
theorem wrap_lupB {i : Nat} (h : i ≤ 281474976710656) : wrap64 ((i : Int) + 1) = ((i + 1 : Nat) : Int) := by
 unfold wrap64
 omega
theorem rd_atB (xs : List S36) (i : Nat) (h : i < xs.length) : y21 xs (i : Int) = xs[i] := by
 show xs.getD ((i : Int)).toNat _ = _
 rw [Int.toNat_natCast,List.getD_eq_getElem?_getD,List.getElem?_eq_getElem h,Option.getD_some]
/-- 'goes_' where the callee is a value that a slot holds. -/
theorem goesV_ {P : Program} {ops : Array Oper} {Q : Exit → Act → World → Prop} {oi : Oper} {N : Option Tmp} {a : Act} {w : World} {K : Act → World → Prop} {f : FuncId} {fn : Func} {x : Operand} {xo : Array Operand} {ts : Array TypeId} (hf : P.funcs[f]? = some fn) (hname : (fn.name == "runtime.NumGoroutine") = false) (hb : fn.body.isSome = true) (args : Array Value)
  (hw : Region.wanted oi (yielded ops a.tmps) = true) (hN : oi.dst = N) (hop : oi.op = .call { callee := .value x,args := xo,argTypes := ts }) (hx : a.eval x = .func (.func f) #[] #[]) (hargs : xo.map a.eval = args)
  (h : Calls P f args w fun e w' => ∃ v,e = .returned v ∧ K (a.put N v) w') : if Region.wanted oi (yielded ops a.tmps) = true then Oper.wp P oi a w K Q else K (a.put N undef) w := by
 refine call_ f args hw hN ?_ h
 have he := enters_ hf hname hb args w
 unfold execOp
 simp [hop,resolve,Deferred.ofValue,invoke,hx,hargs,he]
theorem sar1 (i j : Nat) (h : i + j < 9223372036854775807) : wrap64 ((i : Int) + (j : Int)) = ((i + j : Nat) : Int) := by
 unfold wrap64
 omega
set_option maxHeartbeats 8000000 in
set_option maxRecDepth 100000 in
theorem slices_BinarySearchFunc_T.calls (k : Nat) (A0 : Option Addr) (c0 : Nat) (l0 : List (S36)) (At : Option Addr) (ct : Nat) (lt : List ByteArray) (cf : Nat → Int) (p : Nat) (fnd : Bool) (w : World) (hr0 : Kd.C k36 w A0 l0.length l0) (hc0 : l0.length ≤ c0) (hrt : Kd.C Kd.string w At lt.length lt) (hct : lt.length ≤ ct) (hT : Tb w) (hlen : l0.length ≤ 281474976710656)
  (hcf : ∀ j (h : j < l0.length),impl_compareTuples.f k l0[j].f0 lt = some (cf j)) (hp : p ≤ l0.length) (hm : ∀ j,j < l0.length → (cf j < 0 ↔ j < p)) (hf : fnd = (decide (p < l0.length) && decide (cf p = 0))) :
  Calls Tryz.prog 43 #[.slice A0 l0.length c0,.agg #[.slice At lt.length ct],.func (.func 44) #[] #[]] w fun e w' => e = .returned (.tuple #[.int .i64 (p : Int),.bool fnd]) ∧ Below w.heap.size w w' := by
 have hu36 := Tryz.underlying36
 have HR0 := y0.mk hr0
 have HC0 := y0.mk hc0
 have HRt := y0.mk hrt
 have HCt := y0.mk hct
 have HT := y0.mk hT
 have HL0 := y0.mk hlen
 have HCF := y0.mk hcf
 have HP := y0.mk hp
 have HM := y0.mk hm
 have HF := y0.mk hf
 clear hr0 hc0 hrt hct hT hlen hcf hp hm hf
 have HB := y0.mk (Below.refl w.heap.size w)
 have STEP : y0 (∀ (W : World) (j : Nat) (A2 : Option Addr) (c2 : Nat) (r : S36) (hj : j < l0.length),l0[j] = r → Below w.heap.size w W → Kd.C Kd.string W A2 r.f0.length r.f0 → r.f0.length ≤ c2 → Calls Tryz.prog 44 #[.agg #[.slice A2 r.f0.length c2],.agg #[.slice At lt.length ct]] W fun e w' => e = .returned (.int .i64 (cf j)) ∧ Below W.heap.size W w') :=
  ⟨fun W j A2 c2 r hj hr hW h1 h2 => impl_compareTuples.calls k A2 c2 r.f0 At ct lt (cf j) W h1 h2 (Kd.C_below HRt.out hW) HCt.out (Tb.below HT.out hW) (by rw [← hr]; exact HCF.out j hj)⟩
 go_enter Tryz.func43,Tryz.ntmps43
 go_wp2_with (first | ((with_reducible refine y16 (N := 4) rfl ?_); refine qe 4 #[.slice At lt.length ct] 36 ?_; intro gt hg w1 hbox hb; have n0_ := y0.mk (y6 HB.out hb); have BK := y0.mk hbox; clear HB hb hg hbox; have HB := n0_; clear n0_))
 go_loopg [9,10] l0.length (fun kq v9 v10 w' => ∃ (xi xj : Int) (i j : Nat),v9 = .int .i64 xi ∧ v10 = .int .i64 xj ∧ y0 (xi = (i : Int)) ∧ y0 (xj = (j : Int)) ∧ y0 (i ≤ p) ∧ y0 (p ≤ j) ∧ y0 (j ≤ l0.length) ∧ y0 (j ≤ kq + i) ∧ y0 (w'.heap[gt]? = some (.cells #[.slice At lt.length ct] 36 (0,0))) ∧ y0 (Below w.heap.size w w'))
 case atStart => exact ⟨0,(l0.length : Int),0,l0.length,rfl,rfl,⟨rfl⟩,⟨rfl⟩,⟨Nat.zero_le _⟩,HP,⟨Nat.le_refl _⟩,⟨by omega⟩,BK,HB⟩
 case round =>
  clear HB BK
  obtain ⟨xi,xj,i,j,rfl,rfl,HXI,HXJ,HIP,HPJ,HJ,HK1,BK,HB⟩ := hrel
  by_cases c : i < j
  ·have hh : (i + j) / 2 < l0.length := by have := HJ.out; omega
   obtain ⟨xh,hxh⟩ : ∃ xh : Int,xh = (((i + j) / 2 : Nat) : Int) := ⟨_,rfl⟩
   have p1 : (0 : Int) ≤ xh := by have := hxh; omega
   have cq : xh < (l0.length : Int) := by have := hxh; omega
   obtain ⟨ad,A2,c2,e2,hx0,hl2,hi2⟩ := at_T36 HR0.out xh p1 cq
   cases e2
   replace hx0 := (HB.out.cell (World.block_lt_of_cell? w _ hx0)).trans hx0
   have hrd : y21 l0 xh = l0[(i + j) / 2]'hh := by rw [hxh]; exact rd_atB l0 _ hh
   have ht0 : wr.cell? ⟨gt,0,none⟩ = some (.slice At lt.length ct) := (y9 BK.out 0).trans rfl
   have CALL : y0 (∀ w1 : World,Below wr.heap.size wr w1 → Calls Tryz.prog 44 #[.agg #[.slice A2 ((y21 l0 xh).f0).length c2],.agg #[.slice At lt.length ct]] w1 fun e w' => e = .returned (.int .i64 (cf ((i + j) / 2))) ∧ Below w1.heap.size w1 w') :=
    ⟨fun w1 h1 => STEP.out w1 _ A2 c2 _ hh hrd.symm (y6 HB.out h1) (Kd.C_below hi2 (y6 HB.out h1)) hl2⟩
   replace p1 := eq_true p1
   replace cq := eq_true cq
   clear hrd hl2 hi2
   have hmid : wrap64 (IntKind.u64.wrap (wrap64 (xi + xj)) / 2) = xh := by
    rw [HXI.out,HXJ.out,hxh]
    have := HJ.out
    have := HL0.out
    rw [sar1 i j (by omega),show IntKind.u64.wrap (((i + j : Nat) : Int)) = ((i + j : Nat) : Int) by simp only [IntKind.wrap_u64]; omega]
    unfold wrap64
    omega
   have cb1 : decide (xi < xj) = true := decide_eq_true (by have := HXI.out; have := HXJ.out; omega)
   have HXH := y0.mk hxh
   clear hxh
   have HC := y0.mk c
   have HH := y0.mk hh
   clear c hh
   by_cases cc : cf ((i + j) / 2) < 0
   ·have cb2 : decide (cf ((i + j) / 2) < 0) = true := decide_eq_true cc
    have HCC := y0.mk cc
    clear cc
    go_upto_region 5 with fail
    rw [hmid]
    refine start_ (n := 8) (S := fun w' => w'.cell? (ad.add (xh).toNat) = some (.slice A2 ((y21 l0 xh).f0).length c2) ∧ w'.cell? ⟨gt,0,none⟩ = some (.slice At lt.length ct)) (ds := []) (fl_ 8 0) (by kernel_rfl) rfl rfl ⟨hx0,ht0⟩ (fun hHeld => ?_)
    refine y20 (i := 0) (N := some 24) (v := ?_) (a' := ?_) (fl_ 8 1) rfl rfl (by kernel_rfl) (fun _ _ _ h => h) (Or.inl ⟨by rfl, ?_⟩) ?_ ?_
    rotate_left
    ·intro w'
     go_simp
     with_reducible rfl
    rotate_left
    ·simp only [Act.put,qS_,qZ_,qC_,y19,y18]
     rfl
    refine y20 (i := 1) (N := some 25) (v := ?_) (a' := ?_) (fl_ 8 3) rfl rfl (by kernel_rfl) (fun _ _ _ h => h) (Or.inl ⟨by rfl, ?_⟩) ?_ ?_
    rotate_left
    ·intro w'
     go_simp
     with_reducible rfl
    rotate_left
    ·simp only [Act.put,qS_,qZ_,qC_,y19,y18]
     rfl
    refine y20 (i := 2) (N := some 26) (v := ?_) (a' := ?_) (fl_ 8 7) rfl rfl (by kernel_rfl) (fun _ _ _ h => h) (Or.inl ⟨by rfl, ?_⟩) ?_ ?_
    rotate_left
    ·intro w'
     go_simp
     with_reducible rfl
    rotate_left
    ·simp only [Act.put,qS_,qZ_,qC_,y19,y18]
     rfl
    refine y20 (i := 3) (N := some 27) (v := ?_) (a' := ?_) (fl_ 8 15) rfl rfl (by kernel_rfl) (fun _ _ _ h => h) (Or.inl ⟨by rfl, ?_⟩) ?_ ?_
    rotate_left
    ·intro w'
     go_simp
     with_reducible rfl
    rotate_left
    ·simp only [Act.put,qS_,qZ_,qC_,y19,y18]
     rfl
    refine take_ (i := 4) (N := some 28) (v := ?_) (a' := ?_) (fl_ 8 31) rfl rfl (by kernel_rfl) (fun _ _ _ h => h) (Or.inl ⟨by rfl, ?_⟩) hHeld ?_ ?_
    rotate_left
    ·rintro w' ⟨s0,s1⟩
     go_simp
     with_reducible rfl
    rotate_left
    ·simp only [Act.put,qS_,qZ_,qC_,y19,y18]
     rfl
    refine take_ (i := 5) (N := some 29) (v := ?_) (a' := ?_) (fl_ 8 63) rfl rfl (by kernel_rfl) (fun _ _ _ h => h) (Or.inl ⟨by rfl, ?_⟩) hHeld ?_ ?_
    rotate_left
    ·rintro w' ⟨s0,s1⟩
     go_simp
     with_reducible rfl
    rotate_left
    ·simp only [Act.put,qS_,qZ_,qC_,y19,y18]
     rfl
    refine one_ (i := 6) (N := some 30) (fl_ 8 127) rfl rfl (by kernel_rfl) (by decide) (fun K hK => ?_)
    refine goesV_ Tryz.func44 (by kernel_rfl) rfl #[.agg #[.slice A2 ((y21 l0 xh).f0).length c2],.agg #[.slice At lt.length ct]] (by rfl) rfl rfl (by rfl) qy3 ?_
    with_reducible refine (CALL.out _ (below_drew (Below.refl _ _))).mono ?_
    rintro e w3 ⟨rfl,hb⟩
    refine ⟨_,rfl, ?_⟩
    have n0_ := y0.mk (y6 (y4 HB.out) hb)
    have n1_ := y0.mk (y8 (y10 BK.out) hb)
    have hx1 := pw_cell_below (w := wr.drew) hb hx0
    clear HB BK
    have HB := n0_
    have BK := n1_
    clear n0_ n1_ hb
    refine hK.out _ _ ⟨hx1,(y9 BK.out 0).trans rfl⟩ (fun hHeld => ?_)
    clear hK K
    refine norm_ (a' := ?_) ?_ ?_
    rotate_left
    ·show Act.put _ (some 30) _ = _
     simp only [Act.put,qS_,qZ_,qC_,y19,y18]
     rfl
    refine y20 (i := 7) (N := some 31) (v := ?_) (a' := ?_) (fl_ 8 255) rfl rfl (by kernel_rfl) (fun _ _ _ h => h) (Or.inl ⟨by rfl, ?_⟩) ?_ ?_
    rotate_left
    ·intro w'
     go_simp
     with_reducible rfl
    rotate_left
    ·simp only [Act.put,qS_,qZ_,qC_,y19,y18]
     rfl
    refine done_ (by kernel_rfl) ?_
    clear CALL hx0 ht0
    go_wp2
    go_roundg (j - ((i + j) / 2 + 1))
    case measure => have := HK1.out; have := HC.out; omega
    case rel =>
     refine ⟨wrap64 (xh + 1),xj,(i + j) / 2 + 1,j,qy2,rfl,⟨by rw [HXH.out]; exact wrap_lupB (by have := HH.out; have := HL0.out; omega)⟩,HXJ,⟨?_⟩,HPJ,HJ,⟨by have := HC.out; omega⟩,BK,HB⟩
     have := (HM.out _ HH.out).1 HCC.out
     omega
   ·have cb2 : decide (cf ((i + j) / 2) < 0) = false := decide_eq_false cc
    have HCC := y0.mk cc
    clear cc
    go_upto_region 5 with fail
    rw [hmid]
    refine start_ (n := 8) (S := fun w' => w'.cell? (ad.add (xh).toNat) = some (.slice A2 ((y21 l0 xh).f0).length c2) ∧ w'.cell? ⟨gt,0,none⟩ = some (.slice At lt.length ct)) (ds := []) (fl_ 8 0) (by kernel_rfl) rfl rfl ⟨hx0,ht0⟩ (fun hHeld => ?_)
    refine y20 (i := 0) (N := some 24) (v := ?_) (a' := ?_) (fl_ 8 1) rfl rfl (by kernel_rfl) (fun _ _ _ h => h) (Or.inl ⟨by rfl, ?_⟩) ?_ ?_
    rotate_left
    ·intro w'
     go_simp
     with_reducible rfl
    rotate_left
    ·simp only [Act.put,qS_,qZ_,qC_,y19,y18]
     rfl
    refine y20 (i := 1) (N := some 25) (v := ?_) (a' := ?_) (fl_ 8 3) rfl rfl (by kernel_rfl) (fun _ _ _ h => h) (Or.inl ⟨by rfl, ?_⟩) ?_ ?_
    rotate_left
    ·intro w'
     go_simp
     with_reducible rfl
    rotate_left
    ·simp only [Act.put,qS_,qZ_,qC_,y19,y18]
     rfl
    refine y20 (i := 2) (N := some 26) (v := ?_) (a' := ?_) (fl_ 8 7) rfl rfl (by kernel_rfl) (fun _ _ _ h => h) (Or.inl ⟨by rfl, ?_⟩) ?_ ?_
    rotate_left
    ·intro w'
     go_simp
     with_reducible rfl
    rotate_left
    ·simp only [Act.put,qS_,qZ_,qC_,y19,y18]
     rfl
    refine y20 (i := 3) (N := some 27) (v := ?_) (a' := ?_) (fl_ 8 15) rfl rfl (by kernel_rfl) (fun _ _ _ h => h) (Or.inl ⟨by rfl, ?_⟩) ?_ ?_
    rotate_left
    ·intro w'
     go_simp
     with_reducible rfl
    rotate_left
    ·simp only [Act.put,qS_,qZ_,qC_,y19,y18]
     rfl
    refine take_ (i := 4) (N := some 28) (v := ?_) (a' := ?_) (fl_ 8 31) rfl rfl (by kernel_rfl) (fun _ _ _ h => h) (Or.inl ⟨by rfl, ?_⟩) hHeld ?_ ?_
    rotate_left
    ·rintro w' ⟨s0,s1⟩
     go_simp
     with_reducible rfl
    rotate_left
    ·simp only [Act.put,qS_,qZ_,qC_,y19,y18]
     rfl
    refine take_ (i := 5) (N := some 29) (v := ?_) (a' := ?_) (fl_ 8 63) rfl rfl (by kernel_rfl) (fun _ _ _ h => h) (Or.inl ⟨by rfl, ?_⟩) hHeld ?_ ?_
    rotate_left
    ·rintro w' ⟨s0,s1⟩
     go_simp
     with_reducible rfl
    rotate_left
    ·simp only [Act.put,qS_,qZ_,qC_,y19,y18]
     rfl
    refine one_ (i := 6) (N := some 30) (fl_ 8 127) rfl rfl (by kernel_rfl) (by decide) (fun K hK => ?_)
    refine goesV_ Tryz.func44 (by kernel_rfl) rfl #[.agg #[.slice A2 ((y21 l0 xh).f0).length c2],.agg #[.slice At lt.length ct]] (by rfl) rfl rfl (by rfl) qy3 ?_
    with_reducible refine (CALL.out _ (below_drew (Below.refl _ _))).mono ?_
    rintro e w3 ⟨rfl,hb⟩
    refine ⟨_,rfl, ?_⟩
    have n0_ := y0.mk (y6 (y4 HB.out) hb)
    have n1_ := y0.mk (y8 (y10 BK.out) hb)
    have hx1 := pw_cell_below (w := wr.drew) hb hx0
    clear HB BK
    have HB := n0_
    have BK := n1_
    clear n0_ n1_ hb
    refine hK.out _ _ ⟨hx1,(y9 BK.out 0).trans rfl⟩ (fun hHeld => ?_)
    clear hK K
    refine norm_ (a' := ?_) ?_ ?_
    rotate_left
    ·show Act.put _ (some 30) _ = _
     simp only [Act.put,qS_,qZ_,qC_,y19,y18]
     rfl
    refine y20 (i := 7) (N := some 31) (v := ?_) (a' := ?_) (fl_ 8 255) rfl rfl (by kernel_rfl) (fun _ _ _ h => h) (Or.inl ⟨by rfl, ?_⟩) ?_ ?_
    rotate_left
    ·intro w'
     go_simp
     with_reducible rfl
    rotate_left
    ·simp only [Act.put,qS_,qZ_,qC_,y19,y18]
     rfl
    refine done_ (by kernel_rfl) ?_
    clear CALL hx0 ht0
    go_wp2
    go_roundg ((i + j) / 2 - i)
    case measure => have := HK1.out; have := HC.out; omega
    case rel =>
     refine ⟨xi,xh,i,(i + j) / 2,rfl,rfl,HXI,HXH,HIP,⟨?_⟩,⟨by have := HH.out; omega⟩,⟨by have := HC.out; omega⟩,BK,HB⟩
     have := HCC.out
     have h1 := HM.out _ HH.out
     omega
  ·have hij : i = p ∧ j = p := by
    have := HIP.out
    have := HPJ.out
    omega
   have e2 := hij.2.symm
   have e1 := hij.1
   clear hij
   subst e1
   subst e2
   have cb1 : decide (xi < xj) = false := decide_eq_false (by have := HXI.out; have := HXJ.out; omega)
   clear c
   by_cases hh : i < l0.length
   ·skip
    have p1 : (0 : Int) ≤ xi := by have := HXI.out; omega
    have cq : xi < (l0.length : Int) := by have := HXI.out; omega
    obtain ⟨ad,A2,c2,e2,hx0,hl2,hi2⟩ := at_T36 HR0.out xi p1 cq
    cases e2
    replace hx0 := (HB.out.cell (World.block_lt_of_cell? w _ hx0)).trans hx0
    have hrd : y21 l0 xi = l0[i]'hh := by rw [HXI.out]; exact rd_atB l0 _ hh
    have ht0 : wr.cell? ⟨gt,0,none⟩ = some (.slice At lt.length ct) := (y9 BK.out 0).trans rfl
    have CALL : y0 (∀ w1 : World,Below wr.heap.size wr w1 → Calls Tryz.prog 44 #[.agg #[.slice A2 ((y21 l0 xi).f0).length c2],.agg #[.slice At lt.length ct]] w1 fun e w' => e = .returned (.int .i64 (cf (i))) ∧ Below w1.heap.size w1 w') :=
     ⟨fun w1 h1 => STEP.out w1 _ A2 c2 _ hh hrd.symm (y6 HB.out h1) (Kd.C_below hi2 (y6 HB.out h1)) hl2⟩
    replace p1 := eq_true p1
    replace cq := eq_true cq
    clear hrd hl2 hi2
    have cb3 : decide (xi < (l0.length : Int)) = true := decide_eq_true (by have := HXI.out; omega)
    have hfe : fnd = decide (cf i = 0) := by rw [HF.out,decide_eq_true hh]; rfl
    clear hh
    by_cases cc : cf i = 0
    ·have cb4 : (cf i == 0) = true := beq_iff_eq.mpr cc
     have hfv : fnd = true := by rw [hfe]; exact decide_eq_true cc
     clear hfe cc
     go_upto_region 8 with fail
     refine start_ (n := 16) (S := fun w' => w'.cell? (ad.add (xi).toNat) = some (.slice A2 ((y21 l0 xi).f0).length c2) ∧ w'.cell? ⟨gt,0,none⟩ = some (.slice At lt.length ct)) (ds := []) (fl_ 16 0) (by kernel_rfl) rfl rfl ⟨hx0,ht0⟩ (fun hHeld => ?_)
     refine y20 (i := 0) (N := some 35) (v := ?_) (a' := ?_) (fl_ 16 1) rfl rfl (by kernel_rfl) (fun _ _ _ h => h) (Or.inl ⟨by rfl, ?_⟩) ?_ ?_
     rotate_left
     ·intro w'
      go_simp
      with_reducible rfl
     rotate_left
     ·simp only [Act.put,qS_,qZ_,qC_,y19,y18]
      rfl
     refine y20 (i := 1) (N := some 36) (v := ?_) (a' := ?_) (fl_ 16 3) rfl rfl (by kernel_rfl) (fun _ _ _ h => h) (Or.inl ⟨by rfl, ?_⟩) ?_ ?_
     rotate_left
     ·intro w'
      go_simp
      with_reducible rfl
     rotate_left
     ·simp only [Act.put,qS_,qZ_,qC_,y19,y18]
      rfl
     refine y20 (i := 2) (N := some 37) (v := ?_) (a' := ?_) (fl_ 16 7) rfl rfl (by kernel_rfl) (fun _ _ _ h => h) (Or.inl ⟨by rfl, ?_⟩) ?_ ?_
     rotate_left
     ·intro w'
      go_simp
      with_reducible rfl
     rotate_left
     ·simp only [Act.put,qS_,qZ_,qC_,y19,y18]
      rfl
     refine y20 (i := 3) (N := some 38) (v := ?_) (a' := ?_) (fl_ 16 15) rfl rfl (by kernel_rfl) (fun _ _ _ h => h) (Or.inl ⟨by rfl, ?_⟩) ?_ ?_
     rotate_left
     ·intro w'
      go_simp
      with_reducible rfl
     rotate_left
     ·simp only [Act.put,qS_,qZ_,qC_,y19,y18]
      rfl
     refine y20 (i := 4) (N := some 39) (v := ?_) (a' := ?_) (fl_ 16 31) rfl rfl (by kernel_rfl) (fun _ _ _ h => h) (Or.inl ⟨by rfl, ?_⟩) ?_ ?_
     rotate_left
     ·intro w'
      go_simp
      with_reducible rfl
     rotate_left
     ·simp only [Act.put,qS_,qZ_,qC_,y19,y18]
      rfl
     refine y20 (i := 5) (N := some 40) (v := ?_) (a' := ?_) (fl_ 16 63) rfl rfl (by kernel_rfl) (fun _ _ _ h => h) (Or.inl ⟨by rfl, ?_⟩) ?_ ?_
     rotate_left
     ·intro w'
      go_simp
      with_reducible rfl
     rotate_left
     ·simp only [Act.put,qS_,qZ_,qC_,y19,y18]
      rfl
     refine y20 (i := 6) (N := some 41) (v := ?_) (a' := ?_) (fl_ 16 127) rfl rfl (by kernel_rfl) (fun _ _ _ h => h) (Or.inl ⟨by rfl, ?_⟩) ?_ ?_
     rotate_left
     ·intro w'
      go_simp
      with_reducible rfl
     rotate_left
     ·simp only [Act.put,qS_,qZ_,qC_,y19,y18]
      rfl
     refine y20 (i := 7) (N := some 42) (v := ?_) (a' := ?_) (fl_ 16 255) rfl rfl (by kernel_rfl) (fun _ _ _ h => h) (Or.inl ⟨by rfl, ?_⟩) ?_ ?_
     rotate_left
     ·intro w'
      go_simp
      with_reducible rfl
     rotate_left
     ·simp only [Act.put,qS_,qZ_,qC_,y19,y18]
      rfl
     refine y20 (i := 8) (N := some 43) (v := ?_) (a' := ?_) (fl_ 16 511) rfl rfl (by kernel_rfl) (fun _ _ _ h => h) (Or.inl ⟨by rfl, ?_⟩) ?_ ?_
     rotate_left
     ·intro w'
      go_simp
      with_reducible rfl
     rotate_left
     ·simp only [Act.put,qS_,qZ_,qC_,y19,y18]
      rfl
     refine take_ (i := 9) (N := some 44) (v := ?_) (a' := ?_) (fl_ 16 1023) rfl rfl (by kernel_rfl) (fun _ _ _ h => h) (Or.inl ⟨by rfl, ?_⟩) hHeld ?_ ?_
     rotate_left
     ·rintro w' ⟨s0,s1⟩
      go_simp
      with_reducible rfl
     rotate_left
     ·simp only [Act.put,qS_,qZ_,qC_,y19,y18]
      rfl
     refine take_ (i := 10) (N := some 45) (v := ?_) (a' := ?_) (fl_ 16 2047) rfl rfl (by kernel_rfl) (fun _ _ _ h => h) (Or.inl ⟨by rfl, ?_⟩) hHeld ?_ ?_
     rotate_left
     ·rintro w' ⟨s0,s1⟩
      go_simp
      with_reducible rfl
     rotate_left
     ·simp only [Act.put,qS_,qZ_,qC_,y19,y18]
      rfl
     refine one_ (i := 11) (N := some 46) (fl_ 16 4095) rfl rfl (by kernel_rfl) (by decide) (fun K hK => ?_)
     refine goesV_ Tryz.func44 (by kernel_rfl) rfl #[.agg #[.slice A2 ((y21 l0 xi).f0).length c2],.agg #[.slice At lt.length ct]] (by rfl) rfl rfl (by rfl) qy3 ?_
     with_reducible refine (CALL.out _ (below_drew (Below.refl _ _))).mono ?_
     rintro e w3 ⟨rfl,hb⟩
     refine ⟨_,rfl, ?_⟩
     have n0_ := y0.mk (y6 (y4 HB.out) hb)
     have n1_ := y0.mk (y8 (y10 BK.out) hb)
     have hx1 := pw_cell_below (w := wr.drew) hb hx0
     clear HB BK
     have HB := n0_
     have BK := n1_
     clear n0_ n1_ hb
     refine hK.out _ _ ⟨hx1,(y9 BK.out 0).trans rfl⟩ (fun hHeld => ?_)
     clear hK K
     refine norm_ (a' := ?_) ?_ ?_
     rotate_left
     ·show Act.put _ (some 46) _ = _
      simp only [Act.put,qS_,qZ_,qC_,y19,y18]
      rfl
     refine y20 (i := 12) (N := some 47) (v := ?_) (a' := ?_) (fl_ 16 8191) rfl rfl (by kernel_rfl) (fun _ _ _ h => h) (Or.inl ⟨by rfl, ?_⟩) ?_ ?_
     rotate_left
     ·intro w'
      go_simp
      with_reducible rfl
     rotate_left
     ·simp only [Act.put,qS_,qZ_,qC_,y19,y18]
      rfl
     refine y20 (i := 13) (N := some 48) (v := ?_) (a' := ?_) (fl_ 16 16383) rfl rfl (by kernel_rfl) (fun _ _ _ h => h) (Or.inl ⟨by rfl, ?_⟩) ?_ ?_
     rotate_left
     ·intro w'
      go_simp
      with_reducible rfl
     rotate_left
     ·simp only [Act.put,qS_,qZ_,qC_,y19,y18]
      rfl
     refine y20 (i := 14) (N := some 6) (v := ?_) (a' := ?_) (fl_ 16 32767) rfl rfl (by kernel_rfl) (fun _ _ _ h => h) (Or.inl ⟨by rfl, ?_⟩) ?_ ?_
     rotate_left
     ·intro w'
      go_simp
      with_reducible rfl
     rotate_left
     ·simp only [Act.put,qS_,qZ_,qC_,y19,y18]
      rfl
     refine y20 (i := 15) (N := some 7) (v := ?_) (a' := ?_) (fl_ 16 65535) rfl rfl (by kernel_rfl) (fun _ _ _ h => h) (Or.inl ⟨by rfl, ?_⟩) ?_ ?_
     rotate_left
     ·intro w'
      go_simp
      with_reducible rfl
     rotate_left
     ·simp only [Act.put,qS_,qZ_,qC_,y19,y18]
      rfl
     refine done_ (by kernel_rfl) ?_
     clear CALL hx0 ht0
     go_wp2
     go_ret2
     exact ⟨by rw [hfv,HXI.out]; rfl,HB.out⟩
    ·have cb4 : (cf i == 0) = false := beq_eq_false_iff_ne.mpr cc
     have hfv : fnd = false := by rw [hfe]; exact decide_eq_false cc
     clear hfe cc
     go_upto_region 8 with fail
     refine start_ (n := 16) (S := fun w' => w'.cell? (ad.add (xi).toNat) = some (.slice A2 ((y21 l0 xi).f0).length c2) ∧ w'.cell? ⟨gt,0,none⟩ = some (.slice At lt.length ct)) (ds := []) (fl_ 16 0) (by kernel_rfl) rfl rfl ⟨hx0,ht0⟩ (fun hHeld => ?_)
     refine y20 (i := 0) (N := some 35) (v := ?_) (a' := ?_) (fl_ 16 1) rfl rfl (by kernel_rfl) (fun _ _ _ h => h) (Or.inl ⟨by rfl, ?_⟩) ?_ ?_
     rotate_left
     ·intro w'
      go_simp
      with_reducible rfl
     rotate_left
     ·simp only [Act.put,qS_,qZ_,qC_,y19,y18]
      rfl
     refine y20 (i := 1) (N := some 36) (v := ?_) (a' := ?_) (fl_ 16 3) rfl rfl (by kernel_rfl) (fun _ _ _ h => h) (Or.inl ⟨by rfl, ?_⟩) ?_ ?_
     rotate_left
     ·intro w'
      go_simp
      with_reducible rfl
     rotate_left
     ·simp only [Act.put,qS_,qZ_,qC_,y19,y18]
      rfl
     refine y20 (i := 2) (N := some 37) (v := ?_) (a' := ?_) (fl_ 16 7) rfl rfl (by kernel_rfl) (fun _ _ _ h => h) (Or.inl ⟨by rfl, ?_⟩) ?_ ?_
     rotate_left
     ·intro w'
      go_simp
      with_reducible rfl
     rotate_left
     ·simp only [Act.put,qS_,qZ_,qC_,y19,y18]
      rfl
     refine y20 (i := 3) (N := some 38) (v := ?_) (a' := ?_) (fl_ 16 15) rfl rfl (by kernel_rfl) (fun _ _ _ h => h) (Or.inl ⟨by rfl, ?_⟩) ?_ ?_
     rotate_left
     ·intro w'
      go_simp
      with_reducible rfl
     rotate_left
     ·simp only [Act.put,qS_,qZ_,qC_,y19,y18]
      rfl
     refine y20 (i := 4) (N := some 39) (v := ?_) (a' := ?_) (fl_ 16 31) rfl rfl (by kernel_rfl) (fun _ _ _ h => h) (Or.inl ⟨by rfl, ?_⟩) ?_ ?_
     rotate_left
     ·intro w'
      go_simp
      with_reducible rfl
     rotate_left
     ·simp only [Act.put,qS_,qZ_,qC_,y19,y18]
      rfl
     refine y20 (i := 5) (N := some 40) (v := ?_) (a' := ?_) (fl_ 16 63) rfl rfl (by kernel_rfl) (fun _ _ _ h => h) (Or.inl ⟨by rfl, ?_⟩) ?_ ?_
     rotate_left
     ·intro w'
      go_simp
      with_reducible rfl
     rotate_left
     ·simp only [Act.put,qS_,qZ_,qC_,y19,y18]
      rfl
     refine y20 (i := 6) (N := some 41) (v := ?_) (a' := ?_) (fl_ 16 127) rfl rfl (by kernel_rfl) (fun _ _ _ h => h) (Or.inl ⟨by rfl, ?_⟩) ?_ ?_
     rotate_left
     ·intro w'
      go_simp
      with_reducible rfl
     rotate_left
     ·simp only [Act.put,qS_,qZ_,qC_,y19,y18]
      rfl
     refine y20 (i := 7) (N := some 42) (v := ?_) (a' := ?_) (fl_ 16 255) rfl rfl (by kernel_rfl) (fun _ _ _ h => h) (Or.inl ⟨by rfl, ?_⟩) ?_ ?_
     rotate_left
     ·intro w'
      go_simp
      with_reducible rfl
     rotate_left
     ·simp only [Act.put,qS_,qZ_,qC_,y19,y18]
      rfl
     refine y20 (i := 8) (N := some 43) (v := ?_) (a' := ?_) (fl_ 16 511) rfl rfl (by kernel_rfl) (fun _ _ _ h => h) (Or.inl ⟨by rfl, ?_⟩) ?_ ?_
     rotate_left
     ·intro w'
      go_simp
      with_reducible rfl
     rotate_left
     ·simp only [Act.put,qS_,qZ_,qC_,y19,y18]
      rfl
     refine take_ (i := 9) (N := some 44) (v := ?_) (a' := ?_) (fl_ 16 1023) rfl rfl (by kernel_rfl) (fun _ _ _ h => h) (Or.inl ⟨by rfl, ?_⟩) hHeld ?_ ?_
     rotate_left
     ·rintro w' ⟨s0,s1⟩
      go_simp
      with_reducible rfl
     rotate_left
     ·simp only [Act.put,qS_,qZ_,qC_,y19,y18]
      rfl
     refine take_ (i := 10) (N := some 45) (v := ?_) (a' := ?_) (fl_ 16 2047) rfl rfl (by kernel_rfl) (fun _ _ _ h => h) (Or.inl ⟨by rfl, ?_⟩) hHeld ?_ ?_
     rotate_left
     ·rintro w' ⟨s0,s1⟩
      go_simp
      with_reducible rfl
     rotate_left
     ·simp only [Act.put,qS_,qZ_,qC_,y19,y18]
      rfl
     refine one_ (i := 11) (N := some 46) (fl_ 16 4095) rfl rfl (by kernel_rfl) (by decide) (fun K hK => ?_)
     refine goesV_ Tryz.func44 (by kernel_rfl) rfl #[.agg #[.slice A2 ((y21 l0 xi).f0).length c2],.agg #[.slice At lt.length ct]] (by rfl) rfl rfl (by rfl) qy3 ?_
     with_reducible refine (CALL.out _ (below_drew (Below.refl _ _))).mono ?_
     rintro e w3 ⟨rfl,hb⟩
     refine ⟨_,rfl, ?_⟩
     have n0_ := y0.mk (y6 (y4 HB.out) hb)
     have n1_ := y0.mk (y8 (y10 BK.out) hb)
     have hx1 := pw_cell_below (w := wr.drew) hb hx0
     clear HB BK
     have HB := n0_
     have BK := n1_
     clear n0_ n1_ hb
     refine hK.out _ _ ⟨hx1,(y9 BK.out 0).trans rfl⟩ (fun hHeld => ?_)
     clear hK K
     refine norm_ (a' := ?_) ?_ ?_
     rotate_left
     ·show Act.put _ (some 46) _ = _
      simp only [Act.put,qS_,qZ_,qC_,y19,y18]
      rfl
     refine y20 (i := 12) (N := some 47) (v := ?_) (a' := ?_) (fl_ 16 8191) rfl rfl (by kernel_rfl) (fun _ _ _ h => h) (Or.inl ⟨by rfl, ?_⟩) ?_ ?_
     rotate_left
     ·intro w'
      go_simp
      with_reducible rfl
     rotate_left
     ·simp only [Act.put,qS_,qZ_,qC_,y19,y18]
      rfl
     refine y20 (i := 13) (N := some 48) (v := ?_) (a' := ?_) (fl_ 16 16383) rfl rfl (by kernel_rfl) (fun _ _ _ h => h) (Or.inl ⟨by rfl, ?_⟩) ?_ ?_
     rotate_left
     ·intro w'
      go_simp
      with_reducible rfl
     rotate_left
     ·simp only [Act.put,qS_,qZ_,qC_,y19,y18]
      rfl
     refine y20 (i := 14) (N := some 6) (v := ?_) (a' := ?_) (fl_ 16 32767) rfl rfl (by kernel_rfl) (fun _ _ _ h => h) (Or.inl ⟨by rfl, ?_⟩) ?_ ?_
     rotate_left
     ·intro w'
      go_simp
      with_reducible rfl
     rotate_left
     ·simp only [Act.put,qS_,qZ_,qC_,y19,y18]
      rfl
     refine y20 (i := 15) (N := some 7) (v := ?_) (a' := ?_) (fl_ 16 65535) rfl rfl (by kernel_rfl) (fun _ _ _ h => h) (Or.inl ⟨by rfl, ?_⟩) ?_ ?_
     rotate_left
     ·intro w'
      go_simp
      with_reducible rfl
     rotate_left
     ·simp only [Act.put,qS_,qZ_,qC_,y19,y18]
      rfl
     refine done_ (by kernel_rfl) ?_
     clear CALL hx0 ht0
     go_wp2
     go_ret2
     exact ⟨by rw [hfv,HXI.out]; rfl,HB.out⟩
   ·have cb3 : decide (xi < (l0.length : Int)) = false := decide_eq_false (by have := HXI.out; omega)
    have hfv : fnd = false := by rw [HF.out,decide_eq_false hh]; rfl
    clear hh
    go_upto_region 8 with fail
    refine start_ (n := 16) (S := fun w' => True) (ds := []) (fl_ 16 0) (by kernel_rfl) rfl rfl trivial (fun hHeld => ?_)
    refine y20 (i := 0) (N := some 35) (v := ?_) (a' := ?_) (fl_ 16 1) rfl rfl (by kernel_rfl) (fun _ _ _ h => h) (Or.inl ⟨by rfl, ?_⟩) ?_ ?_
    rotate_left
    ·intro w'
     go_simp
     with_reducible rfl
    rotate_left
    ·simp only [Act.put,qS_,qZ_,qC_,y19,y18]
     rfl
    refine y20 (i := 1) (N := some 36) (v := ?_) (a' := ?_) (fl_ 16 3) rfl rfl (by kernel_rfl) (fun _ _ _ h => h) (Or.inl ⟨by rfl, ?_⟩) ?_ ?_
    rotate_left
    ·intro w'
     go_simp
     with_reducible rfl
    rotate_left
    ·simp only [Act.put,qS_,qZ_,qC_,y19,y18]
     rfl
    refine y20 (i := 2) (N := some 37) (v := ?_) (a' := ?_) (fl_ 16 7) rfl rfl (by kernel_rfl) (fun _ _ _ h => h) (Or.inl ⟨by rfl, ?_⟩) ?_ ?_
    rotate_left
    ·intro w'
     go_simp
     with_reducible rfl
    rotate_left
    ·simp only [Act.put,qS_,qZ_,qC_,y19,y18]
     rfl
    refine y20 (i := 3) (N := some 38) (v := ?_) (a' := ?_) (fl_ 16 15) rfl rfl (by kernel_rfl) (fun _ _ _ h => h) (Or.inl ⟨by rfl, ?_⟩) ?_ ?_
    rotate_left
    ·intro w'
     go_simp
     with_reducible rfl
    rotate_left
    ·simp only [Act.put,qS_,qZ_,qC_,y19,y18]
     rfl
    refine y20 (i := 4) (N := some 39) (v := ?_) (a' := ?_) (fl_ 16 31) rfl rfl (by kernel_rfl) (fun _ _ _ h => h) (Or.inl ⟨by rfl, ?_⟩) ?_ ?_
    rotate_left
    ·intro w'
     go_simp
     with_reducible rfl
    rotate_left
    ·simp only [Act.put,qS_,qZ_,qC_,y19,y18]
     rfl
    refine y20 (i := 5) (N := some 40) (v := undef) (a' := ?_) (fl_ 16 63) rfl rfl (by kernel_rfl) (fun _ _ _ h => h) (Or.inr ⟨by rfl,rfl⟩) ?_ ?_
    rotate_left
    ·simp only [Act.put,qS_,qZ_,qC_,y19,y18]
     rfl
    refine y20 (i := 6) (N := some 41) (v := undef) (a' := ?_) (fl_ 16 127) rfl rfl (by kernel_rfl) (fun _ _ _ h => h) (Or.inr ⟨by rfl,rfl⟩) ?_ ?_
    rotate_left
    ·simp only [Act.put,qS_,qZ_,qC_,y19,y18]
     rfl
    refine y20 (i := 7) (N := some 42) (v := undef) (a' := ?_) (fl_ 16 255) rfl rfl (by kernel_rfl) (fun _ _ _ h => h) (Or.inr ⟨by rfl,rfl⟩) ?_ ?_
    rotate_left
    ·simp only [Act.put,qS_,qZ_,qC_,y19,y18]
     rfl
    refine y20 (i := 8) (N := some 43) (v := undef) (a' := ?_) (fl_ 16 511) rfl rfl (by kernel_rfl) (fun _ _ _ h => h) (Or.inr ⟨by rfl,rfl⟩) ?_ ?_
    rotate_left
    ·simp only [Act.put,qS_,qZ_,qC_,y19,y18]
     rfl
    refine y20 (i := 9) (N := some 44) (v := undef) (a' := ?_) (fl_ 16 1023) rfl rfl (by kernel_rfl) (fun _ _ _ h => h) (Or.inr ⟨by rfl,rfl⟩) ?_ ?_
    rotate_left
    ·simp only [Act.put,qS_,qZ_,qC_,y19,y18]
     rfl
    refine y20 (i := 10) (N := some 45) (v := undef) (a' := ?_) (fl_ 16 2047) rfl rfl (by kernel_rfl) (fun _ _ _ h => h) (Or.inr ⟨by rfl,rfl⟩) ?_ ?_
    rotate_left
    ·simp only [Act.put,qS_,qZ_,qC_,y19,y18]
     rfl
    refine y20 (i := 11) (N := some 46) (v := undef) (a' := ?_) (fl_ 16 4095) rfl rfl (by kernel_rfl) (fun _ _ _ h => h) (Or.inr ⟨by rfl,rfl⟩) ?_ ?_
    rotate_left
    ·simp only [Act.put,qS_,qZ_,qC_,y19,y18]
     rfl
    refine y20 (i := 12) (N := some 47) (v := undef) (a' := ?_) (fl_ 16 8191) rfl rfl (by kernel_rfl) (fun _ _ _ h => h) (Or.inr ⟨by rfl,rfl⟩) ?_ ?_
    rotate_left
    ·simp only [Act.put,qS_,qZ_,qC_,y19,y18]
     rfl
    refine y20 (i := 13) (N := some 48) (v := ?_) (a' := ?_) (fl_ 16 16383) rfl rfl (by kernel_rfl) (fun _ _ _ h => h) (Or.inl ⟨by rfl, ?_⟩) ?_ ?_
    rotate_left
    ·intro w'
     go_simp
     with_reducible rfl
    rotate_left
    ·simp only [Act.put,qS_,qZ_,qC_,y19,y18]
     rfl
    refine y20 (i := 14) (N := some 6) (v := ?_) (a' := ?_) (fl_ 16 32767) rfl rfl (by kernel_rfl) (fun _ _ _ h => h) (Or.inl ⟨by rfl, ?_⟩) ?_ ?_
    rotate_left
    ·intro w'
     go_simp
     with_reducible rfl
    rotate_left
    ·simp only [Act.put,qS_,qZ_,qC_,y19,y18]
     rfl
    refine y20 (i := 15) (N := some 7) (v := ?_) (a' := ?_) (fl_ 16 65535) rfl rfl (by kernel_rfl) (fun _ _ _ h => h) (Or.inl ⟨by rfl, ?_⟩) ?_ ?_
    rotate_left
    ·intro w'
     go_simp
     with_reducible rfl
    rotate_left
    ·simp only [Act.put,qS_,qZ_,qC_,y19,y18]
     rfl
    refine done_ (by kernel_rfl) ?_
    replace HB := y0.mk (y4 HB.out)
    go_wp2
    go_ret2
    exact ⟨by rw [hfv,HXI.out]; rfl,HB.out⟩
/-- How the rows stand to a tuple, in order. -/
def cmps (k : Nat) (t : List ByteArray) : List S36 → Option (List Int)
 | [] => some []
 | r :: l => (impl_compareTuples.f k r.f0 t).bind fun c => (cmps k t l).bind fun cs => some (c :: cs)
def negs : List Int → Nat
 | [] => 0
 | c :: cs => if c < 0 then negs cs + 1 else 0
/-- Where a tuple belongs among rows in order; is it there. -/
def placeB (k : Nat) (l : List S36) (t : List ByteArray) : Option (Nat × Bool) :=
 (cmps k t l).bind fun cs => if (cs.drop (negs cs)).all (fun c => decide (0 ≤ c)) = true then some (negs cs,decide (cs[negs cs]? = some 0)) else none
theorem cmps_get {k : Nat} {t : List ByteArray} : ∀ {l : List S36} {cs : List Int},cmps k t l = some cs → cs.length = l.length ∧ ∀ j (h : j < l.length),impl_compareTuples.f k l[j].f0 t = some (cs.getD j 0)
 | [],cs,h => by
  injection h with h
  subst h
  exact ⟨rfl,fun j h => absurd h (Nat.not_lt_zero _)⟩
 | r :: l,cs,h => by
  obtain ⟨c,h1,h⟩ := Option.bind_eq_some_iff.1 h
  obtain ⟨cs',h2,h⟩ := Option.bind_eq_some_iff.1 h
  injection h with h
  subst h
  obtain ⟨h3,h4⟩ := cmps_get h2
  refine ⟨by simp [h3],fun j hj => ?_⟩
  cases j with
  | zero => exact h1
  | succ j => exact h4 j (by simpa using hj)
theorem negs_le : ∀ cs : List Int,negs cs ≤ cs.length
 | [] => Nat.le_refl _
 | c :: cs => by
  unfold negs
  have := negs_le cs
  split <;> simp <;> omega
theorem negs_neg : ∀ (cs : List Int) (j : Nat),j < negs cs → cs.getD j 0 < 0
 | [],j,h => absurd h (Nat.not_lt_zero _)
 | c :: cs,j,h => by
  unfold negs at h
  split at h
  ·rename_i hc
   cases j with
   | zero => exact hc
   | succ j => exact negs_neg cs j (by omega)
  ·exact absurd h (Nat.not_lt_zero _)
theorem placeB_spec {k : Nat} {l : List S36} {t : List ByteArray} {p : Nat} {b : Bool} (h : placeB k l t = some (p,b)) : ∃ cf : Nat → Int,(∀ j (h : j < l.length),impl_compareTuples.f k l[j].f0 t = some (cf j)) ∧ p ≤ l.length ∧ (∀ j,j < l.length → (cf j < 0 ↔ j < p)) ∧ b = (decide (p < l.length) && decide (cf p = 0)) := by
 obtain ⟨cs,h1,h⟩ := Option.bind_eq_some_iff.1 h
 obtain ⟨h2,h3⟩ := cmps_get h1
 by_cases hc : (cs.drop (negs cs)).all (fun c => decide (0 ≤ c)) = true
 ·rw [if_pos hc] at h
  injection h with h
  obtain ⟨rfl,rfl⟩ := Prod.mk.inj h
  refine ⟨fun j => cs.getD j 0,h3,by rw [← h2]; exact negs_le cs,fun j hj => ⟨fun hn => ?_,negs_neg cs j⟩, ?_⟩
  ·refine Decidable.byContradiction fun hge => ?_
   rw [List.all_eq_true] at hc
   have hjl : j < cs.length := by omega
   have := hc (cs[j]) (List.mem_drop_iff_getElem.2 ⟨j - negs cs,by omega,by congr 1; omega⟩)
   replace hn : cs.getD j 0 < 0 := hn
   rw [List.getD_eq_getElem?_getD,List.getElem?_eq_getElem hjl,Option.getD_some] at hn
   have h5 := of_decide_eq_true this
   omega
  ·show decide (cs[negs cs]? = some 0) = (decide (negs cs < l.length) && decide (cs.getD (negs cs) 0 = 0))
   by_cases hl : negs cs < l.length
   ·rw [decide_eq_true hl,Bool.true_and,List.getElem?_eq_getElem (by omega),List.getD_eq_getElem?_getD,List.getElem?_eq_getElem (by omega),Option.getD_some]
    simp
   ·rw [decide_eq_false hl,Bool.false_and,List.getElem?_eq_none (by omega)]
    rfl
 ·rw [if_neg hc] at h
  cases h
def impl_RelPut.f (k : Nat) (a0_0 : Int) (l0_1 : List S36) (l1_0 : List ByteArray) : Option (Int × List S36 × Bool) :=
 (impl_isRel.f k a0_0 l0_1).bind fun ta => if ta = true then (impl_isTuple.f k l1_0).bind fun tb => if tb = true then (if (l1_0.length : Int) = a0_0 then (impl_copyRel.f k a0_0 l0_1).bind fun r => (if r.2.length ≤ 5864062014804 then (placeB k r.2 l1_0).bind fun p => (if p.2 = true then some (r.1,r.2,false) else (if (r.2.length : Int) = 400 then some (0,[],false) else (impl_copyTuple.f l1_0).bind fun c => some (r.1,r.2.insertIdx p.1 ⟨c⟩,true))) else none) else some (0,[],false)) else some (0,[],false) else some (0,[],false)
set_option maxHeartbeats 16000000 in
set_option maxRecDepth 100000 in
theorem impl_RelPut.calls (k : Nat) (a0_0 : Int) (A0_1 : Option Addr) (c0_1 : Nat) (l0_1 : List (S36)) (A1_0 : Option Addr) (c1_0 : Nat) (l1_0 : List ByteArray) (r1 : Int) (r2 : List (S36)) (r3 : Bool) (w : World) (hr0_1 : Kd.C k36 w A0_1 l0_1.length l0_1) (hc0_1 : l0_1.length ≤ c0_1) (hr1_0 : Kd.C Kd.string w A1_0 l1_0.length l1_0) (hc1_0 : l1_0.length ≤ c1_0) (hT : Tb w) (h : impl_RelPut.f k a0_0 l0_1 l1_0 = some (r1,r2,r3)) :
  Calls Tryz.prog 13 #[.agg #[.int .i64 a0_0,.slice A0_1 l0_1.length c0_1],.agg #[.slice A1_0 l1_0.length c1_0]] w fun e w' => ∃ v1_ : Value,e = .returned (.tuple #[.agg #[.int .i64 r1,v1_],.bool r3]) ∧ Kd.S k36 36 w' w.heap.size (fun _ => True) v1_ r2 ∧ Below w.heap.size w w' := by
 have hu32 := Tryz.underlying32
 have hu36 := Tryz.underlying36
 unfold impl_RelPut.f at h
 obtain ⟨ta,E1,h⟩ := Option.bind_eq_some_iff.1 h
 have STA : y0 (∀ W,Below w.heap.size w W → Calls Tryz.prog 40 #[.agg #[.int .i64 a0_0,.slice A0_1 l0_1.length c0_1]] W fun e w' => e = .returned (.bool ta) ∧ Below W.heap.size W w') := ⟨fun W hW => impl_isRel.calls k a0_0 A0_1 c0_1 l0_1 ta W (Kd.C_below hr0_1 hW) hc0_1 (Tb.below hT hW) E1⟩
 have HB := y0.mk (Below.refl w.heap.size w)
 clear E1
 cases ta with
 | false =>
  rw [if_neg Bool.false_ne_true] at h
  simp only [Option.some.injEq,Prod.mk.injEq] at h
  obtain ⟨rfl,rfl,rfl⟩ := h
  clear hr0_1 hc0_1 hr1_0 hc1_0 hT
  go_enter Tryz.func13,Tryz.ntmps13
  go_wp2_with (first
   | ((with_reducible refine y16 (N := 2) rfl ?_); refine qe 2 #[.int .i64 a0_0,.slice A0_1 l0_1.length c0_1] 32 ?_; intro gr hg w1 hbox hb; have BKr := y0.mk (hbox); have GEr := y0.mk ((by rw [hg]; exact HB.out.size : w.heap.size ≤ gr)); replace HB := y0.mk (y6 HB.out hb); clear hb hg hbox; obtain ⟨hcr0,hcr1,hfr0,hfr1⟩ := QIv.box2 BKr.out)
   | ((with_reducible refine y16 (N := 3) rfl ?_); refine qe 3 #[.slice A1_0 l1_0.length c1_0] 36 ?_; intro gt hg w2 hbox hb; (repeat first | clear hcr0 | clear hcr1 | clear hfr0 | clear hfr1); have BKt := y0.mk (hbox); have GEt := y0.mk ((by rw [hg]; exact HB.out.size : w.heap.size ≤ gt)); have Nr_t := y0.mk ((by rw [hg]; exact Nat.ne_of_lt (QIv.ki_lt BKr.out) : gr ≠ gt)); replace BKr := y0.mk (y8 (g := gr) (o := (.cells #[.int .i64 a0_0,.slice A0_1 l0_1.length c0_1] 32 (0,0))) BKr.out hb); replace HB := y0.mk (y6 HB.out hb); clear hb hg hbox; obtain ⟨hcr0,hcr1,hfr0,hfr1⟩ := QIv.box2 BKr.out; obtain ⟨hct0,hft0⟩ := QIv.box1 BKt.out)
   | ((with_reducible refine y16 (N := 4) rfl ?_); refine qe 4 #[.int .i64 0,.slice none 0 0] 32 ?_; intro gz hg w3 hbox hb; (repeat first | clear hcr0 | clear hcr1 | clear hct0 | clear hfr0 | clear hfr1 | clear hft0); have BKz := y0.mk (hbox); have GEz := y0.mk ((by rw [hg]; exact HB.out.size : w.heap.size ≤ gz)); have Nr_z := y0.mk ((by rw [hg]; exact Nat.ne_of_lt (QIv.ki_lt BKr.out) : gr ≠ gz)); have Nt_z := y0.mk ((by rw [hg]; exact Nat.ne_of_lt (QIv.ki_lt BKt.out) : gt ≠ gz)); replace BKr := y0.mk (y8 (g := gr) (o := (.cells #[.int .i64 a0_0,.slice A0_1 l0_1.length c0_1] 32 (0,0))) BKr.out hb); replace BKt := y0.mk (y8 (g := gt) (o := (.cells #[.slice A1_0 l1_0.length c1_0] 36 (0,0))) BKt.out hb); replace HB := y0.mk (y6 HB.out hb); clear hb hg hbox; obtain ⟨hcr0,hcr1,hfr0,hfr1⟩ := QIv.box2 BKr.out; obtain ⟨hct0,hft0⟩ := QIv.box1 BKt.out; obtain ⟨hcz0,hcz1,hfz0,hfz1⟩ := QIv.box2 BKz.out)
   | ((try (refine gate_guard (by rfl) ?_; dsimp only)); go_at_call 40; (with_reducible refine (STA.out _ HB.out).mono ?_); rintro e w4 ⟨rfl,hb⟩; (repeat first | clear hcr0 | clear hcr1 | clear hct0 | clear hcz0 | clear hcz1 | clear hfr0 | clear hfr1 | clear hft0 | clear hfz0 | clear hfz1); replace BKr := y0.mk (y8 (g := gr) (o := (.cells #[.int .i64 a0_0,.slice A0_1 l0_1.length c0_1] 32 (0,0))) BKr.out hb); replace BKt := y0.mk (y8 (g := gt) (o := (.cells #[.slice A1_0 l1_0.length c1_0] 36 (0,0))) BKt.out hb); replace BKz := y0.mk (y8 (g := gz) (o := (.cells #[.int .i64 0,.slice none 0 0] 32 (0,0))) BKz.out hb); replace HB := y0.mk (y6 HB.out hb); (try clear hb); obtain ⟨hcr0,hcr1,hfr0,hfr1⟩ := QIv.box2 BKr.out; obtain ⟨hct0,hft0⟩ := QIv.box1 BKt.out; obtain ⟨hcz0,hcz1,hfz0,hfz1⟩ := QIv.box2 BKz.out))
  refine bodyPost_ret (results_ct rfl _ _ gz 32 #[.int .i64 0,.slice none 0 0] (0,0) _ rfl (by (with_reducible repeat (first | refine y11 ?_ _ | refine y10 ?_ | refine y7 ?_ _)); refine blk_put (cs := #[.int .i64 0,.slice none 0 0]) ?_ 1 _ rfl; refine blk_put (cs := #[.int .i64 0,.slice none 0 0]) ?_ 0 _ rfl; exact BKz.out) Tryz.underlying32 rfl (by kernel_rfl)) rfl ?_
  exact ⟨.slice none 0 0,by first | rfl | (simp [y13,y14] <;> rfl),Kd.S_nil _ _ _ _ _,below_set (below_set HB.out GEz.out) GEz.out⟩
 | true =>
  rw [if_pos rfl] at h
  obtain ⟨tb,E2,h⟩ := Option.bind_eq_some_iff.1 h
  have STB : y0 (∀ W,Below w.heap.size w W → Calls Tryz.prog 41 #[.agg #[.slice A1_0 l1_0.length c1_0]] W fun e w' => e = .returned (.bool tb) ∧ Below W.heap.size W w') := ⟨fun W hW => impl_isTuple.calls k A1_0 c1_0 l1_0 tb W (Kd.C_below hr1_0 hW) hc1_0 (Tb.below hT hW) E2⟩
  clear E2
  cases tb with
  | false =>
   rw [if_neg Bool.false_ne_true] at h
   simp only [Option.some.injEq,Prod.mk.injEq] at h
   obtain ⟨rfl,rfl,rfl⟩ := h
   clear hr0_1 hc0_1 hr1_0 hc1_0 hT
   go_enter Tryz.func13,Tryz.ntmps13
   go_wp2_with (first
    | ((with_reducible refine y16 (N := 2) rfl ?_); refine qe 2 #[.int .i64 a0_0,.slice A0_1 l0_1.length c0_1] 32 ?_; intro gr hg w1 hbox hb; have BKr := y0.mk (hbox); have GEr := y0.mk ((by rw [hg]; exact HB.out.size : w.heap.size ≤ gr)); replace HB := y0.mk (y6 HB.out hb); clear hb hg hbox; obtain ⟨hcr0,hcr1,hfr0,hfr1⟩ := QIv.box2 BKr.out)
    | ((with_reducible refine y16 (N := 3) rfl ?_); refine qe 3 #[.slice A1_0 l1_0.length c1_0] 36 ?_; intro gt hg w2 hbox hb; (repeat first | clear hcr0 | clear hcr1 | clear hfr0 | clear hfr1); have BKt := y0.mk (hbox); have GEt := y0.mk ((by rw [hg]; exact HB.out.size : w.heap.size ≤ gt)); have Nr_t := y0.mk ((by rw [hg]; exact Nat.ne_of_lt (QIv.ki_lt BKr.out) : gr ≠ gt)); replace BKr := y0.mk (y8 (g := gr) (o := (.cells #[.int .i64 a0_0,.slice A0_1 l0_1.length c0_1] 32 (0,0))) BKr.out hb); replace HB := y0.mk (y6 HB.out hb); clear hb hg hbox; obtain ⟨hcr0,hcr1,hfr0,hfr1⟩ := QIv.box2 BKr.out; obtain ⟨hct0,hft0⟩ := QIv.box1 BKt.out)
    | ((with_reducible refine y16 (N := 4) rfl ?_); refine qe 4 #[.int .i64 0,.slice none 0 0] 32 ?_; intro gz hg w3 hbox hb; (repeat first | clear hcr0 | clear hcr1 | clear hct0 | clear hfr0 | clear hfr1 | clear hft0); have BKz := y0.mk (hbox); have GEz := y0.mk ((by rw [hg]; exact HB.out.size : w.heap.size ≤ gz)); have Nr_z := y0.mk ((by rw [hg]; exact Nat.ne_of_lt (QIv.ki_lt BKr.out) : gr ≠ gz)); have Nt_z := y0.mk ((by rw [hg]; exact Nat.ne_of_lt (QIv.ki_lt BKt.out) : gt ≠ gz)); replace BKr := y0.mk (y8 (g := gr) (o := (.cells #[.int .i64 a0_0,.slice A0_1 l0_1.length c0_1] 32 (0,0))) BKr.out hb); replace BKt := y0.mk (y8 (g := gt) (o := (.cells #[.slice A1_0 l1_0.length c1_0] 36 (0,0))) BKt.out hb); replace HB := y0.mk (y6 HB.out hb); clear hb hg hbox; obtain ⟨hcr0,hcr1,hfr0,hfr1⟩ := QIv.box2 BKr.out; obtain ⟨hct0,hft0⟩ := QIv.box1 BKt.out; obtain ⟨hcz0,hcz1,hfz0,hfz1⟩ := QIv.box2 BKz.out)
    | ((try (refine gate_guard (by rfl) ?_; dsimp only)); go_at_call 40; (with_reducible refine (STA.out _ HB.out).mono ?_); rintro e w4 ⟨rfl,hb⟩; (repeat first | clear hcr0 | clear hcr1 | clear hct0 | clear hcz0 | clear hcz1 | clear hfr0 | clear hfr1 | clear hft0 | clear hfz0 | clear hfz1); replace BKr := y0.mk (y8 (g := gr) (o := (.cells #[.int .i64 a0_0,.slice A0_1 l0_1.length c0_1] 32 (0,0))) BKr.out hb); replace BKt := y0.mk (y8 (g := gt) (o := (.cells #[.slice A1_0 l1_0.length c1_0] 36 (0,0))) BKt.out hb); replace BKz := y0.mk (y8 (g := gz) (o := (.cells #[.int .i64 0,.slice none 0 0] 32 (0,0))) BKz.out hb); replace HB := y0.mk (y6 HB.out hb); (try clear hb); obtain ⟨hcr0,hcr1,hfr0,hfr1⟩ := QIv.box2 BKr.out; obtain ⟨hct0,hft0⟩ := QIv.box1 BKt.out; obtain ⟨hcz0,hcz1,hfz0,hfz1⟩ := QIv.box2 BKz.out)
    | ((try (refine gate_guard (by rfl) ?_; dsimp only)); go_at_call 41; (with_reducible refine (STB.out _ HB.out).mono ?_); rintro e w5 ⟨rfl,hb⟩; (repeat first | clear hcr0 | clear hcr1 | clear hct0 | clear hcz0 | clear hcz1 | clear hfr0 | clear hfr1 | clear hft0 | clear hfz0 | clear hfz1); replace BKr := y0.mk (y8 (g := gr) (o := (.cells #[.int .i64 a0_0,.slice A0_1 l0_1.length c0_1] 32 (0,0))) BKr.out hb); replace BKt := y0.mk (y8 (g := gt) (o := (.cells #[.slice A1_0 l1_0.length c1_0] 36 (0,0))) BKt.out hb); replace BKz := y0.mk (y8 (g := gz) (o := (.cells #[.int .i64 0,.slice none 0 0] 32 (0,0))) BKz.out hb); replace HB := y0.mk (y6 HB.out hb); (try clear hb); obtain ⟨hcr0,hcr1,hfr0,hfr1⟩ := QIv.box2 BKr.out; obtain ⟨hct0,hft0⟩ := QIv.box1 BKt.out; obtain ⟨hcz0,hcz1,hfz0,hfz1⟩ := QIv.box2 BKz.out))
   refine bodyPost_ret (results_ct rfl _ _ gz 32 #[.int .i64 0,.slice none 0 0] (0,0) _ rfl (by (with_reducible repeat (first | refine y11 ?_ _ | refine y10 ?_ | refine y7 ?_ _)); refine blk_put (cs := #[.int .i64 0,.slice none 0 0]) ?_ 1 _ rfl; refine blk_put (cs := #[.int .i64 0,.slice none 0 0]) ?_ 0 _ rfl; exact BKz.out) Tryz.underlying32 rfl (by kernel_rfl)) rfl ?_
   exact ⟨.slice none 0 0,by first | rfl | (simp [y13,y14] <;> rfl),Kd.S_nil _ _ _ _ _,below_set (below_set HB.out GEz.out) GEz.out⟩
  | true =>
   rw [if_pos rfl] at h
   by_cases e0 : (l1_0.length : Int) = a0_0
   ·rw [if_pos e0] at h
    obtain ⟨⟨q1,rl⟩,E3,h⟩ := Option.bind_eq_some_iff.1 h
    by_cases e1 : rl.length ≤ 5864062014804
    ·rw [if_pos e1] at h
     obtain ⟨⟨p,fnd⟩,E4,h⟩ := Option.bind_eq_some_iff.1 h
     obtain ⟨cf,hcf,hp,hm,hf⟩ := placeB_spec E4
     have HE1 := y0.mk e1
     have HE3 := y0.mk E3
     have HR0 := y0.mk hr0_1
     have HC0 := y0.mk hc0_1
     have HRT := y0.mk hr1_0
     have HCT := y0.mk hc1_0
     have HT := y0.mk hT
     have HP := y0.mk hp
     have HCF := y0.mk hcf
     have HM := y0.mk hm
     have HF := y0.mk hf
     have ce : ((l1_0.length : Int) != a0_0) = false := by rw [e0]; simp
     clear e0 e1 E3 E4 hr0_1 hc0_1 hr1_0 hc1_0 hT hp hcf hm hf
     cases fnd with
     | true =>
      rw [if_pos rfl] at h
      simp only [Option.some.injEq,Prod.mk.injEq] at h
      obtain ⟨rfl,rfl,rfl⟩ := h
      go_enter Tryz.func13,Tryz.ntmps13
      go_upto_region 4 with (first
       | ((with_reducible refine y16 (N := 2) rfl ?_); refine qe 2 #[.int .i64 a0_0,.slice A0_1 l0_1.length c0_1] 32 ?_; intro gr hg w1 hbox hb; have BKr := y0.mk (hbox); have GEr := y0.mk ((by rw [hg]; exact HB.out.size : w.heap.size ≤ gr)); replace HB := y0.mk (y6 HB.out hb); clear hb hg hbox; obtain ⟨hcr0,hcr1,hfr0,hfr1⟩ := QIv.box2 BKr.out)
       | ((with_reducible refine y16 (N := 3) rfl ?_); refine qe 3 #[.slice A1_0 l1_0.length c1_0] 36 ?_; intro gt hg w2 hbox hb; (repeat first | clear hcr0 | clear hcr1 | clear hfr0 | clear hfr1); have BKt := y0.mk (hbox); have GEt := y0.mk ((by rw [hg]; exact HB.out.size : w.heap.size ≤ gt)); have Nr_t := y0.mk ((by rw [hg]; exact Nat.ne_of_lt (QIv.ki_lt BKr.out) : gr ≠ gt)); replace BKr := y0.mk (y8 (g := gr) (o := (.cells #[.int .i64 a0_0,.slice A0_1 l0_1.length c0_1] 32 (0,0))) BKr.out hb); replace HB := y0.mk (y6 HB.out hb); clear hb hg hbox; obtain ⟨hcr0,hcr1,hfr0,hfr1⟩ := QIv.box2 BKr.out; obtain ⟨hct0,hft0⟩ := QIv.box1 BKt.out)
       | ((with_reducible refine y16 (N := 4) rfl ?_); refine qe 4 #[.int .i64 0,.slice none 0 0] 32 ?_; intro gz hg w3 hbox hb; (repeat first | clear hcr0 | clear hcr1 | clear hct0 | clear hfr0 | clear hfr1 | clear hft0); have BKz := y0.mk (hbox); have GEz := y0.mk ((by rw [hg]; exact HB.out.size : w.heap.size ≤ gz)); have Nr_z := y0.mk ((by rw [hg]; exact Nat.ne_of_lt (QIv.ki_lt BKr.out) : gr ≠ gz)); have Nt_z := y0.mk ((by rw [hg]; exact Nat.ne_of_lt (QIv.ki_lt BKt.out) : gt ≠ gz)); replace BKr := y0.mk (y8 (g := gr) (o := (.cells #[.int .i64 a0_0,.slice A0_1 l0_1.length c0_1] 32 (0,0))) BKr.out hb); replace BKt := y0.mk (y8 (g := gt) (o := (.cells #[.slice A1_0 l1_0.length c1_0] 36 (0,0))) BKt.out hb); replace HB := y0.mk (y6 HB.out hb); clear hb hg hbox; obtain ⟨hcr0,hcr1,hfr0,hfr1⟩ := QIv.box2 BKr.out; obtain ⟨hct0,hft0⟩ := QIv.box1 BKt.out; obtain ⟨hcz0,hcz1,hfz0,hfz1⟩ := QIv.box2 BKz.out)
       | ((try (refine gate_guard (by rfl) ?_; dsimp only)); go_at_call 40; (with_reducible refine (STA.out _ HB.out).mono ?_); rintro e w4 ⟨rfl,hb⟩; (repeat first | clear hcr0 | clear hcr1 | clear hct0 | clear hcz0 | clear hcz1 | clear hfr0 | clear hfr1 | clear hft0 | clear hfz0 | clear hfz1); replace BKr := y0.mk (y8 (g := gr) (o := (.cells #[.int .i64 a0_0,.slice A0_1 l0_1.length c0_1] 32 (0,0))) BKr.out hb); replace BKt := y0.mk (y8 (g := gt) (o := (.cells #[.slice A1_0 l1_0.length c1_0] 36 (0,0))) BKt.out hb); replace BKz := y0.mk (y8 (g := gz) (o := (.cells #[.int .i64 0,.slice none 0 0] 32 (0,0))) BKz.out hb); replace HB := y0.mk (y6 HB.out hb); (try clear hb); obtain ⟨hcr0,hcr1,hfr0,hfr1⟩ := QIv.box2 BKr.out; obtain ⟨hct0,hft0⟩ := QIv.box1 BKt.out; obtain ⟨hcz0,hcz1,hfz0,hfz1⟩ := QIv.box2 BKz.out)
       | ((try (refine gate_guard (by rfl) ?_; dsimp only)); go_at_call 41; (with_reducible refine (STB.out _ HB.out).mono ?_); rintro e w5 ⟨rfl,hb⟩; (repeat first | clear hcr0 | clear hcr1 | clear hct0 | clear hcz0 | clear hcz1 | clear hfr0 | clear hfr1 | clear hft0 | clear hfz0 | clear hfz1); replace BKr := y0.mk (y8 (g := gr) (o := (.cells #[.int .i64 a0_0,.slice A0_1 l0_1.length c0_1] 32 (0,0))) BKr.out hb); replace BKt := y0.mk (y8 (g := gt) (o := (.cells #[.slice A1_0 l1_0.length c1_0] 36 (0,0))) BKt.out hb); replace BKz := y0.mk (y8 (g := gz) (o := (.cells #[.int .i64 0,.slice none 0 0] 32 (0,0))) BKz.out hb); replace HB := y0.mk (y6 HB.out hb); (try clear hb); obtain ⟨hcr0,hcr1,hfr0,hfr1⟩ := QIv.box2 BKr.out; obtain ⟨hct0,hft0⟩ := QIv.box1 BKt.out; obtain ⟨hcz0,hcz1,hfz0,hfz1⟩ := QIv.box2 BKz.out)
       | (go_at_call 42; (with_reducible refine (impl_copyRel.calls k a0_0 _ _ l0_1 q1 rl _ (Kd.C_below HR0.out HB.out) HC0.out HE3.out).mono ?_); rintro e w6 ⟨v_,rfl,ho,hb⟩; obtain ⟨loO,hiO,hlo_,hhi_,hO_⟩ := QIv.OS.new ho; obtain ⟨AO,cO,eA_⟩ := hO_.slice; subst eA_; have HLH := y0.mk (by rw [hlo_,hhi_]; exact hb.size : loO ≤ hiO); (repeat first | clear hcr0 | clear hcr1 | clear hct0 | clear hcz0 | clear hcz1 | clear hfr0 | clear hfr1 | clear hft0 | clear hfz0 | clear hfz1); have OO := y0.mk (hO_); have LO := y0.mk ((by rw [hhi_]; exact Nat.le_refl _ : hiO ≤ _)); have BO := y0.mk ((by rw [hlo_]; exact HB.out.size : w.heap.size ≤ loO)); have Er_O := y0.mk ((by rw [hlo_]; exact QIv.ki_lt BKr.out : gr < loO)); have Et_O := y0.mk ((by rw [hlo_]; exact QIv.ki_lt BKt.out : gt < loO)); have Ez_O := y0.mk ((by rw [hlo_]; exact QIv.ki_lt BKz.out : gz < loO)); replace BKr := y0.mk (y8 (g := gr) (o := (.cells #[.int .i64 a0_0,.slice A0_1 l0_1.length c0_1] 32 (0,0))) BKr.out hb); replace BKt := y0.mk (y8 (g := gt) (o := (.cells #[.slice A1_0 l1_0.length c1_0] 36 (0,0))) BKt.out hb); replace BKz := y0.mk (y8 (g := gz) (o := (.cells #[.int .i64 0,.slice none 0 0] 32 (0,0))) BKz.out hb); replace HB := y0.mk (y6 HB.out hb); (try clear hb); (try clear ho); (try clear hlo_); (try clear hhi_); obtain ⟨hcr0,hcr1,hfr0,hfr1⟩ := QIv.box2 BKr.out; obtain ⟨hct0,hft0⟩ := QIv.box1 BKt.out; obtain ⟨hcz0,hcz1,hfz0,hfz1⟩ := QIv.box2 BKz.out)
       | ((with_reducible refine y16 (N := 6) rfl ?_); refine qe 6 #[.int .i64 0,.slice none 0 0] 32 ?_; intro go hg w7 hbox hb; (repeat first | clear hcr0 | clear hcr1 | clear hct0 | clear hcz0 | clear hcz1 | clear hfr0 | clear hfr1 | clear hft0 | clear hfz0 | clear hfz1); have BKo := y0.mk (hbox); have GEo := y0.mk ((by rw [hg]; exact HB.out.size : w.heap.size ≤ go)); have EO_o := y0.mk ((by rw [hg]; exact LO.out : hiO ≤ go)); have Nr_o := y0.mk ((by rw [hg]; exact Nat.ne_of_lt (QIv.ki_lt BKr.out) : gr ≠ go)); have Nt_o := y0.mk ((by rw [hg]; exact Nat.ne_of_lt (QIv.ki_lt BKt.out) : gt ≠ go)); have Nz_o := y0.mk ((by rw [hg]; exact Nat.ne_of_lt (QIv.ki_lt BKz.out) : gz ≠ go)); replace OO := y0.mk (OO.out.below hb); replace LO := y0.mk (Nat.le_trans LO.out hb.size); replace BKr := y0.mk (y8 (g := gr) (o := (.cells #[.int .i64 a0_0,.slice A0_1 l0_1.length c0_1] 32 (0,0))) BKr.out hb); replace BKt := y0.mk (y8 (g := gt) (o := (.cells #[.slice A1_0 l1_0.length c1_0] 36 (0,0))) BKt.out hb); replace BKz := y0.mk (y8 (g := gz) (o := (.cells #[.int .i64 0,.slice none 0 0] 32 (0,0))) BKz.out hb); replace HB := y0.mk (y6 HB.out hb); clear hb hg hbox; obtain ⟨hcr0,hcr1,hfr0,hfr1⟩ := QIv.box2 BKr.out; obtain ⟨hct0,hft0⟩ := QIv.box1 BKt.out; obtain ⟨hcz0,hcz1,hfz0,hfz1⟩ := QIv.box2 BKz.out; obtain ⟨hco0,hco1,hfo0,hfo1⟩ := QIv.box2 BKo.out))
      (repeat first | clear hcr0 | clear hcr1 | clear hct0 | clear hcz0 | clear hcz1 | clear hco0 | clear hco1 | clear hfr0 | clear hfr1 | clear hft0 | clear hfz0 | clear hfz1 | clear hfo0 | clear hfo1)
      replace OO := y0.mk (((OO.out.set (.inr EO_o.out) _ _).set (.inr EO_o.out) _ _) : QIv.OS k36 36 loO hiO (.slice AO rl.length cO) rl ((w7.setCell ⟨go,0,none⟩ (.int .i64 q1)).setCell ⟨go,1,none⟩ (.slice AO rl.length cO)))
      replace LO := y0.mk (by simpa using LO.out : hiO ≤ ((w7.setCell ⟨go,0,none⟩ (.int .i64 q1)).setCell ⟨go,1,none⟩ (.slice AO rl.length cO)).heap.size)
      replace BKr := y0.mk ((y12 (y12 BKr.out (Nr_o.out) _) (Nr_o.out) _) : ((w7.setCell ⟨go,0,none⟩ (.int .i64 q1)).setCell ⟨go,1,none⟩ (.slice AO rl.length cO)).heap[gr]? = some (.cells #[.int .i64 a0_0,.slice A0_1 l0_1.length c0_1] 32 (0,0)))
      replace BKt := y0.mk ((y12 (y12 BKt.out (Nt_o.out) _) (Nt_o.out) _) : ((w7.setCell ⟨go,0,none⟩ (.int .i64 q1)).setCell ⟨go,1,none⟩ (.slice AO rl.length cO)).heap[gt]? = some (.cells #[.slice A1_0 l1_0.length c1_0] 36 (0,0)))
      replace BKz := y0.mk ((y12 (y12 BKz.out (Nz_o.out) _) (Nz_o.out) _) : ((w7.setCell ⟨go,0,none⟩ (.int .i64 q1)).setCell ⟨go,1,none⟩ (.slice AO rl.length cO)).heap[gz]? = some (.cells #[.int .i64 0,.slice none 0 0] 32 (0,0)))
      replace BKo := y0.mk ((blk_set (blk_set BKo.out 0 (.int .i64 q1)) 1 (.slice AO rl.length cO)) : ((w7.setCell ⟨go,0,none⟩ (.int .i64 q1)).setCell ⟨go,1,none⟩ (.slice AO rl.length cO)).heap[go]? = some (.cells #[.int .i64 q1,.slice AO rl.length cO] 32 (0,0)))
      replace HB := y0.mk ((below_set (below_set HB.out GEo.out) GEo.out) : Below w.heap.size w ((w7.setCell ⟨go,0,none⟩ (.int .i64 q1)).setCell ⟨go,1,none⟩ (.slice AO rl.length cO)))
      generalize ((w7.setCell ⟨go,0,none⟩ (.int .i64 q1)).setCell ⟨go,1,none⟩ (.slice AO rl.length cO)) = w8 at OO LO BKr BKt BKz BKo HB ⊢
      obtain ⟨hcr0,hcr1,hfr0,hfr1⟩ := QIv.box2 BKr.out
      obtain ⟨hct0,hft0⟩ := QIv.box1 BKt.out
      obtain ⟨hcz0,hcz1,hfz0,hfz1⟩ := QIv.box2 BKz.out
      obtain ⟨hco0,hco1,hfo0,hfo1⟩ := QIv.box2 BKo.out
      go_upto_region 5 with (first
       | (go_at_call 43; (with_reducible refine (slices_BinarySearchFunc_T.calls k _ _ rl _ _ l1_0 cf p _ _ OO.out.C OO.out.le (Kd.C_below HRT.out HB.out) HCT.out (Tb.below HT.out HB.out) (Nat.le_trans HE1.out (by decide)) HCF.out HP.out HM.out HF.out).mono ?_); rintro e w9 ⟨rfl,hb⟩; (repeat first | clear hcr0 | clear hcr1 | clear hct0 | clear hcz0 | clear hcz1 | clear hco0 | clear hco1 | clear hfr0 | clear hfr1 | clear hft0 | clear hfz0 | clear hfz1 | clear hfo0 | clear hfo1); replace OO := y0.mk (OO.out.below hb); replace LO := y0.mk (Nat.le_trans LO.out hb.size); replace BKr := y0.mk (y8 (g := gr) (o := (.cells #[.int .i64 a0_0,.slice A0_1 l0_1.length c0_1] 32 (0,0))) BKr.out hb); replace BKt := y0.mk (y8 (g := gt) (o := (.cells #[.slice A1_0 l1_0.length c1_0] 36 (0,0))) BKt.out hb); replace BKz := y0.mk (y8 (g := gz) (o := (.cells #[.int .i64 0,.slice none 0 0] 32 (0,0))) BKz.out hb); replace BKo := y0.mk (y8 (g := go) (o := (.cells #[.int .i64 q1,.slice AO rl.length cO] 32 (0,0))) BKo.out hb); replace HB := y0.mk (y6 HB.out hb); (try clear hb); obtain ⟨hcr0,hcr1,hfr0,hfr1⟩ := QIv.box2 BKr.out; obtain ⟨hct0,hft0⟩ := QIv.box1 BKt.out; obtain ⟨hcz0,hcz1,hfz0,hfz1⟩ := QIv.box2 BKz.out; obtain ⟨hco0,hco1,hfo0,hfo1⟩ := QIv.box2 BKo.out))
      go_wp2
      refine bodyPost_ret (results_ct rfl _ _ gz 32 #[.int .i64 q1,.slice AO rl.length cO] (0,0) _ rfl (by (with_reducible repeat (first | refine y11 ?_ _ | refine y10 ?_ | refine y7 ?_ _)); refine blk_put (cs := #[.int .i64 q1,.slice none 0 0]) ?_ 1 _ rfl; refine blk_put (cs := #[.int .i64 0,.slice none 0 0]) ?_ 0 _ rfl; exact BKz.out) Tryz.underlying32 rfl (by kernel_rfl)) rfl ?_
      refine ⟨_,by first | rfl | (simp [y13,y14] <;> rfl), ?_,below_set (below_set HB.out GEz.out) GEz.out⟩
      exact Kd.S_lower (Kd.S_mono ((OO.out.set (.inl Ez_O.out) 0 _).set (.inl Ez_O.out) 1 _) (fun _ _ => trivial)) BO.out
     | false =>
      rw [if_neg Bool.false_ne_true] at h
      by_cases e2 : (rl.length : Int) = 400
      ·rw [if_pos e2] at h
       simp only [Option.some.injEq,Prod.mk.injEq] at h
       obtain ⟨rfl,rfl,rfl⟩ := h
       have ce2 : ((rl.length : Int) == 400) = true := beq_iff_eq.mpr e2
       clear e2
       go_enter Tryz.func13,Tryz.ntmps13
       go_upto_region 4 with (first
        | ((with_reducible refine y16 (N := 2) rfl ?_); refine qe 2 #[.int .i64 a0_0,.slice A0_1 l0_1.length c0_1] 32 ?_; intro gr hg w1 hbox hb; have BKr := y0.mk (hbox); have GEr := y0.mk ((by rw [hg]; exact HB.out.size : w.heap.size ≤ gr)); replace HB := y0.mk (y6 HB.out hb); clear hb hg hbox; obtain ⟨hcr0,hcr1,hfr0,hfr1⟩ := QIv.box2 BKr.out)
        | ((with_reducible refine y16 (N := 3) rfl ?_); refine qe 3 #[.slice A1_0 l1_0.length c1_0] 36 ?_; intro gt hg w2 hbox hb; (repeat first | clear hcr0 | clear hcr1 | clear hfr0 | clear hfr1); have BKt := y0.mk (hbox); have GEt := y0.mk ((by rw [hg]; exact HB.out.size : w.heap.size ≤ gt)); have Nr_t := y0.mk ((by rw [hg]; exact Nat.ne_of_lt (QIv.ki_lt BKr.out) : gr ≠ gt)); replace BKr := y0.mk (y8 (g := gr) (o := (.cells #[.int .i64 a0_0,.slice A0_1 l0_1.length c0_1] 32 (0,0))) BKr.out hb); replace HB := y0.mk (y6 HB.out hb); clear hb hg hbox; obtain ⟨hcr0,hcr1,hfr0,hfr1⟩ := QIv.box2 BKr.out; obtain ⟨hct0,hft0⟩ := QIv.box1 BKt.out)
        | ((with_reducible refine y16 (N := 4) rfl ?_); refine qe 4 #[.int .i64 0,.slice none 0 0] 32 ?_; intro gz hg w3 hbox hb; (repeat first | clear hcr0 | clear hcr1 | clear hct0 | clear hfr0 | clear hfr1 | clear hft0); have BKz := y0.mk (hbox); have GEz := y0.mk ((by rw [hg]; exact HB.out.size : w.heap.size ≤ gz)); have Nr_z := y0.mk ((by rw [hg]; exact Nat.ne_of_lt (QIv.ki_lt BKr.out) : gr ≠ gz)); have Nt_z := y0.mk ((by rw [hg]; exact Nat.ne_of_lt (QIv.ki_lt BKt.out) : gt ≠ gz)); replace BKr := y0.mk (y8 (g := gr) (o := (.cells #[.int .i64 a0_0,.slice A0_1 l0_1.length c0_1] 32 (0,0))) BKr.out hb); replace BKt := y0.mk (y8 (g := gt) (o := (.cells #[.slice A1_0 l1_0.length c1_0] 36 (0,0))) BKt.out hb); replace HB := y0.mk (y6 HB.out hb); clear hb hg hbox; obtain ⟨hcr0,hcr1,hfr0,hfr1⟩ := QIv.box2 BKr.out; obtain ⟨hct0,hft0⟩ := QIv.box1 BKt.out; obtain ⟨hcz0,hcz1,hfz0,hfz1⟩ := QIv.box2 BKz.out)
        | ((try (refine gate_guard (by rfl) ?_; dsimp only)); go_at_call 40; (with_reducible refine (STA.out _ HB.out).mono ?_); rintro e w4 ⟨rfl,hb⟩; (repeat first | clear hcr0 | clear hcr1 | clear hct0 | clear hcz0 | clear hcz1 | clear hfr0 | clear hfr1 | clear hft0 | clear hfz0 | clear hfz1); replace BKr := y0.mk (y8 (g := gr) (o := (.cells #[.int .i64 a0_0,.slice A0_1 l0_1.length c0_1] 32 (0,0))) BKr.out hb); replace BKt := y0.mk (y8 (g := gt) (o := (.cells #[.slice A1_0 l1_0.length c1_0] 36 (0,0))) BKt.out hb); replace BKz := y0.mk (y8 (g := gz) (o := (.cells #[.int .i64 0,.slice none 0 0] 32 (0,0))) BKz.out hb); replace HB := y0.mk (y6 HB.out hb); (try clear hb); obtain ⟨hcr0,hcr1,hfr0,hfr1⟩ := QIv.box2 BKr.out; obtain ⟨hct0,hft0⟩ := QIv.box1 BKt.out; obtain ⟨hcz0,hcz1,hfz0,hfz1⟩ := QIv.box2 BKz.out)
        | ((try (refine gate_guard (by rfl) ?_; dsimp only)); go_at_call 41; (with_reducible refine (STB.out _ HB.out).mono ?_); rintro e w5 ⟨rfl,hb⟩; (repeat first | clear hcr0 | clear hcr1 | clear hct0 | clear hcz0 | clear hcz1 | clear hfr0 | clear hfr1 | clear hft0 | clear hfz0 | clear hfz1); replace BKr := y0.mk (y8 (g := gr) (o := (.cells #[.int .i64 a0_0,.slice A0_1 l0_1.length c0_1] 32 (0,0))) BKr.out hb); replace BKt := y0.mk (y8 (g := gt) (o := (.cells #[.slice A1_0 l1_0.length c1_0] 36 (0,0))) BKt.out hb); replace BKz := y0.mk (y8 (g := gz) (o := (.cells #[.int .i64 0,.slice none 0 0] 32 (0,0))) BKz.out hb); replace HB := y0.mk (y6 HB.out hb); (try clear hb); obtain ⟨hcr0,hcr1,hfr0,hfr1⟩ := QIv.box2 BKr.out; obtain ⟨hct0,hft0⟩ := QIv.box1 BKt.out; obtain ⟨hcz0,hcz1,hfz0,hfz1⟩ := QIv.box2 BKz.out)
        | (go_at_call 42; (with_reducible refine (impl_copyRel.calls k a0_0 _ _ l0_1 q1 rl _ (Kd.C_below HR0.out HB.out) HC0.out HE3.out).mono ?_); rintro e w6 ⟨v_,rfl,ho,hb⟩; obtain ⟨loO,hiO,hlo_,hhi_,hO_⟩ := QIv.OS.new ho; obtain ⟨AO,cO,eA_⟩ := hO_.slice; subst eA_; have HLH := y0.mk (by rw [hlo_,hhi_]; exact hb.size : loO ≤ hiO); (repeat first | clear hcr0 | clear hcr1 | clear hct0 | clear hcz0 | clear hcz1 | clear hfr0 | clear hfr1 | clear hft0 | clear hfz0 | clear hfz1); have OO := y0.mk (hO_); have LO := y0.mk ((by rw [hhi_]; exact Nat.le_refl _ : hiO ≤ _)); have BO := y0.mk ((by rw [hlo_]; exact HB.out.size : w.heap.size ≤ loO)); have Er_O := y0.mk ((by rw [hlo_]; exact QIv.ki_lt BKr.out : gr < loO)); have Et_O := y0.mk ((by rw [hlo_]; exact QIv.ki_lt BKt.out : gt < loO)); have Ez_O := y0.mk ((by rw [hlo_]; exact QIv.ki_lt BKz.out : gz < loO)); replace BKr := y0.mk (y8 (g := gr) (o := (.cells #[.int .i64 a0_0,.slice A0_1 l0_1.length c0_1] 32 (0,0))) BKr.out hb); replace BKt := y0.mk (y8 (g := gt) (o := (.cells #[.slice A1_0 l1_0.length c1_0] 36 (0,0))) BKt.out hb); replace BKz := y0.mk (y8 (g := gz) (o := (.cells #[.int .i64 0,.slice none 0 0] 32 (0,0))) BKz.out hb); replace HB := y0.mk (y6 HB.out hb); (try clear hb); (try clear ho); (try clear hlo_); (try clear hhi_); obtain ⟨hcr0,hcr1,hfr0,hfr1⟩ := QIv.box2 BKr.out; obtain ⟨hct0,hft0⟩ := QIv.box1 BKt.out; obtain ⟨hcz0,hcz1,hfz0,hfz1⟩ := QIv.box2 BKz.out)
        | ((with_reducible refine y16 (N := 6) rfl ?_); refine qe 6 #[.int .i64 0,.slice none 0 0] 32 ?_; intro go hg w7 hbox hb; (repeat first | clear hcr0 | clear hcr1 | clear hct0 | clear hcz0 | clear hcz1 | clear hfr0 | clear hfr1 | clear hft0 | clear hfz0 | clear hfz1); have BKo := y0.mk (hbox); have GEo := y0.mk ((by rw [hg]; exact HB.out.size : w.heap.size ≤ go)); have EO_o := y0.mk ((by rw [hg]; exact LO.out : hiO ≤ go)); have Nr_o := y0.mk ((by rw [hg]; exact Nat.ne_of_lt (QIv.ki_lt BKr.out) : gr ≠ go)); have Nt_o := y0.mk ((by rw [hg]; exact Nat.ne_of_lt (QIv.ki_lt BKt.out) : gt ≠ go)); have Nz_o := y0.mk ((by rw [hg]; exact Nat.ne_of_lt (QIv.ki_lt BKz.out) : gz ≠ go)); replace OO := y0.mk (OO.out.below hb); replace LO := y0.mk (Nat.le_trans LO.out hb.size); replace BKr := y0.mk (y8 (g := gr) (o := (.cells #[.int .i64 a0_0,.slice A0_1 l0_1.length c0_1] 32 (0,0))) BKr.out hb); replace BKt := y0.mk (y8 (g := gt) (o := (.cells #[.slice A1_0 l1_0.length c1_0] 36 (0,0))) BKt.out hb); replace BKz := y0.mk (y8 (g := gz) (o := (.cells #[.int .i64 0,.slice none 0 0] 32 (0,0))) BKz.out hb); replace HB := y0.mk (y6 HB.out hb); clear hb hg hbox; obtain ⟨hcr0,hcr1,hfr0,hfr1⟩ := QIv.box2 BKr.out; obtain ⟨hct0,hft0⟩ := QIv.box1 BKt.out; obtain ⟨hcz0,hcz1,hfz0,hfz1⟩ := QIv.box2 BKz.out; obtain ⟨hco0,hco1,hfo0,hfo1⟩ := QIv.box2 BKo.out))
       (repeat first | clear hcr0 | clear hcr1 | clear hct0 | clear hcz0 | clear hcz1 | clear hco0 | clear hco1 | clear hfr0 | clear hfr1 | clear hft0 | clear hfz0 | clear hfz1 | clear hfo0 | clear hfo1)
       replace OO := y0.mk (((OO.out.set (.inr EO_o.out) _ _).set (.inr EO_o.out) _ _) : QIv.OS k36 36 loO hiO (.slice AO rl.length cO) rl ((w7.setCell ⟨go,0,none⟩ (.int .i64 q1)).setCell ⟨go,1,none⟩ (.slice AO rl.length cO)))
       replace LO := y0.mk (by simpa using LO.out : hiO ≤ ((w7.setCell ⟨go,0,none⟩ (.int .i64 q1)).setCell ⟨go,1,none⟩ (.slice AO rl.length cO)).heap.size)
       replace BKr := y0.mk ((y12 (y12 BKr.out (Nr_o.out) _) (Nr_o.out) _) : ((w7.setCell ⟨go,0,none⟩ (.int .i64 q1)).setCell ⟨go,1,none⟩ (.slice AO rl.length cO)).heap[gr]? = some (.cells #[.int .i64 a0_0,.slice A0_1 l0_1.length c0_1] 32 (0,0)))
       replace BKt := y0.mk ((y12 (y12 BKt.out (Nt_o.out) _) (Nt_o.out) _) : ((w7.setCell ⟨go,0,none⟩ (.int .i64 q1)).setCell ⟨go,1,none⟩ (.slice AO rl.length cO)).heap[gt]? = some (.cells #[.slice A1_0 l1_0.length c1_0] 36 (0,0)))
       replace BKz := y0.mk ((y12 (y12 BKz.out (Nz_o.out) _) (Nz_o.out) _) : ((w7.setCell ⟨go,0,none⟩ (.int .i64 q1)).setCell ⟨go,1,none⟩ (.slice AO rl.length cO)).heap[gz]? = some (.cells #[.int .i64 0,.slice none 0 0] 32 (0,0)))
       replace BKo := y0.mk ((blk_set (blk_set BKo.out 0 (.int .i64 q1)) 1 (.slice AO rl.length cO)) : ((w7.setCell ⟨go,0,none⟩ (.int .i64 q1)).setCell ⟨go,1,none⟩ (.slice AO rl.length cO)).heap[go]? = some (.cells #[.int .i64 q1,.slice AO rl.length cO] 32 (0,0)))
       replace HB := y0.mk ((below_set (below_set HB.out GEo.out) GEo.out) : Below w.heap.size w ((w7.setCell ⟨go,0,none⟩ (.int .i64 q1)).setCell ⟨go,1,none⟩ (.slice AO rl.length cO)))
       generalize ((w7.setCell ⟨go,0,none⟩ (.int .i64 q1)).setCell ⟨go,1,none⟩ (.slice AO rl.length cO)) = w8 at OO LO BKr BKt BKz BKo HB ⊢
       obtain ⟨hcr0,hcr1,hfr0,hfr1⟩ := QIv.box2 BKr.out
       obtain ⟨hct0,hft0⟩ := QIv.box1 BKt.out
       obtain ⟨hcz0,hcz1,hfz0,hfz1⟩ := QIv.box2 BKz.out
       obtain ⟨hco0,hco1,hfo0,hfo1⟩ := QIv.box2 BKo.out
       go_upto_region 5 with (first
        | (go_at_call 43; (with_reducible refine (slices_BinarySearchFunc_T.calls k _ _ rl _ _ l1_0 cf p _ _ OO.out.C OO.out.le (Kd.C_below HRT.out HB.out) HCT.out (Tb.below HT.out HB.out) (Nat.le_trans HE1.out (by decide)) HCF.out HP.out HM.out HF.out).mono ?_); rintro e w9 ⟨rfl,hb⟩; (repeat first | clear hcr0 | clear hcr1 | clear hct0 | clear hcz0 | clear hcz1 | clear hco0 | clear hco1 | clear hfr0 | clear hfr1 | clear hft0 | clear hfz0 | clear hfz1 | clear hfo0 | clear hfo1); replace OO := y0.mk (OO.out.below hb); replace LO := y0.mk (Nat.le_trans LO.out hb.size); replace BKr := y0.mk (y8 (g := gr) (o := (.cells #[.int .i64 a0_0,.slice A0_1 l0_1.length c0_1] 32 (0,0))) BKr.out hb); replace BKt := y0.mk (y8 (g := gt) (o := (.cells #[.slice A1_0 l1_0.length c1_0] 36 (0,0))) BKt.out hb); replace BKz := y0.mk (y8 (g := gz) (o := (.cells #[.int .i64 0,.slice none 0 0] 32 (0,0))) BKz.out hb); replace BKo := y0.mk (y8 (g := go) (o := (.cells #[.int .i64 q1,.slice AO rl.length cO] 32 (0,0))) BKo.out hb); replace HB := y0.mk (y6 HB.out hb); (try clear hb); obtain ⟨hcr0,hcr1,hfr0,hfr1⟩ := QIv.box2 BKr.out; obtain ⟨hct0,hft0⟩ := QIv.box1 BKt.out; obtain ⟨hcz0,hcz1,hfz0,hfz1⟩ := QIv.box2 BKz.out; obtain ⟨hco0,hco1,hfo0,hfo1⟩ := QIv.box2 BKo.out))
       go_wp2
       refine bodyPost_ret (results_ct rfl _ _ gz 32 #[.int .i64 0,.slice none 0 0] (0,0) _ rfl (by (with_reducible repeat (first | refine y11 ?_ _ | refine y10 ?_ | refine y7 ?_ _)); refine blk_put (cs := #[.int .i64 0,.slice none 0 0]) ?_ 1 _ rfl; refine blk_put (cs := #[.int .i64 0,.slice none 0 0]) ?_ 0 _ rfl; exact BKz.out) Tryz.underlying32 rfl (by kernel_rfl)) rfl ?_
       exact ⟨.slice none 0 0,by first | rfl | (simp [y13,y14] <;> rfl),Kd.S_nil _ _ _ _ _,below_set (below_set HB.out GEz.out) GEz.out⟩
      ·rw [if_neg e2] at h
       obtain ⟨lc,E6,h⟩ := Option.bind_eq_some_iff.1 h
       simp only [Option.some.injEq,Prod.mk.injEq] at h
       obtain ⟨rfl,rfl,rfl⟩ := h
       have ce2 : ((rl.length : Int) == 400) = false := beq_eq_false_iff_ne.mpr e2
       have HE6 := y0.mk E6
       clear e2 E6
       go_enter Tryz.func13,Tryz.ntmps13
       go_upto_region 4 with (first
        | ((with_reducible refine y16 (N := 2) rfl ?_); refine qe 2 #[.int .i64 a0_0,.slice A0_1 l0_1.length c0_1] 32 ?_; intro gr hg w1 hbox hb; have BKr := y0.mk (hbox); have GEr := y0.mk ((by rw [hg]; exact HB.out.size : w.heap.size ≤ gr)); replace HB := y0.mk (y6 HB.out hb); clear hb hg hbox; obtain ⟨hcr0,hcr1,hfr0,hfr1⟩ := QIv.box2 BKr.out)
        | ((with_reducible refine y16 (N := 3) rfl ?_); refine qe 3 #[.slice A1_0 l1_0.length c1_0] 36 ?_; intro gt hg w2 hbox hb; (repeat first | clear hcr0 | clear hcr1 | clear hfr0 | clear hfr1); have BKt := y0.mk (hbox); have GEt := y0.mk ((by rw [hg]; exact HB.out.size : w.heap.size ≤ gt)); have Nr_t := y0.mk ((by rw [hg]; exact Nat.ne_of_lt (QIv.ki_lt BKr.out) : gr ≠ gt)); replace BKr := y0.mk (y8 (g := gr) (o := (.cells #[.int .i64 a0_0,.slice A0_1 l0_1.length c0_1] 32 (0,0))) BKr.out hb); replace HB := y0.mk (y6 HB.out hb); clear hb hg hbox; obtain ⟨hcr0,hcr1,hfr0,hfr1⟩ := QIv.box2 BKr.out; obtain ⟨hct0,hft0⟩ := QIv.box1 BKt.out)
        | ((with_reducible refine y16 (N := 4) rfl ?_); refine qe 4 #[.int .i64 0,.slice none 0 0] 32 ?_; intro gz hg w3 hbox hb; (repeat first | clear hcr0 | clear hcr1 | clear hct0 | clear hfr0 | clear hfr1 | clear hft0); have BKz := y0.mk (hbox); have GEz := y0.mk ((by rw [hg]; exact HB.out.size : w.heap.size ≤ gz)); have Nr_z := y0.mk ((by rw [hg]; exact Nat.ne_of_lt (QIv.ki_lt BKr.out) : gr ≠ gz)); have Nt_z := y0.mk ((by rw [hg]; exact Nat.ne_of_lt (QIv.ki_lt BKt.out) : gt ≠ gz)); replace BKr := y0.mk (y8 (g := gr) (o := (.cells #[.int .i64 a0_0,.slice A0_1 l0_1.length c0_1] 32 (0,0))) BKr.out hb); replace BKt := y0.mk (y8 (g := gt) (o := (.cells #[.slice A1_0 l1_0.length c1_0] 36 (0,0))) BKt.out hb); replace HB := y0.mk (y6 HB.out hb); clear hb hg hbox; obtain ⟨hcr0,hcr1,hfr0,hfr1⟩ := QIv.box2 BKr.out; obtain ⟨hct0,hft0⟩ := QIv.box1 BKt.out; obtain ⟨hcz0,hcz1,hfz0,hfz1⟩ := QIv.box2 BKz.out)
        | ((try (refine gate_guard (by rfl) ?_; dsimp only)); go_at_call 40; (with_reducible refine (STA.out _ HB.out).mono ?_); rintro e w4 ⟨rfl,hb⟩; (repeat first | clear hcr0 | clear hcr1 | clear hct0 | clear hcz0 | clear hcz1 | clear hfr0 | clear hfr1 | clear hft0 | clear hfz0 | clear hfz1); replace BKr := y0.mk (y8 (g := gr) (o := (.cells #[.int .i64 a0_0,.slice A0_1 l0_1.length c0_1] 32 (0,0))) BKr.out hb); replace BKt := y0.mk (y8 (g := gt) (o := (.cells #[.slice A1_0 l1_0.length c1_0] 36 (0,0))) BKt.out hb); replace BKz := y0.mk (y8 (g := gz) (o := (.cells #[.int .i64 0,.slice none 0 0] 32 (0,0))) BKz.out hb); replace HB := y0.mk (y6 HB.out hb); (try clear hb); obtain ⟨hcr0,hcr1,hfr0,hfr1⟩ := QIv.box2 BKr.out; obtain ⟨hct0,hft0⟩ := QIv.box1 BKt.out; obtain ⟨hcz0,hcz1,hfz0,hfz1⟩ := QIv.box2 BKz.out)
        | ((try (refine gate_guard (by rfl) ?_; dsimp only)); go_at_call 41; (with_reducible refine (STB.out _ HB.out).mono ?_); rintro e w5 ⟨rfl,hb⟩; (repeat first | clear hcr0 | clear hcr1 | clear hct0 | clear hcz0 | clear hcz1 | clear hfr0 | clear hfr1 | clear hft0 | clear hfz0 | clear hfz1); replace BKr := y0.mk (y8 (g := gr) (o := (.cells #[.int .i64 a0_0,.slice A0_1 l0_1.length c0_1] 32 (0,0))) BKr.out hb); replace BKt := y0.mk (y8 (g := gt) (o := (.cells #[.slice A1_0 l1_0.length c1_0] 36 (0,0))) BKt.out hb); replace BKz := y0.mk (y8 (g := gz) (o := (.cells #[.int .i64 0,.slice none 0 0] 32 (0,0))) BKz.out hb); replace HB := y0.mk (y6 HB.out hb); (try clear hb); obtain ⟨hcr0,hcr1,hfr0,hfr1⟩ := QIv.box2 BKr.out; obtain ⟨hct0,hft0⟩ := QIv.box1 BKt.out; obtain ⟨hcz0,hcz1,hfz0,hfz1⟩ := QIv.box2 BKz.out)
        | (go_at_call 42; (with_reducible refine (impl_copyRel.calls k a0_0 _ _ l0_1 q1 rl _ (Kd.C_below HR0.out HB.out) HC0.out HE3.out).mono ?_); rintro e w6 ⟨v_,rfl,ho,hb⟩; obtain ⟨loO,hiO,hlo_,hhi_,hO_⟩ := QIv.OS.new ho; obtain ⟨AO,cO,eA_⟩ := hO_.slice; subst eA_; have HLH := y0.mk (by rw [hlo_,hhi_]; exact hb.size : loO ≤ hiO); (repeat first | clear hcr0 | clear hcr1 | clear hct0 | clear hcz0 | clear hcz1 | clear hfr0 | clear hfr1 | clear hft0 | clear hfz0 | clear hfz1); have OO := y0.mk (hO_); have LO := y0.mk ((by rw [hhi_]; exact Nat.le_refl _ : hiO ≤ _)); have BO := y0.mk ((by rw [hlo_]; exact HB.out.size : w.heap.size ≤ loO)); have Er_O := y0.mk ((by rw [hlo_]; exact QIv.ki_lt BKr.out : gr < loO)); have Et_O := y0.mk ((by rw [hlo_]; exact QIv.ki_lt BKt.out : gt < loO)); have Ez_O := y0.mk ((by rw [hlo_]; exact QIv.ki_lt BKz.out : gz < loO)); replace BKr := y0.mk (y8 (g := gr) (o := (.cells #[.int .i64 a0_0,.slice A0_1 l0_1.length c0_1] 32 (0,0))) BKr.out hb); replace BKt := y0.mk (y8 (g := gt) (o := (.cells #[.slice A1_0 l1_0.length c1_0] 36 (0,0))) BKt.out hb); replace BKz := y0.mk (y8 (g := gz) (o := (.cells #[.int .i64 0,.slice none 0 0] 32 (0,0))) BKz.out hb); replace HB := y0.mk (y6 HB.out hb); (try clear hb); (try clear ho); (try clear hlo_); (try clear hhi_); obtain ⟨hcr0,hcr1,hfr0,hfr1⟩ := QIv.box2 BKr.out; obtain ⟨hct0,hft0⟩ := QIv.box1 BKt.out; obtain ⟨hcz0,hcz1,hfz0,hfz1⟩ := QIv.box2 BKz.out)
        | ((with_reducible refine y16 (N := 6) rfl ?_); refine qe 6 #[.int .i64 0,.slice none 0 0] 32 ?_; intro go hg w7 hbox hb; (repeat first | clear hcr0 | clear hcr1 | clear hct0 | clear hcz0 | clear hcz1 | clear hfr0 | clear hfr1 | clear hft0 | clear hfz0 | clear hfz1); have BKo := y0.mk (hbox); have GEo := y0.mk ((by rw [hg]; exact HB.out.size : w.heap.size ≤ go)); have EO_o := y0.mk ((by rw [hg]; exact LO.out : hiO ≤ go)); have Nr_o := y0.mk ((by rw [hg]; exact Nat.ne_of_lt (QIv.ki_lt BKr.out) : gr ≠ go)); have Nt_o := y0.mk ((by rw [hg]; exact Nat.ne_of_lt (QIv.ki_lt BKt.out) : gt ≠ go)); have Nz_o := y0.mk ((by rw [hg]; exact Nat.ne_of_lt (QIv.ki_lt BKz.out) : gz ≠ go)); replace OO := y0.mk (OO.out.below hb); replace LO := y0.mk (Nat.le_trans LO.out hb.size); replace BKr := y0.mk (y8 (g := gr) (o := (.cells #[.int .i64 a0_0,.slice A0_1 l0_1.length c0_1] 32 (0,0))) BKr.out hb); replace BKt := y0.mk (y8 (g := gt) (o := (.cells #[.slice A1_0 l1_0.length c1_0] 36 (0,0))) BKt.out hb); replace BKz := y0.mk (y8 (g := gz) (o := (.cells #[.int .i64 0,.slice none 0 0] 32 (0,0))) BKz.out hb); replace HB := y0.mk (y6 HB.out hb); clear hb hg hbox; obtain ⟨hcr0,hcr1,hfr0,hfr1⟩ := QIv.box2 BKr.out; obtain ⟨hct0,hft0⟩ := QIv.box1 BKt.out; obtain ⟨hcz0,hcz1,hfz0,hfz1⟩ := QIv.box2 BKz.out; obtain ⟨hco0,hco1,hfo0,hfo1⟩ := QIv.box2 BKo.out))
       (repeat first | clear hcr0 | clear hcr1 | clear hct0 | clear hcz0 | clear hcz1 | clear hco0 | clear hco1 | clear hfr0 | clear hfr1 | clear hft0 | clear hfz0 | clear hfz1 | clear hfo0 | clear hfo1)
       replace OO := y0.mk (((OO.out.set (.inr EO_o.out) _ _).set (.inr EO_o.out) _ _) : QIv.OS k36 36 loO hiO (.slice AO rl.length cO) rl ((w7.setCell ⟨go,0,none⟩ (.int .i64 q1)).setCell ⟨go,1,none⟩ (.slice AO rl.length cO)))
       replace LO := y0.mk (by simpa using LO.out : hiO ≤ ((w7.setCell ⟨go,0,none⟩ (.int .i64 q1)).setCell ⟨go,1,none⟩ (.slice AO rl.length cO)).heap.size)
       replace BKr := y0.mk ((y12 (y12 BKr.out (Nr_o.out) _) (Nr_o.out) _) : ((w7.setCell ⟨go,0,none⟩ (.int .i64 q1)).setCell ⟨go,1,none⟩ (.slice AO rl.length cO)).heap[gr]? = some (.cells #[.int .i64 a0_0,.slice A0_1 l0_1.length c0_1] 32 (0,0)))
       replace BKt := y0.mk ((y12 (y12 BKt.out (Nt_o.out) _) (Nt_o.out) _) : ((w7.setCell ⟨go,0,none⟩ (.int .i64 q1)).setCell ⟨go,1,none⟩ (.slice AO rl.length cO)).heap[gt]? = some (.cells #[.slice A1_0 l1_0.length c1_0] 36 (0,0)))
       replace BKz := y0.mk ((y12 (y12 BKz.out (Nz_o.out) _) (Nz_o.out) _) : ((w7.setCell ⟨go,0,none⟩ (.int .i64 q1)).setCell ⟨go,1,none⟩ (.slice AO rl.length cO)).heap[gz]? = some (.cells #[.int .i64 0,.slice none 0 0] 32 (0,0)))
       replace BKo := y0.mk ((blk_set (blk_set BKo.out 0 (.int .i64 q1)) 1 (.slice AO rl.length cO)) : ((w7.setCell ⟨go,0,none⟩ (.int .i64 q1)).setCell ⟨go,1,none⟩ (.slice AO rl.length cO)).heap[go]? = some (.cells #[.int .i64 q1,.slice AO rl.length cO] 32 (0,0)))
       replace HB := y0.mk ((below_set (below_set HB.out GEo.out) GEo.out) : Below w.heap.size w ((w7.setCell ⟨go,0,none⟩ (.int .i64 q1)).setCell ⟨go,1,none⟩ (.slice AO rl.length cO)))
       generalize ((w7.setCell ⟨go,0,none⟩ (.int .i64 q1)).setCell ⟨go,1,none⟩ (.slice AO rl.length cO)) = w8 at OO LO BKr BKt BKz BKo HB ⊢
       obtain ⟨hcr0,hcr1,hfr0,hfr1⟩ := QIv.box2 BKr.out
       obtain ⟨hct0,hft0⟩ := QIv.box1 BKt.out
       obtain ⟨hcz0,hcz1,hfz0,hfz1⟩ := QIv.box2 BKz.out
       obtain ⟨hco0,hco1,hfo0,hfo1⟩ := QIv.box2 BKo.out
       go_upto_region 5 with (first
        | (go_at_call 43; (with_reducible refine (slices_BinarySearchFunc_T.calls k _ _ rl _ _ l1_0 cf p _ _ OO.out.C OO.out.le (Kd.C_below HRT.out HB.out) HCT.out (Tb.below HT.out HB.out) (Nat.le_trans HE1.out (by decide)) HCF.out HP.out HM.out HF.out).mono ?_); rintro e w9 ⟨rfl,hb⟩; (repeat first | clear hcr0 | clear hcr1 | clear hct0 | clear hcz0 | clear hcz1 | clear hco0 | clear hco1 | clear hfr0 | clear hfr1 | clear hft0 | clear hfz0 | clear hfz1 | clear hfo0 | clear hfo1); replace OO := y0.mk (OO.out.below hb); replace LO := y0.mk (Nat.le_trans LO.out hb.size); replace BKr := y0.mk (y8 (g := gr) (o := (.cells #[.int .i64 a0_0,.slice A0_1 l0_1.length c0_1] 32 (0,0))) BKr.out hb); replace BKt := y0.mk (y8 (g := gt) (o := (.cells #[.slice A1_0 l1_0.length c1_0] 36 (0,0))) BKt.out hb); replace BKz := y0.mk (y8 (g := gz) (o := (.cells #[.int .i64 0,.slice none 0 0] 32 (0,0))) BKz.out hb); replace BKo := y0.mk (y8 (g := go) (o := (.cells #[.int .i64 q1,.slice AO rl.length cO] 32 (0,0))) BKo.out hb); replace HB := y0.mk (y6 HB.out hb); (try clear hb); obtain ⟨hcr0,hcr1,hfr0,hfr1⟩ := QIv.box2 BKr.out; obtain ⟨hct0,hft0⟩ := QIv.box1 BKt.out; obtain ⟨hcz0,hcz1,hfz0,hfz1⟩ := QIv.box2 BKz.out; obtain ⟨hco0,hco1,hfo0,hfo1⟩ := QIv.box2 BKo.out))
       go_upto_region 9 with fail
       (repeat first | clear hcr0 | clear hcr1 | clear hct0 | clear hcz0 | clear hcz1 | clear hco0 | clear hco1 | clear hfr0 | clear hfr1 | clear hft0 | clear hfz0 | clear hfz1 | clear hfo0 | clear hfo1)
       refine start_ (n := 9) (S := fun w' => w'.cell? ⟨gr,0,none⟩ = some (.int .i64 a0_0) ∧ w'.cell? ⟨gr,1,none⟩ = some (.slice A0_1 l0_1.length c0_1) ∧ w'.cell? ⟨gt,0,none⟩ = some (.slice A1_0 l1_0.length c1_0) ∧ w'.cell? ⟨gz,0,none⟩ = some (.int .i64 0) ∧ w'.cell? ⟨gz,1,none⟩ = some (.slice none 0 0) ∧ w'.cell? ⟨go,0,none⟩ = some (.int .i64 q1) ∧ w'.cell? ⟨go,1,none⟩ = some (.slice AO rl.length cO)) (ds := [8]) (fl_ 9 0) (by kernel_rfl) rfl rfl ⟨(y9 BKr.out 0).trans rfl,(y9 BKr.out 1).trans rfl,(y9 BKt.out 0).trans rfl,(y9 BKz.out 0).trans rfl,(y9 BKz.out 1).trans rfl,(y9 BKo.out 0).trans rfl,(y9 BKo.out 1).trans rfl⟩ (fun hHeld => ?_)
       replace OO := y0.mk (OO.out.drew)
       replace LO := y0.mk ((show hiO ≤ w9.drew.heap.size from LO.out))
       replace BKr := y0.mk (y10 BKr.out)
       replace BKt := y0.mk (y10 BKt.out)
       replace BKz := y0.mk (y10 BKz.out)
       replace BKo := y0.mk (y10 BKo.out)
       replace HB := y0.mk (y4 HB.out)
       generalize w9.drew = w9_d at OO LO BKr BKt BKz BKo HB hHeld ⊢
       have HLW : y0 (loO ≤ w9_d.heap.size) := ⟨Nat.le_trans HLH.out LO.out⟩
       refine y20 (i := 0) (N := some 42) (v := ?_) (a' := ?_) (fl_ 9 1) rfl rfl (by kernel_rfl) (fun _ _ _ h => h) (Or.inl ⟨by rfl, ?_⟩) ?_ ?_
       rotate_left
       ·intro w'
        go_simp
        with_reducible rfl
       rotate_left
       ·simp only [Act.put,qS_,qZ_,qC_,y19,y18]
        rfl
       refine y20 (i := 2) (N := some 44) (v := ?_) (a' := ?_) (fl_ 9 5) rfl rfl (by kernel_rfl) (fun _ _ _ h => h) (Or.inl ⟨by rfl, ?_⟩) ?_ ?_
       rotate_left
       ·intro w'
        go_simp
        with_reducible rfl
       rotate_left
       ·simp only [Act.put,qS_,qZ_,qC_,y19,y18]
        rfl
       refine take_ (i := 1) (N := some 43) (v := ?_) (a' := ?_) (fl_ 9 7) rfl rfl (by kernel_rfl) (fun _ _ _ h => h) (Or.inl ⟨by rfl, ?_⟩) hHeld ?_ ?_
       rotate_left
       ·rintro w' ⟨s0,s1,s2,s3,s4,s5,s6⟩
        go_simp
        with_reducible rfl
       rotate_left
       ·simp only [Act.put,qS_,qZ_,qC_,y19,y18]
        rfl
       refine take_ (i := 3) (N := some 45) (v := ?_) (a' := ?_) (fl_ 9 15) rfl rfl (by kernel_rfl) (fun _ _ _ h => h) (Or.inl ⟨by rfl, ?_⟩) hHeld ?_ ?_
       rotate_left
       ·rintro w' ⟨s0,s1,s2,s3,s4,s5,s6⟩
        go_simp
        with_reducible rfl
       rotate_left
       ·simp only [Act.put,qS_,qZ_,qC_,y19,y18]
        rfl
       refine one_ (i := 4) (N := some 46) (fl_ 9 31) rfl rfl (by kernel_rfl) (by decide) (fun K hK => ?_)
       refine goes_ Tryz.func46 (by kernel_rfl) rfl #[.agg #[.slice A1_0 l1_0.length c1_0]] (by rfl) rfl rfl qy3 ?_
       with_reducible refine (impl_copyTuple.calls _ _ l1_0 lc _ (Kd.C_below HRT.out HB.out) HCT.out HE6.out).mono ?_
       rintro e w9_a ⟨v_,rfl,ho,hb⟩
       refine ⟨_,rfl, ?_⟩
       obtain ⟨Ax,cx,eA_⟩ := Kd.R_slice ho
       subst eA_
       have HX := y0.mk (ho)
       have HLX := y0.mk ((LO.out : hiO ≤ w9_d.heap.size))
       have HGO := y0.mk ((QIv.ki_lt BKo.out : go < w9_d.heap.size))
       have HWX := y0.mk (hb.size)
       replace OO := y0.mk (OO.out.below hb)
       replace LO := y0.mk (Nat.le_trans LO.out hb.size)
       replace BKr := y0.mk (y8 (g := gr) (o := (.cells #[.int .i64 a0_0,.slice A0_1 l0_1.length c0_1] 32 (0,0))) BKr.out hb)
       replace BKt := y0.mk (y8 (g := gt) (o := (.cells #[.slice A1_0 l1_0.length c1_0] 36 (0,0))) BKt.out hb)
       replace BKz := y0.mk (y8 (g := gz) (o := (.cells #[.int .i64 0,.slice none 0 0] 32 (0,0))) BKz.out hb)
       replace BKo := y0.mk (y8 (g := go) (o := (.cells #[.int .i64 q1,.slice AO rl.length cO] 32 (0,0))) BKo.out hb)
       replace HB := y0.mk (y6 HB.out hb)
       clear ho hb
       refine hK.out _ _ ⟨(y9 BKr.out 0).trans rfl,(y9 BKr.out 1).trans rfl,(y9 BKt.out 0).trans rfl,(y9 BKz.out 0).trans rfl,(y9 BKz.out 1).trans rfl,(y9 BKo.out 0).trans rfl,(y9 BKo.out 1).trans rfl⟩ (fun hHeld => ?_)
       clear hK K
       refine norm_ (a' := ?_) ?_ ?_
       rotate_left
       ·show Act.put _ (some 46) _ = _
        simp only [Act.put,qS_,qZ_,qC_,y19,y18]
        rfl
       refine one_ (i := 5) (N := some 47) (fl_ 9 63) rfl rfl (by kernel_rfl) (by decide) (fun K hK => ?_)
       refine value_ (w1 := w9_a.alloc (.cells #[.slice Ax lc.length cx] 36 (0,0))) (v := .slice (some ⟨w9_a.heap.size,0,none⟩) 1 1) (by rfl) rfl ?_ ?_
       ·first | (go_simp; done) | (go_simp; rfl)
       have hbx := blk_new w9_a (.cells #[.slice Ax lc.length cx] 36 (0,0))
       have hb := y3 (Below.refl w9_a.heap.size w9_a) (.cells #[.slice Ax lc.length cx] 36 (0,0))
       obtain ⟨gv,hgv⟩ : ∃ g,g = w9_a.heap.size := ⟨_,rfl⟩
       rw [← hgv] at hbx ⊢
       generalize w9_a.alloc (.cells #[.slice Ax lc.length cx] 36 (0,0)) = w9_b at hbx hb ⊢
       have BKv := y0.mk (hbx)
       have HGV := y0.mk ((by rw [hgv]; exact HWX.out : w9_d.heap.size ≤ gv))
       replace OO := y0.mk (OO.out.below hb)
       replace LO := y0.mk (Nat.le_trans LO.out hb.size)
       replace BKr := y0.mk (y8 (g := gr) (o := (.cells #[.int .i64 a0_0,.slice A0_1 l0_1.length c0_1] 32 (0,0))) BKr.out hb)
       replace BKt := y0.mk (y8 (g := gt) (o := (.cells #[.slice A1_0 l1_0.length c1_0] 36 (0,0))) BKt.out hb)
       replace BKz := y0.mk (y8 (g := gz) (o := (.cells #[.int .i64 0,.slice none 0 0] 32 (0,0))) BKz.out hb)
       replace BKo := y0.mk (y8 (g := go) (o := (.cells #[.int .i64 q1,.slice AO rl.length cO] 32 (0,0))) BKo.out hb)
       replace HB := y0.mk (y6 HB.out hb)
       replace HX := y0.mk (Kd.R_below HX.out hb)
       clear hb hbx hgv
       refine hK.out _ _ ⟨(y9 BKr.out 0).trans rfl,(y9 BKr.out 1).trans rfl,(y9 BKt.out 0).trans rfl,(y9 BKz.out 0).trans rfl,(y9 BKz.out 1).trans rfl,(y9 BKo.out 0).trans rfl,(y9 BKo.out 1).trans rfl⟩ (fun hHeld => ?_)
       clear hK K
       refine norm_ (a' := ?_) ?_ ?_
       rotate_left
       ·show Act.put _ (some 47) _ = _
        simp only [Act.put,qS_,qZ_,qC_,y19,y18]
        rfl
       refine one_ (i := 6) (N := some 48) (fl_ 9 127) rfl rfl (by kernel_rfl) (by decide) (fun K hK => ?_)
       refine goes_ Tryz.func45 (by kernel_rfl) rfl #[.slice AO rl.length cO,.int .i64 (p : Int),.slice (some ⟨gv,0,none⟩) 1 1] (by rfl) rfl rfl qy3 ?_
       with_reducible refine (QIns.insert_own k36 rfl loO hiO w9_d.heap.size AO cO rl p HP.out gv 1 (.slice Ax lc.length cx) ⟨lc⟩ (fun _ => True) w _ HB.out BO.out HLW.out HLX.out OO.out BKv.out HGV.out (k36_mkM _ _ _ ⟨lc⟩ HX.out) (by have := HE1.out; omega)).mono ?_
       rintro e w9_c ⟨v_,rfl,ho,hb,hk⟩
       refine ⟨_,rfl, ?_⟩
       obtain ⟨An,cn,eA_⟩ := Kd.S_slice ho
       subst eA_
       have HS := y0.mk (ho)
       replace BKr := y0.mk (QIv.ki_blk BKr.out hk (.inl Er_O.out))
       replace BKt := y0.mk (QIv.ki_blk BKt.out hk (.inl Et_O.out))
       replace BKz := y0.mk (QIv.ki_blk BKz.out hk (.inl Ez_O.out))
       replace BKo := y0.mk (QIv.ki_blk BKo.out hk (.inr EO_o.out))
       replace HB := y0.mk (hb)
       clear ho hb hk OO LO HX BKv HGV
       refine hK.out _ _ ⟨(y9 BKr.out 0).trans rfl,(y9 BKr.out 1).trans rfl,(y9 BKt.out 0).trans rfl,(y9 BKz.out 0).trans rfl,(y9 BKz.out 1).trans rfl,(y9 BKo.out 0).trans rfl,(y9 BKo.out 1).trans rfl⟩ (fun hHeld => ?_)
       clear hK K
       refine norm_ (a' := ?_) ?_ ?_
       rotate_left
       ·show Act.put _ (some 48) _ = _
        simp only [Act.put,qS_,qZ_,qC_,y19,y18]
        rfl
       refine y20 (i := 7) (N := some 49) (v := ?_) (a' := ?_) (fl_ 9 255) rfl rfl (by kernel_rfl) (fun _ _ _ h => h) (Or.inl ⟨by rfl, ?_⟩) ?_ ?_
       rotate_left
       ·intro w'
        go_simp
        with_reducible rfl
       rotate_left
       ·simp only [Act.put,qS_,qZ_,qC_,y19,y18]
        rfl
       refine last_ (i := 8) (N := none) (fl_ 9 511) rfl rfl (by kernel_rfl) (by decide) (fun K hK => ?_)
       have hcs1 : w9_c.cell? ⟨go,1,none⟩ = some (.slice AO rl.length cO) := (y9 BKo.out 1).trans rfl
       have hfs1 := blk_frozen BKo.out 1
       refine skip_ (w1 := w9_c.setCell ⟨go,1,none⟩ (.slice An (rl.insertIdx p (⟨lc⟩ : S36)).length cn)) (by rfl) rfl ?_ ?_
       ·first | (go_simp; done) | (go_simp; rfl)
       clear hcs1 hfs1
       refine hK.out _ _ ?_
       clear hK K
       refine done_ (by kernel_rfl) ?_
       clear hHeld
       have n0_ := y0.mk (blk_put (cs := #[.int .i64 q1,.slice AO rl.length cO]) BKo.out 1 (.slice An (rl.insertIdx p (⟨lc⟩ : S36)).length cn) rfl)
       have n1_ := y0.mk (y12 (p := ⟨go,1,none⟩) BKz.out Nz_o.out (.slice An (rl.insertIdx p (⟨lc⟩ : S36)).length cn))
       have n2_ := y0.mk (below_set HB.out GEo.out : Below w.heap.size w (w9_c.setCell ⟨go,1,none⟩ (.slice An (rl.insertIdx p (⟨lc⟩ : S36)).length cn)))
       have n3_ := y0.mk (QIns.S_off HS.out (g := go) (.inr (by have := EO_o.out; have := HGO.out; omega)) 1 (.slice An (rl.insertIdx p (⟨lc⟩ : S36)).length cn))
       clear BKo BKz HB HS BKr BKt
       generalize (w9_c.setCell ⟨go,1,none⟩ (.slice An (rl.insertIdx p (⟨lc⟩ : S36)).length cn)) = wE at n0_ n1_ n2_ n3_ ⊢
       have BKo := n0_
       have BKz := n1_
       have HB := n2_
       have HS := n3_
       clear n0_ n1_ n2_ n3_
       have hco0 : wE.cell? ⟨go,0,none⟩ = some (.int .i64 q1) := (y9 BKo.out 0).trans rfl
       have hfo0 := blk_frozen BKo.out 0
       have hco1 : wE.cell? ⟨go,1,none⟩ = some (.slice An (rl.insertIdx p (⟨lc⟩ : S36)).length cn) := (y9 BKo.out 1).trans rfl
       have hfo1 := blk_frozen BKo.out 1
       have hcz0 : wE.cell? ⟨gz,0,none⟩ = some (.int .i64 0) := (y9 BKz.out 0).trans rfl
       have hfz0 := blk_frozen BKz.out 0
       have hcz1 : wE.cell? ⟨gz,1,none⟩ = some (.slice none 0 0) := (y9 BKz.out 1).trans rfl
       have hfz1 := blk_frozen BKz.out 1
       go_wp2
       refine bodyPost_ret (results_ct rfl _ _ gz 32 #[.int .i64 q1,.slice An (rl.insertIdx p (⟨lc⟩ : S36)).length cn] (0,0) _ rfl (by (with_reducible repeat (first | refine y11 ?_ _ | refine y10 ?_ | refine y7 ?_ _)); refine blk_put (cs := #[.int .i64 q1,.slice none 0 0]) ?_ 1 _ rfl; refine blk_put (cs := #[.int .i64 0,.slice none 0 0]) ?_ 0 _ rfl; exact BKz.out) Tryz.underlying32 rfl (by kernel_rfl)) rfl ?_
       refine ⟨_,by first | rfl | (simp [y13,y14] <;> rfl), ?_,below_set (below_set HB.out GEz.out) GEz.out⟩
       exact Kd.S_lower (Kd.S_mono (QIns.S_off (QIns.S_off HS.out (.inl Ez_O.out) 0 _) (.inl Ez_O.out) 1 _) (fun _ _ => trivial)) BO.out
    ·rw [if_neg e1] at h
     cases h
   ·rw [if_neg e0] at h
    simp only [Option.some.injEq,Prod.mk.injEq] at h
    obtain ⟨rfl,rfl,rfl⟩ := h
    have ce : ((l1_0.length : Int) != a0_0) = true := by simp [e0]
    clear e0 hr0_1 hc0_1 hr1_0 hc1_0 hT
    go_enter Tryz.func13,Tryz.ntmps13
    go_wp2_with (first
     | ((with_reducible refine y16 (N := 2) rfl ?_); refine qe 2 #[.int .i64 a0_0,.slice A0_1 l0_1.length c0_1] 32 ?_; intro gr hg w1 hbox hb; have BKr := y0.mk (hbox); have GEr := y0.mk ((by rw [hg]; exact HB.out.size : w.heap.size ≤ gr)); replace HB := y0.mk (y6 HB.out hb); clear hb hg hbox; obtain ⟨hcr0,hcr1,hfr0,hfr1⟩ := QIv.box2 BKr.out)
     | ((with_reducible refine y16 (N := 3) rfl ?_); refine qe 3 #[.slice A1_0 l1_0.length c1_0] 36 ?_; intro gt hg w2 hbox hb; (repeat first | clear hcr0 | clear hcr1 | clear hfr0 | clear hfr1); have BKt := y0.mk (hbox); have GEt := y0.mk ((by rw [hg]; exact HB.out.size : w.heap.size ≤ gt)); have Nr_t := y0.mk ((by rw [hg]; exact Nat.ne_of_lt (QIv.ki_lt BKr.out) : gr ≠ gt)); replace BKr := y0.mk (y8 (g := gr) (o := (.cells #[.int .i64 a0_0,.slice A0_1 l0_1.length c0_1] 32 (0,0))) BKr.out hb); replace HB := y0.mk (y6 HB.out hb); clear hb hg hbox; obtain ⟨hcr0,hcr1,hfr0,hfr1⟩ := QIv.box2 BKr.out; obtain ⟨hct0,hft0⟩ := QIv.box1 BKt.out)
     | ((with_reducible refine y16 (N := 4) rfl ?_); refine qe 4 #[.int .i64 0,.slice none 0 0] 32 ?_; intro gz hg w3 hbox hb; (repeat first | clear hcr0 | clear hcr1 | clear hct0 | clear hfr0 | clear hfr1 | clear hft0); have BKz := y0.mk (hbox); have GEz := y0.mk ((by rw [hg]; exact HB.out.size : w.heap.size ≤ gz)); have Nr_z := y0.mk ((by rw [hg]; exact Nat.ne_of_lt (QIv.ki_lt BKr.out) : gr ≠ gz)); have Nt_z := y0.mk ((by rw [hg]; exact Nat.ne_of_lt (QIv.ki_lt BKt.out) : gt ≠ gz)); replace BKr := y0.mk (y8 (g := gr) (o := (.cells #[.int .i64 a0_0,.slice A0_1 l0_1.length c0_1] 32 (0,0))) BKr.out hb); replace BKt := y0.mk (y8 (g := gt) (o := (.cells #[.slice A1_0 l1_0.length c1_0] 36 (0,0))) BKt.out hb); replace HB := y0.mk (y6 HB.out hb); clear hb hg hbox; obtain ⟨hcr0,hcr1,hfr0,hfr1⟩ := QIv.box2 BKr.out; obtain ⟨hct0,hft0⟩ := QIv.box1 BKt.out; obtain ⟨hcz0,hcz1,hfz0,hfz1⟩ := QIv.box2 BKz.out)
     | ((try (refine gate_guard (by rfl) ?_; dsimp only)); go_at_call 40; (with_reducible refine (STA.out _ HB.out).mono ?_); rintro e w4 ⟨rfl,hb⟩; (repeat first | clear hcr0 | clear hcr1 | clear hct0 | clear hcz0 | clear hcz1 | clear hfr0 | clear hfr1 | clear hft0 | clear hfz0 | clear hfz1); replace BKr := y0.mk (y8 (g := gr) (o := (.cells #[.int .i64 a0_0,.slice A0_1 l0_1.length c0_1] 32 (0,0))) BKr.out hb); replace BKt := y0.mk (y8 (g := gt) (o := (.cells #[.slice A1_0 l1_0.length c1_0] 36 (0,0))) BKt.out hb); replace BKz := y0.mk (y8 (g := gz) (o := (.cells #[.int .i64 0,.slice none 0 0] 32 (0,0))) BKz.out hb); replace HB := y0.mk (y6 HB.out hb); (try clear hb); obtain ⟨hcr0,hcr1,hfr0,hfr1⟩ := QIv.box2 BKr.out; obtain ⟨hct0,hft0⟩ := QIv.box1 BKt.out; obtain ⟨hcz0,hcz1,hfz0,hfz1⟩ := QIv.box2 BKz.out)
     | ((try (refine gate_guard (by rfl) ?_; dsimp only)); go_at_call 41; (with_reducible refine (STB.out _ HB.out).mono ?_); rintro e w5 ⟨rfl,hb⟩; (repeat first | clear hcr0 | clear hcr1 | clear hct0 | clear hcz0 | clear hcz1 | clear hfr0 | clear hfr1 | clear hft0 | clear hfz0 | clear hfz1); replace BKr := y0.mk (y8 (g := gr) (o := (.cells #[.int .i64 a0_0,.slice A0_1 l0_1.length c0_1] 32 (0,0))) BKr.out hb); replace BKt := y0.mk (y8 (g := gt) (o := (.cells #[.slice A1_0 l1_0.length c1_0] 36 (0,0))) BKt.out hb); replace BKz := y0.mk (y8 (g := gz) (o := (.cells #[.int .i64 0,.slice none 0 0] 32 (0,0))) BKz.out hb); replace HB := y0.mk (y6 HB.out hb); (try clear hb); obtain ⟨hcr0,hcr1,hfr0,hfr1⟩ := QIv.box2 BKr.out; obtain ⟨hct0,hft0⟩ := QIv.box1 BKt.out; obtain ⟨hcz0,hcz1,hfz0,hfz1⟩ := QIv.box2 BKz.out))
    refine bodyPost_ret (results_ct rfl _ _ gz 32 #[.int .i64 0,.slice none 0 0] (0,0) _ rfl (by (with_reducible repeat (first | refine y11 ?_ _ | refine y10 ?_ | refine y7 ?_ _)); refine blk_put (cs := #[.int .i64 0,.slice none 0 0]) ?_ 1 _ rfl; refine blk_put (cs := #[.int .i64 0,.slice none 0 0]) ?_ 0 _ rfl; exact BKz.out) Tryz.underlying32 rfl (by kernel_rfl)) rfl ?_
    exact ⟨.slice none 0 0,by first | rfl | (simp [y13,y14] <;> rfl),Kd.S_nil _ _ _ _ _,below_set (below_set HB.out GEz.out) GEz.out⟩
end Go.Proofs.YtkajecadkkgfmaaGreatDoor.Pe
end
section
namespace Go.Proofs.YtkajecadkkgfmaaGreatDoor.Pe
open Go.RowKit Go.Proofs.YtkajecadkkgfmaaGreatDoorW.PrintWords Go.Proofs.YtkajecadkkgfmaaGreatDoorW.PrintLast Go.Proofs.YtkajecadkkgfmaaGreatDoorW.PrintMore
attribute [local go_sem] max2_int min2_int max_two min_two max_three min_three max_four min_four   -- for this text's walks alone
set_option linter.unusedVariables false
set_option linter.unusedSimpArgs false
def laws_eqStringS.l0 : Nat → List ByteArray → List ByteArray → Int → Option (Bool)
 | 0,_,_,_ => none
 | k + 1,x0,x1,x5 => if x5 < (x0.length : Int) then (if 0 ≤ x5 then (if x5 < (x1.length : Int) then (if (rdOf ByteArray.empty x0 x5).toList = (rdOf ByteArray.empty x1 x5).toList then (laws_eqStringS.l0 k x0 x1 (wrap64 (x5 + 1))) else (some false)) else (none)) else (none)) else (some true)
def laws_eqStringS.f (k : Nat) (l0 : List ByteArray) (l1 : List ByteArray) : Option (Bool) := if (l0.length : Int) = (l1.length : Int) then (laws_eqStringS.l0 k l0 l1 0) else (some false)
set_option maxHeartbeats 8000000 in
set_option maxRecDepth 100000 in
theorem laws_eqStringS.calls (k : Nat) (A0 : Option Addr) (c0 : Nat) (l0 : List ByteArray) (A1 : Option Addr) (c1 : Nat) (l1 : List ByteArray) (r : Bool) (w : World) (hr0 : Kd.C Kd.string w A0 l0.length l0) (hc0 : l0.length ≤ c0) (hr1 : Kd.C Kd.string w A1 l1.length l1) (hc1 : l1.length ≤ c1) (h : laws_eqStringS.f k l0 l1 = some r) :
  Calls Tryz.prog 48 #[.slice A0 l0.length c0,.slice A1 l1.length c1] w fun e w' => e = .returned (.bool r) ∧ y1 w w' := by
 have HR0 := y0.mk hr0
 have HC0 := y0.mk hc0
 clear hr0 hc0
 have HR1 := y0.mk hr1
 have HC1 := y0.mk hc1
 clear hr1 hc1
 have H : (if (l0.length : Int) = (l1.length : Int) then (laws_eqStringS.l0 k l0 l1 0) else (some false)) = some r := h
 clear h
 by_cases c3 : (l0.length : Int) = (l1.length : Int)
 ·rw [if_pos c3] at H
  have c3b0 : ((l0.length : Int) == (l1.length : Int)) = true := beq_iff_eq.mpr c3
  have c3b1 : ((l0.length : Int) != (l1.length : Int)) = false := bne_eq_false_iff_eq.mpr c3
  have c3b2 : (l0.length == l1.length) = true := by first | simpa using c3 | (simp at c3 ⊢; omega)
  clear c3
  have H' := y0.mk H
  clear H
  go_enter Tryz.func48,Tryz.ntmps48
  go_wp2
  repeat (go_quiet (fail); try go_wp2)
  go_loopg [5] k (fun kq v5 w' => ∃ (x5_1 : Int),v5 = .int .i64 x5_1 ∧ y0 (laws_eqStringS.l0 kq l0 l1 x5_1 = some r) ∧ y0 (kq ≤ k) ∧ y1 w w')
  case atStart => exact ⟨(0),qy2,H',⟨Nat.le_refl _⟩,by repeat (first | exact y1.refl _ | apply y1.step)⟩
  case round =>
   clear H'
   (try clear c3b0 c3b1 c3b2)
   obtain ⟨x5_1,rfl,HA,HK1,⟨m1,rfl⟩⟩ := hrel
   cases gk with
   | zero => exact absurd HA.out (by simp [laws_eqStringS.l0])
   | succ k1 =>
    have H := HA.out
    clear HA
    simp only [laws_eqStringS.l0] at H
    by_cases c4 : x5_1 < (l0.length : Int)
    ·rw [if_pos c4] at H
     have c4b0 := decide_eq_true c4
     clear c4
     obtain ⟨c5,H⟩ := qo H
     have c5b0 : decide (0 ≤ x5_1) = true := decide_eq_true c5
     clear c5
     obtain ⟨c6,H⟩ := qo H
     have c6b0 : decide (x5_1 < (l1.length : Int)) = true := decide_eq_true c6
     clear c6
     by_cases c7 : (rdOf ByteArray.empty l0 x5_1).toList = (rdOf ByteArray.empty l1 x5_1).toList
     ·rw [if_pos c7] at H
      have c7b0 : ((rdOf ByteArray.empty l0 x5_1).toList == (rdOf ByteArray.empty l1 x5_1).toList) = true := beq_iff_eq.mpr c7
      have c7b1 : ((rdOf ByteArray.empty l0 x5_1).toList != (rdOf ByteArray.empty l1 x5_1).toList) = false := bne_eq_false_iff_eq.mpr c7
      clear c7
      have H' := y0.mk H
      clear H
      have p434 : 0 ≤ (x5_1 : Int) := of_decide_eq_true qy1
      have q434 : x5_1 < (l0.length : Int) := of_decide_eq_true qy1
      obtain ⟨ad434,e434,hx434_0⟩ := Kd.at_string HR0.out x5_1 p434 q434
      cases e434
      replace p434 := eq_true p434
      replace q434 := eq_true q434
      have p435 : 0 ≤ (x5_1 : Int) := of_decide_eq_true qy1
      have q435 : x5_1 < (l1.length : Int) := of_decide_eq_true qy1
      obtain ⟨ad435,e435,hx435_0⟩ := Kd.at_string HR1.out x5_1 p435 q435
      cases e435
      replace p435 := eq_true p435
      replace q435 := eq_true q435
      go_wp2
      repeat (go_quiet (fail); try go_wp2)
      go_roundg k1
      case measure => have := HK1.out; omega
      exact ⟨(wrap64 (x5_1 + 1)),qy2,H',⟨by have := HK1.out; omega⟩,by repeat (first | exact y1.refl _ | apply y1.step)⟩
     ·rw [if_neg c7] at H
      have c7b0 : ((rdOf ByteArray.empty l0 x5_1).toList == (rdOf ByteArray.empty l1 x5_1).toList) = false := beq_eq_false_iff_ne.mpr c7
      have c7b1 : ((rdOf ByteArray.empty l0 x5_1).toList != (rdOf ByteArray.empty l1 x5_1).toList) = true := bne_iff_ne.mpr c7
      obtain rfl := Option.some.inj H
      have p434 : 0 ≤ (x5_1 : Int) := of_decide_eq_true qy1
      have q434 : x5_1 < (l0.length : Int) := of_decide_eq_true qy1
      obtain ⟨ad434,e434,hx434_0⟩ := Kd.at_string HR0.out x5_1 p434 q434
      cases e434
      replace p434 := eq_true p434
      replace q434 := eq_true q434
      have p435 : 0 ≤ (x5_1 : Int) := of_decide_eq_true qy1
      have q435 : x5_1 < (l1.length : Int) := of_decide_eq_true qy1
      obtain ⟨ad435,e435,hx435_0⟩ := Kd.at_string HR1.out x5_1 p435 q435
      cases e435
      replace p435 := eq_true p435
      replace q435 := eq_true q435
      go_wp2
      repeat (go_quiet (fail); try go_wp2)
      go_ret
      exact ⟨by first | rfl | (simp; done) | (simp [*]; done),by repeat (first | exact y1.refl _ | apply y1.step)⟩
    ·rw [if_neg c4] at H
     have c4b0 := decide_eq_false c4
     clear c4
     obtain rfl := Option.some.inj H
     go_wp2
     repeat (go_quiet (fail); try go_wp2)
     go_ret
     exact ⟨by first | rfl | (simp; done) | (simp [*]; done),by repeat (first | exact y1.refl _ | apply y1.step)⟩
 ·rw [if_neg c3] at H
  have c3b0 : ((l0.length : Int) == (l1.length : Int)) = false := beq_eq_false_iff_ne.mpr c3
  have c3b1 : ((l0.length : Int) != (l1.length : Int)) = true := bne_iff_ne.mpr c3
  have c3b2 : (l0.length == l1.length) = false := by first | simpa using c3 | (simp at c3 ⊢; omega)
  obtain rfl := Option.some.inj H
  go_enter Tryz.func48,Tryz.ntmps48
  go_wp2
  repeat (go_quiet (fail); try go_wp2)
  go_ret
  exact ⟨by first | rfl | (simp; done) | (simp [*]; done),by repeat (first | exact y1.refl _ | apply y1.step)⟩
def laws_eqTuple.f (k : Nat) (l0_0 : List ByteArray) (l1_0 : List ByteArray) : Option (Bool) := (laws_eqStringS.f k l0_0 l1_0).bind fun t438 => (if t438 = true then (some true) else (some false))
set_option maxHeartbeats 8000000 in
set_option maxRecDepth 100000 in
theorem laws_eqTuple.calls (k : Nat) (A0_0 : Option Addr) (c0_0 : Nat) (l0_0 : List ByteArray) (A1_0 : Option Addr) (c1_0 : Nat) (l1_0 : List ByteArray) (r : Bool) (w : World) (hr0_0 : Kd.C Kd.string w A0_0 l0_0.length l0_0) (hc0_0 : l0_0.length ≤ c0_0) (hr1_0 : Kd.C Kd.string w A1_0 l1_0.length l1_0) (hc1_0 : l1_0.length ≤ c1_0) (h : laws_eqTuple.f k l0_0 l1_0 = some r) :
  Calls Tryz.prog 15 #[.agg #[.slice A0_0 l0_0.length c0_0],.agg #[.slice A1_0 l1_0.length c1_0]] w fun e w' => e = .returned (.bool r) ∧ Below w.heap.size w w' := by
 have hu36 := Tryz.underlying36
 have HR0_0 := y0.mk hr0_0
 have HC0_0 := y0.mk hc0_0
 clear hr0_0 hc0_0
 have HR1_0 := y0.mk hr1_0
 have HC1_0 := y0.mk hc1_0
 clear hr1_0 hc1_0
 have HB := y0.mk (Below.refl w.heap.size w)
 have H : ((laws_eqStringS.f k l0_0 l1_0).bind fun t438 => (if t438 = true then (some true) else (some false))) = some r := h
 clear h
 obtain ⟨t438,A3,H⟩ := qB H
 by_cases c4 : t438 = true
 ·subst c4
  replace H := qT H
  obtain rfl := Option.some.inj H
  go_enter Tryz.func15,Tryz.ntmps15
  go_wp2_with (first | ((with_reducible refine y16 (N := 2) rfl ?_); refine qe 2 #[.slice A0_0 l0_0.length c0_0] 36 ?_; intro gb436 hg w5 hbox hb; have BK436 := y0.mk (hbox); have GW436 := y0.mk (qg (w := w) hg); have GE436 := y0.mk (qg (w := w) hg); replace HB := y0.mk (y6 qb hb); clear hb hbox hg) | ((with_reducible refine y16 (N := 3) rfl ?_); refine qe 3 #[.slice A1_0 l1_0.length c1_0] 36 ?_; intro gb437 hg w6 hbox hb; have BK437 := y0.mk (hbox); have GW437 := y0.mk (qg (w := w) hg); have GE437 := y0.mk (qg (w := w) hg); replace HB := y0.mk (y6 qb hb); have NB436_437 := y0.mk (qn BK436.out hg); have NB437_436 := y0.mk (qm BK436.out hg); replace BK436 := y0.mk (qK BK436.out hb); clear hb hbox hg; have hnb7 := NB436_437.out; have hnc7 := NB437_436.out; obtain ⟨hcz8_0,hfz8_0⟩ := qz1 BK436.out; obtain ⟨hcz9_0,hfz9_0⟩ := qz1 BK437.out) | ((with_reducible refine y15 (f := 48) rfl ?_); refine y17 (some 9) rfl rfl Tryz.func48 (by kernel_rfl) rfl #[.slice A0_0 l0_0.length c0_0,.slice A1_0 l1_0.length c1_0] rfl qy0 ?_; (with_reducible refine (laws_eqStringS.calls k _ _ l0_0 _ _ l1_0 true _ (qc (Kd.C_below HR0_0.out HB.out)) HC0_0.out (qc (Kd.C_below HR1_0.out HB.out)) HC1_0.out A3.out).mono ?_); rintro e w' ⟨rfl,⟨nd,rfl⟩⟩; refine ⟨_,rfl, ?_⟩))
  go_ret
  exact ⟨by first | rfl | (simp [y13,y14] <;> rfl) | (simp [*,y13,y14] <;> rfl),qb⟩
 ·replace c4 := Bool.eq_false_iff.mpr c4
  subst c4
  replace H := qF H
  obtain rfl := Option.some.inj H
  go_enter Tryz.func15,Tryz.ntmps15
  go_wp2_with (first | ((with_reducible refine y16 (N := 2) rfl ?_); refine qe 2 #[.slice A0_0 l0_0.length c0_0] 36 ?_; intro gb436 hg w10 hbox hb; have BK436 := y0.mk (hbox); have GW436 := y0.mk (qg (w := w) hg); have GE436 := y0.mk (qg (w := w) hg); replace HB := y0.mk (y6 qb hb); clear hb hbox hg) | ((with_reducible refine y16 (N := 3) rfl ?_); refine qe 3 #[.slice A1_0 l1_0.length c1_0] 36 ?_; intro gb437 hg w11 hbox hb; have BK437 := y0.mk (hbox); have GW437 := y0.mk (qg (w := w) hg); have GE437 := y0.mk (qg (w := w) hg); replace HB := y0.mk (y6 qb hb); have NB436_437 := y0.mk (qn BK436.out hg); have NB437_436 := y0.mk (qm BK436.out hg); replace BK436 := y0.mk (qK BK436.out hb); clear hb hbox hg; have hnb12 := NB436_437.out; have hnc12 := NB437_436.out; obtain ⟨hcz13_0,hfz13_0⟩ := qz1 BK436.out; obtain ⟨hcz14_0,hfz14_0⟩ := qz1 BK437.out) | ((with_reducible refine y15 (f := 48) rfl ?_); refine y17 (some 9) rfl rfl Tryz.func48 (by kernel_rfl) rfl #[.slice A0_0 l0_0.length c0_0,.slice A1_0 l1_0.length c1_0] rfl qy0 ?_; (with_reducible refine (laws_eqStringS.calls k _ _ l0_0 _ _ l1_0 false _ (qc (Kd.C_below HR0_0.out HB.out)) HC0_0.out (qc (Kd.C_below HR1_0.out HB.out)) HC1_0.out A3.out).mono ?_); rintro e w' ⟨rfl,⟨nd,rfl⟩⟩; refine ⟨_,rfl, ?_⟩))
  go_ret
  exact ⟨by first | rfl | (simp [y13,y14] <;> rfl) | (simp [*,y13,y14] <;> rfl),qb⟩
def laws_eqTupleS.l0 : Nat → List (S36) → List (S36) → Int → Option (Bool)
 | 0,_,_,_ => none
 | k + 1,x0,x1,x5 => if x5 < (x0.length : Int) then (if 0 ≤ x5 then (if x5 < (x1.length : Int) then ((laws_eqTuple.f k ((y21 x0 x5).f0) ((y21 x1 x5).f0)).bind fun t441 => (if t441 = true then (laws_eqTupleS.l0 k x0 x1 (wrap64 (x5 + 1))) else (some false))) else (none)) else (none)) else (some true)
def laws_eqTupleS.f (k : Nat) (l0 : List (S36)) (l1 : List (S36)) : Option (Bool) := if (l0.length : Int) = (l1.length : Int) then (laws_eqTupleS.l0 k l0 l1 0) else (some false)
def laws_eqTupleS.T6 : Bool × List (List Nat × List Nat) := (true,[([],[]),([],[]),([0,1],[0,1]),([2],[2]),([],[]),([],[]),([4,5],[4,5]),([6],[6]),([3,7],[3,7]),([8],[8])])
def laws_eqTupleS.B6 : List Nat := [0,0,3,7,0,0,48,112,255,511]
theorem laws_eqTupleS.tab6 : rtab .any (opsOf Tryz.f47 6) = laws_eqTupleS.T6 := by kernel_rfl
theorem laws_eqTupleS.bits6 : waitsOk laws_eqTupleS.T6.2 laws_eqTupleS.B6 = true := by kernel_rfl
set_option maxHeartbeats 8000000 in
set_option maxRecDepth 100000 in
theorem laws_eqTupleS.calls (k : Nat) (A0 : Option Addr) (c0 : Nat) (l0 : List (S36)) (A1 : Option Addr) (c1 : Nat) (l1 : List (S36)) (r : Bool) (w : World) (hr0 : Kd.C k36 w A0 l0.length l0) (hc0 : l0.length ≤ c0) (hr1 : Kd.C k36 w A1 l1.length l1) (hc1 : l1.length ≤ c1) (h : laws_eqTupleS.f k l0 l1 = some r) :
  Calls Tryz.prog 47 #[.slice A0 l0.length c0,.slice A1 l1.length c1] w fun e w' => e = .returned (.bool r) ∧ Below w.heap.size w w' := by
 have hu36 := Tryz.underlying36
 have HR0 := y0.mk hr0
 have HC0 := y0.mk hc0
 clear hr0 hc0
 have HR1 := y0.mk hr1
 have HC1 := y0.mk hc1
 clear hr1 hc1
 have HB := y0.mk (Below.refl w.heap.size w)
 have H : (if (l0.length : Int) = (l1.length : Int) then (laws_eqTupleS.l0 k l0 l1 0) else (some false)) = some r := h
 clear h
 by_cases c3 : (l0.length : Int) = (l1.length : Int)
 ·rw [if_pos c3] at H
  have c3b0 : ((l0.length : Int) == (l1.length : Int)) = true := beq_iff_eq.mpr c3
  have c3b1 : ((l0.length : Int) != (l1.length : Int)) = false := bne_eq_false_iff_eq.mpr c3
  have c3b2 : (l0.length == l1.length) = true := by first | simpa using c3 | (simp at c3 ⊢; omega)
  clear c3
  have H' := y0.mk H
  clear H
  go_enter Tryz.func47,Tryz.ntmps47
  go_wp2
  go_loopg [5] k (fun kq v5 w' => ∃ (x5_1 : Int),v5 = .int .i64 x5_1 ∧ y0 (laws_eqTupleS.l0 kq l0 l1 x5_1 = some r) ∧ y0 (kq ≤ k) ∧ y0 (Below w.heap.size w w'))
  case atStart => exact ⟨(0),qy2,H',⟨Nat.le_refl _⟩,⟨qb⟩⟩
  case round =>
   clear H'
   (try clear c3b0 c3b1 c3b2)
   obtain ⟨x5_1,rfl,HA,HK1,HB⟩ := hrel
   cases gk with
   | zero => exact absurd HA.out (by simp [laws_eqTupleS.l0])
   | succ k1 =>
    have H := HA.out
    clear HA
    simp only [laws_eqTupleS.l0] at H
    by_cases c4 : x5_1 < (l0.length : Int)
    ·rw [if_pos c4] at H
     have c4b0 := decide_eq_true c4
     clear c4
     obtain ⟨c5,H⟩ := qo H
     have c5b0 : decide (0 ≤ x5_1) = true := decide_eq_true c5
     clear c5
     obtain ⟨c6,H⟩ := qo H
     have c6b0 : decide (x5_1 < (l1.length : Int)) = true := decide_eq_true c6
     clear c6
     obtain ⟨t441,A7,H⟩ := qB H
     by_cases c8 : t441 = true
     ·subst c8
      replace H := qT H
      have H' := y0.mk H
      clear H
      try go_wp2
      replace HB := y0.mk (y4 HB.out)
      have p439 : 0 ≤ (x5_1 : Int) := of_decide_eq_true qy1
      have q439 : x5_1 < (l0.length : Int) := of_decide_eq_true qy1
      obtain ⟨ad439,A439_0,c439_0,e439,hx439_0,hl439_0,hi439_0⟩ := at_T36 HR0.out x5_1 p439 q439
      have hw439_0 := hx439_0
      cases e439
      replace hx439_0 := (HB.out.cell (World.block_lt_of_cell? w _ hx439_0)).trans hx439_0
      have HR439_0 := y0.mk hi439_0
      have HC439_0 := y0.mk hl439_0
      clear hi439_0 hl439_0
      replace p439 := eq_true p439
      replace q439 := eq_true q439
      have p440 : 0 ≤ (x5_1 : Int) := of_decide_eq_true qy1
      have q440 : x5_1 < (l1.length : Int) := of_decide_eq_true qy1
      obtain ⟨ad440,A440_0,c440_0,e440,hx440_0,hl440_0,hi440_0⟩ := at_T36 HR1.out x5_1 p440 q440
      have hw440_0 := hx440_0
      cases e440
      replace hx440_0 := (HB.out.cell (World.block_lt_of_cell? w _ hx440_0)).trans hx440_0
      have HR440_0 := y0.mk hi440_0
      have HC440_0 := y0.mk hl440_0
      clear hi440_0 hl440_0
      replace p440 := eq_true p440
      replace q440 := eq_true q440
      refine start_ (n := 10) (S := fun w' => w'.cell? (ad439.add (x5_1).toNat) = some (.slice A439_0 ((y21 l0 x5_1).f0).length c439_0) ∧ w'.cell? (ad440.add (x5_1).toNat) = some (.slice A440_0 ((y21 l1 x5_1).f0).length c440_0)) (ds := []) (fl_ 10 0) (by kernel_rfl) rfl rfl ⟨((HB.out.cell (World.block_lt_of_cell? w _ hw439_0)).trans hw439_0),((HB.out.cell (World.block_lt_of_cell? w _ hw440_0)).trans hw440_0)⟩ (fun hHeld => ?_); refine with_tabW laws_eqTupleS.tab6 laws_eqTupleS.bits6 (fun HT_ HW_ => ?_)
      generalize wr.drew = w9 at HB HR439_0 HR440_0 hx439_0 hx440_0 hHeld ⊢
      refine qp 0 17 (fl_ 10 1) ?_
      refine qp 1 18 (fl_ 10 3) ?_
      refine qp 2 19 (fl_ 10 7) ?_
      refine qp 4 21 (fl_ 10 23) ?_
      refine qp 5 22 (fl_ 10 55) ?_
      refine qp 6 23 (fl_ 10 119) ?_
      refine qt 3 20 (fl_ 10 127) hHeld ?_
      refine qt 7 24 (fl_ 10 255) hHeld ?_
      refine one_ (i := 8) (N := some 25) (fl_ 10 511) rfl rfl (one_of HT_.out (by kernel_rfl)) (by decide) (fun K hK => ?_)
      refine goes_ Tryz.func15 (by kernel_rfl) rfl #[.agg #[.slice A439_0 ((y21 l0 x5_1).f0).length c439_0],.agg #[.slice A440_0 ((y21 l1 x5_1).f0).length c440_0]] (by rfl) rfl rfl qy0 ?_
      with_reducible refine (laws_eqTuple.calls k1 _ _ ((y21 l0 x5_1).f0) _ _ ((y21 l1 x5_1).f0) true _ (qc (Kd.C_below HR439_0.out HB.out)) HC439_0.out (qc (Kd.C_below HR440_0.out HB.out)) HC440_0.out A7.out).mono ?_
      rintro e w10 ⟨rfl,hb⟩
      refine ⟨_,rfl, ?_⟩
      replace HB := y0.mk (y6 qb hb)
      (try clear hb)
      (try clear hb2)
      (try clear hk)
      (try clear hi)
      refine hK.out _ _ ⟨((HB.out.cell (World.block_lt_of_cell? w _ hw439_0)).trans hw439_0),((HB.out.cell (World.block_lt_of_cell? w _ hw440_0)).trans hw440_0)⟩ (fun hHeld => ?_)
      clear hK K
      refine norm_ (a' := ?_) ?_ ?_
      rotate_left
      ·show Act.put _ (some 25) _ = _
       simp only [Act.put,qS_,qZ_,qC_,y19,y18]
       rfl
      refine qp 9 26 (fl_ 10 1023) ?_
      refine done_ (done_of HT_.out (by kernel_rfl)) ?_
      try go_wp2
      go_roundg k1
      case measure => have := HK1.out; omega
      exact ⟨(wrap64 (x5_1 + 1)),qy2,H',⟨by have := HK1.out; omega⟩,⟨qb⟩⟩
     ·replace c8 := Bool.eq_false_iff.mpr c8
      subst c8
      replace H := qF H
      obtain rfl := Option.some.inj H
      try go_wp2
      replace HB := y0.mk (y4 HB.out)
      have p439 : 0 ≤ (x5_1 : Int) := of_decide_eq_true qy1
      have q439 : x5_1 < (l0.length : Int) := of_decide_eq_true qy1
      obtain ⟨ad439,A439_0,c439_0,e439,hx439_0,hl439_0,hi439_0⟩ := at_T36 HR0.out x5_1 p439 q439
      have hw439_0 := hx439_0
      cases e439
      replace hx439_0 := (HB.out.cell (World.block_lt_of_cell? w _ hx439_0)).trans hx439_0
      have HR439_0 := y0.mk hi439_0
      have HC439_0 := y0.mk hl439_0
      clear hi439_0 hl439_0
      replace p439 := eq_true p439
      replace q439 := eq_true q439
      have p440 : 0 ≤ (x5_1 : Int) := of_decide_eq_true qy1
      have q440 : x5_1 < (l1.length : Int) := of_decide_eq_true qy1
      obtain ⟨ad440,A440_0,c440_0,e440,hx440_0,hl440_0,hi440_0⟩ := at_T36 HR1.out x5_1 p440 q440
      have hw440_0 := hx440_0
      cases e440
      replace hx440_0 := (HB.out.cell (World.block_lt_of_cell? w _ hx440_0)).trans hx440_0
      have HR440_0 := y0.mk hi440_0
      have HC440_0 := y0.mk hl440_0
      clear hi440_0 hl440_0
      replace p440 := eq_true p440
      replace q440 := eq_true q440
      refine start_ (n := 10) (S := fun w' => w'.cell? (ad439.add (x5_1).toNat) = some (.slice A439_0 ((y21 l0 x5_1).f0).length c439_0) ∧ w'.cell? (ad440.add (x5_1).toNat) = some (.slice A440_0 ((y21 l1 x5_1).f0).length c440_0)) (ds := []) (fl_ 10 0) (by kernel_rfl) rfl rfl ⟨((HB.out.cell (World.block_lt_of_cell? w _ hw439_0)).trans hw439_0),((HB.out.cell (World.block_lt_of_cell? w _ hw440_0)).trans hw440_0)⟩ (fun hHeld => ?_); refine with_tabW laws_eqTupleS.tab6 laws_eqTupleS.bits6 (fun HT_ HW_ => ?_)
      generalize wr.drew = w11 at HB HR439_0 HR440_0 hx439_0 hx440_0 hHeld ⊢
      refine qp 0 17 (fl_ 10 1) ?_
      refine qp 1 18 (fl_ 10 3) ?_
      refine qp 2 19 (fl_ 10 7) ?_
      refine qp 4 21 (fl_ 10 23) ?_
      refine qp 5 22 (fl_ 10 55) ?_
      refine qp 6 23 (fl_ 10 119) ?_
      refine qt 3 20 (fl_ 10 127) hHeld ?_
      refine qt 7 24 (fl_ 10 255) hHeld ?_
      refine one_ (i := 8) (N := some 25) (fl_ 10 511) rfl rfl (one_of HT_.out (by kernel_rfl)) (by decide) (fun K hK => ?_)
      refine goes_ Tryz.func15 (by kernel_rfl) rfl #[.agg #[.slice A439_0 ((y21 l0 x5_1).f0).length c439_0],.agg #[.slice A440_0 ((y21 l1 x5_1).f0).length c440_0]] (by rfl) rfl rfl qy0 ?_
      with_reducible refine (laws_eqTuple.calls k1 _ _ ((y21 l0 x5_1).f0) _ _ ((y21 l1 x5_1).f0) false _ (qc (Kd.C_below HR439_0.out HB.out)) HC439_0.out (qc (Kd.C_below HR440_0.out HB.out)) HC440_0.out A7.out).mono ?_
      rintro e w12 ⟨rfl,hb⟩
      refine ⟨_,rfl, ?_⟩
      replace HB := y0.mk (y6 qb hb)
      (try clear hb)
      (try clear hb2)
      (try clear hk)
      (try clear hi)
      refine hK.out _ _ ⟨((HB.out.cell (World.block_lt_of_cell? w _ hw439_0)).trans hw439_0),((HB.out.cell (World.block_lt_of_cell? w _ hw440_0)).trans hw440_0)⟩ (fun hHeld => ?_)
      clear hK K
      refine norm_ (a' := ?_) ?_ ?_
      rotate_left
      ·show Act.put _ (some 25) _ = _
       simp only [Act.put,qS_,qZ_,qC_,y19,y18]
       rfl
      refine qp 9 26 (fl_ 10 1023) ?_
      refine done_ (done_of HT_.out (by kernel_rfl)) ?_
      try go_wp2
      go_ret
      exact ⟨by first | rfl | (simp [y13,y14] <;> rfl) | (simp [*,y13,y14] <;> rfl),qb⟩
    ·rw [if_neg c4] at H
     have c4b0 := decide_eq_false c4
     clear c4
     obtain rfl := Option.some.inj H
     go_wp2
     go_ret
     exact ⟨by first | rfl | (simp [y13,y14] <;> rfl) | (simp [*,y13,y14] <;> rfl),qb⟩
 ·rw [if_neg c3] at H
  have c3b0 : ((l0.length : Int) == (l1.length : Int)) = false := beq_eq_false_iff_ne.mpr c3
  have c3b1 : ((l0.length : Int) != (l1.length : Int)) = true := bne_iff_ne.mpr c3
  have c3b2 : (l0.length == l1.length) = false := by first | simpa using c3 | (simp at c3 ⊢; omega)
  obtain rfl := Option.some.inj H
  go_enter Tryz.func47,Tryz.ntmps47
  go_wp2
  go_ret
  exact ⟨by first | rfl | (simp [y13,y14] <;> rfl) | (simp [*,y13,y14] <;> rfl),qb⟩
def laws_eqRel.f (k : Nat) (a0_0 : Int) (l0_1 : List (S36)) (a1_0 : Int) (l1_1 : List (S36)) : Option (Bool) := if a0_0 = a1_0 then ((laws_eqTupleS.f k l0_1 l1_1).bind fun t444 => (if t444 = true then (some true) else (some false))) else (some false)
set_option maxHeartbeats 8000000 in
set_option maxRecDepth 100000 in
theorem laws_eqRel.calls (k : Nat) (a0_0 : Int) (A0_1 : Option Addr) (c0_1 : Nat) (l0_1 : List (S36)) (a1_0 : Int) (A1_1 : Option Addr) (c1_1 : Nat) (l1_1 : List (S36)) (r : Bool) (w : World) (hr0_1 : Kd.C k36 w A0_1 l0_1.length l0_1) (hc0_1 : l0_1.length ≤ c0_1) (hr1_1 : Kd.C k36 w A1_1 l1_1.length l1_1) (hc1_1 : l1_1.length ≤ c1_1) (h : laws_eqRel.f k a0_0 l0_1 a1_0 l1_1 = some r) :
  Calls Tryz.prog 14 #[.agg #[.int .i64 a0_0,.slice A0_1 l0_1.length c0_1],.agg #[.int .i64 a1_0,.slice A1_1 l1_1.length c1_1]] w fun e w' => e = .returned (.bool r) ∧ Below w.heap.size w w' := by
 have hu32 := Tryz.underlying32
 have HR0_1 := y0.mk hr0_1
 have HC0_1 := y0.mk hc0_1
 clear hr0_1 hc0_1
 have HR1_1 := y0.mk hr1_1
 have HC1_1 := y0.mk hc1_1
 clear hr1_1 hc1_1
 have HB := y0.mk (Below.refl w.heap.size w)
 have H : (if a0_0 = a1_0 then ((laws_eqTupleS.f k l0_1 l1_1).bind fun t444 => (if t444 = true then (some true) else (some false))) else (some false)) = some r := h
 clear h
 by_cases c3 : a0_0 = a1_0
 ·rw [if_pos c3] at H
  have c3b0 : (a0_0 == a1_0) = true := beq_iff_eq.mpr c3
  have c3b1 : (a0_0 != a1_0) = false := bne_eq_false_iff_eq.mpr c3
  clear c3
  obtain ⟨t444,A4,H⟩ := qB H
  by_cases c5 : t444 = true
  ·subst c5
   replace H := qT H
   obtain rfl := Option.some.inj H
   go_enter Tryz.func14,Tryz.ntmps14
   go_wp2_with (first | ((with_reducible refine y16 (N := 2) rfl ?_); refine qe 2 #[.int .i64 a0_0,.slice A0_1 l0_1.length c0_1] 32 ?_; intro gb442 hg w6 hbox hb; have BK442 := y0.mk (hbox); have GW442 := y0.mk (qg (w := w) hg); have GE442 := y0.mk (qg (w := w) hg); replace HB := y0.mk (y6 qb hb); clear hb hbox hg) | ((with_reducible refine y16 (N := 3) rfl ?_); refine qe 3 #[.int .i64 a1_0,.slice A1_1 l1_1.length c1_1] 32 ?_; intro gb443 hg w7 hbox hb; have BK443 := y0.mk (hbox); have GW443 := y0.mk (qg (w := w) hg); have GE443 := y0.mk (qg (w := w) hg); replace HB := y0.mk (y6 qb hb); have NB442_443 := y0.mk (qn BK442.out hg); have NB443_442 := y0.mk (qm BK442.out hg); replace BK442 := y0.mk (qK BK442.out hb); clear hb hbox hg; have hnb8 := NB442_443.out; have hnc8 := NB443_442.out; obtain ⟨hcz9_0,hcz9_1,hfz9_0,hfz9_1⟩ := qz2 BK442.out; obtain ⟨hcz10_0,hcz10_1,hfz10_0,hfz10_1⟩ := qz2 BK443.out) | ((with_reducible refine y15 (f := 47) rfl ?_); refine y17 (some 14) rfl rfl Tryz.func47 (by kernel_rfl) rfl #[.slice A0_1 l0_1.length c0_1,.slice A1_1 l1_1.length c1_1] rfl qy0 ?_; (with_reducible refine (laws_eqTupleS.calls k _ _ l0_1 _ _ l1_1 true _ (qc (Kd.C_below HR0_1.out HB.out)) HC0_1.out (qc (Kd.C_below HR1_1.out HB.out)) HC1_1.out A4.out).mono ?_); rintro e w11 ⟨rfl,hb⟩; refine ⟨_,rfl, ?_⟩; replace BK442 := y0.mk (qK BK442.out hb); replace BK443 := y0.mk (qK BK443.out hb); replace HB := y0.mk (y6 qb hb); (try clear hb); (try clear hb2); (try clear hk); (try clear hi)))
   go_ret
   exact ⟨by first | rfl | (simp [y13,y14] <;> rfl) | (simp [*,y13,y14] <;> rfl),qb⟩
  ·replace c5 := Bool.eq_false_iff.mpr c5
   subst c5
   replace H := qF H
   obtain rfl := Option.some.inj H
   go_enter Tryz.func14,Tryz.ntmps14
   go_wp2_with (first | ((with_reducible refine y16 (N := 2) rfl ?_); refine qe 2 #[.int .i64 a0_0,.slice A0_1 l0_1.length c0_1] 32 ?_; intro gb442 hg w12 hbox hb; have BK442 := y0.mk (hbox); have GW442 := y0.mk (qg (w := w) hg); have GE442 := y0.mk (qg (w := w) hg); replace HB := y0.mk (y6 qb hb); clear hb hbox hg) | ((with_reducible refine y16 (N := 3) rfl ?_); refine qe 3 #[.int .i64 a1_0,.slice A1_1 l1_1.length c1_1] 32 ?_; intro gb443 hg w13 hbox hb; have BK443 := y0.mk (hbox); have GW443 := y0.mk (qg (w := w) hg); have GE443 := y0.mk (qg (w := w) hg); replace HB := y0.mk (y6 qb hb); have NB442_443 := y0.mk (qn BK442.out hg); have NB443_442 := y0.mk (qm BK442.out hg); replace BK442 := y0.mk (qK BK442.out hb); clear hb hbox hg; have hnb14 := NB442_443.out; have hnc14 := NB443_442.out; obtain ⟨hcz15_0,hcz15_1,hfz15_0,hfz15_1⟩ := qz2 BK442.out; obtain ⟨hcz16_0,hcz16_1,hfz16_0,hfz16_1⟩ := qz2 BK443.out) | ((with_reducible refine y15 (f := 47) rfl ?_); refine y17 (some 14) rfl rfl Tryz.func47 (by kernel_rfl) rfl #[.slice A0_1 l0_1.length c0_1,.slice A1_1 l1_1.length c1_1] rfl qy0 ?_; (with_reducible refine (laws_eqTupleS.calls k _ _ l0_1 _ _ l1_1 false _ (qc (Kd.C_below HR0_1.out HB.out)) HC0_1.out (qc (Kd.C_below HR1_1.out HB.out)) HC1_1.out A4.out).mono ?_); rintro e w17 ⟨rfl,hb⟩; refine ⟨_,rfl, ?_⟩; replace BK442 := y0.mk (qK BK442.out hb); replace BK443 := y0.mk (qK BK443.out hb); replace HB := y0.mk (y6 qb hb); (try clear hb); (try clear hb2); (try clear hk); (try clear hi)))
   go_ret
   exact ⟨by first | rfl | (simp [y13,y14] <;> rfl) | (simp [*,y13,y14] <;> rfl),qb⟩
 ·rw [if_neg c3] at H
  have c3b0 : (a0_0 == a1_0) = false := beq_eq_false_iff_ne.mpr c3
  have c3b1 : (a0_0 != a1_0) = true := bne_iff_ne.mpr c3
  obtain rfl := Option.some.inj H
  go_enter Tryz.func14,Tryz.ntmps14
  go_wp2_with (first | ((with_reducible refine y16 (N := 2) rfl ?_); refine qe 2 #[.int .i64 a0_0,.slice A0_1 l0_1.length c0_1] 32 ?_; intro gb442 hg w18 hbox hb; have BK442 := y0.mk (hbox); have GW442 := y0.mk (qg (w := w) hg); have GE442 := y0.mk (qg (w := w) hg); replace HB := y0.mk (y6 qb hb); clear hb hbox hg) | ((with_reducible refine y16 (N := 3) rfl ?_); refine qe 3 #[.int .i64 a1_0,.slice A1_1 l1_1.length c1_1] 32 ?_; intro gb443 hg w19 hbox hb; have BK443 := y0.mk (hbox); have GW443 := y0.mk (qg (w := w) hg); have GE443 := y0.mk (qg (w := w) hg); replace HB := y0.mk (y6 qb hb); have NB442_443 := y0.mk (qn BK442.out hg); have NB443_442 := y0.mk (qm BK442.out hg); replace BK442 := y0.mk (qK BK442.out hb); clear hb hbox hg; have hnb20 := NB442_443.out; have hnc20 := NB443_442.out; obtain ⟨hcz21_0,hcz21_1,hfz21_0,hfz21_1⟩ := qz2 BK442.out; obtain ⟨hcz22_0,hcz22_1,hfz22_0,hfz22_1⟩ := qz2 BK443.out))
  go_ret
  exact ⟨by first | rfl | (simp [y13,y14] <;> rfl) | (simp [*,y13,y14] <;> rfl),qb⟩
end Go.Proofs.YtkajecadkkgfmaaGreatDoor.Pe
end

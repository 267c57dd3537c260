-- Cut by prune.py, a program of this session, out of the texts of this claim: Lean checks it.
import Derived.Test.YtebadckdihgklaaDoorProg
import Derived.Below
import Derived.Deep.Draws
import Derived.Deep.AppendLies
import Derived.Maps.AppendAt
import Derived.OwnWalk
import Derived.Laws.BytesArg
import Derived.Laws.MakeOwn
import Derived.Laws.OwnMore
import Derived.Deep.OwnRows
import Derived.Tactics
import Derived.Lib.ConvBytes
import Derived.Laws.Slices
import Derived.WalkKit
import Derived.KernelRfl
import Derived.RowKit3
import Derived.Deep.LoopGhost
import Derived.Deep.QuietTactic
import Derived.BigQuiet
import Derived.WideLaws
import Derived.Deep.DeepCutAuto
import Derived.Deep.CutBlock
import Derived.Deep.RegionHeld3
import Derived.Laws.Rows
import Derived.Lib.AppendStr
import Derived.ArgAppend
import Derived.Laws.IdiomCopy
import Derived.OrdersHeld
import Derived.Laws.BitsLemmas
import Derived.RowKit
import Derived.Test.YtebadckdihgklaaDoorVoaWWords
import Derived.Test.YtebadckdihgklaaDoorVoaWLast
import Derived.Test.YtebadckdihgklaaDoorVoaWTab
import Derived.Test.YtebadckdihgklaaDoorVoaWApart
import Derived.Test.YtebadckdihgklaaDoorVoaWFoot
import Derived.Test.YtebadckdihgklaaDoorVoaWKept
import Derived.Test.YtebadckdihgklaaDoorVoaWShare
import Derived.Test.YtebadckdihgklaaDoorVoaWN
import Derived.Laws.StructEq
import Derived.Test.YtebadckdihgklaaDoorVoaWRepsOne
import Derived.Test.YtebadckdihgklaaDoorVoaWInv
import Derived.Test.YtebadckdihgklaaDoorVoaWMore
import Derived.Test.YtebadckdihgklaaDoorVoaShelf
import Derived.Lib.LaidTab
import Derived.WalkSmall
import Derived.Test.YtebadckdihgklaaDoorVoaQRead
section
namespace Go.Proofs.YtebadckdihgklaaDoor.Pb
open Go.RowKit Go.Proofs.YtebadckdihgklaaDoorW.PrintWords Go.Proofs.YtebadckdihgklaaDoorW.PrintLast Go.Proofs.YtebadckdihgklaaDoorW.PrintMore
attribute [local go_sem] max2_int min2_int max_two min_two max_three min_three max_four min_four   -- for this text's walks alone
set_option linter.unusedVariables false
set_option linter.unusedSimpArgs false
def errW : Option Int → Value
 | none => .nilIface
 | some c => .iface 0 (.int .i64 c)
theorem y9 : errW none = .nilIface := rfl
theorem y10 (c : Int) : errW (some c) = .iface 0 (.int .i64 c) := rfl
theorem info5 : (Tryd.prog.info? 5).map (fun i => (i.zero,i.size,i.bytes)) = some (some (.int .u8 0),1,1) := by kernel_rfl
theorem info9 : (Tryd.prog.info? 9).map (fun i => (i.zero,i.size,i.bytes)) = some (some (.string ⟨#[]⟩),1,16) := by kernel_rfl
structure S54 where
 f0 : Int
 f1 : ByteArray
 f2 : Int
structure S33 where
 f0 : (List ByteArray)
structure S36 where
 f0 : (List ByteArray)
structure S65 where
 f0 : Int
 f1 : (List S33)
/-- What the library's package-level variables hold: carried by every walk that comes to them. -/
structure Tb (w : World) : Prop where
 pow : Lib.TabIs Tryd.prog w "internal/strconv.uint64pow10" .u64 Lib.pow10Tab
 es : ∃ ev,w.cell? ⟨1,0,none⟩ = some ev ∧ (ev = .nilIface ∨ ∃ te pe,ev = .iface te pe)
 er : ∃ ev,w.cell? ⟨2,0,none⟩ = some ev ∧ (ev = .nilIface ∨ ∃ te pe,ev = .iface te pe)
 ml : ∃ m,w.cell? ⟨3,0,none⟩ = some (.int .i64 m)
theorem gPow : Tryd.prog.globalNamed "internal/strconv.uint64pow10" = some 0 := by kernel_rfl
theorem var_block {P : Program} {w : World} {n : String} {cs : Array Value} {g : Nat} (hg : P.globalNamed n = some g) (h : w.var? P n = some cs) : g < w.heap.size := by
 unfold World.var? at h
 rw [hg] at h
 simp only [Option.bind_some] at h
 split at h
 ·rename_i hh
  exact (Array.getElem?_eq_some_iff.1 hh).1
 ·cases h
theorem Tb.below {w w' : World} (h : Tb w) (hb : Below w.heap.size w w') : Tb w' := by
 constructor
 ·exact var?_below hb gPow (var_block gPow h.pow) h.pow
 ·obtain ⟨ev,h1,h2⟩ := h.es; exact ⟨ev,pw_cell_below hb h1,h2⟩
 ·obtain ⟨ev,h1,h2⟩ := h.er; exact ⟨ev,pw_cell_below hb h1,h2⟩
 ·obtain ⟨m,h1⟩ := h.ml; exact ⟨m,pw_cell_below hb h1⟩
theorem Tb.drawn {w w' : World} (h : Tb w) (hd : y1 w w') : Tb w' := h.below hd.below
end Go.Proofs.YtebadckdihgklaaDoor.Pb
end
section
namespace Go.Proofs.YtebadckdihgklaaDoor.Pb
open Go.RowKit Go.Proofs.YtebadckdihgklaaDoorW.PrintWords Go.Proofs.YtebadckdihgklaaDoorW.PrintLast Go.Proofs.YtebadckdihgklaaDoorW.PrintMore
attribute [local go_sem] max2_int min2_int max_two min_two max_three min_three max_four min_four   -- for this text's walks alone
set_option linter.unusedVariables false
set_option linter.unusedSimpArgs false
def spec_NumText.l0 : Nat → Int → List Int → Int → Option (ByteArray)
 | 0,_,_,_ => none
 | k + 1,x0,x3,x4 => if x4 = 0 then (if x0 < 0 then ((some (([45] : List Int) : List Int)).bind fun y104 => (if y104.length + x3.length < 140737488355328 then (some (strOfNums (y104 ++ x3))) else (none))) else (some (strOfNums x3))) else (if (Int.tmod x4 10) < 0 then ((some (([(wrap64 (48 + (wrap64 (-(Int.tmod x4 10))))) % 256] : List Int) : List Int)).bind fun y110 => (if y110.length + x3.length < 140737488355328 then (spec_NumText.l0 k x0 (y110 ++ x3) (wrap64 (Int.tdiv x4 10))) else (none))) else ((some (([(wrap64 (48 + (Int.tmod x4 10))) % 256] : List Int) : List Int)).bind fun y116 => (if y116.length + x3.length < 140737488355328 then (spec_NumText.l0 k x0 (y116 ++ x3) (wrap64 (Int.tdiv x4 10))) else (none))))
def spec_NumText.f (k : Nat) (a0 : Int) : Option (ByteArray) := if a0 = 0 then (some (⟨#[48]⟩ : ByteArray)) else (spec_NumText.l0 k a0 (([] : List Int)) a0)
set_option maxHeartbeats 8000000 in
set_option maxRecDepth 100000 in
theorem spec_NumText.calls (k : Nat) (a0 : Int) (r : ByteArray) (w : World) (h : spec_NumText.f k a0 = some r) :
  Calls Tryd.prog 20 #[.int .i64 a0] w fun e w' => e = .returned (.string r) ∧ Below w.heap.size w w' := by
 have HB := y0.mk (Below.refl w.heap.size w)
 have H : (if a0 = 0 then (some (⟨#[48]⟩ : ByteArray)) else (spec_NumText.l0 k a0 (([] : List Int)) a0)) = some r := h
 clear h
 by_cases c2 : a0 = 0
 ·rw [if_pos c2] at H
  have c2b0 : (a0 == 0) = true := beq_iff_eq.mpr c2
  have c2b1 : (a0 != 0) = false := bne_eq_false_iff_eq.mpr c2
  clear c2
  obtain rfl := Option.some.inj H
  go_enter Tryd.func20,Tryd.ntmps20
  go_wp2
  go_ret
  exact ⟨by first | rfl | (simp [y9,y10] <;> rfl) | (simp [*,y9,y10] <;> rfl),by repeat (first | (with_reducible first | exact HB.out | apply y5 | apply y18 | apply y6) | exact HB.out)⟩
 ·rw [if_neg c2] at H
  have c2b0 : (a0 == 0) = false := beq_eq_false_iff_ne.mpr c2
  have c2b1 : (a0 != 0) = true := bne_iff_ne.mpr c2
  obtain ⟨y101,hy101⟩ : ∃ y_ : List Int,y_ = (([] : List Int)) := ⟨_,rfl⟩
  replace H : (spec_NumText.l0 k a0 y101 a0) = some r := by first | (rw [hy101]; with_reducible exact H) | (have H2_ := (Option.bind_some _ _).symm.trans H; rw [hy101]; with_reducible exact H2_) | (have H2_ := (Option.bind_some _ _).symm.trans H; with_reducible exact H2_) | with_reducible exact H | (rw [hy101]; exact H) | exact H
  have Ny101 := y0.mk hy101
  clear hy101
  have H' := y0.mk H
  clear H
  go_enter Tryd.func20,Tryd.ntmps20
  go_wp2_with (first | ((with_reducible refine gate_dst (N := 8) rfl ?_); refine Kd.R_lit (Kd.int .u8) _ 5 ?hg (N := 8) ?hd (xs := ([] : List Int)) (inner := []) (ok := fun _ => True) (okp := fun _ => True) ?hr ?hp (fun _ hk => hk) trivial (Below.refl _ _) (Nat.le_refl _) (by simp) ?_; (case hd => rfl); (case hg => rfl); (case hr => first | (go_simp; done) | (go_simp; rfl)); (case hp => exact (Reps.none _ _)); intro v102 w3 ho4 hb hg_ hnew_; clear hg_ hnew_; (first | rw [← Ny101.out] at ho4 | (simp only [Int.reduceToNat] at ho4; rw [← Ny101.out] at ho4)); have n0_ := y0.mk (Kd.R_lower ho4 (below_size (by repeat (first | (with_reducible first | exact HB.out | apply y5 | apply y18 | apply y6) | exact HB.out)))); have n1_ := y0.mk (y8 (by repeat (first | (with_reducible first | exact HB.out | apply y5 | apply y18 | apply y6) | exact HB.out)) hb); clear HB; have HO103 := n0_; have HB := n1_; clear n0_ n1_; clear hb ho4))
  go_loopg [3,4] k (fun kq v3 v4 w' => ∃ (x3_1 : List Int) (x4_1 : Int),v4 = .int .i64 x4_1 ∧ y0 (spec_NumText.l0 kq a0 x3_1 x4_1 = some r) ∧ y0 (kq ≤ k) ∧ y0 (Kd.R (Kd.int .u8) 5 w' w.heap.size (fun _ => True) v3 x3_1) ∧ y0 (Below w.heap.size w w'))
  case atStart => exact ⟨(y101),(a0),(by first | rfl | (simp; done) | (simp [*]; done)),H',⟨Nat.le_refl _⟩,⟨by (with_reducible repeat (first | apply Kd.R_alloc | apply Kd.R_drewN | apply Kd.R_drew)); exact HO103.out⟩,⟨by repeat (first | (with_reducible first | exact HB.out | apply y5 | apply y18 | apply y6) | exact HB.out)⟩⟩
  case round =>
   clear H'
   try clear c2
   try clear c2b0
   try clear c2b1
   try clear p2
   obtain ⟨x3_1,x4_1,rfl,HA,HK1,HO_3,HB⟩ := hrel
   cases gk with
   | zero => exact absurd HA.out (by simp [spec_NumText.l0])
   | succ k1 =>
    have H := HA.out
    clear HA
    simp only [spec_NumText.l0] at H
    by_cases c5 : x4_1 = 0
    ·rw [if_pos c5] at H
     have c5b0 : (x4_1 == 0) = true := beq_iff_eq.mpr c5
     have c5b1 : (x4_1 != 0) = false := bne_eq_false_iff_eq.mpr c5
     clear c5
     by_cases c6 : a0 < 0
     ·rw [if_pos c6] at H
      have c6b0 : decide (a0 < 0) = true := decide_eq_true c6
      clear c6
      obtain ⟨y104,hy104⟩ : ∃ y_ : List Int,y_ = (([45] : List Int)) := ⟨_,rfl⟩
      replace H : (if y104.length + x3_1.length < 140737488355328 then (some (strOfNums (y104 ++ x3_1))) else (none)) = some r := by first | (rw [hy104]; with_reducible exact H) | (have H2_ := (Option.bind_some _ _).symm.trans H; rw [hy104]; with_reducible exact H2_) | (have H2_ := (Option.bind_some _ _).symm.trans H; with_reducible exact H2_) | with_reducible exact H | (rw [hy104]; exact H) | exact H
      have Ny104 := y0.mk hy104
      clear hy104
      by_cases c7 : y104.length + x3_1.length < 140737488355328
      ·rw [if_pos c7] at H
       have LMc7 := y0.mk c7
       clear c7
       obtain ⟨y107,hy107⟩ : ∃ y_ : List Int,y_ = (y104 ++ x3_1) := ⟨_,rfl⟩
       replace H : (some (strOfNums y107)) = some r := by first | (rw [hy107]; with_reducible exact H) | (have H2_ := (Option.bind_some _ _).symm.trans H; rw [hy107]; with_reducible exact H2_) | (have H2_ := (Option.bind_some _ _).symm.trans H; with_reducible exact H2_) | with_reducible exact H | (rw [hy107]; exact H) | exact H
       have Ny107 := y0.mk hy107
       clear hy107
       obtain rfl := Option.some.inj H
       go_wp2_with (first | ((with_reducible refine gate_dst (N := 28) rfl ?_); refine Kd.R_lit (Kd.int .u8) _ 5 ?hg (N := 28) ?hd (xs := ([45] : List Int)) (inner := [.int .u8 45]) (ok := fun _ => True) (okp := fun _ => True) ?hr ?hp (fun _ hk => hk) trivial (Below.refl _ _) (Nat.le_refl _) (by simp) ?_; (case hd => rfl); (case hg => rfl); (case hr => first | (go_simp; done) | (go_simp; rfl)); (case hp => exact (Reps.one (show Kd.M (Kd.int .u8) _ _ _ 45 [.int .u8 45] from rfl) (Reps.none _ _))); intro v105 w8 ho9 hb hg_ hnew_; clear hg_ hnew_; (first | rw [← Ny104.out] at ho9 | (simp only [Int.reduceToNat] at ho9; rw [← Ny104.out] at ho9)); have n0_ := y0.mk (Kd.R_elder' (by (with_reducible repeat (first | apply Kd.R_alloc | apply Kd.R_drewN | apply Kd.R_drew)); exact HO_3.out) (Kd.R_base ho9) hb); have n1_ := y0.mk (Kd.R_lower (Kd.R_new' ho9 (Kd.R_lt (by (with_reducible repeat (first | apply Kd.R_alloc | apply Kd.R_drewN | apply Kd.R_drew)); exact HO_3.out))) (below_size (by repeat (first | (with_reducible first | exact HB.out | apply y5 | apply y18 | apply y6) | exact HB.out)))); have n2_ := y0.mk (y8 (by repeat (first | (with_reducible first | exact HB.out | apply y5 | apply y18 | apply y6) | exact HB.out)) hb); clear HO_3; clear HB; have HO_3 := n0_; have HO106 := n1_; have HB := n2_; clear n0_ n1_ n2_; clear hb ho9; obtain ⟨Ao11,co11,eo11⟩ := Kd.R_slice HO_3.out; subst eo11) | ((with_reducible refine gate_builtin (b := .append) (xs := #[.tmp 28,.tmp 29]) rfl ?_); at_builtin; refine Kd.R_append_rows (Kd.int .u8) (w0 := w) w.heap.size rfl (.tmp 28) (.tmp 29) 24 5 (.int .u8 0) 1 rfl Tryd.underlying24 info5 rfl (by decide) (by omega) v105 y104 x3_1 _ _ _ (fun k_ => some k_ ≠ (.slice Ao11 x3_1.length co11 : Value).ownBlock) (fun _ => False) rfl rfl ?aO ?aR (fun _ _ h => h) (fun _ h => h.elim) ?aF ?aB ?aS ?aL ?_; (case aR => repeat (first | exact (Kd.R_reads' HO_3.out).2.2 | (with_reducible refine Kd.C_alloc ?_ _) | (with_reducible refine Kd.C_drewN ?_ _) | (with_reducible refine Kd.C_drew ?_))); (case aB => exact (by repeat (first | (with_reducible first | exact HB.out | apply y5 | apply y18 | apply y6) | exact HB.out))); (case aF => exact (fun k_ hk => Kd.fresh' (Kd.R_lt (by (with_reducible repeat (first | apply Kd.R_alloc | apply Kd.R_drewN | apply Kd.R_drew)); exact HO_3.out)) k_ hk)); (case aO => exact (by (with_reducible repeat (first | apply Kd.R_alloc | apply Kd.R_drewN | apply Kd.R_drew)); exact Kd.R_mono HO106.out (fun _ hk => hk.2))); (case aS => exact (below_size (by repeat (first | (with_reducible first | exact HB.out | apply y5 | apply y18 | apply y6) | exact HB.out)))); (case aL => have := LMc7.out; omega); intro v108 w10 ho hb hg hat; rw [← Ny107.out] at ho; have n0_ := y0.mk (Kd.R_after (ok := (fun _ => True)) (by (with_reducible repeat (first | apply Kd.R_alloc | apply Kd.R_drewN | apply Kd.R_drew)); exact HO_3.out) hg hat); have n1_ := y0.mk (hb); have n2_ := y0.mk (ho); clear HO_3; clear HB; clear HO106; have HO_3 := n0_; have HB := n1_; have HO109 := n2_; clear n0_ n1_ n2_; clear ho hb hg hat; have hcv12 := own_string (P := Tryd.prog) Tryd.underlying24 Tryd.underlying5 Tryd.underlying9 (Kd.own_of_R HO109.out)))
       go_ret
       exact ⟨by first | rfl | (simp [y9,y10] <;> rfl) | (simp [*,y9,y10] <;> rfl),by repeat (first | (with_reducible first | exact HB.out | apply y5 | apply y18 | apply y6) | exact HB.out)⟩
      ·rw [if_neg c7] at H
       exact absurd H (by simp)
     ·rw [if_neg c6] at H
      have c6b0 : decide (a0 < 0) = false := decide_eq_false c6
      clear c6
      obtain rfl := Option.some.inj H
      have hcv13 := own_string (P := Tryd.prog) Tryd.underlying24 Tryd.underlying5 Tryd.underlying9 (Kd.own_of_R HO_3.out)
      go_wp2
      go_ret
      exact ⟨by first | rfl | (simp [y9,y10] <;> rfl) | (simp [*,y9,y10] <;> rfl),by repeat (first | (with_reducible first | exact HB.out | apply y5 | apply y18 | apply y6) | exact HB.out)⟩
    ·rw [if_neg c5] at H
     have c5b0 : (x4_1 == 0) = false := beq_eq_false_iff_ne.mpr c5
     have c5b1 : (x4_1 != 0) = true := bne_iff_ne.mpr c5
     by_cases c14 : (Int.tmod x4_1 10) < 0
     ·rw [if_pos c14] at H
      have c14b0 : decide ((Int.tmod x4_1 10) < 0) = true := decide_eq_true c14
      clear c14
      obtain ⟨y110,hy110⟩ : ∃ y_ : List Int,y_ = (([(wrap64 (48 + (wrap64 (-(Int.tmod x4_1 10))))) % 256] : List Int)) := ⟨_,rfl⟩
      replace H : (if y110.length + x3_1.length < 140737488355328 then (spec_NumText.l0 k1 a0 (y110 ++ x3_1) (wrap64 (Int.tdiv x4_1 10))) else (none)) = some r := by first | (rw [hy110]; with_reducible exact H) | (have H2_ := (Option.bind_some _ _).symm.trans H; rw [hy110]; with_reducible exact H2_) | (have H2_ := (Option.bind_some _ _).symm.trans H; with_reducible exact H2_) | with_reducible exact H | (rw [hy110]; exact H) | exact H
      have Ny110 := y0.mk hy110
      clear hy110
      by_cases c15 : y110.length + x3_1.length < 140737488355328
      ·rw [if_pos c15] at H
       have LMc15 := y0.mk c15
       clear c15
       obtain ⟨y113,hy113⟩ : ∃ y_ : List Int,y_ = (y110 ++ x3_1) := ⟨_,rfl⟩
       replace H : (spec_NumText.l0 k1 a0 y113 (wrap64 (Int.tdiv x4_1 10))) = some r := by first | (rw [hy113]; with_reducible exact H) | (have H2_ := (Option.bind_some _ _).symm.trans H; rw [hy113]; with_reducible exact H2_) | (have H2_ := (Option.bind_some _ _).symm.trans H; with_reducible exact H2_) | with_reducible exact H | (rw [hy113]; exact H) | exact H
       have Ny113 := y0.mk hy113
       clear hy113
       have H' := y0.mk H
       clear H
       go_wp2_with (first | ((with_reducible refine gate_dst (N := 23) rfl ?_); refine Kd.R_lit (Kd.int .u8) _ 5 ?hg (N := 23) ?hd (xs := ([(wrap64 (48 + (wrap64 (-(Int.tmod x4_1 10))))) % 256] : List Int)) (inner := [.int .u8 ((wrap64 (48 + (wrap64 (-(Int.tmod x4_1 10))))) % 256)]) (ok := fun _ => True) (okp := fun _ => True) ?hr ?hp (fun _ hk => hk) trivial (Below.refl _ _) (Nat.le_refl _) (by simp) ?_; (case hd => rfl); (case hg => rfl); (case hr => first | (go_simp; done) | (go_simp; rfl)); (case hp => exact (Reps.one (show Kd.M (Kd.int .u8) _ _ _ ((wrap64 (48 + (wrap64 (-(Int.tmod x4_1 10))))) % 256) [.int .u8 ((wrap64 (48 + (wrap64 (-(Int.tmod x4_1 10))))) % 256)] from rfl) (Reps.none _ _))); intro v111 w16 ho17 hb hg_ hnew_; clear hg_ hnew_; (first | rw [← Ny110.out] at ho17 | (simp only [Int.reduceToNat] at ho17; rw [← Ny110.out] at ho17)); have n0_ := y0.mk (Kd.R_elder' (by (with_reducible repeat (first | apply Kd.R_alloc | apply Kd.R_drewN | apply Kd.R_drew)); exact HO_3.out) (Kd.R_base ho17) hb); have n1_ := y0.mk (Kd.R_lower (Kd.R_new' ho17 (Kd.R_lt (by (with_reducible repeat (first | apply Kd.R_alloc | apply Kd.R_drewN | apply Kd.R_drew)); exact HO_3.out))) (below_size (by repeat (first | (with_reducible first | exact HB.out | apply y5 | apply y18 | apply y6) | exact HB.out)))); have n2_ := y0.mk (y8 (by repeat (first | (with_reducible first | exact HB.out | apply y5 | apply y18 | apply y6) | exact HB.out)) hb); clear HO_3; clear HB; have HO_3 := n0_; have HO112 := n1_; have HB := n2_; clear n0_ n1_ n2_; clear hb ho17; obtain ⟨Ao19,co19,eo19⟩ := Kd.R_slice HO_3.out; subst eo19) | ((with_reducible refine gate_builtin (b := .append) (xs := #[.tmp 23,.tmp 24]) rfl ?_); at_builtin; refine Kd.R_append_rows (Kd.int .u8) (w0 := w) w.heap.size rfl (.tmp 23) (.tmp 24) 24 5 (.int .u8 0) 1 rfl Tryd.underlying24 info5 rfl (by decide) (by omega) v111 y110 x3_1 _ _ _ (fun k_ => some k_ ≠ (.slice Ao19 x3_1.length co19 : Value).ownBlock) (fun _ => False) rfl rfl ?aO ?aR (fun _ _ h => h) (fun _ h => h.elim) ?aF ?aB ?aS ?aL ?_; (case aR => repeat (first | exact (Kd.R_reads' HO_3.out).2.2 | (with_reducible refine Kd.C_alloc ?_ _) | (with_reducible refine Kd.C_drewN ?_ _) | (with_reducible refine Kd.C_drew ?_))); (case aB => exact (by repeat (first | (with_reducible first | exact HB.out | apply y5 | apply y18 | apply y6) | exact HB.out))); (case aF => exact (fun k_ hk => Kd.fresh' (Kd.R_lt (by (with_reducible repeat (first | apply Kd.R_alloc | apply Kd.R_drewN | apply Kd.R_drew)); exact HO_3.out)) k_ hk)); (case aO => exact (by (with_reducible repeat (first | apply Kd.R_alloc | apply Kd.R_drewN | apply Kd.R_drew)); exact Kd.R_mono HO112.out (fun _ hk => hk.2))); (case aS => exact (below_size (by repeat (first | (with_reducible first | exact HB.out | apply y5 | apply y18 | apply y6) | exact HB.out)))); (case aL => have := LMc15.out; omega); intro v114 w18 ho hb hg hat; rw [← Ny113.out] at ho; have n0_ := y0.mk (Kd.R_after (ok := (fun _ => True)) (by (with_reducible repeat (first | apply Kd.R_alloc | apply Kd.R_drewN | apply Kd.R_drew)); exact HO_3.out) hg hat); have n1_ := y0.mk (hb); have n2_ := y0.mk (ho); clear HO_3; clear HB; clear HO112; have HO_3 := n0_; have HB := n1_; have HO115 := n2_; clear n0_ n1_ n2_; clear ho hb hg hat))
       go_roundg k1
       case measure => have := HK1.out; omega
       case rel => exact ⟨(y113),(wrap64 (Int.tdiv x4_1 10)),(by first | rfl | (simp; done) | (simp [*]; done)),H',⟨by have := HK1.out; omega⟩,⟨by (with_reducible repeat (first | apply Kd.R_alloc | apply Kd.R_drewN | apply Kd.R_drew)); exact Kd.R_mono HO115.out (fun _ hk => trivial)⟩,⟨by repeat (first | (with_reducible first | exact HB.out | apply y5 | apply y18 | apply y6) | exact HB.out)⟩⟩
      ·rw [if_neg c15] at H
       exact absurd H (by simp)
     ·rw [if_neg c14] at H
      have c14b0 : decide ((Int.tmod x4_1 10) < 0) = false := decide_eq_false c14
      clear c14
      obtain ⟨y116,hy116⟩ : ∃ y_ : List Int,y_ = (([(wrap64 (48 + (Int.tmod x4_1 10))) % 256] : List Int)) := ⟨_,rfl⟩
      replace H : (if y116.length + x3_1.length < 140737488355328 then (spec_NumText.l0 k1 a0 (y116 ++ x3_1) (wrap64 (Int.tdiv x4_1 10))) else (none)) = some r := by first | (rw [hy116]; with_reducible exact H) | (have H2_ := (Option.bind_some _ _).symm.trans H; rw [hy116]; with_reducible exact H2_) | (have H2_ := (Option.bind_some _ _).symm.trans H; with_reducible exact H2_) | with_reducible exact H | (rw [hy116]; exact H) | exact H
      have Ny116 := y0.mk hy116
      clear hy116
      by_cases c20 : y116.length + x3_1.length < 140737488355328
      ·rw [if_pos c20] at H
       have LMc20 := y0.mk c20
       clear c20
       obtain ⟨y119,hy119⟩ : ∃ y_ : List Int,y_ = (y116 ++ x3_1) := ⟨_,rfl⟩
       replace H : (spec_NumText.l0 k1 a0 y119 (wrap64 (Int.tdiv x4_1 10))) = some r := by first | (rw [hy119]; with_reducible exact H) | (have H2_ := (Option.bind_some _ _).symm.trans H; rw [hy119]; with_reducible exact H2_) | (have H2_ := (Option.bind_some _ _).symm.trans H; with_reducible exact H2_) | with_reducible exact H | (rw [hy119]; exact H) | exact H
       have Ny119 := y0.mk hy119
       clear hy119
       have H' := y0.mk H
       clear H
       go_wp2_with (first | ((with_reducible refine gate_dst (N := 23) rfl ?_); refine Kd.R_lit (Kd.int .u8) _ 5 ?hg (N := 23) ?hd (xs := ([(wrap64 (48 + (Int.tmod x4_1 10))) % 256] : List Int)) (inner := [.int .u8 ((wrap64 (48 + (Int.tmod x4_1 10))) % 256)]) (ok := fun _ => True) (okp := fun _ => True) ?hr ?hp (fun _ hk => hk) trivial (Below.refl _ _) (Nat.le_refl _) (by simp) ?_; (case hd => rfl); (case hg => rfl); (case hr => first | (go_simp; done) | (go_simp; rfl)); (case hp => exact (Reps.one (show Kd.M (Kd.int .u8) _ _ _ ((wrap64 (48 + (Int.tmod x4_1 10))) % 256) [.int .u8 ((wrap64 (48 + (Int.tmod x4_1 10))) % 256)] from rfl) (Reps.none _ _))); intro v117 w21 ho22 hb hg_ hnew_; clear hg_ hnew_; (first | rw [← Ny116.out] at ho22 | (simp only [Int.reduceToNat] at ho22; rw [← Ny116.out] at ho22)); have n0_ := y0.mk (Kd.R_elder' (by (with_reducible repeat (first | apply Kd.R_alloc | apply Kd.R_drewN | apply Kd.R_drew)); exact HO_3.out) (Kd.R_base ho22) hb); have n1_ := y0.mk (Kd.R_lower (Kd.R_new' ho22 (Kd.R_lt (by (with_reducible repeat (first | apply Kd.R_alloc | apply Kd.R_drewN | apply Kd.R_drew)); exact HO_3.out))) (below_size (by repeat (first | (with_reducible first | exact HB.out | apply y5 | apply y18 | apply y6) | exact HB.out)))); have n2_ := y0.mk (y8 (by repeat (first | (with_reducible first | exact HB.out | apply y5 | apply y18 | apply y6) | exact HB.out)) hb); clear HO_3; clear HB; have HO_3 := n0_; have HO118 := n1_; have HB := n2_; clear n0_ n1_ n2_; clear hb ho22; obtain ⟨Ao24,co24,eo24⟩ := Kd.R_slice HO_3.out; subst eo24) | ((with_reducible refine gate_builtin (b := .append) (xs := #[.tmp 23,.tmp 24]) rfl ?_); at_builtin; refine Kd.R_append_rows (Kd.int .u8) (w0 := w) w.heap.size rfl (.tmp 23) (.tmp 24) 24 5 (.int .u8 0) 1 rfl Tryd.underlying24 info5 rfl (by decide) (by omega) v117 y116 x3_1 _ _ _ (fun k_ => some k_ ≠ (.slice Ao24 x3_1.length co24 : Value).ownBlock) (fun _ => False) rfl rfl ?aO ?aR (fun _ _ h => h) (fun _ h => h.elim) ?aF ?aB ?aS ?aL ?_; (case aR => repeat (first | exact (Kd.R_reads' HO_3.out).2.2 | (with_reducible refine Kd.C_alloc ?_ _) | (with_reducible refine Kd.C_drewN ?_ _) | (with_reducible refine Kd.C_drew ?_))); (case aB => exact (by repeat (first | (with_reducible first | exact HB.out | apply y5 | apply y18 | apply y6) | exact HB.out))); (case aF => exact (fun k_ hk => Kd.fresh' (Kd.R_lt (by (with_reducible repeat (first | apply Kd.R_alloc | apply Kd.R_drewN | apply Kd.R_drew)); exact HO_3.out)) k_ hk)); (case aO => exact (by (with_reducible repeat (first | apply Kd.R_alloc | apply Kd.R_drewN | apply Kd.R_drew)); exact Kd.R_mono HO118.out (fun _ hk => hk.2))); (case aS => exact (below_size (by repeat (first | (with_reducible first | exact HB.out | apply y5 | apply y18 | apply y6) | exact HB.out)))); (case aL => have := LMc20.out; omega); intro v120 w23 ho hb hg hat; rw [← Ny119.out] at ho; have n0_ := y0.mk (Kd.R_after (ok := (fun _ => True)) (by (with_reducible repeat (first | apply Kd.R_alloc | apply Kd.R_drewN | apply Kd.R_drew)); exact HO_3.out) hg hat); have n1_ := y0.mk (hb); have n2_ := y0.mk (ho); clear HO_3; clear HB; clear HO118; have HO_3 := n0_; have HB := n1_; have HO121 := n2_; clear n0_ n1_ n2_; clear ho hb hg hat))
       go_roundg k1
       case measure => have := HK1.out; omega
       case rel => exact ⟨(y119),(wrap64 (Int.tdiv x4_1 10)),(by first | rfl | (simp; done) | (simp [*]; done)),H',⟨by have := HK1.out; omega⟩,⟨by (with_reducible repeat (first | apply Kd.R_alloc | apply Kd.R_drewN | apply Kd.R_drew)); exact Kd.R_mono HO121.out (fun _ hk => trivial)⟩,⟨by repeat (first | (with_reducible first | exact HB.out | apply y5 | apply y18 | apply y6) | exact HB.out)⟩⟩
      ·rw [if_neg c20] at H
       exact absurd H (by simp)
def strconv_Itoa.f (a0 : Int) : Option ByteArray := if -9223372036854775808 ≤ a0 then if a0 ≤ 9223372036854775807 then some ⟨(Lib.itoa a0).toArray⟩ else none else none
theorem strconv_Itoa.calls (a0 : Int) (r : ByteArray) (w : World) (hT : Tb w) (h : strconv_Itoa.f a0 = some r) :
  Calls Tryd.prog 65 #[.int .i64 a0] w fun e w' => e = .returned (.string r) ∧ Below w.heap.size w w' := by
 unfold strconv_Itoa.f at h
 by_cases h0 : -9223372036854775808 ≤ a0
 ·by_cases h1 : a0 ≤ 9223372036854775807
  ·rw [if_pos h0,if_pos h1] at h
   obtain rfl := Option.some.inj h
   refine (Tryd.strconv_Itoa a0 h0 h1 w hT.pow).mono ?_
   rintro e w' ⟨rfl,k,os,rfl⟩
   exact ⟨rfl,QRead.below_grow_drewN w k os⟩
  ·rw [if_pos h0,if_neg h1] at h
   cases h
 ·rw [if_neg h0] at h
  cases h
def spec_l01Between.f (a0 : Int) (a1 : Int) (a2 : Int) : Option (Bool) := if a0 ≥ a1 then (some (decide (a0 ≤ a2))) else (some false)
set_option maxHeartbeats 8000000 in
set_option maxRecDepth 100000 in
theorem spec_l01Between.calls (a0 : Int) (a1 : Int) (a2 : Int) (r : Bool) (w : World) (h : spec_l01Between.f a0 a1 a2 = some r) :
  Calls Tryd.prog 66 #[.int .i64 a0,.int .i64 a1,.int .i64 a2] w fun e w' => e = .returned (.bool r) ∧ y1 w w' := by
 have H : (if a0 ≥ a1 then (some (decide (a0 ≤ a2))) else (some false)) = some r := h
 clear h
 by_cases c4 : a0 ≥ a1
 ·rw [if_pos c4] at H
  have c4b0 : decide (a1 ≤ a0) = true := decide_eq_true c4
  clear c4
  obtain rfl := Option.some.inj H
  go_enter Tryd.func66,Tryd.ntmps66
  go_wp2
  go_ret
  exact ⟨by first | rfl | (simp; done) | (simp [*]; done),by repeat (first | exact y1.refl _ | apply y1.step)⟩
 ·rw [if_neg c4] at H
  have c4b0 : decide (a1 ≤ a0) = false := decide_eq_false c4
  clear c4
  obtain rfl := Option.some.inj H
  go_enter Tryd.func66,Tryd.ntmps66
  go_wp2
  go_ret
  exact ⟨by first | rfl | (simp; done) | (simp [*]; done),by repeat (first | exact y1.refl _ | apply y1.step)⟩
def impl_in.f (a0 : Int) (a1 : Int) (a2 : Int) : Option (Bool) := if a0 ≥ a1 then (some (decide (a0 ≤ a2))) else (some false)
set_option maxHeartbeats 8000000 in
set_option maxRecDepth 100000 in
theorem impl_in.calls (a0 : Int) (a1 : Int) (a2 : Int) (r : Bool) (w : World) (h : impl_in.f a0 a1 a2 = some r) :
  Calls Tryd.prog 67 #[.int .i64 a0,.int .i64 a1,.int .i64 a2] w fun e w' => e = .returned (.bool r) ∧ y1 w w' := by
 have H : (if a0 ≥ a1 then (some (decide (a0 ≤ a2))) else (some false)) = some r := h
 clear h
 by_cases c4 : a0 ≥ a1
 ·rw [if_pos c4] at H
  have c4b0 : decide (a1 ≤ a0) = true := decide_eq_true c4
  clear c4
  obtain rfl := Option.some.inj H
  go_enter Tryd.func67,Tryd.ntmps67
  go_wp2
  go_ret
  exact ⟨by first | rfl | (simp; done) | (simp [*]; done),by repeat (first | exact y1.refl _ | apply y1.step)⟩
 ·rw [if_neg c4] at H
  have c4b0 : decide (a1 ≤ a0) = false := decide_eq_false c4
  clear c4
  obtain rfl := Option.some.inj H
  go_enter Tryd.func67,Tryd.ntmps67
  go_wp2
  go_ret
  exact ⟨by first | rfl | (simp; done) | (simp [*]; done),by repeat (first | exact y1.refl _ | apply y1.step)⟩
def laws_big.f (l0 : List Int) : Option (Bool) := some (decide ((l0.length : Int) > 1048576))
set_option maxHeartbeats 8000000 in
set_option maxRecDepth 100000 in
theorem laws_big.calls (A0 : Option Addr) (c0 : Nat) (l0 : List Int) (r : Bool) (w : World) (hr0 : Kd.C (Kd.int .u8) w A0 l0.length l0) (hc0 : l0.length ≤ c0) (h : laws_big.f l0 = some r) :
  Calls Tryd.prog 24 #[.slice A0 l0.length c0] w fun e w' => e = .returned (.bool r) ∧ y1 w w' := by
 have HR0 := y0.mk hr0
 have HC0 := y0.mk hc0
 clear hr0 hc0
 have H : (some (decide ((l0.length : Int) > 1048576))) = some r := h
 clear h
 obtain rfl := Option.some.inj H
 go_enter Tryd.func24,Tryd.ntmps24
 go_wp2
 go_ret
 exact ⟨by first | rfl | (simp; done) | (simp [*]; done),by repeat (first | exact y1.refl _ | apply y1.step)⟩
/-- A state of type 92 at block g of W; what its slices lead to came in by w0. -/
def y2 (w0 W : World) (g : Nat) (f0 : List Int) (f1 : Int) (f2 : Int) : Prop := ∃ A0 c0,W.heap[g]? = some (.cells #[.slice A0 f0.length c0,.int .i64 f1,.int .i64 f2] 92 (0,0)) ∧ w0.heap.size ≤ g ∧ Kd.C (Kd.int .u8) w0 A0 f0.length f0
theorem y2.grown {w0 W : World} {g : Nat} {f0 : List Int} {f1 : Int} {f2 : Int} {W1 : World} {row : Option Nat} (h : y2 w0 W g f0 f1 f2) (hw : W.grownBy W1 row) (hne : some g ≠ row) : y2 w0 W1 g f0 f1 f2 := by
 obtain ⟨A0,c0,hb,hg,hr0⟩ := h
 exact ⟨A0,c0,blk_grown hb hw hne,hg,hr0⟩
theorem y2.kept {w0 W : World} {g : Nat} {f0 : List Int} {f1 : Int} {f2 : Int} {W1 : World} {S : Nat → Prop} (h : y2 w0 W g f0 f1 f2) (hk : Kept W W1 S) (hne : ¬ S g) : y2 w0 W1 g f0 f1 f2 := by
 obtain ⟨A0,c0,hb,hg,hr0⟩ := h
 exact ⟨A0,c0,blk_kept hb hk hne,hg,hr0⟩
theorem y2.below {w0 W : World} {g : Nat} {f0 : List Int} {f1 : Int} {f2 : Int} {W1 : World} (h : y2 w0 W g f0 f1 f2) (hw : Below W.heap.size W W1) : y2 w0 W1 g f0 f1 f2 := h.grown (grown_of_below hw none) (by simp)
theorem y2.alloc {w0 W : World} {g : Nat} {f0 : List Int} {f1 : Int} {f2 : Int} (h : y2 w0 W g f0 f1 f2) (o : Obj) : y2 w0 (W.alloc o) g f0 f1 f2 := h.below (y5 (Below.refl _ _) o)
theorem y2.drewN {w0 W : World} {g : Nat} {f0 : List Int} {f1 : Int} {f2 : Int} (h : y2 w0 W g f0 f1 f2) (m : Nat) : y2 w0 (W.drewN m) g f0 f1 f2 := h
theorem y2.drew {w0 W : World} {g : Nat} {f0 : List Int} {f1 : Int} {f2 : Int} (h : y2 w0 W g f0 f1 f2) : y2 w0 W.drew g f0 f1 f2 := h
theorem y2.at_ {w0 W : World} {g : Nat} {f0 : List Int} {f1 : Int} {f2 : Int} {w' : World} {m : Nat} (hq : W.drewN m = w') (h : y2 w0 W g f0 f1 f2) : y2 w0 w' g f0 f1 f2 := by subst hq; exact y2.drewN h m
theorem y2.apart {w0 W : World} {g : Nat} {f0 : List Int} {f1 : Int} {f2 : Int} {α : Type} {d : Kd α} {e : Nat} {base : Nat} {ok : Nat → Prop} {v : Value} {xs : List α} (h : y2 w0 W g f0 f1 f2) (ho : d.R e W base ok v xs) (ht : ∀ q,q ∈ e :: d.E → q ≠ 92) : d.R e W base (fun k => ok k ∧ k ≠ g) v xs := by
 obtain ⟨A0,c0,hb,hg,hr0⟩ := h
 exact Kd.R_types ho hb ht
theorem y2.own_ne {w0 W : World} {g : Nat} {f0 : List Int} {f1 : Int} {f2 : Int} {α : Type} {d : Kd α} {e : Nat} {base : Nat} {ok : Nat → Prop} {v : Value} {xs : List α} (h : y2 w0 W g f0 f1 f2) (ho : d.R e W base ok v xs) (ht : e ≠ 92) : some g ≠ v.ownBlock := by
 obtain ⟨A0,c0,hb,hg,hr0⟩ := h
 exact Kd.R_ne ho hb ht
theorem y2.ge {w0 W : World} {g : Nat} {f0 : List Int} {f1 : Int} {f2 : Int} (h : y2 w0 W g f0 f1 f2) : w0.heap.size ≤ g := by
 obtain ⟨A0,c0,hb,hg,hr0⟩ := h
 exact hg
theorem cellS92_0 {W : World} {g : Nat} {A0 : Option Addr} {c0 : Nat} {f0 : List Int} {f1 : Int} {f2 : Int} (h : W.heap[g]? = some (.cells #[.slice A0 f0.length c0,.int .i64 f1,.int .i64 f2] 92 (0,0))) : W.cell? ⟨g,0,none⟩ = some (.slice A0 f0.length c0) := (blk_cell h 0).trans rfl
theorem cellS92_1 {W : World} {g : Nat} {A0 : Option Addr} {c0 : Nat} {f0 : List Int} {f1 : Int} {f2 : Int} (h : W.heap[g]? = some (.cells #[.slice A0 f0.length c0,.int .i64 f1,.int .i64 f2] 92 (0,0))) : W.cell? ⟨g,1,none⟩ = some (.int .i64 f1) := (blk_cell h 1).trans rfl
theorem y2.set_1 {w0 W : World} {g : Nat} {f0 : List Int} {f1 : Int} {f2 : Int} (h : y2 w0 W g f0 f1 f2) (x : Int) : y2 w0 (W.setCell ⟨g,1,none⟩ (.int .i64 x)) g f0 x f2 := by
 obtain ⟨A0,c0,hb,hg,hr0⟩ := h
 exact ⟨A0,c0,by simpa using blk_set hb 1 (.int .i64 x),hg,hr0⟩
theorem cellS92_2 {W : World} {g : Nat} {A0 : Option Addr} {c0 : Nat} {f0 : List Int} {f1 : Int} {f2 : Int} (h : W.heap[g]? = some (.cells #[.slice A0 f0.length c0,.int .i64 f1,.int .i64 f2] 92 (0,0))) : W.cell? ⟨g,2,none⟩ = some (.int .i64 f2) := (blk_cell h 2).trans rfl
theorem y2.set_2 {w0 W : World} {g : Nat} {f0 : List Int} {f1 : Int} {f2 : Int} (h : y2 w0 W g f0 f1 f2) (x : Int) : y2 w0 (W.setCell ⟨g,2,none⟩ (.int .i64 x)) g f0 f1 x := by
 obtain ⟨A0,c0,hb,hg,hr0⟩ := h
 exact ⟨A0,c0,by simpa using blk_set hb 2 (.int .i64 x),hg,hr0⟩
def spec_l01Open.f (l0 : List Int) : Option (List Int × Int × Int) := some (l0,0,61 + ((l0.length : Int) % 1000))
set_option maxHeartbeats 8000000 in
set_option maxRecDepth 100000 in
theorem spec_l01Open.calls (A0 : Option Addr) (c0 : Nat) (l0 : List Int) (r1 : List Int) (r2 : Int) (r3 : Int) (w0 w : World) (hB : Below w0.heap.size w0 w) (hr0 : Kd.C (Kd.int .u8) w0 A0 l0.length l0) (hc0 : l0.length ≤ c0) (h : spec_l01Open.f l0 = some (r1,r2,r3)) :
  Calls Tryd.prog 68 #[.slice A0 l0.length c0] w fun e w' => ∃ g_ : Nat,e = .returned (.pointer (some ⟨g_,0,none⟩)) ∧ y2 w0 w' g_ r1 r2 r3 ∧ Below w0.heap.size w0 w' ∧ Below w.heap.size w w' := by
 have hu92 := Tryd.underlying92
 have HR0 := y0.mk hr0
 have HC0 := y0.mk hc0
 clear hr0 hc0
 have HBW := y0.mk (Below.refl w.heap.size w)
 have HW0 := y0.mk hB.size
 have HB := y0.mk hB
 clear hB
 have H : (some (l0,0,61 + ((l0.length : Int) % 1000))) = some (r1,r2,r3) := h
 clear h
 simp only [Option.some.injEq,Prod.mk.injEq] at H
 obtain ⟨rfl,rfl,rfl⟩ := H
 go_enter Tryd.func68,Tryd.ntmps68
 go_wp2_with (first | ((with_reducible refine gate_dst (N := 9) rfl ?_); refine box_event ?hg (N := 9) ?hd (cs := #[.slice A0 l0.length c0,.int .i64 0,.int .i64 (61 + ((l0.length : Int) % 1000))]) (t := 92) ?hr ?_; (case hd => rfl); (case hg => rfl); (case hr => first | (go_simp; done) | (go_simp; rfl)); intro gb131 hg w2 hbox hb; have n0_ := y0.mk (y8 HBW.out hb); have n1_ := y0.mk (y8 (by repeat (first | (with_reducible first | exact HB.out | apply y5 | apply y18 | apply y6) | exact HB.out)) hb); have n2_ := y0.mk (hbox); have n3_ := y0.mk ((by rw [hg]; exact (below_size (by repeat (first | (with_reducible first | exact HBW.out | apply y5 | apply y18 | apply y6) | exact HBW.out))) : w.heap.size ≤ gb131)); have n4_ := y0.mk ((Nat.le_trans HW0.out (by rw [hg]; exact (below_size (by repeat (first | (with_reducible first | exact HBW.out | apply y5 | apply y18 | apply y6) | exact HBW.out))) : w.heap.size ≤ gb131) : w0.heap.size ≤ gb131)); clear HBW; clear HB; have HBW := n0_; have HB := n1_; have BK131 := n2_; have GW131 := n3_; have GE131 := n4_; clear n0_ n1_ n2_ n3_ n4_; clear hb hbox hg))
 go_ret
 exact ⟨_,rfl,(show y2 w0 _ gb131 l0 0 (61 + ((l0.length : Int) % 1000)) from ⟨_,_,by (with_reducible repeat (first | refine blk_drewN ?_ _ | refine blk_drew ?_ | refine blk_alloc ?_ _)); exact BK131.out,GE131.out,HR0.out⟩),by repeat (first | (with_reducible first | exact HB.out | apply y5 | apply y18 | apply y6 | refine y7 ?_ GE131.out) | exact HB.out),by repeat (first | (with_reducible first | exact HBW.out | apply y5 | apply y18 | apply y6 | refine y7 ?_ GW131.out) | exact HBW.out)⟩
end Go.Proofs.YtebadckdihgklaaDoor.Pb
end
section
namespace Go.Proofs.YtebadckdihgklaaDoor.Pb
open Go.RowKit Go.Proofs.YtebadckdihgklaaDoorW.PrintWords Go.Proofs.YtebadckdihgklaaDoorW.PrintLast Go.Proofs.YtebadckdihgklaaDoorW.PrintMore
attribute [local go_sem] max2_int min2_int max_two min_two max_three min_three max_four min_four   -- for this text's walks alone
set_option linter.unusedVariables false
set_option linter.unusedSimpArgs false
def z6_.f (s0_0 : List Int) (s0_1 : Int) (s0_2 : Int) (a1 : Int) : Option (Int × Int × Int) := if a1 < 2 then (some (0,s0_1,s0_2)) else (if s0_1 < (s0_0.length : Int) then (if 0 ≤ s0_1 then (if a1 = 0 then (none) else (some (Int.tmod (wrap64 (rd s0_0 s0_1)) a1,wrap64 (s0_1 + 1),s0_2))) else (none)) else (if (s0_0.length : Int) > 0 then (if (s0_0.length : Int) = 0 then (none) else (if 0 ≤ (Int.tmod s0_1 (s0_0.length : Int)) then (if (Int.tmod s0_1 (s0_0.length : Int)) < (s0_0.length : Int) then (if a1 = 0 then (none) else (some (Int.tmod (wrap64 ((wrap64 (Int.tdiv (Int.tmod (wrap64 ((wrap64 (s0_2 * 1103)) + 12345)) 65521) 7)) + (wrap64 (rd s0_0 (Int.tmod s0_1 (s0_0.length : Int)))))) a1,wrap64 (s0_1 + 1),Int.tmod (wrap64 ((wrap64 (s0_2 * 1103)) + 12345)) 65521))) else (none)) else (none))) else (if a1 = 0 then (none) else (some ((0 : Int) % a1,wrap64 (s0_1 + 1),Int.tmod (wrap64 ((wrap64 (s0_2 * 1103)) + 12345)) 65521)))))
set_option maxHeartbeats 8000000 in
set_option maxRecDepth 100000 in
theorem z6_.calls (g : Nat) (s0_0 : List Int) (s0_1 : Int) (s0_2 : Int) (a1 : Int) (r1 : Int) (r2 : Int) (r3 : Int) (w0 w : World) (hI : y2 w0 w g s0_0 s0_1 s0_2) (hB : Below w0.heap.size w0 w) (h : z6_.f s0_0 s0_1 s0_2 a1 = some (r1,r2,r3)) :
  Calls Tryd.prog 70 #[.pointer (some ⟨g,0,none⟩),.int .i64 a1] w fun e w' => e = .returned (.int .i64 r1) ∧ y2 w0 w' g s0_0 r2 r3 ∧ Below w0.heap.size w0 w' ∧ y3 w w' g none := by
 have HI0 := y0.mk hI
 have HK := y0.mk (y3.refl w g none)
 have HL := y0.mk hB.size
 clear hI
 have HW0 := y0.mk hB.size
 have HB := y0.mk hB
 clear hB
 have H : (if a1 < 2 then (some (0,s0_1,s0_2)) else (if s0_1 < (s0_0.length : Int) then (if 0 ≤ s0_1 then (if a1 = 0 then (none) else (some (Int.tmod (wrap64 (rd s0_0 s0_1)) a1,wrap64 (s0_1 + 1),s0_2))) else (none)) else (if (s0_0.length : Int) > 0 then (if (s0_0.length : Int) = 0 then (none) else (if 0 ≤ (Int.tmod s0_1 (s0_0.length : Int)) then (if (Int.tmod s0_1 (s0_0.length : Int)) < (s0_0.length : Int) then (if a1 = 0 then (none) else (some (Int.tmod (wrap64 ((wrap64 (Int.tdiv (Int.tmod (wrap64 ((wrap64 (s0_2 * 1103)) + 12345)) 65521) 7)) + (wrap64 (rd s0_0 (Int.tmod s0_1 (s0_0.length : Int)))))) a1,wrap64 (s0_1 + 1),Int.tmod (wrap64 ((wrap64 (s0_2 * 1103)) + 12345)) 65521))) else (none)) else (none))) else (if a1 = 0 then (none) else (some ((0 : Int) % a1,wrap64 (s0_1 + 1),Int.tmod (wrap64 ((wrap64 (s0_2 * 1103)) + 12345)) 65521)))))) = some (r1,r2,r3) := h
 clear h
 by_cases c3 : a1 < 2
 ·rw [if_pos c3] at H
  have c3b0 : decide (a1 < 2) = true := decide_eq_true c3
  clear c3
  simp only [Option.some.injEq,Prod.mk.injEq] at H
  obtain ⟨rfl,rfl,rfl⟩ := H
  go_enter Tryd.func70,Tryd.ntmps70
  go_wp2
  repeat (go_quiet (fail); try go_wp2)
  go_ret
  exact ⟨by first | rfl | (simp [y9,y10] <;> rfl) | (simp [*,y9,y10] <;> rfl),by repeat (first | (with_reducible first | exact HI0.out | apply y2.alloc | apply y2.drewN | apply y2.drew | apply y2.set_1 | apply y2.set_2) | exact HI0.out),by repeat (first | (with_reducible first | exact HB.out | apply y5 | apply y18 | apply y6 | refine y7 ?_ (y2.ge HI0.out)) | exact HB.out),by repeat (first | (with_reducible first | exact HK.out | apply y3.set_ | apply y17 | apply y16 | apply y15) | exact HK.out)⟩
 ·rw [if_neg c3] at H
  have c3b0 : decide (a1 < 2) = false := decide_eq_false c3
  clear c3
  by_cases c4 : s0_1 < (s0_0.length : Int)
  ·rw [if_pos c4] at H
   have c4b0 : decide (s0_1 < (s0_0.length : Int)) = true := decide_eq_true c4
   clear c4
   by_cases c5 : 0 ≤ s0_1
   ·rw [if_pos c5] at H
    have c5b0 : decide (0 ≤ s0_1) = true := decide_eq_true c5
    clear c5
    by_cases c6 : a1 = 0
    ·rw [if_pos c6] at H
     exact absurd H (by simp)
    ·rw [if_neg c6] at H
     have c6b0 : (a1 == 0) = false := beq_eq_false_iff_ne.mpr c6
     have c6b1 : (a1 != 0) = true := bne_iff_ne.mpr c6
     simp only [Option.some.injEq,Prod.mk.injEq] at H
     obtain ⟨rfl,rfl,rfl⟩ := H
     obtain ⟨ASz7_0,cSz7_0,HGz7,hgz7,HSz7_0⟩ := HI0.out
     have hcz7_0 := cellS92_0 HGz7
     have hcz7_1 := cellS92_1 HGz7
     have hcz7_2 := cellS92_2 HGz7
     have hfz7_1 := blk_frozen HGz7 1
     have hfz7_2 := blk_frozen HGz7 2
     clear HGz7 hgz7
     have p132 : 0 ≤ (s0_1 : Int) := of_decide_eq_true (by first | (with_reducible assumption) | assumption)
     have q132 : s0_1 < (s0_0.length : Int) := of_decide_eq_true (by first | (with_reducible assumption) | assumption)
     obtain ⟨ad132,e132,hx132_0⟩ := Kd.at_int HSz7_0 s0_1 p132 q132
     cases e132
     replace hx132_0 := pw_cell_below HB.out hx132_0
     replace p132 := eq_true p132
     replace q132 := eq_true q132
     go_enter Tryd.func70,Tryd.ntmps70
     go_wp2
     repeat (go_quiet (fail); try go_wp2)
     go_ret
     exact ⟨by first | rfl | (simp [y9,y10] <;> rfl) | (simp [*,y9,y10] <;> rfl),by repeat (first | (with_reducible first | exact HI0.out | apply y2.alloc | apply y2.drewN | apply y2.drew | apply y2.set_1 | apply y2.set_2) | exact HI0.out),by repeat (first | (with_reducible first | exact HB.out | apply y5 | apply y18 | apply y6 | refine y7 ?_ (y2.ge HI0.out)) | exact HB.out),by repeat (first | (with_reducible first | exact HK.out | apply y3.set_ | apply y17 | apply y16 | apply y15) | exact HK.out)⟩
   ·rw [if_neg c5] at H
    exact absurd H (by simp)
  ·rw [if_neg c4] at H
   have c4b0 : decide (s0_1 < (s0_0.length : Int)) = false := decide_eq_false c4
   clear c4
   by_cases c8 : (s0_0.length : Int) > 0
   ·rw [if_pos c8] at H
    have c8b0 : decide (0 < (s0_0.length : Int)) = true := decide_eq_true c8
    have c8b1 : decide (0 < s0_0.length) = true := decide_eq_true (by omega)
    clear c8
    by_cases c9 : (s0_0.length : Int) = 0
    ·rw [if_pos c9] at H
     exact absurd H (by simp)
    ·rw [if_neg c9] at H
     have c9b0 : ((s0_0.length : Int) == 0) = false := beq_eq_false_iff_ne.mpr c9
     have c9b1 : ((s0_0.length : Int) != 0) = true := bne_iff_ne.mpr c9
     have c9b2 : ¬ (s0_0 = []) := fun h_ => c9 (by rw [h_]; rfl)
     obtain ⟨ji10,hji10⟩ : ∃ j_ : Int,(Int.tmod s0_1 (s0_0.length : Int)) = j_ := ⟨_,rfl⟩
     replace H : (if 0 ≤ (ji10) then (if (ji10) < (s0_0.length : Int) then (if a1 = 0 then (none) else (some (Int.tmod (wrap64 ((wrap64 (Int.tdiv (Int.tmod (wrap64 ((wrap64 (s0_2 * 1103)) + 12345)) 65521) 7)) + (wrap64 (rd s0_0 (ji10))))) a1,wrap64 (s0_1 + 1),Int.tmod (wrap64 ((wrap64 (s0_2 * 1103)) + 12345)) 65521))) else (none)) else (none)) = some (r1,r2,r3) := by first | (rw [hji10] at H; exact H) | (simp only [hji10] at H ⊢; exact H)
     by_cases c11 : 0 ≤ (ji10)
     ·rw [if_pos c11] at H
      have c11b0 : decide (0 ≤ (ji10)) = true := decide_eq_true c11
      clear c11
      by_cases c12 : (ji10) < (s0_0.length : Int)
      ·rw [if_pos c12] at H
       have c12b0 : decide ((ji10) < (s0_0.length : Int)) = true := decide_eq_true c12
       clear c12
       by_cases c13 : a1 = 0
       ·rw [if_pos c13] at H
        exact absurd H (by simp)
       ·rw [if_neg c13] at H
        have c13b0 : (a1 == 0) = false := beq_eq_false_iff_ne.mpr c13
        have c13b1 : (a1 != 0) = true := bne_iff_ne.mpr c13
        simp only [Option.some.injEq,Prod.mk.injEq] at H
        obtain ⟨rfl,rfl,rfl⟩ := H
        obtain ⟨ASz14_0,cSz14_0,HGz14,hgz14,HSz14_0⟩ := HI0.out
        have hcz14_0 := cellS92_0 HGz14
        have hcz14_1 := cellS92_1 HGz14
        have hcz14_2 := cellS92_2 HGz14
        have hfz14_1 := blk_frozen HGz14 1
        have hfz14_2 := blk_frozen HGz14 2
        clear HGz14 hgz14
        have p133 : 0 ≤ ((ji10) : Int) := of_decide_eq_true (by first | (with_reducible assumption) | assumption)
        have q133 : (ji10) < (s0_0.length : Int) := of_decide_eq_true (by first | (with_reducible assumption) | assumption)
        obtain ⟨ad133,e133,hx133_0⟩ := Kd.at_int HSz14_0 (ji10) p133 q133
        cases e133
        have hn133_0 : ad133.block ≠ g := Nat.ne_of_lt (Nat.lt_of_lt_of_le (by have := World.block_lt_of_cell? _ _ hx133_0; first | rwa [add_block] at this | exact this) (y2.ge HI0.out))
        replace hx133_0 := pw_cell_below HB.out hx133_0
        replace hx133_0 := (cell_far (p := ⟨g,2,none⟩) (by first | (rw [add_block]; exact hn133_0) | (show (Addr.add _ _).block ≠ _; rw [add_block]; exact hn133_0) | exact hn133_0) (.int .i64 (Int.tmod (wrap64 ((wrap64 (s0_2 * 1103)) + 12345)) 65521))).trans hx133_0
        (try have hy133_0 := fun (n_ : Nat) => (show (((w.drewN n_).setCell ⟨g,2,none⟩ (.int .i64 (Int.tmod (wrap64 ((wrap64 (s0_2 * 1103)) + 12345)) 65521)))).cell? _ = some _ from hx133_0))
        clear hn133_0
        replace p133 := eq_true p133
        replace q133 := eq_true q133
        go_enter Tryd.func70,Tryd.ntmps70
        go_wp2
        repeat (go_quiet (fail); try go_wp2)
        go_ret
        exact ⟨by first | rfl | (simp [y9,y10] <;> rfl) | (simp only [← hji10]; first | rfl | (simp [y9,y10] <;> rfl)) | (simp [*,y9,y10] <;> rfl),by repeat (first | (with_reducible first | exact HI0.out | apply y2.alloc | apply y2.drewN | apply y2.drew | apply y2.set_1 | apply y2.set_2) | exact HI0.out),by repeat (first | (with_reducible first | exact HB.out | apply y5 | apply y18 | apply y6 | refine y7 ?_ (y2.ge HI0.out)) | exact HB.out),by repeat (first | (with_reducible first | exact HK.out | apply y3.set_ | apply y17 | apply y16 | apply y15) | exact HK.out)⟩
      ·rw [if_neg c12] at H
       exact absurd H (by simp)
     ·rw [if_neg c11] at H
      exact absurd H (by simp)
   ·rw [if_neg c8] at H
    have c8b0 : decide (0 < (s0_0.length : Int)) = false := decide_eq_false c8
    have c8b1 : decide (0 < s0_0.length) = false := decide_eq_false (by omega)
    clear c8
    by_cases c15 : a1 = 0
    ·rw [if_pos c15] at H
     exact absurd H (by simp)
    ·rw [if_neg c15] at H
     have c15b0 : (a1 == 0) = false := beq_eq_false_iff_ne.mpr c15
     have c15b1 : (a1 != 0) = true := bne_iff_ne.mpr c15
     simp only [Option.some.injEq,Prod.mk.injEq] at H
     obtain ⟨rfl,rfl,rfl⟩ := H
     obtain ⟨ASz16_0,cSz16_0,HGz16,hgz16,HSz16_0⟩ := HI0.out
     have hcz16_0 := cellS92_0 HGz16
     have hcz16_1 := cellS92_1 HGz16
     have hcz16_2 := cellS92_2 HGz16
     have hfz16_1 := blk_frozen HGz16 1
     have hfz16_2 := blk_frozen HGz16 2
     clear HGz16 hgz16
     go_enter Tryd.func70,Tryd.ntmps70
     go_wp2
     repeat (go_quiet (fail); try go_wp2)
     go_ret
     exact ⟨by first | rfl | (simp [y9,y10] <;> rfl) | (simp [*,y9,y10] <;> rfl),by repeat (first | (with_reducible first | exact HI0.out | apply y2.alloc | apply y2.drewN | apply y2.drew | apply y2.set_1 | apply y2.set_2) | exact HI0.out),by repeat (first | (with_reducible first | exact HB.out | apply y5 | apply y18 | apply y6 | refine y7 ?_ (y2.ge HI0.out)) | exact HB.out),by repeat (first | (with_reducible first | exact HK.out | apply y3.set_ | apply y17 | apply y16 | apply y15) | exact HK.out)⟩
def ErrIs : Option Int → Value → Prop
 | none,ev => ev = .nilIface
 | some _,ev => ∃ te pe,ev = .iface te pe
theorem errIs_none {ev : Value} (h : ErrIs none ev) : ev = .nilIface := h
theorem errIs_some {q : Int} {ev : Value} (h : ErrIs (some q) ev) : ∃ te pe,ev = .iface te pe := h
/-- strconv.Atoi: the number, and whether there is an error. -/
def strconv_Atoi.f (a0 : ByteArray) : Option (Int × Option Int) :=
 if a0.size ≤ 281474976710656 then (match Lib.atoiAll a0.data.toList with
  | .ok v => some (v,none)
  | .range => some (Lib.atoiSat a0.data.toList,some 1)
  | _ => some (0, some 0)) else none
theorem strconv_Atoi.calls (a0 : ByteArray) (r1 : Int) (r2 : Option Int) (w : World) (hT : Tb w) (h : strconv_Atoi.f a0 = some (r1,r2)) :
  Calls Tryd.prog 102 #[.string a0] w fun e w' => ∃ ev,e = .returned (.tuple #[.int .i64 r1,ev]) ∧ ErrIs r2 ev ∧ Below w.heap.size w w' := by
 unfold strconv_Atoi.f at h
 by_cases h0 : a0.size ≤ 281474976710656
 ·rw [if_pos h0] at h
  rcases hn : Lib.atoiAll a0.data.toList with v | _ | _
  ·
   simp only [hn,Option.some.injEq,Prod.mk.injEq] at h
   obtain ⟨rfl,rfl⟩ := h
   refine (Tryd.strconv_Atoi_ok a0 (by omega) v hn w).mono ?_
   rintro e w' ⟨rfl,hw⟩
   refine ⟨_,rfl,rfl, ?_⟩
   rcases hw with rfl | ⟨t,rfl⟩
   ·exact Below.refl _ _
   ·exact bytes_below (Below.refl _ _) (Nat.le_refl _) _ _
  ·
   simp only [hn,Option.some.injEq,Prod.mk.injEq] at h
   obtain ⟨rfl,rfl⟩ := h
   obtain ⟨ev,h1,h2⟩ := hT.es
   refine (Tryd.strconv_Atoi_syntax a0 h0 hn ev w h1 h2).mono ?_
   rintro e w' ⟨n,rfl,_,_,hb⟩
   exact ⟨_,rfl,⟨_,_,rfl⟩,hb⟩
  ·
   simp only [hn,Option.some.injEq,Prod.mk.injEq] at h
   obtain ⟨rfl,rfl⟩ := h
   obtain ⟨ev,h1,h2⟩ := hT.er
   refine (Tryd.strconv_Atoi_range a0 h0 hn ev w h1 h2).mono ?_
   rintro e w' ⟨n,rfl,_,_,hb⟩
   exact ⟨_,rfl,⟨_,_,rfl⟩,hb⟩
 ·rw [if_neg h0] at h
  cases h
def impl_isDigit.f (a0 : Int) : Option (Bool) := if a0 ≥ 48 then (some (decide (a0 ≤ 57))) else (some false)
set_option maxHeartbeats 8000000 in
set_option maxRecDepth 100000 in
theorem impl_isDigit.calls (a0 : Int) (r : Bool) (w : World) (h : impl_isDigit.f a0 = some r) :
  Calls Tryd.prog 122 #[.int .u8 a0] w fun e w' => e = .returned (.bool r) ∧ y1 w w' := by
 have H : (if a0 ≥ 48 then (some (decide (a0 ≤ 57))) else (some false)) = some r := h
 clear h
 by_cases c2 : a0 ≥ 48
 ·rw [if_pos c2] at H
  have c2b0 : decide (48 ≤ a0) = true := decide_eq_true c2
  clear c2
  obtain rfl := Option.some.inj H
  go_enter Tryd.func122,Tryd.ntmps122
  go_wp2
  go_ret
  exact ⟨by first | rfl | (simp; done) | (simp [*]; done),by repeat (first | exact y1.refl _ | apply y1.step)⟩
 ·rw [if_neg c2] at H
  have c2b0 : decide (48 ≤ a0) = false := decide_eq_false c2
  clear c2
  obtain rfl := Option.some.inj H
  go_enter Tryd.func122,Tryd.ntmps122
  go_wp2
  go_ret
  exact ⟨by first | rfl | (simp; done) | (simp [*]; done),by repeat (first | exact y1.refl _ | apply y1.step)⟩
def impl_isLetter.f (a0 : Int) : Option (Bool) := if a0 ≥ 97 then (if a0 ≤ 122 then (some true) else (if a0 ≥ 65 then (some (decide (a0 ≤ 90))) else (some false))) else (if a0 ≥ 65 then (some (decide (a0 ≤ 90))) else (some false))
set_option maxHeartbeats 8000000 in
set_option maxRecDepth 100000 in
theorem impl_isLetter.calls (a0 : Int) (r : Bool) (w : World) (h : impl_isLetter.f a0 = some r) :
  Calls Tryd.prog 130 #[.int .u8 a0] w fun e w' => e = .returned (.bool r) ∧ y1 w w' := by
 have H : (if a0 ≥ 97 then (if a0 ≤ 122 then (some true) else (if a0 ≥ 65 then (some (decide (a0 ≤ 90))) else (some false))) else (if a0 ≥ 65 then (some (decide (a0 ≤ 90))) else (some false))) = some r := h
 clear h
 by_cases c2 : a0 ≥ 97
 ·rw [if_pos c2] at H
  have c2b0 : decide (97 ≤ a0) = true := decide_eq_true c2
  clear c2
  by_cases c3 : a0 ≤ 122
  ·rw [if_pos c3] at H
   have c3b0 : decide (a0 ≤ 122) = true := decide_eq_true c3
   clear c3
   obtain rfl := Option.some.inj H
   go_enter Tryd.func130,Tryd.ntmps130
   go_wp2
   go_ret
   exact ⟨by first | rfl | (simp; done) | (simp [*]; done),by repeat (first | exact y1.refl _ | apply y1.step)⟩
  ·rw [if_neg c3] at H
   have c3b0 : decide (a0 ≤ 122) = false := decide_eq_false c3
   clear c3
   by_cases c4 : a0 ≥ 65
   ·rw [if_pos c4] at H
    have c4b0 : decide (65 ≤ a0) = true := decide_eq_true c4
    clear c4
    obtain rfl := Option.some.inj H
    go_enter Tryd.func130,Tryd.ntmps130
    go_wp2
    go_ret
    exact ⟨by first | rfl | (simp; done) | (simp [*]; done),by repeat (first | exact y1.refl _ | apply y1.step)⟩
   ·rw [if_neg c4] at H
    have c4b0 : decide (65 ≤ a0) = false := decide_eq_false c4
    clear c4
    obtain rfl := Option.some.inj H
    go_enter Tryd.func130,Tryd.ntmps130
    go_wp2
    go_ret
    exact ⟨by first | rfl | (simp; done) | (simp [*]; done),by repeat (first | exact y1.refl _ | apply y1.step)⟩
 ·rw [if_neg c2] at H
  have c2b0 : decide (97 ≤ a0) = false := decide_eq_false c2
  clear c2
  by_cases c5 : a0 ≥ 65
  ·rw [if_pos c5] at H
   have c5b0 : decide (65 ≤ a0) = true := decide_eq_true c5
   clear c5
   obtain rfl := Option.some.inj H
   go_enter Tryd.func130,Tryd.ntmps130
   go_wp2
   go_ret
   exact ⟨by first | rfl | (simp; done) | (simp [*]; done),by repeat (first | exact y1.refl _ | apply y1.step)⟩
  ·rw [if_neg c5] at H
   have c5b0 : decide (65 ≤ a0) = false := decide_eq_false c5
   clear c5
   obtain rfl := Option.some.inj H
   go_enter Tryd.func130,Tryd.ntmps130
   go_wp2
   go_ret
   exact ⟨by first | rfl | (simp; done) | (simp [*]; done),by repeat (first | exact y1.refl _ | apply y1.step)⟩
def impl_isWordByte.f (a0 : Int) : Option (Bool) := (impl_isLetter.f a0).bind fun t164 => (if t164 = true then (some true) else ((impl_isDigit.f a0).bind fun t165 => (if t165 = true then (some true) else (some (a0 == 95)))))
set_option maxHeartbeats 8000000 in
set_option maxRecDepth 100000 in
theorem impl_isWordByte.calls (a0 : Int) (r : Bool) (w : World) (h : impl_isWordByte.f a0 = some r) :
  Calls Tryd.prog 129 #[.int .u8 a0] w fun e w' => e = .returned (.bool r) ∧ y1 w w' := by
 have H : ((impl_isLetter.f a0).bind fun t164 => (if t164 = true then (some true) else ((impl_isDigit.f a0).bind fun t165 => (if t165 = true then (some true) else (some (a0 == 95)))))) = some r := h
 clear h
 replace H := Option.bind_eq_some_iff.mp H
 obtain ⟨t164,A20,H⟩ := H
 replace H : (if t164 = true then (some true) else ((impl_isDigit.f a0).bind fun t165 => (if t165 = true then (some true) else (some (a0 == 95))))) = some r := H
 have A2 := y0.mk A20
 clear A20
 by_cases c3 : t164 = true
 ·subst c3
  have H1 : (some true) = some r := by rw [if_pos rfl] at H; exact H
  clear H
  have H := H1
  clear H1
  obtain rfl := Option.some.inj H
  go_enter Tryd.func129,Tryd.ntmps129
  go_wp2_with (first | ((with_reducible refine y11 (f := 130) rfl ?_); refine y12 (some 4) rfl rfl Tryd.func130 (by kernel_rfl) rfl #[.int .u8 a0] rfl (by (try simp only [qM_,List.map_cons,List.map_nil]); first | done | rfl | (simp only [qD_,qT_]; rfl)) ?_; (with_reducible refine (impl_isLetter.calls a0 true _ A2.out).mono ?_); rintro e w' ⟨rfl,⟨nd,rfl⟩⟩; refine ⟨_,rfl, ?_⟩))
  go_ret
  exact ⟨by first | rfl | (simp; done) | (simp [*]; done),by repeat (first | exact y1.refl _ | apply y1.step)⟩
 ·replace c3 := Bool.eq_false_iff.mpr c3
  subst c3
  have H1 : ((impl_isDigit.f a0).bind fun t165 => (if t165 = true then (some true) else (some (a0 == 95)))) = some r := by rw [if_neg (show ¬ (false = true) by decide)] at H; exact H
  clear H
  have H := H1
  clear H1
  replace H := Option.bind_eq_some_iff.mp H
  obtain ⟨t165,A40,H⟩ := H
  replace H : (if t165 = true then (some true) else (some (a0 == 95))) = some r := H
  have A4 := y0.mk A40
  clear A40
  by_cases c5 : t165 = true
  ·subst c5
   have H1 : (some true) = some r := by rw [if_pos rfl] at H; exact H
   clear H
   have H := H1
   clear H1
   obtain rfl := Option.some.inj H
   go_enter Tryd.func129,Tryd.ntmps129
   go_wp2_with (first | ((with_reducible refine y11 (f := 130) rfl ?_); refine y12 (some 4) rfl rfl Tryd.func130 (by kernel_rfl) rfl #[.int .u8 a0] rfl (by (try simp only [qM_,List.map_cons,List.map_nil]); first | done | rfl | (simp only [qD_,qT_]; rfl)) ?_; (with_reducible refine (impl_isLetter.calls a0 false _ A2.out).mono ?_); rintro e w' ⟨rfl,⟨nd,rfl⟩⟩; refine ⟨_,rfl, ?_⟩) | (go_at_call 122; (with_reducible refine (impl_isDigit.calls a0 true _ A4.out).mono ?_); rintro e w' ⟨rfl,⟨nd,rfl⟩⟩))
   go_ret
   exact ⟨by first | rfl | (simp; done) | (simp [*]; done),by repeat (first | exact y1.refl _ | apply y1.step)⟩
  ·replace c5 := Bool.eq_false_iff.mpr c5
   subst c5
   have H1 : (some (a0 == 95)) = some r := by rw [if_neg (show ¬ (false = true) by decide)] at H; exact H
   clear H
   have H := H1
   clear H1
   obtain rfl := Option.some.inj H
   go_enter Tryd.func129,Tryd.ntmps129
   go_wp2_with (first | ((with_reducible refine y11 (f := 130) rfl ?_); refine y12 (some 4) rfl rfl Tryd.func130 (by kernel_rfl) rfl #[.int .u8 a0] rfl (by (try simp only [qM_,List.map_cons,List.map_nil]); first | done | rfl | (simp only [qD_,qT_]; rfl)) ?_; (with_reducible refine (impl_isLetter.calls a0 false _ A2.out).mono ?_); rintro e w' ⟨rfl,⟨nd,rfl⟩⟩; refine ⟨_,rfl, ?_⟩) | (go_at_call 122; (with_reducible refine (impl_isDigit.calls a0 false _ A4.out).mono ?_); rintro e w' ⟨rfl,⟨nd,rfl⟩⟩))
   go_ret
   exact ⟨by first | rfl | (simp; done) | (simp [*]; done),by repeat (first | exact y1.refl _ | apply y1.step)⟩
def impl_nameLong.l0 : Nat → ByteArray → Int → Option (Int)
 | 0,_,_ => none
 | k + 1,x0,x3 => if x3 < (x0.size : Int) then (if 0 ≤ x3 then ((impl_isWordByte.f (bt x0 x3)).bind fun t166 => (if t166 = true then (if x3 > 0 then (impl_nameLong.l0 k x0 (wrap64 (x3 + 1))) else (if 0 < (x0.size : Int) then ((impl_isLetter.f (bt x0 0)).bind fun t167 => (if t167 = true then (impl_nameLong.l0 k x0 (wrap64 (x3 + 1))) else (some x3))) else (none))) else (some x3))) else (none)) else (some x3)
def impl_nameLong.f (k : Nat) (a0 : ByteArray) : Option (Int) := impl_nameLong.l0 k a0 0
set_option maxHeartbeats 8000000 in
set_option maxRecDepth 100000 in
theorem impl_nameLong.calls (k : Nat) (a0 : ByteArray) (r : Int) (w : World) (h : impl_nameLong.f k a0 = some r) :
  Calls Tryd.prog 106 #[.string a0] w fun e w' => e = .returned (.int .i64 r) ∧ y1 w w' := by
 have H : (impl_nameLong.l0 k a0 0) = some r := h
 clear h
 have H' := y0.mk H
 clear H
 go_enter Tryd.func106,Tryd.ntmps106
 go_wp2
 go_loopg [3] k (fun kq v3 w' => ∃ (x3_1 : Int),v3 = .int .i64 x3_1 ∧ y0 (impl_nameLong.l0 kq a0 x3_1 = some r) ∧ y0 (kq ≤ k) ∧ y1 w w')
 case atStart => exact ⟨(0),(by first | rfl | (simp; done) | (simp [*]; done)),H',⟨Nat.le_refl _⟩,by repeat (first | exact y1.refl _ | apply y1.step)⟩
 case round =>
  clear H'
  try clear c1
  obtain ⟨x3_1,rfl,HA,HK1,⟨m1,rfl⟩⟩ := hrel
  cases gk with
  | zero => exact absurd HA.out (by simp [impl_nameLong.l0])
  | succ k1 =>
   have H := HA.out
   clear HA
   simp only [impl_nameLong.l0] at H
   by_cases c2 : x3_1 < (a0.size : Int)
   ·rw [if_pos c2] at H
    have c2b0 : decide (x3_1 < (a0.size : Int)) = true := decide_eq_true c2
    clear c2
    by_cases c3 : 0 ≤ x3_1
    ·rw [if_pos c3] at H
     have c3b0 : decide (0 ≤ x3_1) = true := decide_eq_true c3
     clear c3
     replace H := Option.bind_eq_some_iff.mp H
     obtain ⟨t166,A50,H⟩ := H
     replace H : (if t166 = true then (if x3_1 > 0 then (impl_nameLong.l0 k1 a0 (wrap64 (x3_1 + 1))) else (if 0 < (a0.size : Int) then ((impl_isLetter.f (bt a0 0)).bind fun t167 => (if t167 = true then (impl_nameLong.l0 k1 a0 (wrap64 (x3_1 + 1))) else (some x3_1))) else (none))) else (some x3_1)) = some r := H
     have A5 := y0.mk A50
     clear A50
     by_cases c6 : t166 = true
     ·subst c6
      have H1 : (if x3_1 > 0 then (impl_nameLong.l0 k1 a0 (wrap64 (x3_1 + 1))) else (if 0 < (a0.size : Int) then ((impl_isLetter.f (bt a0 0)).bind fun t167 => (if t167 = true then (impl_nameLong.l0 k1 a0 (wrap64 (x3_1 + 1))) else (some x3_1))) else (none))) = some r := by rw [if_pos rfl] at H; exact H
      clear H
      have H := H1
      clear H1
      by_cases c7 : x3_1 > 0
      ·rw [if_pos c7] at H
       have c7b0 : decide (0 < x3_1) = true := decide_eq_true c7
       clear c7
       have H' := y0.mk H
       clear H
       have p4 : 0 ≤ (x3_1 : Int) := of_decide_eq_true (by first | (with_reducible assumption) | assumption)
       have q4 : x3_1 < (a0.size : Int) := of_decide_eq_true (by first | (with_reducible assumption) | assumption)
       have hx4 := bt_at a0 x3_1
       replace p4 := eq_true p4
       replace q4 := eq_true q4
       go_wp2_with (first | (go_at_call 129; (with_reducible refine (impl_isWordByte.calls (bt a0 x3_1) true _ A5.out).mono ?_); rintro e w' ⟨rfl,⟨nd,rfl⟩⟩))
       go_roundg k1
       case measure => have := HK1.out; omega
       case rel => exact ⟨(wrap64 (x3_1 + 1)),(by first | rfl | (simp; done) | (simp [*]; done)),H',⟨by have := HK1.out; omega⟩,by repeat (first | exact y1.refl _ | apply y1.step)⟩
      ·rw [if_neg c7] at H
       have c7b0 : decide (0 < x3_1) = false := decide_eq_false c7
       clear c7
       by_cases c8 : 0 < (a0.size : Int)
       ·rw [if_pos c8] at H
        have c8b0 : decide (0 < (a0.size : Int)) = true := decide_eq_true c8
        have c8b1 : decide (0 < a0.size) = true := decide_eq_true (by omega)
        clear c8
        replace H := Option.bind_eq_some_iff.mp H
        obtain ⟨t167,A100,H⟩ := H
        replace H : (if t167 = true then (impl_nameLong.l0 k1 a0 (wrap64 (x3_1 + 1))) else (some x3_1)) = some r := H
        have A10 := y0.mk A100
        clear A100
        by_cases c11 : t167 = true
        ·subst c11
         have H1 : (impl_nameLong.l0 k1 a0 (wrap64 (x3_1 + 1))) = some r := by rw [if_pos rfl] at H; exact H
         clear H
         have H := H1
         clear H1
         have H' := y0.mk H
         clear H
         have p4 : 0 ≤ (x3_1 : Int) := of_decide_eq_true (by first | (with_reducible assumption) | assumption)
         have q4 : x3_1 < (a0.size : Int) := of_decide_eq_true (by first | (with_reducible assumption) | assumption)
         have hx4 := bt_at a0 x3_1
         replace p4 := eq_true p4
         replace q4 := eq_true q4
         go_wp2_with (first | (go_at_call 129; (with_reducible refine (impl_isWordByte.calls (bt a0 x3_1) true _ A5.out).mono ?_); rintro e w' ⟨rfl,⟨nd,rfl⟩⟩; have p9 : 0 ≤ (0 : Int) := (by omega); have q9 : 0 < a0.size := (by have : (0 : Int) < (a0.size : Int) := of_decide_eq_true (by first | (with_reducible assumption) | assumption); omega); have hx9 : ∀ h : 0 < a0.size,((a0[0]'h).toNat : Int) = bt a0 0 := bt_at a0 0; clear p9; have qi9 : (0 < (a0.size : Int)) = True := eq_true (of_decide_eq_true (by first | (with_reducible assumption) | assumption)); replace q9 := eq_true q9) | (go_at_call 130; (with_reducible refine (impl_isLetter.calls (bt a0 0) true _ A10.out).mono ?_); rintro e w' ⟨rfl,⟨nd,rfl⟩⟩))
         go_roundg k1
         case measure => have := HK1.out; omega
         case rel => exact ⟨(wrap64 (x3_1 + 1)),(by first | rfl | (simp; done) | (simp [*]; done)),H',⟨by have := HK1.out; omega⟩,by repeat (first | exact y1.refl _ | apply y1.step)⟩
        ·replace c11 := Bool.eq_false_iff.mpr c11
         subst c11
         have H1 : (some x3_1) = some r := by rw [if_neg (show ¬ (false = true) by decide)] at H; exact H
         clear H
         have H := H1
         clear H1
         obtain rfl := Option.some.inj H
         have p4 : 0 ≤ (x3_1 : Int) := of_decide_eq_true (by first | (with_reducible assumption) | assumption)
         have q4 : x3_1 < (a0.size : Int) := of_decide_eq_true (by first | (with_reducible assumption) | assumption)
         have hx4 := bt_at a0 x3_1
         replace p4 := eq_true p4
         replace q4 := eq_true q4
         go_wp2_with (first | (go_at_call 129; (with_reducible refine (impl_isWordByte.calls (bt a0 x3_1) true _ A5.out).mono ?_); rintro e w' ⟨rfl,⟨nd,rfl⟩⟩; have p9 : 0 ≤ (0 : Int) := (by omega); have q9 : 0 < a0.size := (by have : (0 : Int) < (a0.size : Int) := of_decide_eq_true (by first | (with_reducible assumption) | assumption); omega); have hx9 : ∀ h : 0 < a0.size,((a0[0]'h).toNat : Int) = bt a0 0 := bt_at a0 0; clear p9; have qi9 : (0 < (a0.size : Int)) = True := eq_true (of_decide_eq_true (by first | (with_reducible assumption) | assumption)); replace q9 := eq_true q9) | (go_at_call 130; (with_reducible refine (impl_isLetter.calls (bt a0 0) false _ A10.out).mono ?_); rintro e w' ⟨rfl,⟨nd,rfl⟩⟩))
         go_ret
         exact ⟨by first | rfl | (simp; done) | (simp [*]; done),by repeat (first | exact y1.refl _ | apply y1.step)⟩
       ·rw [if_neg c8] at H
        exact absurd H (by simp)
     ·replace c6 := Bool.eq_false_iff.mpr c6
      subst c6
      have H1 : (some x3_1) = some r := by rw [if_neg (show ¬ (false = true) by decide)] at H; exact H
      clear H
      have H := H1
      clear H1
      obtain rfl := Option.some.inj H
      have p4 : 0 ≤ (x3_1 : Int) := of_decide_eq_true (by first | (with_reducible assumption) | assumption)
      have q4 : x3_1 < (a0.size : Int) := of_decide_eq_true (by first | (with_reducible assumption) | assumption)
      have hx4 := bt_at a0 x3_1
      replace p4 := eq_true p4
      replace q4 := eq_true q4
      go_wp2_with (first | (go_at_call 129; (with_reducible refine (impl_isWordByte.calls (bt a0 x3_1) false _ A5.out).mono ?_); rintro e w' ⟨rfl,⟨nd,rfl⟩⟩))
      go_ret
      exact ⟨by first | rfl | (simp; done) | (simp [*]; done),by repeat (first | exact y1.refl _ | apply y1.step)⟩
    ·rw [if_neg c3] at H
     exact absurd H (by simp)
   ·rw [if_neg c2] at H
    have c2b0 : decide (x3_1 < (a0.size : Int)) = false := decide_eq_false c2
    clear c2
    obtain rfl := Option.some.inj H
    go_wp2
    go_ret
    exact ⟨by first | rfl | (simp; done) | (simp [*]; done),by repeat (first | exact y1.refl _ | apply y1.step)⟩
end Go.Proofs.YtebadckdihgklaaDoor.Pb
end
section
namespace Go.Proofs.YtebadckdihgklaaDoor.Pb
open Go.RowKit Go.Proofs.YtebadckdihgklaaDoorW.PrintWords Go.Proofs.YtebadckdihgklaaDoorW.PrintLast Go.Proofs.YtebadckdihgklaaDoorW.PrintMore
attribute [local go_sem] max2_int min2_int max_two min_two max_three min_three max_four min_four   -- for this text's walks alone
set_option linter.unusedVariables false
set_option linter.unusedSimpArgs false
mutual
def impl_symbolLong.l0 : Nat → ByteArray → Int → Option (Int)
 | 0,_,_ => none
 | k + 1,x0,x3 => if x3 < (x0.size : Int) then (impl_symbolLong.j1 k x0 x3 (decide (x3 ≤ 21))) else (impl_symbolLong.j1 k x0 x3 false)
def impl_symbolLong.j1 : Nat → ByteArray → Int → Bool → Option (Int)
 | 0,_,_,_ => none
 | k + 1,x0,x3,x11 => if x11 = true then (if 0 ≤ x3 then (if x3 < (x0.size : Int) then (if (bt x0 x3) = 34 then (some (wrap64 (x3 + 1))) else (if (bt x0 x3) < 32 then (some 0) else (if (bt x0 x3) > 126 then (some 0) else (if (bt x0 x3) = 92 then (some 0) else (impl_symbolLong.l0 k x0 (wrap64 (x3 + 1))))))) else (none)) else (none)) else (some 0)
end
def impl_symbolLong.f (k : Nat) (a0 : ByteArray) : Option (Int) := impl_symbolLong.l0 k a0 1
set_option maxHeartbeats 8000000 in
set_option maxRecDepth 100000 in
theorem impl_symbolLong.calls (k : Nat) (a0 : ByteArray) (r : Int) (w : World) (h : impl_symbolLong.f k a0 = some r) :
  Calls Tryd.prog 121 #[.string a0] w fun e w' => e = .returned (.int .i64 r) ∧ y1 w w' := by
 have H : (impl_symbolLong.l0 k a0 1) = some r := h
 clear h
 have H' := y0.mk H
 clear H
 go_enter Tryd.func121,Tryd.ntmps121
 go_wp2
 go_loopg [3] k (fun kq v3 w' => ∃ (x3_1 : Int),v3 = .int .i64 x3_1 ∧ y0 (impl_symbolLong.l0 kq a0 x3_1 = some r) ∧ y0 (kq ≤ k) ∧ y1 w w')
 case atStart => exact ⟨(1),(by first | rfl | (simp; done) | (simp [*]; done)),H',⟨Nat.le_refl _⟩,by repeat (first | exact y1.refl _ | apply y1.step)⟩
 case round =>
  clear H'
  try clear c1
  obtain ⟨x3_1,rfl,HA,HK1,⟨m1,rfl⟩⟩ := hrel
  cases gk with
  | zero => exact absurd HA.out (by simp [impl_symbolLong.l0])
  | succ k1 =>
   have H := HA.out
   clear HA
   simp only [impl_symbolLong.l0] at H
   have HC2 := y0.mk H
   clear H
   go_upto_region 2 with (fail)
   go_cut [11] (fun v11 wc => ∃ (kq : Nat) (x11_1 : Bool),v11 = .bool x11_1 ∧ y0 (impl_symbolLong.j1 kq a0 x3_1 x11_1 = some r) ∧ y0 (kq ≤ k1) ∧ y1 w wc)
   case first =>
    have H := HC2.out
    clear HC2
    by_cases c3 : x3_1 < (a0.size : Int)
    ·rw [if_pos c3] at H
     have c3b0 : decide (x3_1 < (a0.size : Int)) = true := decide_eq_true c3
     clear c3
     (first | rw [c3b0] | (simp only [y14,y13]; rw [c3b0]) | skip)
     have H' := y0.mk H
     clear H
     go_wp2
     go_meet
     case rel => exact ⟨_,(decide (x3_1 ≤ 21)),(by first | rfl | (simp; done) | (simp [*]; done)),H',⟨by have := HK1.out; first | omega | exact Nat.le_refl _⟩,by repeat (first | exact y1.refl _ | apply y1.step)⟩
    ·rw [if_neg c3] at H
     have c3b0 : decide (x3_1 < (a0.size : Int)) = false := decide_eq_false c3
     clear c3
     (first | rw [c3b0] | (simp only [y14,y13]; rw [c3b0]) | skip)
     have H' := y0.mk H
     clear H
     go_wp2
     go_meet
     case rel => exact ⟨_,(false),(by first | rfl | (simp; done) | (simp [*]; done)),H',⟨by have := HK1.out; first | omega | exact Nat.le_refl _⟩,by repeat (first | exact y1.refl _ | apply y1.step)⟩
   case rest =>
    clear HC2
    try clear c1
    try clear p2
    try clear c3
    try clear c3b0
    obtain ⟨kq,x11_1,rfl,HA,HJ1,⟨mc1,rfl⟩⟩ := hcut
    cases kq with
    | zero => exact absurd HA.out (by simp [impl_symbolLong.j1])
    | succ kj1 =>
     have H := HA.out
     clear HA
     simp only [impl_symbolLong.j1] at H
     by_cases c4 : x11_1 = true
     ·subst c4
      have H1 : (if 0 ≤ x3_1 then (if x3_1 < (a0.size : Int) then (if (bt a0 x3_1) = 34 then (some (wrap64 (x3_1 + 1))) else (if (bt a0 x3_1) < 32 then (some 0) else (if (bt a0 x3_1) > 126 then (some 0) else (if (bt a0 x3_1) = 92 then (some 0) else (impl_symbolLong.l0 kj1 a0 (wrap64 (x3_1 + 1))))))) else (none)) else (none)) = some r := by rw [if_pos rfl] at H; exact H
      clear H
      have H := H1
      clear H1
      by_cases c5 : 0 ≤ x3_1
      ·rw [if_pos c5] at H
       have c5b0 : decide (0 ≤ x3_1) = true := decide_eq_true c5
       clear c5
       by_cases c6 : x3_1 < (a0.size : Int)
       ·rw [if_pos c6] at H
        have c6b0 : decide (x3_1 < (a0.size : Int)) = true := decide_eq_true c6
        clear c6
        by_cases c8 : (bt a0 x3_1) = 34
        ·rw [if_pos c8] at H
         have c8b0 : ((bt a0 x3_1) == 34) = true := beq_iff_eq.mpr c8
         have c8b1 : ((bt a0 x3_1) != 34) = false := bne_eq_false_iff_eq.mpr c8
         clear c8
         obtain rfl := Option.some.inj H
         have p7 : 0 ≤ (x3_1 : Int) := of_decide_eq_true (by first | (with_reducible assumption) | assumption)
         have q7 : x3_1 < (a0.size : Int) := of_decide_eq_true (by first | (with_reducible assumption) | assumption)
         have hx7 := bt_at a0 x3_1
         replace p7 := eq_true p7
         replace q7 := eq_true q7
         go_wp2
         go_ret
         exact ⟨by first | rfl | (simp; done) | (simp [*]; done),by repeat (first | exact y1.refl _ | apply y1.step)⟩
        ·rw [if_neg c8] at H
         have c8b0 : ((bt a0 x3_1) == 34) = false := beq_eq_false_iff_ne.mpr c8
         have c8b1 : ((bt a0 x3_1) != 34) = true := bne_iff_ne.mpr c8
         by_cases c10 : (bt a0 x3_1) < 32
         ·rw [if_pos c10] at H
          have c10b0 : decide ((bt a0 x3_1) < 32) = true := decide_eq_true c10
          clear c10
          obtain rfl := Option.some.inj H
          have p7 : 0 ≤ (x3_1 : Int) := of_decide_eq_true (by first | (with_reducible assumption) | assumption)
          have q7 : x3_1 < (a0.size : Int) := of_decide_eq_true (by first | (with_reducible assumption) | assumption)
          have hx7 := bt_at a0 x3_1
          replace p7 := eq_true p7
          replace q7 := eq_true q7
          have p9 : 0 ≤ (x3_1 : Int) := of_decide_eq_true (by first | (with_reducible assumption) | assumption)
          have q9 : x3_1 < (a0.size : Int) := of_decide_eq_true (by first | (with_reducible assumption) | assumption)
          have hx9 := bt_at a0 x3_1
          replace p9 := eq_true p9
          replace q9 := eq_true q9
          go_wp2
          go_ret
          exact ⟨by first | rfl | (simp; done) | (simp [*]; done),by repeat (first | exact y1.refl _ | apply y1.step)⟩
         ·rw [if_neg c10] at H
          have c10b0 : decide ((bt a0 x3_1) < 32) = false := decide_eq_false c10
          clear c10
          by_cases c12 : (bt a0 x3_1) > 126
          ·rw [if_pos c12] at H
           have c12b0 : decide (126 < (bt a0 x3_1)) = true := decide_eq_true c12
           clear c12
           obtain rfl := Option.some.inj H
           have p7 : 0 ≤ (x3_1 : Int) := of_decide_eq_true (by first | (with_reducible assumption) | assumption)
           have q7 : x3_1 < (a0.size : Int) := of_decide_eq_true (by first | (with_reducible assumption) | assumption)
           have hx7 := bt_at a0 x3_1
           replace p7 := eq_true p7
           replace q7 := eq_true q7
           have p9 : 0 ≤ (x3_1 : Int) := of_decide_eq_true (by first | (with_reducible assumption) | assumption)
           have q9 : x3_1 < (a0.size : Int) := of_decide_eq_true (by first | (with_reducible assumption) | assumption)
           have hx9 := bt_at a0 x3_1
           replace p9 := eq_true p9
           replace q9 := eq_true q9
           have p11 : 0 ≤ (x3_1 : Int) := of_decide_eq_true (by first | (with_reducible assumption) | assumption)
           have q11 : x3_1 < (a0.size : Int) := of_decide_eq_true (by first | (with_reducible assumption) | assumption)
           have hx11 := bt_at a0 x3_1
           replace p11 := eq_true p11
           replace q11 := eq_true q11
           go_wp2
           go_ret
           exact ⟨by first | rfl | (simp; done) | (simp [*]; done),by repeat (first | exact y1.refl _ | apply y1.step)⟩
          ·rw [if_neg c12] at H
           have c12b0 : decide (126 < (bt a0 x3_1)) = false := decide_eq_false c12
           clear c12
           by_cases c14 : (bt a0 x3_1) = 92
           ·rw [if_pos c14] at H
            have c14b0 : ((bt a0 x3_1) == 92) = true := beq_iff_eq.mpr c14
            have c14b1 : ((bt a0 x3_1) != 92) = false := bne_eq_false_iff_eq.mpr c14
            clear c14
            obtain rfl := Option.some.inj H
            have p7 : 0 ≤ (x3_1 : Int) := of_decide_eq_true (by first | (with_reducible assumption) | assumption)
            have q7 : x3_1 < (a0.size : Int) := of_decide_eq_true (by first | (with_reducible assumption) | assumption)
            have hx7 := bt_at a0 x3_1
            replace p7 := eq_true p7
            replace q7 := eq_true q7
            have p9 : 0 ≤ (x3_1 : Int) := of_decide_eq_true (by first | (with_reducible assumption) | assumption)
            have q9 : x3_1 < (a0.size : Int) := of_decide_eq_true (by first | (with_reducible assumption) | assumption)
            have hx9 := bt_at a0 x3_1
            replace p9 := eq_true p9
            replace q9 := eq_true q9
            have p11 : 0 ≤ (x3_1 : Int) := of_decide_eq_true (by first | (with_reducible assumption) | assumption)
            have q11 : x3_1 < (a0.size : Int) := of_decide_eq_true (by first | (with_reducible assumption) | assumption)
            have hx11 := bt_at a0 x3_1
            replace p11 := eq_true p11
            replace q11 := eq_true q11
            have p13 : 0 ≤ (x3_1 : Int) := of_decide_eq_true (by first | (with_reducible assumption) | assumption)
            have q13 : x3_1 < (a0.size : Int) := of_decide_eq_true (by first | (with_reducible assumption) | assumption)
            have hx13 := bt_at a0 x3_1
            replace p13 := eq_true p13
            replace q13 := eq_true q13
            go_wp2
            go_ret
            exact ⟨by first | rfl | (simp; done) | (simp [*]; done),by repeat (first | exact y1.refl _ | apply y1.step)⟩
           ·rw [if_neg c14] at H
            have c14b0 : ((bt a0 x3_1) == 92) = false := beq_eq_false_iff_ne.mpr c14
            have c14b1 : ((bt a0 x3_1) != 92) = true := bne_iff_ne.mpr c14
            have H' := y0.mk H
            clear H
            have p7 : 0 ≤ (x3_1 : Int) := of_decide_eq_true (by first | (with_reducible assumption) | assumption)
            have q7 : x3_1 < (a0.size : Int) := of_decide_eq_true (by first | (with_reducible assumption) | assumption)
            have hx7 := bt_at a0 x3_1
            replace p7 := eq_true p7
            replace q7 := eq_true q7
            have p9 : 0 ≤ (x3_1 : Int) := of_decide_eq_true (by first | (with_reducible assumption) | assumption)
            have q9 : x3_1 < (a0.size : Int) := of_decide_eq_true (by first | (with_reducible assumption) | assumption)
            have hx9 := bt_at a0 x3_1
            replace p9 := eq_true p9
            replace q9 := eq_true q9
            have p11 : 0 ≤ (x3_1 : Int) := of_decide_eq_true (by first | (with_reducible assumption) | assumption)
            have q11 : x3_1 < (a0.size : Int) := of_decide_eq_true (by first | (with_reducible assumption) | assumption)
            have hx11 := bt_at a0 x3_1
            replace p11 := eq_true p11
            replace q11 := eq_true q11
            have p13 : 0 ≤ (x3_1 : Int) := of_decide_eq_true (by first | (with_reducible assumption) | assumption)
            have q13 : x3_1 < (a0.size : Int) := of_decide_eq_true (by first | (with_reducible assumption) | assumption)
            have hx13 := bt_at a0 x3_1
            replace p13 := eq_true p13
            replace q13 := eq_true q13
            go_wp2
            go_roundg kj1
            case measure => have := HK1.out; have := HJ1.out; omega
            case rel => exact ⟨(wrap64 (x3_1 + 1)),(by first | rfl | (simp; done) | (simp [*]; done)),H',⟨by have := HK1.out; have := HJ1.out; omega⟩,by repeat (first | exact y1.refl _ | apply y1.step)⟩
       ·rw [if_neg c6] at H
        exact absurd H (by simp)
      ·rw [if_neg c5] at H
       exact absurd H (by simp)
     ·replace c4 := Bool.eq_false_iff.mpr c4
      subst c4
      have H1 : (some 0) = some r := by rw [if_neg (show ¬ (false = true) by decide)] at H; exact H
      clear H
      have H := H1
      clear H1
      obtain rfl := Option.some.inj H
      go_wp2
      go_ret
      exact ⟨by first | rfl | (simp; done) | (simp [*]; done),by repeat (first | exact y1.refl _ | apply y1.step)⟩
end Go.Proofs.YtebadckdihgklaaDoor.Pb
end
section
namespace Go.Proofs.YtebadckdihgklaaDoor.Pb
open Go.RowKit Go.Proofs.YtebadckdihgklaaDoorW.PrintWords Go.Proofs.YtebadckdihgklaaDoorW.PrintLast Go.Proofs.YtebadckdihgklaaDoorW.PrintMore
attribute [local go_sem] max2_int min2_int max_two min_two max_three min_three max_four min_four   -- for this text's walks alone
set_option linter.unusedVariables false
set_option linter.unusedSimpArgs false
mutual
def impl_termAt.j0 : Nat → ByteArray → Bool → Option (Int × Int)
 | 0,_,_ => none
 | k + 1,x0,x23 => if x23 = true then (impl_termAt.l0 k x0 1) else (if 0 < (x0.size : Int) then (if (bt x0 0) ≥ 65 then (impl_termAt.j3 k x0 (decide ((bt x0 0) ≤ 90))) else (impl_termAt.j3 k x0 false)) else (none))
def impl_termAt.j2 : Nat → ByteArray → Int → Option (Int × Int)
 | 0,_,_ => none
 | k + 1,x0,x5 => if 0 ≤ x5 then (if x5 ≤ (x0.size : Int) then ((strconv_Atoi.f (x0.extract 0 (x5 : Int).toNat)).bind fun bt171 => (if bt171.2.isNone = true then ((impl_in.f bt171.1 (-1000000) 1000000).bind fun t174 => (if t174 = true then ((strconv_Itoa.f bt171.1).bind fun t175 => (if t175.toList = (x0.extract 0 (x5 : Int).toNat).toList then (some (1,x5)) else (some (0,0)))) else (some (0,0)))) else (some (0,0)))) else (none)) else (none)
def impl_termAt.l0 : Nat → ByteArray → Int → Option (Int × Int)
 | 0,_,_ => none
 | k + 1,x0,x5 => if x5 < (x0.size : Int) then (if 0 ≤ x5 then ((impl_isDigit.f (bt x0 x5)).bind fun t170 => (if t170 = true then (impl_termAt.l0 k x0 (wrap64 (x5 + 1))) else (impl_termAt.j2 k x0 x5))) else (none)) else (impl_termAt.j2 k x0 x5)
def impl_termAt.j3 : Nat → ByteArray → Bool → Option (Int × Int)
 | 0,_,_ => none
 | k + 1,x0,x66 => if x66 = true then ((impl_nameLong.f k x0).bind fun t176 => (if t176 > 20 then (some (0,0)) else (if t176 = (x0.size : Int) then (impl_termAt.j4 k x0 t176 true) else (if 0 ≤ t176 then (if t176 < (x0.size : Int) then (impl_termAt.j4 k x0 t176 ((bt x0 t176) != 40)) else (none)) else (none))))) else (some (0,0))
def impl_termAt.j4 : Nat → ByteArray → Int → Bool → Option (Int × Int)
 | 0,_,_,_ => none
 | k + 1,x0,x8,x88 => if x88 = true then (some (3,x8)) else (impl_termAt.l1 k x0 x8 true)
def impl_termAt.l1 : Nat → ByteArray → Int → Bool → Option (Int × Int)
 | 0,_,_,_ => none
 | k + 1,x0,x8,x9 => if x9 = true then (if 0 ≤ (wrap64 (x8 + 1)) then (if (wrap64 (x8 + 1)) ≤ (x0.size : Int) then ((impl_termAt.f k (x0.extract ((wrap64 (x8 + 1)) : Int).toNat x0.size)).bind fun bt177 => (if bt177.1 = 0 then (some (0,0)) else (if (wrap64 (x8 + (wrap64 (1 + bt177.2)))) < (x0.size : Int) then (if 0 ≤ (wrap64 (x8 + (wrap64 (1 + bt177.2)))) then (impl_termAt.l1 k x0 (wrap64 (x8 + (wrap64 (1 + bt177.2)))) ((bt x0 (wrap64 (x8 + (wrap64 (1 + bt177.2))))) == 44)) else (none)) else (impl_termAt.l1 k x0 (wrap64 (x8 + (wrap64 (1 + bt177.2)))) false)))) else (none)) else (none)) else (if x8 < (x0.size : Int) then (if 0 ≤ x8 then (if (bt x0 x8) = 41 then (some (3,wrap64 (x8 + 1))) else (some (0,0))) else (none)) else (some (0,0)))
def impl_termAt.f : Nat → ByteArray → Option (Int × Int)
 | 0,_ => none
 | k + 1,a0 => if a0.toList = ([] : List UInt8) then (some (0,0)) else (if 0 < (a0.size : Int) then (if (bt a0 0) = 34 then ((impl_symbolLong.f k a0).bind fun t168 => (if t168 > 0 then (some (2,t168)) else (some (0,0)))) else (if (bt a0 0) = 45 then (impl_termAt.j0 k a0 true) else ((impl_isDigit.f (bt a0 0)).bind fun t169 => (impl_termAt.j0 k a0 t169)))) else (none))
end
def impl_termAt.T12 : Bool × List (List Nat × List Nat) := (true,[([],[]),([0],[0]),([1],[1]),([2],[2]),([3,2,2],[2,3]),([2,4],[2,4]),([5,4],[5]),([6],[6]),([7,6,6],[6,7]),([6],[6]),([6],[6]),([9,10,6],[6,9,10]),([8,11,6],[6,8,11]),([6,12],[6,12])])
def impl_termAt.B12 : List Nat := [0,1,3,7,15,31,63,127,255,127,127,1663,4095,8191]
theorem impl_termAt.tab12 : rtab .any (opsOf Tryd.f101 12) = impl_termAt.T12 := by kernel_rfl
theorem impl_termAt.bits12 : waitsOk impl_termAt.T12.2 impl_termAt.B12 = true := by kernel_rfl
set_option maxHeartbeats 8000000 in
set_option maxRecDepth 100000 in
theorem impl_termAt.calls (k : Nat) : ∀ (a0 : ByteArray) (r1 : Int) (r2 : Int) (w : World) (hT : Tb w) (h : impl_termAt.f k a0 = some (r1,r2)),
  Calls Tryd.prog 101 #[.string a0] w fun e w' => e = .returned (.tuple #[.int .i64 r1,.int .i64 r2]) ∧ Below w.heap.size w w' := by
 induction k using Nat.strongRecOn with
 | _ k ih =>
 intro a0 r1 r2 w hT h
 cases k with
 | zero => exact absurd h (by simp [impl_termAt.f])
 | succ k =>
 simp only [impl_termAt.f] at h
 have hu96 := Tryd.underlying96
 have HT := y0.mk hT
 clear hT
 have HB := y0.mk (Below.refl w.heap.size w)
 have H : (if a0.toList = ([] : List UInt8) then (some (0,0)) else (if 0 < (a0.size : Int) then (if (bt a0 0) = 34 then ((impl_symbolLong.f k a0).bind fun t168 => (if t168 > 0 then (some (2,t168)) else (some (0,0)))) else (if (bt a0 0) = 45 then (impl_termAt.j0 k a0 true) else ((impl_isDigit.f (bt a0 0)).bind fun t169 => (impl_termAt.j0 k a0 t169)))) else (none))) = some (r1,r2) := h
 clear h
 by_cases c2 : a0.toList = ([] : List UInt8)
 ·rw [if_pos c2] at H
  have c2b0 : (a0.toList == ([] : List UInt8)) = true := beq_iff_eq.mpr c2
  have c2b1 : (a0.toList != ([] : List UInt8)) = false := bne_eq_false_iff_eq.mpr c2
  clear c2
  simp only [Option.some.injEq,Prod.mk.injEq] at H
  obtain ⟨rfl,rfl⟩ := H
  go_enter Tryd.func101,Tryd.ntmps101
  go_wp2
  go_ret2
  exact ⟨by first | rfl | (simp [y9,y10] <;> rfl) | (simp [*,y9,y10] <;> rfl),by repeat (first | (with_reducible first | exact HB.out | apply y5 | apply y18 | apply y6) | exact HB.out)⟩
 ·rw [if_neg c2] at H
  have c2b0 : (a0.toList == ([] : List UInt8)) = false := beq_eq_false_iff_ne.mpr c2
  have c2b1 : (a0.toList != ([] : List UInt8)) = true := bne_iff_ne.mpr c2
  by_cases c3 : 0 < (a0.size : Int)
  ·rw [if_pos c3] at H
   have c3b0 : decide (0 < (a0.size : Int)) = true := decide_eq_true c3
   have c3b1 : decide (0 < a0.size) = true := decide_eq_true (by omega)
   clear c3
   by_cases c5 : (bt a0 0) = 34
   ·rw [if_pos c5] at H
    have c5b0 : ((bt a0 0) == 34) = true := beq_iff_eq.mpr c5
    have c5b1 : ((bt a0 0) != 34) = false := bne_eq_false_iff_eq.mpr c5
    clear c5
    replace H := Option.bind_eq_some_iff.mp H
    obtain ⟨t168,A60,H⟩ := H
    replace H : (if t168 > 0 then (some (2,t168)) else (some (0,0))) = some (r1,r2) := H
    have A6 := y0.mk A60
    clear A60
    by_cases c7 : t168 > 0
    ·rw [if_pos c7] at H
     have c7b0 : decide (0 < t168) = true := decide_eq_true c7
     clear c7
     simp only [Option.some.injEq,Prod.mk.injEq] at H
     obtain ⟨rfl,rfl⟩ := H
     have p4 : 0 ≤ (0 : Int) := (by omega)
     have q4 : 0 < a0.size := (by have : (0 : Int) < (a0.size : Int) := of_decide_eq_true (by first | (with_reducible assumption) | assumption); omega)
     have hx4 : ∀ h : 0 < a0.size,((a0[0]'h).toNat : Int) = bt a0 0 := bt_at a0 0
     clear p4
     have qi4 : (0 < (a0.size : Int)) = True := eq_true (of_decide_eq_true (by first | (with_reducible assumption) | assumption))
     replace q4 := eq_true q4
     go_enter Tryd.func101,Tryd.ntmps101
     go_wp2_with (first | ((with_reducible refine y11 (f := 121) rfl ?_); refine y12 (some 19) rfl rfl Tryd.func121 (by kernel_rfl) rfl #[.string a0] rfl (by (try simp only [qM_,List.map_cons,List.map_nil]); first | done | rfl | (simp only [qD_,qT_]; rfl)) ?_; (with_reducible refine (impl_symbolLong.calls k a0 t168 _ A6.out).mono ?_); rintro e w' ⟨rfl,⟨nd,rfl⟩⟩; refine ⟨_,rfl, ?_⟩))
     go_ret2
     exact ⟨by first | rfl | (simp [y9,y10] <;> rfl) | (simp [*,y9,y10] <;> rfl),by repeat (first | (with_reducible first | exact HB.out | apply y5 | apply y18 | apply y6) | exact HB.out)⟩
    ·rw [if_neg c7] at H
     have c7b0 : decide (0 < t168) = false := decide_eq_false c7
     clear c7
     simp only [Option.some.injEq,Prod.mk.injEq] at H
     obtain ⟨rfl,rfl⟩ := H
     have p4 : 0 ≤ (0 : Int) := (by omega)
     have q4 : 0 < a0.size := (by have : (0 : Int) < (a0.size : Int) := of_decide_eq_true (by first | (with_reducible assumption) | assumption); omega)
     have hx4 : ∀ h : 0 < a0.size,((a0[0]'h).toNat : Int) = bt a0 0 := bt_at a0 0
     clear p4
     have qi4 : (0 < (a0.size : Int)) = True := eq_true (of_decide_eq_true (by first | (with_reducible assumption) | assumption))
     replace q4 := eq_true q4
     go_enter Tryd.func101,Tryd.ntmps101
     go_wp2_with (first | ((with_reducible refine y11 (f := 121) rfl ?_); refine y12 (some 19) rfl rfl Tryd.func121 (by kernel_rfl) rfl #[.string a0] rfl (by (try simp only [qM_,List.map_cons,List.map_nil]); first | done | rfl | (simp only [qD_,qT_]; rfl)) ?_; (with_reducible refine (impl_symbolLong.calls k a0 t168 _ A6.out).mono ?_); rintro e w' ⟨rfl,⟨nd,rfl⟩⟩; refine ⟨_,rfl, ?_⟩))
     go_ret2
     exact ⟨by first | rfl | (simp [y9,y10] <;> rfl) | (simp [*,y9,y10] <;> rfl),by repeat (first | (with_reducible first | exact HB.out | apply y5 | apply y18 | apply y6) | exact HB.out)⟩
   ·rw [if_neg c5] at H
    have c5b0 : ((bt a0 0) == 34) = false := beq_eq_false_iff_ne.mpr c5
    have c5b1 : ((bt a0 0) != 34) = true := bne_iff_ne.mpr c5
    have HC8 := y0.mk H
    clear H
    have p4 : 0 ≤ (0 : Int) := (by omega)
    have q4 : 0 < a0.size := (by have : (0 : Int) < (a0.size : Int) := of_decide_eq_true (by first | (with_reducible assumption) | assumption); omega)
    have hx4 : ∀ h : 0 < a0.size,((a0[0]'h).toNat : Int) = bt a0 0 := bt_at a0 0
    clear p4
    have qi4 : (0 < (a0.size : Int)) = True := eq_true (of_decide_eq_true (by first | (with_reducible assumption) | assumption))
    replace q4 := eq_true q4
    go_enter Tryd.func101,Tryd.ntmps101
    go_upto_region 7 with (fail)
    go_cut [23] (fun v23 wc => ∃ (kq : Nat) (x23_7 : Bool),v23 = .bool x23_7 ∧ y0 (impl_termAt.j0 kq a0 x23_7 = some (r1,r2)) ∧ y0 (kq ≤ k) ∧ y0 (Below w.heap.size w wc))
    case first =>
     have H := HC8.out
     clear HC8
     by_cases c10 : (bt a0 0) = 45
     ·rw [if_pos c10] at H
      have c10b0 : ((bt a0 0) == 45) = true := beq_iff_eq.mpr c10
      have c10b1 : ((bt a0 0) != 45) = false := bne_eq_false_iff_eq.mpr c10
      clear c10
      (first | rw [c10b0] | (simp only [y14,y13]; rw [c10b0]) | skip)
      have H' := y0.mk H
      clear H
      have p9 : 0 ≤ (0 : Int) := (by omega)
      have q9 : 0 < a0.size := (by have : (0 : Int) < (a0.size : Int) := of_decide_eq_true (by first | (with_reducible assumption) | assumption); omega)
      have hx9 : ∀ h : 0 < a0.size,((a0[0]'h).toNat : Int) = bt a0 0 := bt_at a0 0
      clear p9
      have qi9 : (0 < (a0.size : Int)) = True := eq_true (of_decide_eq_true (by first | (with_reducible assumption) | assumption))
      replace q9 := eq_true q9
      go_wp2
      go_meet
      case rel => exact ⟨_,(true),(by first | rfl | (simp; done) | (simp [*]; done)),H',⟨by first | omega | exact Nat.le_refl _⟩,⟨by repeat (first | (with_reducible first | exact HB.out | apply y5 | apply y18 | apply y6) | exact HB.out)⟩⟩
     ·rw [if_neg c10] at H
      have c10b0 : ((bt a0 0) == 45) = false := beq_eq_false_iff_ne.mpr c10
      have c10b1 : ((bt a0 0) != 45) = true := bne_iff_ne.mpr c10
      (first | rw [c10b0] | (simp only [y14,y13]; rw [c10b0]) | skip)
      replace H := Option.bind_eq_some_iff.mp H
      obtain ⟨t169,A120,H⟩ := H
      replace H : (impl_termAt.j0 k a0 t169) = some (r1,r2) := H
      have A12 := y0.mk A120
      clear A120
      have H' := y0.mk H
      clear H
      have p9 : 0 ≤ (0 : Int) := (by omega)
      have q9 : 0 < a0.size := (by have : (0 : Int) < (a0.size : Int) := of_decide_eq_true (by first | (with_reducible assumption) | assumption); omega)
      have hx9 : ∀ h : 0 < a0.size,((a0[0]'h).toNat : Int) = bt a0 0 := bt_at a0 0
      clear p9
      have qi9 : (0 < (a0.size : Int)) = True := eq_true (of_decide_eq_true (by first | (with_reducible assumption) | assumption))
      replace q9 := eq_true q9
      have p11 : 0 ≤ (0 : Int) := (by omega)
      have q11 : 0 < a0.size := (by have : (0 : Int) < (a0.size : Int) := of_decide_eq_true (by first | (with_reducible assumption) | assumption); omega)
      have hx11 : ∀ h : 0 < a0.size,((a0[0]'h).toNat : Int) = bt a0 0 := bt_at a0 0
      clear p11
      have qi11 : (0 < (a0.size : Int)) = True := eq_true (of_decide_eq_true (by first | (with_reducible assumption) | assumption))
      replace q11 := eq_true q11
      go_wp2_with (first | (go_at_call 122; (with_reducible refine (impl_isDigit.calls (bt a0 0) t169 _ A12.out).mono ?_); rintro e w' ⟨rfl,⟨nd,rfl⟩⟩))
      go_meet
      case rel => exact ⟨_,(t169),(by first | rfl | (simp; done) | (simp [*]; done)),H',⟨by first | omega | exact Nat.le_refl _⟩,⟨by repeat (first | (with_reducible first | exact HB.out | apply y5 | apply y18 | apply y6) | exact HB.out)⟩⟩
    case rest =>
     clear HC8
     try clear c1
     try clear p1
     try clear q1
     try clear hx1
     try clear qi1
     try clear c2
     try clear c2b0
     try clear c2b1
     try clear p2
     try clear c3
     try clear c3b0
     try clear c3b1
     try clear p4
     try clear q4
     try clear hx4
     try clear qi4
     try clear c5
     try clear c5b0
     try clear c5b1
     try clear c7
     try clear c7b0
     try clear p9
     try clear q9
     try clear hx9
     try clear qi9
     try clear c10
     try clear c10b0
     try clear c10b1
     try clear p11
     try clear q11
     try clear hx11
     try clear qi11
     try clear c12
     try clear p11
     try clear p4
     try clear p9
     try clear q11
     try clear q4
     try clear q9
     obtain ⟨kq,x23_7,rfl,HA,HJ7,HB⟩ := hcut
     cases kq with
     | zero => exact absurd HA.out (by simp [impl_termAt.j0])
     | succ kj7 =>
      have H := HA.out
      clear HA
      simp only [impl_termAt.j0] at H
      by_cases c13 : x23_7 = true
      ·subst c13
       have H1 : (impl_termAt.l0 kj7 a0 1) = some (r1,r2) := by rw [if_pos rfl] at H; exact H
       clear H
       have H := H1
       clear H1
       have HC14 := y0.mk H
       clear H
       go_upto_block 1 with (fail)
       go_cut [5] (fun v5 wc => ∃ (kq : Nat) (x5_13 : Int),v5 = .int .i64 x5_13 ∧ y0 (impl_termAt.j2 kq a0 x5_13 = some (r1,r2)) ∧ y0 (kq ≤ kj7) ∧ y0 (Below w.heap.size w wc))
       case first =>
        have H := HC14.out
        clear HC14
        have H' := y0.mk H
        clear H
        go_wp2
        go_loopg [5] kj7 (fun kq v5 w' => ∃ (x5_2 : Int),v5 = .int .i64 x5_2 ∧ y0 (impl_termAt.l0 kq a0 x5_2 = some (r1,r2)) ∧ y0 (kq ≤ kj7) ∧ y0 (Below w.heap.size w w'))
        case atStart => exact ⟨(1),(by first | rfl | (simp; done) | (simp [*]; done)),H',⟨Nat.le_refl _⟩,⟨by repeat (first | (with_reducible first | exact HB.out | apply y5 | apply y18 | apply y6) | exact HB.out)⟩⟩
        case round =>
         clear H'
         try clear c1
         try clear p1
         try clear q1
         try clear hx1
         try clear qi1
         try clear c2
         try clear c2b0
         try clear c2b1
         try clear p2
         try clear c3
         try clear c3b0
         try clear c3b1
         try clear p4
         try clear q4
         try clear hx4
         try clear qi4
         try clear c5
         try clear c5b0
         try clear c5b1
         try clear c7
         try clear c7b0
         try clear p9
         try clear q9
         try clear hx9
         try clear qi9
         try clear c10
         try clear c10b0
         try clear c10b1
         try clear p11
         try clear q11
         try clear hx11
         try clear qi11
         try clear c12
         try clear c13
         try clear p1
         try clear p11
         try clear p2
         try clear p4
         try clear p9
         try clear q1
         try clear q11
         try clear q4
         try clear q9
         obtain ⟨x5_2,rfl,HA,HK2,HB⟩ := hrel
         cases gk with
         | zero => exact absurd HA.out (by simp [impl_termAt.l0])
         | succ k2 =>
          have H := HA.out
          clear HA
          simp only [impl_termAt.l0] at H
          by_cases c15 : x5_2 < (a0.size : Int)
          ·rw [if_pos c15] at H
           have c15b0 : decide (x5_2 < (a0.size : Int)) = true := decide_eq_true c15
           clear c15
           (first | rw [c15b0] | (simp only [y14,y13]; rw [c15b0]) | skip)
           by_cases c16 : 0 ≤ x5_2
           ·rw [if_pos c16] at H
            have c16b0 : decide (0 ≤ x5_2) = true := decide_eq_true c16
            clear c16
            replace H := Option.bind_eq_some_iff.mp H
            obtain ⟨t170,A180,H⟩ := H
            replace H : (if t170 = true then (impl_termAt.l0 k2 a0 (wrap64 (x5_2 + 1))) else (impl_termAt.j2 k2 a0 x5_2)) = some (r1,r2) := H
            have A18 := y0.mk A180
            clear A180
            by_cases c19 : t170 = true
            ·subst c19
             have H1 : (impl_termAt.l0 k2 a0 (wrap64 (x5_2 + 1))) = some (r1,r2) := by rw [if_pos rfl] at H; exact H
             clear H
             have H := H1
             clear H1
             have H' := y0.mk H
             clear H
             have p17 : 0 ≤ (x5_2 : Int) := of_decide_eq_true (by first | (with_reducible assumption) | assumption)
             have q17 : x5_2 < (a0.size : Int) := of_decide_eq_true (by first | (with_reducible assumption) | assumption)
             have hx17 := bt_at a0 x5_2
             replace p17 := eq_true p17
             replace q17 := eq_true q17
             go_wp2_with (first | (go_at_call 122; (with_reducible refine (impl_isDigit.calls (bt a0 x5_2) true _ A18.out).mono ?_); rintro e w' ⟨rfl,⟨nd,rfl⟩⟩))
             go_roundg k2
             case measure => have := HJ7.out; have := HK2.out; omega
             case rel => exact ⟨(wrap64 (x5_2 + 1)),(by first | rfl | (simp; done) | (simp [*]; done)),H',⟨by have := HJ7.out; have := HK2.out; omega⟩,⟨by repeat (first | (with_reducible first | exact HB.out | apply y5 | apply y18 | apply y6) | exact HB.out)⟩⟩
            ·replace c19 := Bool.eq_false_iff.mpr c19
             subst c19
             have H1 : (impl_termAt.j2 k2 a0 x5_2) = some (r1,r2) := by rw [if_neg (show ¬ (false = true) by decide)] at H; exact H
             clear H
             have H := H1
             clear H1
             have H' := y0.mk H
             clear H
             have p17 : 0 ≤ (x5_2 : Int) := of_decide_eq_true (by first | (with_reducible assumption) | assumption)
             have q17 : x5_2 < (a0.size : Int) := of_decide_eq_true (by first | (with_reducible assumption) | assumption)
             have hx17 := bt_at a0 x5_2
             replace p17 := eq_true p17
             replace q17 := eq_true q17
             go_wp2_with (first | (go_at_call 122; (with_reducible refine (impl_isDigit.calls (bt a0 x5_2) false _ A18.out).mono ?_); rintro e w' ⟨rfl,⟨nd,rfl⟩⟩))
             go_meet
             case rel => exact ⟨_,(x5_2),(by first | rfl | (simp; done) | (simp [*]; done)),H',⟨by have := HJ7.out; have := HK2.out; first | omega | exact Nat.le_refl _⟩,⟨by repeat (first | (with_reducible first | exact HB.out | apply y5 | apply y18 | apply y6) | exact HB.out)⟩⟩
           ·rw [if_neg c16] at H
            exact absurd H (by simp)
          ·rw [if_neg c15] at H
           have c15b0 : decide (x5_2 < (a0.size : Int)) = false := decide_eq_false c15
           clear c15
           (first | rw [c15b0] | (simp only [y14,y13]; rw [c15b0]) | skip)
           have H' := y0.mk H
           clear H
           go_wp2
           go_meet
           case rel => exact ⟨_,(x5_2),(by first | rfl | (simp; done) | (simp [*]; done)),H',⟨by have := HJ7.out; have := HK2.out; first | omega | exact Nat.le_refl _⟩,⟨by repeat (first | (with_reducible first | exact HB.out | apply y5 | apply y18 | apply y6) | exact HB.out)⟩⟩
       case rest =>
        clear HC14
        try clear c1
        try clear p1
        try clear q1
        try clear hx1
        try clear qi1
        try clear c2
        try clear c2b0
        try clear c2b1
        try clear p2
        try clear c3
        try clear c3b0
        try clear c3b1
        try clear p4
        try clear q4
        try clear hx4
        try clear qi4
        try clear c5
        try clear c5b0
        try clear c5b1
        try clear p6
        try clear c7
        try clear c7b0
        try clear p9
        try clear q9
        try clear hx9
        try clear qi9
        try clear c10
        try clear c10b0
        try clear c10b1
        try clear p11
        try clear q11
        try clear hx11
        try clear qi11
        try clear c12
        try clear c13
        try clear c15
        try clear c15b0
        try clear c16
        try clear c16b0
        try clear p17
        try clear q17
        try clear hx17
        try clear c19
        try clear p1
        try clear p11
        try clear p17
        try clear p2
        try clear p4
        try clear p9
        try clear q1
        try clear q11
        try clear q17
        try clear q4
        try clear q9
        obtain ⟨kq,x5_13,rfl,HA,HJ13,HB⟩ := hcut
        cases kq with
        | zero => exact absurd HA.out (by simp [impl_termAt.j2])
        | succ kj13 =>
         have H := HA.out
         clear HA
         simp only [impl_termAt.j2] at H
         by_cases c20 : 0 ≤ x5_13
         ·rw [if_pos c20] at H
          have c20b0 := eq_true c20
          have c20b1 : decide (0 ≤ x5_13) = true := decide_eq_true c20
          clear c20
          by_cases c21 : x5_13 ≤ (a0.size : Int)
          ·rw [if_pos c21] at H
           have c21b0 := eq_true c21
           have c21b1 : decide (x5_13 ≤ (a0.size : Int)) = true := decide_eq_true c21
           clear c21
           replace H := Option.bind_eq_some_iff.mp H
           obtain ⟨⟨t171,t172⟩,A220,H⟩ := H
           replace H : (if t172.isNone = true then ((impl_in.f t171 (-1000000) 1000000).bind fun t174 => (if t174 = true then ((strconv_Itoa.f t171).bind fun t175 => (if t175.toList = (a0.extract 0 (x5_13 : Int).toNat).toList then (some (1,x5_13)) else (some (0,0)))) else (some (0,0)))) else (some (0,0))) = some (r1,r2) := H
           have A22 := y0.mk A220
           clear A220
           rcases t172 with _ | q173
           ·have H1 : ((impl_in.f t171 (-1000000) 1000000).bind fun t174 => (if t174 = true then ((strconv_Itoa.f t171).bind fun t175 => (if t175.toList = (a0.extract 0 (x5_13 : Int).toNat).toList then (some (1,x5_13)) else (some (0,0)))) else (some (0,0)))) = some (r1,r2) := by rw [if_pos (show (none : Option Int).isNone = true by rfl)] at H; exact H
            clear H
            have H := H1
            clear H1
            try simp only [y9,y10]
            replace H := Option.bind_eq_some_iff.mp H
            obtain ⟨t174,A230,H⟩ := H
            replace H : (if t174 = true then ((strconv_Itoa.f t171).bind fun t175 => (if t175.toList = (a0.extract 0 (x5_13 : Int).toNat).toList then (some (1,x5_13)) else (some (0,0)))) else (some (0,0))) = some (r1,r2) := H
            have A23 := y0.mk A230
            clear A230
            by_cases c24 : t174 = true
            ·subst c24
             have H1 : ((strconv_Itoa.f t171).bind fun t175 => (if t175.toList = (a0.extract 0 (x5_13 : Int).toNat).toList then (some (1,x5_13)) else (some (0,0)))) = some (r1,r2) := by rw [if_pos rfl] at H; exact H
             clear H
             have H := H1
             clear H1
             replace H := Option.bind_eq_some_iff.mp H
             obtain ⟨t175,A250,H⟩ := H
             replace H : (if t175.toList = (a0.extract 0 (x5_13 : Int).toNat).toList then (some (1,x5_13)) else (some (0,0))) = some (r1,r2) := H
             have A25 := y0.mk A250
             clear A250
             have c26b0 := eq_true (of_decide_eq_true (by first | (with_reducible assumption) | assumption) : 0 ≤ x5_13)
             have c27b0 := eq_true (of_decide_eq_true (by first | (with_reducible assumption) | assumption) : x5_13 ≤ (a0.size : Int))
             by_cases c28 : t175.toList = (a0.extract 0 (x5_13 : Int).toNat).toList
             ·rw [if_pos c28] at H
              have c28b0 : (t175.toList == (a0.extract 0 (x5_13 : Int).toNat).toList) = true := beq_iff_eq.mpr c28
              have c28b1 : (t175.toList != (a0.extract 0 (x5_13 : Int).toNat).toList) = false := bne_eq_false_iff_eq.mpr c28
              clear c28
              simp only [Option.some.injEq,Prod.mk.injEq] at H
              obtain ⟨rfl,rfl⟩ := H
              try go_wp2_with (first | ((with_reducible refine y11 (f := 102) rfl ?_); refine y12 (some 48) rfl rfl Tryd.func102 (by kernel_rfl) rfl #[.string (a0.extract 0 (x5_13 : Int).toNat)] rfl (by (try simp only [qM_,List.map_cons,List.map_nil]); first | done | rfl | (simp only [qD_,qT_]; rfl)) ?_; (with_reducible refine (strconv_Atoi.calls (a0.extract 0 (x5_13 : Int).toNat) t171 none _ ?side1 A22.out).mono ?_); (case side1 => exact Tb.below HT.out (by repeat (first | (with_reducible first | exact HB.out | apply y5 | apply y18 | apply y6) | exact HB.out))); rintro e w29 ⟨ev_,rfl,hev_,hb⟩; obtain rfl := errIs_none hev_; refine ⟨_,rfl, ?_⟩; have n0_ := y0.mk (y8 (by repeat (first | (with_reducible first | exact HB.out | apply y5 | apply y18 | apply y6) | exact HB.out)) hb); clear HB; have HB := n0_; clear n0_; (try clear hb); (try clear hb2); (try clear hk); (try clear hi); (try simp only [y9,y10])))
              have n0_ := y0.mk (y6 HB.out)
              clear HB
              have HB := n0_
              clear n0_
              refine start_ (n := 14) (S := fun w' => True) (ds := []) (fl_ 14 0) (by kernel_rfl) rfl rfl trivial (fun hHeld => ?_); refine with_tabW impl_termAt.tab12 impl_termAt.bits12 (fun HT_ HW_ => ?_)
              generalize w29.drew = w30 at HB hHeld ⊢
              refine pure_ (i := 0) (N := some 51) (v := ?_) (a' := ?_) (fl_ 14 1) rfl rfl (y4 HT_.out (by kernel_rfl)) (fun _ _ _ h => h) (Or.inl ⟨by rfl, ?_⟩) ?_ ?_
              rotate_left
              ·intro w'
               go_simp
               with_reducible rfl
              rotate_left
              ·simp only [Act.put,qS_,qZ_,qC_,y14,y13]
               rfl
              refine pure_ (i := 1) (N := some 52) (v := ?_) (a' := ?_) (fl_ 14 3) rfl rfl (y4 HT_.out (by kernel_rfl)) (fun _ _ _ h => h) (Or.inl ⟨by rfl, ?_⟩) ?_ ?_
              rotate_left
              ·intro w'
               go_simp
               with_reducible rfl
              rotate_left
              ·simp only [Act.put,qS_,qZ_,qC_,y14,y13]
               rfl
              refine pure_ (i := 2) (N := some 53) (v := ?_) (a' := ?_) (fl_ 14 7) rfl rfl (y4 HT_.out (by kernel_rfl)) (fun _ _ _ h => h) (Or.inl ⟨by rfl, ?_⟩) ?_ ?_
              rotate_left
              ·intro w'
               go_simp
               with_reducible rfl
              rotate_left
              ·simp only [Act.put,qS_,qZ_,qC_,y14,y13]
               rfl
              refine pure_ (i := 3) (N := some 54) (v := ?_) (a' := ?_) (fl_ 14 15) rfl rfl (y4 HT_.out (by kernel_rfl)) (fun _ _ _ h => h) (Or.inl ⟨by rfl, ?_⟩) ?_ ?_
              rotate_left
              ·intro w'
               go_simp
               with_reducible rfl
              rotate_left
              ·simp only [Act.put,qS_,qZ_,qC_,y14,y13]
               rfl
              refine one_ (i := 4) (N := some 55) (fl_ 14 31) rfl rfl (one_of HT_.out (by kernel_rfl)) (by decide) (fun K hK => ?_)
              refine goes_ Tryd.func67 (by kernel_rfl) rfl #[.int .i64 t171,.int .i64 (-1000000),.int .i64 1000000] (by rfl) rfl rfl (by (try simp only [qM_,List.map_cons,List.map_nil]); first | done | rfl | (simp only [qD_,qT_]; rfl)) ?_
              with_reducible refine (impl_in.calls t171 (-1000000) 1000000 true _ A23.out).mono ?_
              rintro e w' ⟨rfl,⟨nd,rfl⟩⟩
              refine ⟨_,rfl, ?_⟩
              refine hK.out _ _ trivial (fun hHeld => ?_)
              clear hK K
              refine norm_ (a' := ?_) ?_ ?_
              rotate_left
              ·show Act.put _ (some 55) _ = _
               simp only [Act.put,qS_,qZ_,qC_,y14,y13]
               rfl
              refine pure_ (i := 5) (N := some 56) (v := ?_) (a' := ?_) (fl_ 14 63) rfl rfl (y4 HT_.out (by kernel_rfl)) (fun _ _ _ h => h) (Or.inl ⟨by rfl, ?_⟩) ?_ ?_
              rotate_left
              ·intro w'
               go_simp
               with_reducible rfl
              rotate_left
              ·simp only [Act.put,qS_,qZ_,qC_,y14,y13]
               rfl
              refine pure_ (i := 6) (N := some 57) (v := ?_) (a' := ?_) (fl_ 14 127) rfl rfl (y4 HT_.out (by kernel_rfl)) (fun _ _ _ h => h) (Or.inl ⟨by rfl, ?_⟩) ?_ ?_
              rotate_left
              ·intro w'
               go_simp
               with_reducible rfl
              rotate_left
              ·simp only [Act.put,qS_,qZ_,qC_,y14,y13]
               rfl
              refine pure_ (i := 7) (N := some 58) (v := ?_) (a' := ?_) (fl_ 14 255) rfl rfl (y4 HT_.out (by kernel_rfl)) (fun _ _ _ h => h) (Or.inl ⟨by rfl, ?_⟩) ?_ ?_
              rotate_left
              ·intro w'
               go_simp
               with_reducible rfl
              rotate_left
              ·simp only [Act.put,qS_,qZ_,qC_,y14,y13]
               rfl
              refine pure_ (i := 9) (N := some 60) (v := ?_) (a' := ?_) (fl_ 14 767) rfl rfl (y4 HT_.out (by kernel_rfl)) (fun _ _ _ h => h) (Or.inl ⟨by rfl, ?_⟩) ?_ ?_
              rotate_left
              ·intro w'
               go_simp
               with_reducible rfl
              rotate_left
              ·simp only [Act.put,qS_,qZ_,qC_,y14,y13]
               rfl
              refine pure_ (i := 10) (N := some 61) (v := ?_) (a' := ?_) (fl_ 14 1791) rfl rfl (y4 HT_.out (by kernel_rfl)) (fun _ _ _ h => h) (Or.inl ⟨by rfl, ?_⟩) ?_ ?_
              rotate_left
              ·intro w'
               go_simp
               with_reducible rfl
              rotate_left
              ·simp only [Act.put,qS_,qZ_,qC_,y14,y13]
               rfl
              refine pure_ (i := 11) (N := some 62) (v := ?_) (a' := ?_) (fl_ 14 3839) rfl rfl (y4 HT_.out (by kernel_rfl)) (fun _ _ _ h => h) (Or.inl ⟨by rfl, ?_⟩) ?_ ?_
              rotate_left
              ·intro w'
               go_simp
               with_reducible rfl
              rotate_left
              ·simp only [Act.put,qS_,qZ_,qC_,y14,y13]
               rfl
              refine one_ (i := 8) (N := some 59) (fl_ 14 4095) rfl rfl (one_of HT_.out (by kernel_rfl)) (by decide) (fun K hK => ?_)
              refine goes_ Tryd.func65 (by kernel_rfl) rfl #[.int .i64 t171] (by rfl) rfl rfl (by (try simp only [qM_,List.map_cons,List.map_nil]); first | done | rfl | (simp only [qD_,qT_]; rfl)) ?_
              with_reducible refine (strconv_Itoa.calls t171 t175 _ ?side1 A25.out).mono ?_
              (case side1 => exact Tb.below HT.out (by repeat (first | (with_reducible first | exact HB.out | apply y5 | apply y18 | apply y6) | exact HB.out)))
              rintro e w31 ⟨rfl,hb⟩
              refine ⟨_,rfl, ?_⟩
              have n0_ := y0.mk (y8 (by repeat (first | (with_reducible first | exact HB.out | apply y5 | apply y18 | apply y6) | exact HB.out)) hb)
              clear HB
              have HB := n0_
              clear n0_
              (try clear hb)
              (try clear hb2)
              (try clear hk)
              (try clear hi)
              refine hK.out _ _ trivial (fun hHeld => ?_)
              clear hK K
              refine norm_ (a' := ?_) ?_ ?_
              rotate_left
              ·show Act.put _ (some 59) _ = _
               simp only [Act.put,qS_,qZ_,qC_,y14,y13]
               rfl
              refine pure_ (i := 12) (N := some 63) (v := ?_) (a' := ?_) (fl_ 14 8191) rfl rfl (y4 HT_.out (by kernel_rfl)) (fun _ _ _ h => h) (Or.inl ⟨by rfl, ?_⟩) ?_ ?_
              rotate_left
              ·intro w'
               go_simp
               with_reducible rfl
              rotate_left
              ·simp only [Act.put,qS_,qZ_,qC_,y14,y13]
               rfl
              refine pure_ (i := 13) (N := some 64) (v := ?_) (a' := ?_) (fl_ 14 16383) rfl rfl (y4 HT_.out (by kernel_rfl)) (fun _ _ _ h => h) (Or.inl ⟨by rfl, ?_⟩) ?_ ?_
              rotate_left
              ·intro w'
               go_simp
               with_reducible rfl
              rotate_left
              ·simp only [Act.put,qS_,qZ_,qC_,y14,y13]
               rfl
              refine done_ (done_of HT_.out (by kernel_rfl)) ?_
              try go_wp2
              go_ret2
              exact ⟨by first | rfl | (simp [y9,y10] <;> rfl) | (simp [*,y9,y10] <;> rfl),by repeat (first | (with_reducible first | exact HB.out | apply y5 | apply y18 | apply y6) | exact HB.out)⟩
             ·rw [if_neg c28] at H
              have c28b0 : (t175.toList == (a0.extract 0 (x5_13 : Int).toNat).toList) = false := beq_eq_false_iff_ne.mpr c28
              have c28b1 : (t175.toList != (a0.extract 0 (x5_13 : Int).toNat).toList) = true := bne_iff_ne.mpr c28
              simp only [Option.some.injEq,Prod.mk.injEq] at H
              obtain ⟨rfl,rfl⟩ := H
              try go_wp2_with (first | ((with_reducible refine y11 (f := 102) rfl ?_); refine y12 (some 48) rfl rfl Tryd.func102 (by kernel_rfl) rfl #[.string (a0.extract 0 (x5_13 : Int).toNat)] rfl (by (try simp only [qM_,List.map_cons,List.map_nil]); first | done | rfl | (simp only [qD_,qT_]; rfl)) ?_; (with_reducible refine (strconv_Atoi.calls (a0.extract 0 (x5_13 : Int).toNat) t171 none _ ?side1 A22.out).mono ?_); (case side1 => exact Tb.below HT.out (by repeat (first | (with_reducible first | exact HB.out | apply y5 | apply y18 | apply y6) | exact HB.out))); rintro e w32 ⟨ev_,rfl,hev_,hb⟩; obtain rfl := errIs_none hev_; refine ⟨_,rfl, ?_⟩; have n0_ := y0.mk (y8 (by repeat (first | (with_reducible first | exact HB.out | apply y5 | apply y18 | apply y6) | exact HB.out)) hb); clear HB; have HB := n0_; clear n0_; (try clear hb); (try clear hb2); (try clear hk); (try clear hi); (try simp only [y9,y10])))
              have n0_ := y0.mk (y6 HB.out)
              clear HB
              have HB := n0_
              clear n0_
              refine start_ (n := 14) (S := fun w' => True) (ds := []) (fl_ 14 0) (by kernel_rfl) rfl rfl trivial (fun hHeld => ?_); refine with_tabW impl_termAt.tab12 impl_termAt.bits12 (fun HT_ HW_ => ?_)
              generalize w32.drew = w33 at HB hHeld ⊢
              refine pure_ (i := 0) (N := some 51) (v := ?_) (a' := ?_) (fl_ 14 1) rfl rfl (y4 HT_.out (by kernel_rfl)) (fun _ _ _ h => h) (Or.inl ⟨by rfl, ?_⟩) ?_ ?_
              rotate_left
              ·intro w'
               go_simp
               with_reducible rfl
              rotate_left
              ·simp only [Act.put,qS_,qZ_,qC_,y14,y13]
               rfl
              refine pure_ (i := 1) (N := some 52) (v := ?_) (a' := ?_) (fl_ 14 3) rfl rfl (y4 HT_.out (by kernel_rfl)) (fun _ _ _ h => h) (Or.inl ⟨by rfl, ?_⟩) ?_ ?_
              rotate_left
              ·intro w'
               go_simp
               with_reducible rfl
              rotate_left
              ·simp only [Act.put,qS_,qZ_,qC_,y14,y13]
               rfl
              refine pure_ (i := 2) (N := some 53) (v := ?_) (a' := ?_) (fl_ 14 7) rfl rfl (y4 HT_.out (by kernel_rfl)) (fun _ _ _ h => h) (Or.inl ⟨by rfl, ?_⟩) ?_ ?_
              rotate_left
              ·intro w'
               go_simp
               with_reducible rfl
              rotate_left
              ·simp only [Act.put,qS_,qZ_,qC_,y14,y13]
               rfl
              refine pure_ (i := 3) (N := some 54) (v := ?_) (a' := ?_) (fl_ 14 15) rfl rfl (y4 HT_.out (by kernel_rfl)) (fun _ _ _ h => h) (Or.inl ⟨by rfl, ?_⟩) ?_ ?_
              rotate_left
              ·intro w'
               go_simp
               with_reducible rfl
              rotate_left
              ·simp only [Act.put,qS_,qZ_,qC_,y14,y13]
               rfl
              refine one_ (i := 4) (N := some 55) (fl_ 14 31) rfl rfl (one_of HT_.out (by kernel_rfl)) (by decide) (fun K hK => ?_)
              refine goes_ Tryd.func67 (by kernel_rfl) rfl #[.int .i64 t171,.int .i64 (-1000000),.int .i64 1000000] (by rfl) rfl rfl (by (try simp only [qM_,List.map_cons,List.map_nil]); first | done | rfl | (simp only [qD_,qT_]; rfl)) ?_
              with_reducible refine (impl_in.calls t171 (-1000000) 1000000 true _ A23.out).mono ?_
              rintro e w' ⟨rfl,⟨nd,rfl⟩⟩
              refine ⟨_,rfl, ?_⟩
              refine hK.out _ _ trivial (fun hHeld => ?_)
              clear hK K
              refine norm_ (a' := ?_) ?_ ?_
              rotate_left
              ·show Act.put _ (some 55) _ = _
               simp only [Act.put,qS_,qZ_,qC_,y14,y13]
               rfl
              refine pure_ (i := 5) (N := some 56) (v := ?_) (a' := ?_) (fl_ 14 63) rfl rfl (y4 HT_.out (by kernel_rfl)) (fun _ _ _ h => h) (Or.inl ⟨by rfl, ?_⟩) ?_ ?_
              rotate_left
              ·intro w'
               go_simp
               with_reducible rfl
              rotate_left
              ·simp only [Act.put,qS_,qZ_,qC_,y14,y13]
               rfl
              refine pure_ (i := 6) (N := some 57) (v := ?_) (a' := ?_) (fl_ 14 127) rfl rfl (y4 HT_.out (by kernel_rfl)) (fun _ _ _ h => h) (Or.inl ⟨by rfl, ?_⟩) ?_ ?_
              rotate_left
              ·intro w'
               go_simp
               with_reducible rfl
              rotate_left
              ·simp only [Act.put,qS_,qZ_,qC_,y14,y13]
               rfl
              refine pure_ (i := 7) (N := some 58) (v := ?_) (a' := ?_) (fl_ 14 255) rfl rfl (y4 HT_.out (by kernel_rfl)) (fun _ _ _ h => h) (Or.inl ⟨by rfl, ?_⟩) ?_ ?_
              rotate_left
              ·intro w'
               go_simp
               with_reducible rfl
              rotate_left
              ·simp only [Act.put,qS_,qZ_,qC_,y14,y13]
               rfl
              refine pure_ (i := 9) (N := some 60) (v := ?_) (a' := ?_) (fl_ 14 767) rfl rfl (y4 HT_.out (by kernel_rfl)) (fun _ _ _ h => h) (Or.inl ⟨by rfl, ?_⟩) ?_ ?_
              rotate_left
              ·intro w'
               go_simp
               with_reducible rfl
              rotate_left
              ·simp only [Act.put,qS_,qZ_,qC_,y14,y13]
               rfl
              refine pure_ (i := 10) (N := some 61) (v := ?_) (a' := ?_) (fl_ 14 1791) rfl rfl (y4 HT_.out (by kernel_rfl)) (fun _ _ _ h => h) (Or.inl ⟨by rfl, ?_⟩) ?_ ?_
              rotate_left
              ·intro w'
               go_simp
               with_reducible rfl
              rotate_left
              ·simp only [Act.put,qS_,qZ_,qC_,y14,y13]
               rfl
              refine pure_ (i := 11) (N := some 62) (v := ?_) (a' := ?_) (fl_ 14 3839) rfl rfl (y4 HT_.out (by kernel_rfl)) (fun _ _ _ h => h) (Or.inl ⟨by rfl, ?_⟩) ?_ ?_
              rotate_left
              ·intro w'
               go_simp
               with_reducible rfl
              rotate_left
              ·simp only [Act.put,qS_,qZ_,qC_,y14,y13]
               rfl
              refine one_ (i := 8) (N := some 59) (fl_ 14 4095) rfl rfl (one_of HT_.out (by kernel_rfl)) (by decide) (fun K hK => ?_)
              refine goes_ Tryd.func65 (by kernel_rfl) rfl #[.int .i64 t171] (by rfl) rfl rfl (by (try simp only [qM_,List.map_cons,List.map_nil]); first | done | rfl | (simp only [qD_,qT_]; rfl)) ?_
              with_reducible refine (strconv_Itoa.calls t171 t175 _ ?side1 A25.out).mono ?_
              (case side1 => exact Tb.below HT.out (by repeat (first | (with_reducible first | exact HB.out | apply y5 | apply y18 | apply y6) | exact HB.out)))
              rintro e w34 ⟨rfl,hb⟩
              refine ⟨_,rfl, ?_⟩
              have n0_ := y0.mk (y8 (by repeat (first | (with_reducible first | exact HB.out | apply y5 | apply y18 | apply y6) | exact HB.out)) hb)
              clear HB
              have HB := n0_
              clear n0_
              (try clear hb)
              (try clear hb2)
              (try clear hk)
              (try clear hi)
              refine hK.out _ _ trivial (fun hHeld => ?_)
              clear hK K
              refine norm_ (a' := ?_) ?_ ?_
              rotate_left
              ·show Act.put _ (some 59) _ = _
               simp only [Act.put,qS_,qZ_,qC_,y14,y13]
               rfl
              refine pure_ (i := 12) (N := some 63) (v := ?_) (a' := ?_) (fl_ 14 8191) rfl rfl (y4 HT_.out (by kernel_rfl)) (fun _ _ _ h => h) (Or.inl ⟨by rfl, ?_⟩) ?_ ?_
              rotate_left
              ·intro w'
               go_simp
               with_reducible rfl
              rotate_left
              ·simp only [Act.put,qS_,qZ_,qC_,y14,y13]
               rfl
              refine pure_ (i := 13) (N := some 64) (v := ?_) (a' := ?_) (fl_ 14 16383) rfl rfl (y4 HT_.out (by kernel_rfl)) (fun _ _ _ h => h) (Or.inl ⟨by rfl, ?_⟩) ?_ ?_
              rotate_left
              ·intro w'
               go_simp
               with_reducible rfl
              rotate_left
              ·simp only [Act.put,qS_,qZ_,qC_,y14,y13]
               rfl
              refine done_ (done_of HT_.out (by kernel_rfl)) ?_
              try go_wp2
              go_ret2
              exact ⟨by first | rfl | (simp [y9,y10] <;> rfl) | (simp [*,y9,y10] <;> rfl),by repeat (first | (with_reducible first | exact HB.out | apply y5 | apply y18 | apply y6) | exact HB.out)⟩
            ·replace c24 := Bool.eq_false_iff.mpr c24
             subst c24
             have H1 : (some (0,0)) = some (r1,r2) := by rw [if_neg (show ¬ (false = true) by decide)] at H; exact H
             clear H
             have H := H1
             clear H1
             simp only [Option.some.injEq,Prod.mk.injEq] at H
             obtain ⟨rfl,rfl⟩ := H
             try go_wp2_with (first | ((with_reducible refine y11 (f := 102) rfl ?_); refine y12 (some 48) rfl rfl Tryd.func102 (by kernel_rfl) rfl #[.string (a0.extract 0 (x5_13 : Int).toNat)] rfl (by (try simp only [qM_,List.map_cons,List.map_nil]); first | done | rfl | (simp only [qD_,qT_]; rfl)) ?_; (with_reducible refine (strconv_Atoi.calls (a0.extract 0 (x5_13 : Int).toNat) t171 none _ ?side1 A22.out).mono ?_); (case side1 => exact Tb.below HT.out (by repeat (first | (with_reducible first | exact HB.out | apply y5 | apply y18 | apply y6) | exact HB.out))); rintro e w35 ⟨ev_,rfl,hev_,hb⟩; obtain rfl := errIs_none hev_; refine ⟨_,rfl, ?_⟩; have n0_ := y0.mk (y8 (by repeat (first | (with_reducible first | exact HB.out | apply y5 | apply y18 | apply y6) | exact HB.out)) hb); clear HB; have HB := n0_; clear n0_; (try clear hb); (try clear hb2); (try clear hk); (try clear hi); (try simp only [y9,y10])))
             have n0_ := y0.mk (y6 HB.out)
             clear HB
             have HB := n0_
             clear n0_
             refine start_ (n := 14) (S := fun w' => True) (ds := []) (fl_ 14 0) (by kernel_rfl) rfl rfl trivial (fun hHeld => ?_); refine with_tabW impl_termAt.tab12 impl_termAt.bits12 (fun HT_ HW_ => ?_)
             generalize w35.drew = w36 at HB hHeld ⊢
             refine pure_ (i := 0) (N := some 51) (v := ?_) (a' := ?_) (fl_ 14 1) rfl rfl (y4 HT_.out (by kernel_rfl)) (fun _ _ _ h => h) (Or.inl ⟨by rfl, ?_⟩) ?_ ?_
             rotate_left
             ·intro w'
              go_simp
              with_reducible rfl
             rotate_left
             ·simp only [Act.put,qS_,qZ_,qC_,y14,y13]
              rfl
             refine pure_ (i := 1) (N := some 52) (v := ?_) (a' := ?_) (fl_ 14 3) rfl rfl (y4 HT_.out (by kernel_rfl)) (fun _ _ _ h => h) (Or.inl ⟨by rfl, ?_⟩) ?_ ?_
             rotate_left
             ·intro w'
              go_simp
              with_reducible rfl
             rotate_left
             ·simp only [Act.put,qS_,qZ_,qC_,y14,y13]
              rfl
             refine pure_ (i := 2) (N := some 53) (v := ?_) (a' := ?_) (fl_ 14 7) rfl rfl (y4 HT_.out (by kernel_rfl)) (fun _ _ _ h => h) (Or.inl ⟨by rfl, ?_⟩) ?_ ?_
             rotate_left
             ·intro w'
              go_simp
              with_reducible rfl
             rotate_left
             ·simp only [Act.put,qS_,qZ_,qC_,y14,y13]
              rfl
             refine pure_ (i := 3) (N := some 54) (v := ?_) (a' := ?_) (fl_ 14 15) rfl rfl (y4 HT_.out (by kernel_rfl)) (fun _ _ _ h => h) (Or.inl ⟨by rfl, ?_⟩) ?_ ?_
             rotate_left
             ·intro w'
              go_simp
              with_reducible rfl
             rotate_left
             ·simp only [Act.put,qS_,qZ_,qC_,y14,y13]
              rfl
             refine one_ (i := 4) (N := some 55) (fl_ 14 31) rfl rfl (one_of HT_.out (by kernel_rfl)) (by decide) (fun K hK => ?_)
             refine goes_ Tryd.func67 (by kernel_rfl) rfl #[.int .i64 t171,.int .i64 (-1000000),.int .i64 1000000] (by rfl) rfl rfl (by (try simp only [qM_,List.map_cons,List.map_nil]); first | done | rfl | (simp only [qD_,qT_]; rfl)) ?_
             with_reducible refine (impl_in.calls t171 (-1000000) 1000000 false _ A23.out).mono ?_
             rintro e w' ⟨rfl,⟨nd,rfl⟩⟩
             refine ⟨_,rfl, ?_⟩
             refine hK.out _ _ trivial (fun hHeld => ?_)
             clear hK K
             refine norm_ (a' := ?_) ?_ ?_
             rotate_left
             ·show Act.put _ (some 55) _ = _
              simp only [Act.put,qS_,qZ_,qC_,y14,y13]
              rfl
             refine pure_ (i := 5) (N := some 56) (v := ?_) (a' := ?_) (fl_ 14 63) rfl rfl (y4 HT_.out (by kernel_rfl)) (fun _ _ _ h => h) (Or.inl ⟨by rfl, ?_⟩) ?_ ?_
             rotate_left
             ·intro w'
              go_simp
              with_reducible rfl
             rotate_left
             ·simp only [Act.put,qS_,qZ_,qC_,y14,y13]
              rfl
             refine pure_ (i := 6) (N := some 57) (v := ?_) (a' := ?_) (fl_ 14 127) rfl rfl (y4 HT_.out (by kernel_rfl)) (fun _ _ _ h => h) (Or.inl ⟨by rfl, ?_⟩) ?_ ?_
             rotate_left
             ·intro w'
              go_simp
              with_reducible rfl
             rotate_left
             ·simp only [Act.put,qS_,qZ_,qC_,y14,y13]
              rfl
             refine pure_ (i := 7) (N := some 58) (v := undef) (a' := ?_) (fl_ 14 255) rfl rfl (y4 HT_.out (by kernel_rfl)) (fun _ _ _ h => h) (Or.inr ⟨by rfl,rfl⟩) ?_ ?_
             rotate_left
             ·simp only [Act.put,qS_,qZ_,qC_,y14,y13]
              rfl
             refine pure_ (i := 8) (N := some 59) (v := undef) (a' := ?_) (fl_ 14 511) rfl rfl (y4 HT_.out (by kernel_rfl)) (fun _ _ _ h => h) (Or.inr ⟨by rfl,rfl⟩) ?_ ?_
             rotate_left
             ·simp only [Act.put,qS_,qZ_,qC_,y14,y13]
              rfl
             refine pure_ (i := 9) (N := some 60) (v := undef) (a' := ?_) (fl_ 14 1023) rfl rfl (y4 HT_.out (by kernel_rfl)) (fun _ _ _ h => h) (Or.inr ⟨by rfl,rfl⟩) ?_ ?_
             rotate_left
             ·simp only [Act.put,qS_,qZ_,qC_,y14,y13]
              rfl
             refine pure_ (i := 10) (N := some 61) (v := undef) (a' := ?_) (fl_ 14 2047) rfl rfl (y4 HT_.out (by kernel_rfl)) (fun _ _ _ h => h) (Or.inr ⟨by rfl,rfl⟩) ?_ ?_
             rotate_left
             ·simp only [Act.put,qS_,qZ_,qC_,y14,y13]
              rfl
             refine pure_ (i := 11) (N := some 62) (v := undef) (a' := ?_) (fl_ 14 4095) rfl rfl (y4 HT_.out (by kernel_rfl)) (fun _ _ _ h => h) (Or.inr ⟨by rfl,rfl⟩) ?_ ?_
             rotate_left
             ·simp only [Act.put,qS_,qZ_,qC_,y14,y13]
              rfl
             refine pure_ (i := 12) (N := some 63) (v := undef) (a' := ?_) (fl_ 14 8191) rfl rfl (y4 HT_.out (by kernel_rfl)) (fun _ _ _ h => h) (Or.inr ⟨by rfl,rfl⟩) ?_ ?_
             rotate_left
             ·simp only [Act.put,qS_,qZ_,qC_,y14,y13]
              rfl
             refine pure_ (i := 13) (N := some 64) (v := ?_) (a' := ?_) (fl_ 14 16383) rfl rfl (y4 HT_.out (by kernel_rfl)) (fun _ _ _ h => h) (Or.inl ⟨by rfl, ?_⟩) ?_ ?_
             rotate_left
             ·intro w'
              go_simp
              with_reducible rfl
             rotate_left
             ·simp only [Act.put,qS_,qZ_,qC_,y14,y13]
              rfl
             refine done_ (done_of HT_.out (by kernel_rfl)) ?_
             try go_wp2
             go_ret2
             exact ⟨by first | rfl | (simp [y9,y10] <;> rfl) | (simp [*,y9,y10] <;> rfl),by repeat (first | (with_reducible first | exact HB.out | apply y5 | apply y18 | apply y6) | exact HB.out)⟩
           ·have H1 : (some (0,0)) = some (r1,r2) := by rw [if_neg (show ¬ (some q173).isNone = true by simp)] at H; exact H
            clear H
            have H := H1
            clear H1
            try simp only [y9,y10]
            simp only [Option.some.injEq,Prod.mk.injEq] at H
            obtain ⟨rfl,rfl⟩ := H
            try go_wp2_with (first | ((with_reducible refine y11 (f := 102) rfl ?_); refine y12 (some 48) rfl rfl Tryd.func102 (by kernel_rfl) rfl #[.string (a0.extract 0 (x5_13 : Int).toNat)] rfl (by (try simp only [qM_,List.map_cons,List.map_nil]); first | done | rfl | (simp only [qD_,qT_]; rfl)) ?_; (with_reducible refine (strconv_Atoi.calls (a0.extract 0 (x5_13 : Int).toNat) t171 (some q173) _ ?side1 A22.out).mono ?_); (case side1 => exact Tb.below HT.out (by repeat (first | (with_reducible first | exact HB.out | apply y5 | apply y18 | apply y6) | exact HB.out))); rintro e w37 ⟨ev_,rfl,hev_,hb⟩; obtain ⟨te_,pe_,rfl⟩ := errIs_some hev_; refine ⟨_,rfl, ?_⟩; have n0_ := y0.mk (y8 (by repeat (first | (with_reducible first | exact HB.out | apply y5 | apply y18 | apply y6) | exact HB.out)) hb); clear HB; have HB := n0_; clear n0_; (try clear hb); (try clear hb2); (try clear hk); (try clear hi); (try simp only [y9,y10])))
            have n0_ := y0.mk (y6 HB.out)
            clear HB
            have HB := n0_
            clear n0_
            refine start_ (n := 14) (S := fun w' => True) (ds := []) (fl_ 14 0) (by kernel_rfl) rfl rfl trivial (fun hHeld => ?_); refine with_tabW impl_termAt.tab12 impl_termAt.bits12 (fun HT_ HW_ => ?_)
            generalize w37.drew = w38 at HB hHeld ⊢
            refine pure_ (i := 0) (N := some 51) (v := ?_) (a' := ?_) (fl_ 14 1) rfl rfl (y4 HT_.out (by kernel_rfl)) (fun _ _ _ h => h) (Or.inl ⟨by rfl, ?_⟩) ?_ ?_
            rotate_left
            ·intro w'
             go_simp
             with_reducible rfl
            rotate_left
            ·simp only [Act.put,qS_,qZ_,qC_,y14,y13]
             rfl
            refine pure_ (i := 1) (N := some 52) (v := ?_) (a' := ?_) (fl_ 14 3) rfl rfl (y4 HT_.out (by kernel_rfl)) (fun _ _ _ h => h) (Or.inl ⟨by rfl, ?_⟩) ?_ ?_
            rotate_left
            ·intro w'
             go_simp
             with_reducible rfl
            rotate_left
            ·simp only [Act.put,qS_,qZ_,qC_,y14,y13]
             rfl
            refine pure_ (i := 2) (N := some 53) (v := ?_) (a' := ?_) (fl_ 14 7) rfl rfl (y4 HT_.out (by kernel_rfl)) (fun _ _ _ h => h) (Or.inl ⟨by rfl, ?_⟩) ?_ ?_
            rotate_left
            ·intro w'
             go_simp
             with_reducible rfl
            rotate_left
            ·simp only [Act.put,qS_,qZ_,qC_,y14,y13]
             rfl
            refine pure_ (i := 3) (N := some 54) (v := undef) (a' := ?_) (fl_ 14 15) rfl rfl (y4 HT_.out (by kernel_rfl)) (fun _ _ _ h => h) (Or.inr ⟨by rfl,rfl⟩) ?_ ?_
            rotate_left
            ·simp only [Act.put,qS_,qZ_,qC_,y14,y13]
             rfl
            refine pure_ (i := 4) (N := some 55) (v := undef) (a' := ?_) (fl_ 14 31) rfl rfl (y4 HT_.out (by kernel_rfl)) (fun _ _ _ h => h) (Or.inr ⟨by rfl,rfl⟩) ?_ ?_
            rotate_left
            ·simp only [Act.put,qS_,qZ_,qC_,y14,y13]
             rfl
            refine pure_ (i := 5) (N := some 56) (v := ?_) (a' := ?_) (fl_ 14 63) rfl rfl (y4 HT_.out (by kernel_rfl)) (fun _ _ _ h => h) (Or.inl ⟨by rfl, ?_⟩) ?_ ?_
            rotate_left
            ·intro w'
             go_simp
             with_reducible rfl
            rotate_left
            ·simp only [Act.put,qS_,qZ_,qC_,y14,y13]
             rfl
            refine pure_ (i := 6) (N := some 57) (v := ?_) (a' := ?_) (fl_ 14 127) rfl rfl (y4 HT_.out (by kernel_rfl)) (fun _ _ _ h => h) (Or.inl ⟨by rfl, ?_⟩) ?_ ?_
            rotate_left
            ·intro w'
             go_simp
             with_reducible rfl
            rotate_left
            ·simp only [Act.put,qS_,qZ_,qC_,y14,y13]
             rfl
            refine pure_ (i := 7) (N := some 58) (v := undef) (a' := ?_) (fl_ 14 255) rfl rfl (y4 HT_.out (by kernel_rfl)) (fun _ _ _ h => h) (Or.inr ⟨by rfl,rfl⟩) ?_ ?_
            rotate_left
            ·simp only [Act.put,qS_,qZ_,qC_,y14,y13]
             rfl
            refine pure_ (i := 8) (N := some 59) (v := undef) (a' := ?_) (fl_ 14 511) rfl rfl (y4 HT_.out (by kernel_rfl)) (fun _ _ _ h => h) (Or.inr ⟨by rfl,rfl⟩) ?_ ?_
            rotate_left
            ·simp only [Act.put,qS_,qZ_,qC_,y14,y13]
             rfl
            refine pure_ (i := 9) (N := some 60) (v := undef) (a' := ?_) (fl_ 14 1023) rfl rfl (y4 HT_.out (by kernel_rfl)) (fun _ _ _ h => h) (Or.inr ⟨by rfl,rfl⟩) ?_ ?_
            rotate_left
            ·simp only [Act.put,qS_,qZ_,qC_,y14,y13]
             rfl
            refine pure_ (i := 10) (N := some 61) (v := undef) (a' := ?_) (fl_ 14 2047) rfl rfl (y4 HT_.out (by kernel_rfl)) (fun _ _ _ h => h) (Or.inr ⟨by rfl,rfl⟩) ?_ ?_
            rotate_left
            ·simp only [Act.put,qS_,qZ_,qC_,y14,y13]
             rfl
            refine pure_ (i := 11) (N := some 62) (v := undef) (a' := ?_) (fl_ 14 4095) rfl rfl (y4 HT_.out (by kernel_rfl)) (fun _ _ _ h => h) (Or.inr ⟨by rfl,rfl⟩) ?_ ?_
            rotate_left
            ·simp only [Act.put,qS_,qZ_,qC_,y14,y13]
             rfl
            refine pure_ (i := 12) (N := some 63) (v := undef) (a' := ?_) (fl_ 14 8191) rfl rfl (y4 HT_.out (by kernel_rfl)) (fun _ _ _ h => h) (Or.inr ⟨by rfl,rfl⟩) ?_ ?_
            rotate_left
            ·simp only [Act.put,qS_,qZ_,qC_,y14,y13]
             rfl
            refine pure_ (i := 13) (N := some 64) (v := ?_) (a' := ?_) (fl_ 14 16383) rfl rfl (y4 HT_.out (by kernel_rfl)) (fun _ _ _ h => h) (Or.inl ⟨by rfl, ?_⟩) ?_ ?_
            rotate_left
            ·intro w'
             go_simp
             with_reducible rfl
            rotate_left
            ·simp only [Act.put,qS_,qZ_,qC_,y14,y13]
             rfl
            refine done_ (done_of HT_.out (by kernel_rfl)) ?_
            try go_wp2
            go_ret2
            exact ⟨by first | rfl | (simp [y9,y10] <;> rfl) | (simp [*,y9,y10] <;> rfl),by repeat (first | (with_reducible first | exact HB.out | apply y5 | apply y18 | apply y6) | exact HB.out)⟩
          ·rw [if_neg c21] at H
           exact absurd H (by simp)
         ·rw [if_neg c20] at H
          exact absurd H (by simp)
      ·replace c13 := Bool.eq_false_iff.mpr c13
       subst c13
       have H1 : (if 0 < (a0.size : Int) then (if (bt a0 0) ≥ 65 then (impl_termAt.j3 kj7 a0 (decide ((bt a0 0) ≤ 90))) else (impl_termAt.j3 kj7 a0 false)) else (none)) = some (r1,r2) := by rw [if_neg (show ¬ (false = true) by decide)] at H; exact H
       clear H
       have H := H1
       clear H1
       have HC39 := y0.mk H
       clear H
       go_upto_region 14 with (fail)
       go_cut [66] (fun v66 wc => ∃ (kq : Nat) (x66_38 : Bool),v66 = .bool x66_38 ∧ y0 (impl_termAt.j3 kq a0 x66_38 = some (r1,r2)) ∧ y0 (kq ≤ kj7) ∧ y0 (Below w.heap.size w wc))
       case first =>
        have H := HC39.out
        clear HC39
        by_cases c40 : 0 < (a0.size : Int)
        ·rw [if_pos c40] at H
         have c40b0 : decide (0 < (a0.size : Int)) = true := decide_eq_true c40
         have c40b1 : decide (0 < a0.size) = true := decide_eq_true (by omega)
         clear c40
         (first | rw [c40b0] | (simp only [y14,y13]; rw [c40b0]) | skip)
         by_cases c42 : (bt a0 0) ≥ 65
         ·rw [if_pos c42] at H
          have c42b0 : decide (65 ≤ (bt a0 0)) = true := decide_eq_true c42
          clear c42
          have H' := y0.mk H
          clear H
          have p41 : 0 ≤ (0 : Int) := (by omega)
          have q41 : 0 < a0.size := (by have : (0 : Int) < (a0.size : Int) := of_decide_eq_true (by first | (with_reducible assumption) | assumption); omega)
          have hx41 : ∀ h : 0 < a0.size,((a0[0]'h).toNat : Int) = bt a0 0 := bt_at a0 0
          clear p41
          have qi41 : (0 < (a0.size : Int)) = True := eq_true (of_decide_eq_true (by first | (with_reducible assumption) | assumption))
          replace q41 := eq_true q41
          have p43 : 0 ≤ (0 : Int) := (by omega)
          have q43 : 0 < a0.size := (by have : (0 : Int) < (a0.size : Int) := of_decide_eq_true (by first | (with_reducible assumption) | assumption); omega)
          have hx43 : ∀ h : 0 < a0.size,((a0[0]'h).toNat : Int) = bt a0 0 := bt_at a0 0
          clear p43
          have qi43 : (0 < (a0.size : Int)) = True := eq_true (of_decide_eq_true (by first | (with_reducible assumption) | assumption))
          replace q43 := eq_true q43
          go_wp2
          go_meet
          case rel => exact ⟨_,(decide ((bt a0 0) ≤ 90)),(by first | rfl | (simp; done) | (simp [*]; done)),H',⟨by have := HJ7.out; first | omega | exact Nat.le_refl _⟩,⟨by repeat (first | (with_reducible first | exact HB.out | apply y5 | apply y18 | apply y6) | exact HB.out)⟩⟩
         ·rw [if_neg c42] at H
          have c42b0 : decide (65 ≤ (bt a0 0)) = false := decide_eq_false c42
          clear c42
          have H' := y0.mk H
          clear H
          have p41 : 0 ≤ (0 : Int) := (by omega)
          have q41 : 0 < a0.size := (by have : (0 : Int) < (a0.size : Int) := of_decide_eq_true (by first | (with_reducible assumption) | assumption); omega)
          have hx41 : ∀ h : 0 < a0.size,((a0[0]'h).toNat : Int) = bt a0 0 := bt_at a0 0
          clear p41
          have qi41 : (0 < (a0.size : Int)) = True := eq_true (of_decide_eq_true (by first | (with_reducible assumption) | assumption))
          replace q41 := eq_true q41
          go_wp2
          go_meet
          case rel => exact ⟨_,(false),(by first | rfl | (simp; done) | (simp [*]; done)),H',⟨by have := HJ7.out; first | omega | exact Nat.le_refl _⟩,⟨by repeat (first | (with_reducible first | exact HB.out | apply y5 | apply y18 | apply y6) | exact HB.out)⟩⟩
        ·rw [if_neg c40] at H
         exact absurd H (by simp)
       case rest =>
        clear HC39
        try clear c1
        try clear q1
        try clear c2
        try clear p2
        try clear c4
        try clear p4
        try clear q4
        try clear hx4
        try clear qi4
        try clear c6
        try clear c10
        try clear c13
        try clear q17
        try clear c20
        try clear c20b0
        try clear c20b1
        try clear c21
        try clear c21b0
        try clear c21b1
        try clear c24
        try clear c26
        try clear c26b0
        try clear c27
        try clear c27b0
        try clear c28
        try clear c28b0
        try clear c28b1
        try clear c40
        try clear c40b0
        try clear c40b1
        try clear p41
        try clear q41
        try clear hx41
        try clear qi41
        try clear c42
        try clear c42b0
        try clear p43
        try clear q43
        try clear hx43
        try clear qi43
        try clear p41
        try clear p43
        try clear q173
        try clear q41
        try clear q43
        obtain ⟨kq,x66_38,rfl,HA,HJ38,HB⟩ := hcut
        cases kq with
        | zero => exact absurd HA.out (by simp [impl_termAt.j3])
        | succ kj38 =>
         have H := HA.out
         clear HA
         simp only [impl_termAt.j3] at H
         by_cases c44 : x66_38 = true
         ·subst c44
          have H1 : ((impl_nameLong.f kj38 a0).bind fun t176 => (if t176 > 20 then (some (0,0)) else (if t176 = (a0.size : Int) then (impl_termAt.j4 kj38 a0 t176 true) else (if 0 ≤ t176 then (if t176 < (a0.size : Int) then (impl_termAt.j4 kj38 a0 t176 ((bt a0 t176) != 40)) else (none)) else (none))))) = some (r1,r2) := by rw [if_pos rfl] at H; exact H
          clear H
          have H := H1
          clear H1
          replace H := Option.bind_eq_some_iff.mp H
          obtain ⟨t176,A450,H⟩ := H
          replace H : (if t176 > 20 then (some (0,0)) else (if t176 = (a0.size : Int) then (impl_termAt.j4 kj38 a0 t176 true) else (if 0 ≤ t176 then (if t176 < (a0.size : Int) then (impl_termAt.j4 kj38 a0 t176 ((bt a0 t176) != 40)) else (none)) else (none)))) = some (r1,r2) := H
          have A45 := y0.mk A450
          clear A450
          by_cases c46 : t176 > 20
          ·rw [if_pos c46] at H
           have c46b0 : decide (20 < t176) = true := decide_eq_true c46
           clear c46
           simp only [Option.some.injEq,Prod.mk.injEq] at H
           obtain ⟨rfl,rfl⟩ := H
           go_wp2_with (first | ((with_reducible refine y11 (f := 106) rfl ?_); refine y12 (some 76) rfl rfl Tryd.func106 (by kernel_rfl) rfl #[.string a0] rfl (by (try simp only [qM_,List.map_cons,List.map_nil]); first | done | rfl | (simp only [qD_,qT_]; rfl)) ?_; (with_reducible refine (impl_nameLong.calls kj38 a0 t176 _ A45.out).mono ?_); rintro e w' ⟨rfl,⟨nd,rfl⟩⟩; refine ⟨_,rfl, ?_⟩))
           go_ret2
           exact ⟨by first | rfl | (simp [y9,y10] <;> rfl) | (simp [*,y9,y10] <;> rfl),by repeat (first | (with_reducible first | exact HB.out | apply y5 | apply y18 | apply y6) | exact HB.out)⟩
          ·rw [if_neg c46] at H
           have c46b0 : decide (20 < t176) = false := decide_eq_false c46
           clear c46
           have HC47 := y0.mk H
           clear H
           go_upto_region 18 with (first | ((with_reducible refine y11 (f := 106) rfl ?_); refine y12 (some 76) rfl rfl Tryd.func106 (by kernel_rfl) rfl #[.string a0] rfl (by (try simp only [qM_,List.map_cons,List.map_nil]); first | done | rfl | (simp only [qD_,qT_]; rfl)) ?_; (with_reducible refine (impl_nameLong.calls kj38 a0 t176 _ A45.out).mono ?_); rintro e w' ⟨rfl,⟨nd,rfl⟩⟩; refine ⟨_,rfl, ?_⟩))
           (try simp only [Act.put,qS_,qZ_,qC_])
           go_cut [88] (fun v88 wc => ∃ (kq : Nat) (x88_46 : Bool),v88 = .bool x88_46 ∧ y0 (impl_termAt.j4 kq a0 t176 x88_46 = some (r1,r2)) ∧ y0 (kq ≤ kj38) ∧ y0 (Below w.heap.size w wc))
           case first =>
            have H := HC47.out
            clear HC47
            by_cases c48 : t176 = (a0.size : Int)
            ·rw [if_pos c48] at H
             have c48b0 : (t176 == (a0.size : Int)) = true := beq_iff_eq.mpr c48
             have c48b1 : (t176 != (a0.size : Int)) = false := bne_eq_false_iff_eq.mpr c48
             clear c48
             (first | rw [c48b0] | (simp only [y14,y13]; rw [c48b0]) | skip)
             have H' := y0.mk H
             clear H
             go_wp2
             go_meet
             case rel => exact ⟨_,(true),(by first | rfl | (simp; done) | (simp [*]; done)),H',⟨by have := HJ7.out; have := HJ38.out; first | omega | exact Nat.le_refl _⟩,⟨by repeat (first | (with_reducible first | exact HB.out | apply y5 | apply y18 | apply y6) | exact HB.out)⟩⟩
            ·rw [if_neg c48] at H
             have c48b0 : (t176 == (a0.size : Int)) = false := beq_eq_false_iff_ne.mpr c48
             have c48b1 : (t176 != (a0.size : Int)) = true := bne_iff_ne.mpr c48
             (first | rw [c48b0] | (simp only [y14,y13]; rw [c48b0]) | skip)
             by_cases c49 : 0 ≤ t176
             ·rw [if_pos c49] at H
              have c49b0 : decide (0 ≤ t176) = true := decide_eq_true c49
              clear c49
              by_cases c50 : t176 < (a0.size : Int)
              ·rw [if_pos c50] at H
               have c50b0 : decide (t176 < (a0.size : Int)) = true := decide_eq_true c50
               clear c50
               have H' := y0.mk H
               clear H
               have p51 : 0 ≤ (t176 : Int) := of_decide_eq_true (by first | (with_reducible assumption) | assumption)
               have q51 : t176 < (a0.size : Int) := of_decide_eq_true (by first | (with_reducible assumption) | assumption)
               have hx51 := bt_at a0 t176
               replace p51 := eq_true p51
               replace q51 := eq_true q51
               go_wp2
               go_meet
               case rel => exact ⟨_,(((bt a0 t176) != 40)),(by first | rfl | (simp; done) | (simp [*]; done)),H',⟨by have := HJ7.out; have := HJ38.out; first | omega | exact Nat.le_refl _⟩,⟨by repeat (first | (with_reducible first | exact HB.out | apply y5 | apply y18 | apply y6) | exact HB.out)⟩⟩
              ·rw [if_neg c50] at H
               exact absurd H (by simp)
             ·rw [if_neg c49] at H
              exact absurd H (by simp)
           case rest =>
            clear HC47
            try clear c1
            try clear q1
            try clear c2
            try clear p2
            try clear c4
            try clear p4
            try clear q4
            try clear hx4
            try clear qi4
            try clear c5
            try clear p5
            try clear q5
            try clear hx5
            try clear c6
            try clear c10
            try clear c13
            try clear q17
            try clear c20
            try clear c20b0
            try clear c20b1
            try clear c21
            try clear c21b0
            try clear c21b1
            try clear c24
            try clear c26
            try clear c26b0
            try clear c27
            try clear c27b0
            try clear c28
            try clear c28b0
            try clear c28b1
            try clear c40
            try clear c40b0
            try clear c40b1
            try clear p41
            try clear q41
            try clear hx41
            try clear qi41
            try clear c42
            try clear c42b0
            try clear p43
            try clear q43
            try clear hx43
            try clear qi43
            try clear c44
            try clear c46
            try clear c46b0
            try clear c48
            try clear c48b0
            try clear c48b1
            try clear c49
            try clear c49b0
            try clear c50
            try clear c50b0
            try clear p51
            try clear q51
            try clear hx51
            try clear p2
            try clear p4
            try clear p41
            try clear p43
            try clear p51
            try clear q1
            try clear q17
            try clear q173
            try clear q4
            try clear q41
            try clear q43
            try clear q51
            obtain ⟨kq,x88_46,rfl,HA,HJ46,HB⟩ := hcut
            cases kq with
            | zero => exact absurd HA.out (by simp [impl_termAt.j4])
            | succ kj46 =>
             have H := HA.out
             clear HA
             simp only [impl_termAt.j4] at H
             by_cases c52 : x88_46 = true
             ·subst c52
              have H1 : (some (3,t176)) = some (r1,r2) := by rw [if_pos rfl] at H; exact H
              clear H
              have H := H1
              clear H1
              simp only [Option.some.injEq,Prod.mk.injEq] at H
              obtain ⟨rfl,rfl⟩ := H
              go_wp2
              go_ret2
              exact ⟨by first | rfl | (simp [y9,y10] <;> rfl) | (simp [*,y9,y10] <;> rfl),by repeat (first | (with_reducible first | exact HB.out | apply y5 | apply y18 | apply y6) | exact HB.out)⟩
             ·replace c52 := Bool.eq_false_iff.mpr c52
              subst c52
              have H1 : (impl_termAt.l1 kj46 a0 t176 true) = some (r1,r2) := by rw [if_neg (show ¬ (false = true) by decide)] at H; exact H
              clear H
              have H := H1
              clear H1
              have H' := y0.mk H
              clear H
              go_wp2
              go_loopg [8,9] kj46 (fun kq v8 v9 w' => ∃ (x8_4 : Int) (x9_4 : Bool),v8 = .int .i64 x8_4 ∧ v9 = .bool x9_4 ∧ y0 (impl_termAt.l1 kq a0 x8_4 x9_4 = some (r1,r2)) ∧ y0 (kq ≤ kj46) ∧ y0 (Below w.heap.size w w'))
              case atStart => exact ⟨(t176),(true),(by first | rfl | (simp; done) | (simp [*]; done)),(by first | rfl | (simp; done) | (simp [*]; done)),H',⟨Nat.le_refl _⟩,⟨by repeat (first | (with_reducible first | exact HB.out | apply y5 | apply y18 | apply y6) | exact HB.out)⟩⟩
              case round =>
               clear H'
               try clear c1
               try clear q1
               try clear c2
               try clear p2
               try clear c4
               try clear p4
               try clear q4
               try clear hx4
               try clear qi4
               try clear c5
               try clear p5
               try clear q5
               try clear hx5
               try clear c6
               try clear c10
               try clear c13
               try clear q17
               try clear c20
               try clear c20b0
               try clear c20b1
               try clear c21
               try clear c21b0
               try clear c21b1
               try clear c24
               try clear c26
               try clear c26b0
               try clear c27
               try clear c27b0
               try clear c28
               try clear c28b0
               try clear c28b1
               try clear c40
               try clear c40b0
               try clear c40b1
               try clear p41
               try clear q41
               try clear hx41
               try clear qi41
               try clear c42
               try clear c42b0
               try clear p43
               try clear q43
               try clear hx43
               try clear qi43
               try clear c44
               try clear c46
               try clear c46b0
               try clear c48
               try clear c48b0
               try clear c48b1
               try clear c49
               try clear c49b0
               try clear c50
               try clear c50b0
               try clear p51
               try clear q51
               try clear hx51
               try clear c52
               try clear p2
               try clear p4
               try clear p41
               try clear p43
               try clear p5
               try clear p51
               try clear q1
               try clear q17
               try clear q173
               try clear q4
               try clear q41
               try clear q43
               try clear q5
               try clear q51
               obtain ⟨x8_4,x9_4,rfl,rfl,HA,HK4,HB⟩ := hrel
               cases gk with
               | zero => exact absurd HA.out (by simp [impl_termAt.l1])
               | succ k4 =>
                have H := HA.out
                clear HA
                simp only [impl_termAt.l1] at H
                by_cases c53 : x9_4 = true
                ·subst c53
                 have H1 : (if 0 ≤ (wrap64 (x8_4 + 1)) then (if (wrap64 (x8_4 + 1)) ≤ (a0.size : Int) then ((impl_termAt.f k4 (a0.extract ((wrap64 (x8_4 + 1)) : Int).toNat a0.size)).bind fun bt177 => (if bt177.1 = 0 then (some (0,0)) else (if (wrap64 (x8_4 + (wrap64 (1 + bt177.2)))) < (a0.size : Int) then (if 0 ≤ (wrap64 (x8_4 + (wrap64 (1 + bt177.2)))) then (impl_termAt.l1 k4 a0 (wrap64 (x8_4 + (wrap64 (1 + bt177.2)))) ((bt a0 (wrap64 (x8_4 + (wrap64 (1 + bt177.2))))) == 44)) else (none)) else (impl_termAt.l1 k4 a0 (wrap64 (x8_4 + (wrap64 (1 + bt177.2)))) false)))) else (none)) else (none)) = some (r1,r2) := by rw [if_pos rfl] at H; exact H
                 clear H
                 have H := H1
                 clear H1
                 obtain ⟨ji54,hji54⟩ : ∃ j_ : Int,(wrap64 (x8_4 + 1)) = j_ := ⟨_,rfl⟩
                 replace H : (if 0 ≤ (ji54) then (if (ji54) ≤ (a0.size : Int) then ((impl_termAt.f k4 (a0.extract ((ji54) : Int).toNat a0.size)).bind fun bt177 => (if bt177.1 = 0 then (some (0,0)) else (if (wrap64 (x8_4 + (wrap64 (1 + bt177.2)))) < (a0.size : Int) then (if 0 ≤ (wrap64 (x8_4 + (wrap64 (1 + bt177.2)))) then (impl_termAt.l1 k4 a0 (wrap64 (x8_4 + (wrap64 (1 + bt177.2)))) ((bt a0 (wrap64 (x8_4 + (wrap64 (1 + bt177.2))))) == 44)) else (none)) else (impl_termAt.l1 k4 a0 (wrap64 (x8_4 + (wrap64 (1 + bt177.2)))) false)))) else (none)) else (none)) = some (r1,r2) := by first | (rw [hji54] at H; exact H) | (simp only [hji54] at H ⊢; exact H)
                 have hji54w : (IntKind.i64.wrap (x8_4 + 1)) = ji54 := (y14 _).trans hji54
                 by_cases c55 : 0 ≤ (ji54)
                 ·rw [if_pos c55] at H
                  have c55b0 := eq_true c55
                  have c55b1 : decide (0 ≤ (ji54)) = true := decide_eq_true c55
                  clear c55
                  by_cases c56 : (ji54) ≤ (a0.size : Int)
                  ·rw [if_pos c56] at H
                   have c56b0 := eq_true c56
                   have c56b1 : decide ((ji54) ≤ (a0.size : Int)) = true := decide_eq_true c56
                   clear c56
                   replace H := Option.bind_eq_some_iff.mp H
                   obtain ⟨⟨t177,t178⟩,A570,H⟩ := H
                   replace H : (if t177 = 0 then (some (0,0)) else (if (wrap64 (x8_4 + (wrap64 (1 + t178)))) < (a0.size : Int) then (if 0 ≤ (wrap64 (x8_4 + (wrap64 (1 + t178)))) then (impl_termAt.l1 k4 a0 (wrap64 (x8_4 + (wrap64 (1 + t178)))) ((bt a0 (wrap64 (x8_4 + (wrap64 (1 + t178))))) == 44)) else (none)) else (impl_termAt.l1 k4 a0 (wrap64 (x8_4 + (wrap64 (1 + t178)))) false))) = some (r1,r2) := H
                   have A57 := y0.mk A570
                   clear A570
                   by_cases c58 : t177 = 0
                   ·rw [if_pos c58] at H
                    have c58b0 : (t177 == 0) = true := beq_iff_eq.mpr c58
                    have c58b1 : (t177 != 0) = false := bne_eq_false_iff_eq.mpr c58
                    clear c58
                    simp only [Option.some.injEq,Prod.mk.injEq] at H
                    obtain ⟨rfl,rfl⟩ := H
                    go_wp2_with (first | ((with_reducible refine y11 (f := 101) rfl ?_); refine y12 (some 106) rfl rfl Tryd.func101 (by kernel_rfl) rfl #[.string (a0.extract ((ji54) : Int).toNat a0.size)] rfl (by (try simp only [qM_,List.map_cons,List.map_nil]); first | done | (simp only [hji54]; rfl) | rfl | (simp only [qD_,qT_]; rfl)) ?_; (with_reducible refine (ih k4 (by have := HJ7.out; have := HJ38.out; have := HJ46.out; have := HK4.out; omega) (a0.extract ((ji54) : Int).toNat a0.size) t177 t178 _ ?side1 A57.out).mono ?_); (case side1 => exact Tb.below HT.out (by repeat (first | (with_reducible first | exact HB.out | apply y5 | apply y18 | apply y6) | exact HB.out))); rintro e w59 ⟨rfl,hb⟩; refine ⟨_,rfl, ?_⟩; have n0_ := y0.mk (y8 (by repeat (first | (with_reducible first | exact HB.out | apply y5 | apply y18 | apply y6) | exact HB.out)) hb); clear HB; have HB := n0_; clear n0_; (try clear hb); (try clear hb2); (try clear hk); (try clear hi)))
                    go_ret2
                    exact ⟨by first | rfl | (simp [y9,y10] <;> rfl) | (simp only [← hji54]; first | rfl | (simp [y9,y10] <;> rfl)) | (simp [*,y9,y10] <;> rfl),by repeat (first | (with_reducible first | exact HB.out | apply y5 | apply y18 | apply y6) | exact HB.out)⟩
                   ·rw [if_neg c58] at H
                    have c58b0 : (t177 == 0) = false := beq_eq_false_iff_ne.mpr c58
                    have c58b1 : (t177 != 0) = true := bne_iff_ne.mpr c58
                    by_cases c60 : (wrap64 (x8_4 + (wrap64 (1 + t178)))) < (a0.size : Int)
                    ·rw [if_pos c60] at H
                     have c60b0 : decide ((wrap64 (x8_4 + (wrap64 (1 + t178)))) < (a0.size : Int)) = true := decide_eq_true c60
                     clear c60
                     obtain ⟨ji61,hji61⟩ : ∃ j_ : Int,(wrap64 (x8_4 + (wrap64 (1 + t178)))) = j_ := ⟨_,rfl⟩
                     replace H : (if 0 ≤ (ji61) then (impl_termAt.l1 k4 a0 ji61 ((bt a0 (ji61)) == 44)) else (none)) = some (r1,r2) := by first | (rw [hji61] at H; exact H) | (simp only [hji61] at H ⊢; exact H)
                     (try rw [hji61] at c60b0)
                     (try rw [hji61] at A57)
                     have hji61w : (IntKind.i64.wrap (x8_4 + (wrap64 (1 + t178)))) = ji61 := (y14 _).trans hji61
                     by_cases c62 : 0 ≤ (ji61)
                     ·rw [if_pos c62] at H
                      have c62b0 : decide (0 ≤ (ji61)) = true := decide_eq_true c62
                      clear c62
                      have H' := y0.mk H
                      clear H
                      go_wp2_with (first | ((with_reducible refine y11 (f := 101) rfl ?_); refine y12 (some 106) rfl rfl Tryd.func101 (by kernel_rfl) rfl #[.string (a0.extract ((ji54) : Int).toNat a0.size)] rfl (by (try simp only [qM_,List.map_cons,List.map_nil]); first | done | (simp only [hji54]; rfl) | rfl | (simp only [qD_,qT_]; rfl)) ?_; (with_reducible refine (ih k4 (by have := HJ7.out; have := HJ38.out; have := HJ46.out; have := HK4.out; omega) (a0.extract ((ji54) : Int).toNat a0.size) t177 t178 _ ?side1 A57.out).mono ?_); (case side1 => exact Tb.below HT.out (by repeat (first | (with_reducible first | exact HB.out | apply y5 | apply y18 | apply y6) | exact HB.out))); rintro e w64 ⟨rfl,hb⟩; refine ⟨_,rfl, ?_⟩; have n0_ := y0.mk (y8 (by repeat (first | (with_reducible first | exact HB.out | apply y5 | apply y18 | apply y6) | exact HB.out)) hb); clear HB; have HB := n0_; clear n0_; (try clear hb); (try clear hb2); (try clear hk); (try clear hi); have p63 : 0 ≤ ((ji61) : Int) := of_decide_eq_true (by first | (with_reducible assumption) | assumption); have q63 : (ji61) < (a0.size : Int) := of_decide_eq_true (by first | (with_reducible assumption) | assumption); have hx63 := bt_at a0 (ji61); replace p63 := eq_true p63; replace q63 := eq_true q63))
                      go_roundg k4
                      case measure => have := HJ7.out; have := HJ38.out; have := HJ46.out; have := HK4.out; omega
                      case rel => exact ⟨(ji61),(((bt a0 (ji61)) == 44)),(by first | rfl | (simp; done) | (simp only [← hji61] <;> (first | rfl | simp)) | (simp [*]; done)),(by first | rfl | (simp; done) | (simp only [← hji61] <;> (first | rfl | simp)) | (simp [*]; done)),H',⟨by have := HJ7.out; have := HJ38.out; have := HJ46.out; have := HK4.out; omega⟩,⟨by repeat (first | (with_reducible first | exact HB.out | apply y5 | apply y18 | apply y6) | exact HB.out)⟩⟩
                     ·rw [if_neg c62] at H
                      exact absurd H (by simp)
                    ·rw [if_neg c60] at H
                     have c60b0 : decide ((wrap64 (x8_4 + (wrap64 (1 + t178)))) < (a0.size : Int)) = false := decide_eq_false c60
                     clear c60
                     have H' := y0.mk H
                     clear H
                     go_wp2_with (first | ((with_reducible refine y11 (f := 101) rfl ?_); refine y12 (some 106) rfl rfl Tryd.func101 (by kernel_rfl) rfl #[.string (a0.extract ((ji54) : Int).toNat a0.size)] rfl (by (try simp only [qM_,List.map_cons,List.map_nil]); first | done | (simp only [hji54]; rfl) | rfl | (simp only [qD_,qT_]; rfl)) ?_; (with_reducible refine (ih k4 (by have := HJ7.out; have := HJ38.out; have := HJ46.out; have := HK4.out; omega) (a0.extract ((ji54) : Int).toNat a0.size) t177 t178 _ ?side1 A57.out).mono ?_); (case side1 => exact Tb.below HT.out (by repeat (first | (with_reducible first | exact HB.out | apply y5 | apply y18 | apply y6) | exact HB.out))); rintro e w65 ⟨rfl,hb⟩; refine ⟨_,rfl, ?_⟩; have n0_ := y0.mk (y8 (by repeat (first | (with_reducible first | exact HB.out | apply y5 | apply y18 | apply y6) | exact HB.out)) hb); clear HB; have HB := n0_; clear n0_; (try clear hb); (try clear hb2); (try clear hk); (try clear hi)))
                     go_roundg k4
                     case measure => have := HJ7.out; have := HJ38.out; have := HJ46.out; have := HK4.out; omega
                     case rel => exact ⟨(wrap64 (x8_4 + (wrap64 (1 + t178)))),(false),(by first | rfl | (simp; done) | (simp [*]; done)),(by first | rfl | (simp; done) | (simp [*]; done)),H',⟨by have := HJ7.out; have := HJ38.out; have := HJ46.out; have := HK4.out; omega⟩,⟨by repeat (first | (with_reducible first | exact HB.out | apply y5 | apply y18 | apply y6) | exact HB.out)⟩⟩
                  ·rw [if_neg c56] at H
                   exact absurd H (by simp)
                 ·rw [if_neg c55] at H
                  exact absurd H (by simp)
                ·replace c53 := Bool.eq_false_iff.mpr c53
                 subst c53
                 have H1 : (if x8_4 < (a0.size : Int) then (if 0 ≤ x8_4 then (if (bt a0 x8_4) = 41 then (some (3,wrap64 (x8_4 + 1))) else (some (0,0))) else (none)) else (some (0,0))) = some (r1,r2) := by rw [if_neg (show ¬ (false = true) by decide)] at H; exact H
                 clear H
                 have H := H1
                 clear H1
                 by_cases c66 : x8_4 < (a0.size : Int)
                 ·rw [if_pos c66] at H
                  have c66b0 : decide (x8_4 < (a0.size : Int)) = true := decide_eq_true c66
                  clear c66
                  by_cases c67 : 0 ≤ x8_4
                  ·rw [if_pos c67] at H
                   have c67b0 : decide (0 ≤ x8_4) = true := decide_eq_true c67
                   clear c67
                   by_cases c69 : (bt a0 x8_4) = 41
                   ·rw [if_pos c69] at H
                    have c69b0 : ((bt a0 x8_4) == 41) = true := beq_iff_eq.mpr c69
                    have c69b1 : ((bt a0 x8_4) != 41) = false := bne_eq_false_iff_eq.mpr c69
                    clear c69
                    simp only [Option.some.injEq,Prod.mk.injEq] at H
                    obtain ⟨rfl,rfl⟩ := H
                    have p68 : 0 ≤ (x8_4 : Int) := of_decide_eq_true (by first | (with_reducible assumption) | assumption)
                    have q68 : x8_4 < (a0.size : Int) := of_decide_eq_true (by first | (with_reducible assumption) | assumption)
                    have hx68 := bt_at a0 x8_4
                    replace p68 := eq_true p68
                    replace q68 := eq_true q68
                    go_wp2
                    go_ret2
                    exact ⟨by first | rfl | (simp [y9,y10] <;> rfl) | (simp [*,y9,y10] <;> rfl),by repeat (first | (with_reducible first | exact HB.out | apply y5 | apply y18 | apply y6) | exact HB.out)⟩
                   ·rw [if_neg c69] at H
                    have c69b0 : ((bt a0 x8_4) == 41) = false := beq_eq_false_iff_ne.mpr c69
                    have c69b1 : ((bt a0 x8_4) != 41) = true := bne_iff_ne.mpr c69
                    simp only [Option.some.injEq,Prod.mk.injEq] at H
                    obtain ⟨rfl,rfl⟩ := H
                    have p68 : 0 ≤ (x8_4 : Int) := of_decide_eq_true (by first | (with_reducible assumption) | assumption)
                    have q68 : x8_4 < (a0.size : Int) := of_decide_eq_true (by first | (with_reducible assumption) | assumption)
                    have hx68 := bt_at a0 x8_4
                    replace p68 := eq_true p68
                    replace q68 := eq_true q68
                    go_wp2
                    go_ret2
                    exact ⟨by first | rfl | (simp [y9,y10] <;> rfl) | (simp [*,y9,y10] <;> rfl),by repeat (first | (with_reducible first | exact HB.out | apply y5 | apply y18 | apply y6) | exact HB.out)⟩
                  ·rw [if_neg c67] at H
                   exact absurd H (by simp)
                 ·rw [if_neg c66] at H
                  have c66b0 : decide (x8_4 < (a0.size : Int)) = false := decide_eq_false c66
                  clear c66
                  simp only [Option.some.injEq,Prod.mk.injEq] at H
                  obtain ⟨rfl,rfl⟩ := H
                  go_wp2
                  go_ret2
                  exact ⟨by first | rfl | (simp [y9,y10] <;> rfl) | (simp [*,y9,y10] <;> rfl),by repeat (first | (with_reducible first | exact HB.out | apply y5 | apply y18 | apply y6) | exact HB.out)⟩
         ·replace c44 := Bool.eq_false_iff.mpr c44
          subst c44
          have H1 : (some (0,0)) = some (r1,r2) := by rw [if_neg (show ¬ (false = true) by decide)] at H; exact H
          clear H
          have H := H1
          clear H1
          simp only [Option.some.injEq,Prod.mk.injEq] at H
          obtain ⟨rfl,rfl⟩ := H
          go_wp2
          go_ret2
          exact ⟨by first | rfl | (simp [y9,y10] <;> rfl) | (simp [*,y9,y10] <;> rfl),by repeat (first | (with_reducible first | exact HB.out | apply y5 | apply y18 | apply y6) | exact HB.out)⟩
  ·rw [if_neg c3] at H
   exact absurd H (by simp)
end Go.Proofs.YtebadckdihgklaaDoor.Pb
end
section
namespace Go.Proofs.YtebadckdihgklaaDoor.Pb
open Go.RowKit Go.Proofs.YtebadckdihgklaaDoorW.PrintWords Go.Proofs.YtebadckdihgklaaDoorW.PrintLast Go.Proofs.YtebadckdihgklaaDoorW.PrintMore
attribute [local go_sem] max2_int min2_int max_two min_two max_three min_three max_four min_four   -- for this text's walks alone
set_option linter.unusedVariables false
set_option linter.unusedSimpArgs false
def impl_kindOf.f (k : Nat) (a0 : ByteArray) : Option (Int) := (impl_termAt.f k a0).bind fun bt179 => (if (a0.size : Int) > 200 then (some 0) else (if bt179.2 = (a0.size : Int) then (some bt179.1) else (some 0)))
set_option maxHeartbeats 8000000 in
set_option maxRecDepth 100000 in
theorem impl_kindOf.calls (k : Nat) (a0 : ByteArray) (r : Int) (w : World) (hT : Tb w) (h : impl_kindOf.f k a0 = some r) :
  Calls Tryd.prog 71 #[.string a0] w fun e w' => e = .returned (.int .i64 r) ∧ Below w.heap.size w w' := by
 have HT := y0.mk hT
 clear hT
 have HB := y0.mk (Below.refl w.heap.size w)
 have H : ((impl_termAt.f k a0).bind fun bt179 => (if (a0.size : Int) > 200 then (some 0) else (if bt179.2 = (a0.size : Int) then (some bt179.1) else (some 0)))) = some r := h
 clear h
 replace H := Option.bind_eq_some_iff.mp H
 obtain ⟨⟨t179,t180⟩,A20,H⟩ := H
 replace H : (if (a0.size : Int) > 200 then (some 0) else (if t180 = (a0.size : Int) then (some t179) else (some 0))) = some r := H
 have A2 := y0.mk A20
 clear A20
 by_cases c3 : (a0.size : Int) > 200
 ·rw [if_pos c3] at H
  have c3b0 : decide (200 < (a0.size : Int)) = true := decide_eq_true c3
  have c3b1 : decide (200 < a0.size) = true := decide_eq_true (by omega)
  clear c3
  obtain rfl := Option.some.inj H
  go_enter Tryd.func71,Tryd.ntmps71
  go_wp2_with (first | ((with_reducible refine y11 (f := 101) rfl ?_); refine y12 (some 7) rfl rfl Tryd.func101 (by kernel_rfl) rfl #[.string a0] rfl (by (try simp only [qM_,List.map_cons,List.map_nil]); first | done | rfl | (simp only [qD_,qT_]; rfl)) ?_; (with_reducible refine (impl_termAt.calls k a0 t179 t180 _ ?side1 A2.out).mono ?_); (case side1 => exact Tb.below HT.out (by repeat (first | (with_reducible first | exact HB.out | apply y5 | apply y18 | apply y6) | exact HB.out))); rintro e w4 ⟨rfl,hb⟩; refine ⟨_,rfl, ?_⟩; have n0_ := y0.mk (y8 (by repeat (first | (with_reducible first | exact HB.out | apply y5 | apply y18 | apply y6) | exact HB.out)) hb); clear HB; have HB := n0_; clear n0_; (try clear hb); (try clear hb2); (try clear hk); (try clear hi)))
  go_ret
  exact ⟨by first | rfl | (simp [y9,y10] <;> rfl) | (simp [*,y9,y10] <;> rfl),by repeat (first | (with_reducible first | exact HB.out | apply y5 | apply y18 | apply y6) | exact HB.out)⟩
 ·rw [if_neg c3] at H
  have c3b0 : decide (200 < (a0.size : Int)) = false := decide_eq_false c3
  have c3b1 : decide (200 < a0.size) = false := decide_eq_false (by omega)
  clear c3
  by_cases c5 : t180 = (a0.size : Int)
  ·rw [if_pos c5] at H
   have c5b0 : (t180 == (a0.size : Int)) = true := beq_iff_eq.mpr c5
   have c5b1 : (t180 != (a0.size : Int)) = false := bne_eq_false_iff_eq.mpr c5
   clear c5
   obtain rfl := Option.some.inj H
   go_enter Tryd.func71,Tryd.ntmps71
   go_wp2_with (first | ((with_reducible refine y11 (f := 101) rfl ?_); refine y12 (some 7) rfl rfl Tryd.func101 (by kernel_rfl) rfl #[.string a0] rfl (by (try simp only [qM_,List.map_cons,List.map_nil]); first | done | rfl | (simp only [qD_,qT_]; rfl)) ?_; (with_reducible refine (impl_termAt.calls k a0 t179 t180 _ ?side1 A2.out).mono ?_); (case side1 => exact Tb.below HT.out (by repeat (first | (with_reducible first | exact HB.out | apply y5 | apply y18 | apply y6) | exact HB.out))); rintro e w6 ⟨rfl,hb⟩; refine ⟨_,rfl, ?_⟩; have n0_ := y0.mk (y8 (by repeat (first | (with_reducible first | exact HB.out | apply y5 | apply y18 | apply y6) | exact HB.out)) hb); clear HB; have HB := n0_; clear n0_; (try clear hb); (try clear hb2); (try clear hk); (try clear hi)))
   go_ret
   exact ⟨by first | rfl | (simp [y9,y10] <;> rfl) | (simp [*,y9,y10] <;> rfl),by repeat (first | (with_reducible first | exact HB.out | apply y5 | apply y18 | apply y6) | exact HB.out)⟩
  ·rw [if_neg c5] at H
   have c5b0 : (t180 == (a0.size : Int)) = false := beq_eq_false_iff_ne.mpr c5
   have c5b1 : (t180 != (a0.size : Int)) = true := bne_iff_ne.mpr c5
   obtain rfl := Option.some.inj H
   go_enter Tryd.func71,Tryd.ntmps71
   go_wp2_with (first | ((with_reducible refine y11 (f := 101) rfl ?_); refine y12 (some 7) rfl rfl Tryd.func101 (by kernel_rfl) rfl #[.string a0] rfl (by (try simp only [qM_,List.map_cons,List.map_nil]); first | done | rfl | (simp only [qD_,qT_]; rfl)) ?_; (with_reducible refine (impl_termAt.calls k a0 t179 t180 _ ?side1 A2.out).mono ?_); (case side1 => exact Tb.below HT.out (by repeat (first | (with_reducible first | exact HB.out | apply y5 | apply y18 | apply y6) | exact HB.out))); rintro e w7 ⟨rfl,hb⟩; refine ⟨_,rfl, ?_⟩; have n0_ := y0.mk (y8 (by repeat (first | (with_reducible first | exact HB.out | apply y5 | apply y18 | apply y6) | exact HB.out)) hb); clear HB; have HB := n0_; clear n0_; (try clear hb); (try clear hb2); (try clear hk); (try clear hi)))
   go_ret
   exact ⟨by first | rfl | (simp [y9,y10] <;> rfl) | (simp [*,y9,y10] <;> rfl),by repeat (first | (with_reducible first | exact HB.out | apply y5 | apply y18 | apply y6) | exact HB.out)⟩
def impl_numOf.f (a0 : ByteArray) : Option (Int) := (strconv_Atoi.f a0).bind fun bt181 => (some bt181.1)
set_option maxHeartbeats 8000000 in
set_option maxRecDepth 100000 in
theorem impl_numOf.calls (a0 : ByteArray) (r : Int) (w : World) (hT : Tb w) (h : impl_numOf.f a0 = some r) :
  Calls Tryd.prog 72 #[.string a0] w fun e w' => e = .returned (.int .i64 r) ∧ Below w.heap.size w w' := by
 have HT := y0.mk hT
 clear hT
 have HB := y0.mk (Below.refl w.heap.size w)
 have H : ((strconv_Atoi.f a0).bind fun bt181 => (some bt181.1)) = some r := h
 clear h
 replace H := Option.bind_eq_some_iff.mp H
 obtain ⟨⟨t181,t182⟩,A20,H⟩ := H
 replace H : (some t181) = some r := H
 have A2 := y0.mk A20
 clear A20
 obtain rfl := Option.some.inj H
 go_enter Tryd.func72,Tryd.ntmps72
 go_wp2_with (first | ((with_reducible refine y11 (f := 102) rfl ?_); refine y12 (some 7) rfl rfl Tryd.func102 (by kernel_rfl) rfl #[.string a0] rfl (by (try simp only [qM_,List.map_cons,List.map_nil]); first | done | rfl | (simp only [qD_,qT_]; rfl)) ?_; (with_reducible refine (strconv_Atoi.calls a0 t181 t182 _ ?side1 A2.out).mono ?_); (case side1 => exact Tb.below HT.out (by repeat (first | (with_reducible first | exact HB.out | apply y5 | apply y18 | apply y6) | exact HB.out))); rintro e w3 ⟨ev_,rfl,hev_,hb⟩; refine ⟨_,rfl, ?_⟩; have n0_ := y0.mk (y8 (by repeat (first | (with_reducible first | exact HB.out | apply y5 | apply y18 | apply y6) | exact HB.out)) hb); clear HB; have HB := n0_; clear n0_; (try clear hb); (try clear hb2); (try clear hk); (try clear hi); (try simp only [y9,y10])))
 go_ret
 exact ⟨by first | rfl | (simp [y9,y10] <;> rfl) | (simp [*,y9,y10] <;> rfl),by repeat (first | (with_reducible first | exact HB.out | apply y5 | apply y18 | apply y6) | exact HB.out)⟩
def spec_l01Digit.f (a0 : Int) : Option (Bool) := if a0 ≥ 48 then (some (decide (a0 ≤ 57))) else (some false)
set_option maxHeartbeats 8000000 in
set_option maxRecDepth 100000 in
theorem spec_l01Digit.calls (a0 : Int) (r : Bool) (w : World) (h : spec_l01Digit.f a0 = some r) :
  Calls Tryd.prog 88 #[.int .u8 a0] w fun e w' => e = .returned (.bool r) ∧ y1 w w' := by
 have H : (if a0 ≥ 48 then (some (decide (a0 ≤ 57))) else (some false)) = some r := h
 clear h
 by_cases c2 : a0 ≥ 48
 ·rw [if_pos c2] at H
  have c2b0 : decide (48 ≤ a0) = true := decide_eq_true c2
  clear c2
  obtain rfl := Option.some.inj H
  go_enter Tryd.func88,Tryd.ntmps88
  go_wp2
  go_ret
  exact ⟨by first | rfl | (simp; done) | (simp [*]; done),by repeat (first | exact y1.refl _ | apply y1.step)⟩
 ·rw [if_neg c2] at H
  have c2b0 : decide (48 ≤ a0) = false := decide_eq_false c2
  clear c2
  obtain rfl := Option.some.inj H
  go_enter Tryd.func88,Tryd.ntmps88
  go_wp2
  go_ret
  exact ⟨by first | rfl | (simp; done) | (simp [*]; done),by repeat (first | exact y1.refl _ | apply y1.step)⟩
end Go.Proofs.YtebadckdihgklaaDoor.Pb
end
section
namespace Go.Proofs.YtebadckdihgklaaDoor.Pb
open Go.RowKit Go.Proofs.YtebadckdihgklaaDoorW.PrintWords Go.Proofs.YtebadckdihgklaaDoorW.PrintLast Go.Proofs.YtebadckdihgklaaDoorW.PrintMore
attribute [local go_sem] max2_int min2_int max_two min_two max_three min_three max_four min_four   -- for this text's walks alone
set_option linter.unusedVariables false
set_option linter.unusedSimpArgs false
mutual
def z9_.j0 : Nat → ByteArray → Int → ByteArray → Bool → Option (Int × Bool)
 | 0,_,_,_,_ => none
 | k + 1,x0,x4,x5,x15 => if x15 = true then (if 1 ≤ (x0.size : Int) then (z9_.j1 k x0 x4 (x0.extract 1 x0.size)) else (none)) else (z9_.j1 k x0 x4 x5)
def z9_.j1 : Nat → ByteArray → Int → ByteArray → Option (Int × Bool)
 | 0,_,_,_ => none
 | k + 1,x0,x4,x5 => (spec_l01Between.f (x5.size : Int) 1 7).bind fun t192 => (if t192 = true then (z9_.l0 k x0 x4 x5 0) else (some (0,false)))
def z9_.l0 : Nat → ByteArray → Int → ByteArray → Int → Option (Int × Bool)
 | 0,_,_,_,_ => none
 | k + 1,x0,x4,x5,x6 => if x6 < (x5.size : Int) then (if 0 ≤ x6 then ((spec_l01Digit.f (bt x5 x6)).bind fun t193 => (if t193 = true then (z9_.l0 k x0 (wrap64 ((wrap64 (10 * x4)) + (((bt x5 x6) - 48) % 256))) x5 (wrap64 (x6 + 1))) else (some (0,false)))) else (none)) else (if x5.toList = x0.toList then ((spec_NumText.f k x4).bind fun t194 => (if t194.toList = x0.toList then ((spec_l01Between.f x4 (-1000000) 1000000).bind fun t195 => (some (x4,t195))) else (some (x4,false)))) else ((spec_NumText.f k (wrap64 (-x4))).bind fun t196 => (if t196.toList = x0.toList then ((spec_l01Between.f (wrap64 (-x4)) (-1000000) 1000000).bind fun t197 => (some (wrap64 (-x4),t197))) else (some (wrap64 (-x4),false)))))
end
def z9_.f (k : Nat) (a0 : ByteArray) : Option (Int × Bool) := if (a0.size : Int) > 0 then (if 0 < (a0.size : Int) then (z9_.j0 k a0 0 a0 ((bt a0 0) == 45)) else (none)) else (z9_.j0 k a0 0 a0 false)
set_option maxHeartbeats 8000000 in
set_option maxRecDepth 100000 in
theorem z9_.calls (k : Nat) (a0 : ByteArray) (r1 : Int) (r2 : Bool) (w : World) (h : z9_.f k a0 = some (r1,r2)) :
  Calls Tryd.prog 73 #[.string a0] w fun e w' => e = .returned (.tuple #[.int .i64 r1,.bool r2]) ∧ Below w.heap.size w w' := by
 have HB := y0.mk (Below.refl w.heap.size w)
 have H : (if (a0.size : Int) > 0 then (if 0 < (a0.size : Int) then (z9_.j0 k a0 0 a0 ((bt a0 0) == 45)) else (none)) else (z9_.j0 k a0 0 a0 false)) = some (r1,r2) := h
 clear h
 have HC2 := y0.mk H
 clear H
 go_enter Tryd.func73,Tryd.ntmps73
 go_upto_region 3 with (fail)
 go_cut [15] (fun v15 wc => ∃ (kq : Nat) (x15_1 : Bool),v15 = .bool x15_1 ∧ y0 (z9_.j0 kq a0 0 a0 x15_1 = some (r1,r2)) ∧ y0 (kq ≤ k) ∧ y0 (Below w.heap.size w wc))
 case first =>
  have H := HC2.out
  clear HC2
  by_cases c3 : (a0.size : Int) > 0
  ·rw [if_pos c3] at H
   have c3b0 : decide (0 < (a0.size : Int)) = true := decide_eq_true c3
   have c3b1 : decide (0 < a0.size) = true := decide_eq_true (by omega)
   clear c3
   (first | rw [c3b0] | (simp only [y14,y13]; rw [c3b0]) | skip)
   by_cases c4 : 0 < (a0.size : Int)
   ·rw [if_pos c4] at H
    have c4b0 : decide (0 < (a0.size : Int)) = true := decide_eq_true c4
    have c4b1 : decide (0 < a0.size) = true := decide_eq_true (by omega)
    clear c4
    have H' := y0.mk H
    clear H
    have p5 : 0 ≤ (0 : Int) := (by omega)
    have q5 : 0 < a0.size := (by have : (0 : Int) < (a0.size : Int) := of_decide_eq_true (by first | (with_reducible assumption) | assumption); omega)
    have hx5 : ∀ h : 0 < a0.size,((a0[0]'h).toNat : Int) = bt a0 0 := bt_at a0 0
    clear p5
    have qi5 : (0 < (a0.size : Int)) = True := eq_true (of_decide_eq_true (by first | (with_reducible assumption) | assumption))
    replace q5 := eq_true q5
    go_wp2
    go_meet
    case rel => exact ⟨_,(((bt a0 0) == 45)),(by first | rfl | (simp; done) | (simp [*]; done)),H',⟨by first | omega | exact Nat.le_refl _⟩,⟨by repeat (first | (with_reducible first | exact HB.out | apply y5 | apply y18 | apply y6) | exact HB.out)⟩⟩
   ·rw [if_neg c4] at H
    exact absurd H (by simp)
  ·rw [if_neg c3] at H
   have c3b0 : decide (0 < (a0.size : Int)) = false := decide_eq_false c3
   have c3b1 : decide (0 < a0.size) = false := decide_eq_false (by omega)
   clear c3
   (first | rw [c3b0] | (simp only [y14,y13]; rw [c3b0]) | skip)
   have H' := y0.mk H
   clear H
   go_wp2
   go_meet
   case rel => exact ⟨_,(false),(by first | rfl | (simp; done) | (simp [*]; done)),H',⟨by first | omega | exact Nat.le_refl _⟩,⟨by repeat (first | (with_reducible first | exact HB.out | apply y5 | apply y18 | apply y6) | exact HB.out)⟩⟩
 case rest =>
  clear HC2
  try clear p2
  try clear c3
  try clear c3b0
  try clear c3b1
  try clear c4
  try clear c4b0
  try clear c4b1
  try clear p5
  try clear q5
  try clear hx5
  try clear qi5
  try clear p5
  try clear q5
  obtain ⟨kq,x15_1,rfl,HA,HJ1,HB⟩ := hcut
  cases kq with
  | zero => exact absurd HA.out (by simp [z9_.j0])
  | succ kj1 =>
   have H := HA.out
   clear HA
   simp only [z9_.j0] at H
   have HC6 := y0.mk H
   clear H
   go_upto_if 15 with (fail)
   go_cut [5] (fun v5 wc => ∃ (kq : Nat) (x5_5 : ByteArray),v5 = .string x5_5 ∧ y0 (z9_.j1 kq a0 0 x5_5 = some (r1,r2)) ∧ y0 (kq ≤ kj1) ∧ y0 (Below w.heap.size w wc))
   case first =>
    have H := HC6.out
    clear HC6
    by_cases c7 : x15_1 = true
    ·subst c7
     have H1 : (if 1 ≤ (a0.size : Int) then (z9_.j1 kj1 a0 0 (a0.extract 1 a0.size)) else (none)) = some (r1,r2) := by rw [if_pos rfl] at H; exact H
     clear H
     have H := H1
     clear H1
     by_cases c8 : 1 ≤ (a0.size : Int)
     ·rw [if_pos c8] at H
      have c8b0 := eq_true c8
      have c8b1 : decide (1 ≤ (a0.size : Int)) = true := decide_eq_true c8
      clear c8
      have H' := y0.mk H
      clear H
      go_wp2
      go_meet
      case rel => exact ⟨_,(a0.extract 1 a0.size),(by first | rfl | (simp; done) | (simp [*]; done)),H',⟨by have := HJ1.out; first | omega | exact Nat.le_refl _⟩,⟨by repeat (first | (with_reducible first | exact HB.out | apply y5 | apply y18 | apply y6) | exact HB.out)⟩⟩
     ·rw [if_neg c8] at H
      exact absurd H (by simp)
    ·replace c7 := Bool.eq_false_iff.mpr c7
     subst c7
     have H1 : (z9_.j1 kj1 a0 0 a0) = some (r1,r2) := by rw [if_neg (show ¬ (false = true) by decide)] at H; exact H
     clear H
     have H := H1
     clear H1
     have H' := y0.mk H
     clear H
     go_wp2
     go_meet
     case rel => exact ⟨_,(a0),(by first | rfl | (simp; done) | (simp [*]; done)),H',⟨by have := HJ1.out; first | omega | exact Nat.le_refl _⟩,⟨by repeat (first | (with_reducible first | exact HB.out | apply y5 | apply y18 | apply y6) | exact HB.out)⟩⟩
   case rest =>
    clear HC6
    try clear p2
    try clear c3
    try clear c3b0
    try clear c3b1
    try clear c4
    try clear c4b0
    try clear c4b1
    try clear p5
    try clear q5
    try clear hx5
    try clear qi5
    try clear c7
    try clear c8
    try clear c8b0
    try clear c8b1
    try clear p2
    try clear p5
    try clear q5
    obtain ⟨kq,x5_5,rfl,HA,HJ5,HB⟩ := hcut
    cases kq with
    | zero => exact absurd HA.out (by simp [z9_.j1])
    | succ kj5 =>
     have H := HA.out
     clear HA
     simp only [z9_.j1] at H
     replace H := Option.bind_eq_some_iff.mp H
     obtain ⟨t192,A90,H⟩ := H
     replace H : (if t192 = true then (z9_.l0 kj5 a0 0 x5_5 0) else (some (0,false))) = some (r1,r2) := H
     have A9 := y0.mk A90
     clear A90
     by_cases c10 : t192 = true
     ·subst c10
      have H1 : (z9_.l0 kj5 a0 0 x5_5 0) = some (r1,r2) := by rw [if_pos rfl] at H; exact H
      clear H
      have H := H1
      clear H1
      have H' := y0.mk H
      clear H
      go_wp2_with (first | ((with_reducible refine y11 (f := 66) rfl ?_); refine y12 (some 20) rfl rfl Tryd.func66 (by kernel_rfl) rfl #[.int .i64 (x5_5.size : Int),.int .i64 1,.int .i64 7] rfl (by (try simp only [qM_,List.map_cons,List.map_nil]); first | done | rfl | (simp only [qD_,qT_]; rfl)) ?_; (with_reducible refine (spec_l01Between.calls (x5_5.size : Int) 1 7 true _ A9.out).mono ?_); rintro e w' ⟨rfl,⟨nd,rfl⟩⟩; refine ⟨_,rfl, ?_⟩))
      go_loopg [4,6] kj5 (fun kq v4 v6 w' => ∃ (x4_3 : Int) (x6_3 : Int),v4 = .int .i64 x4_3 ∧ v6 = .int .i64 x6_3 ∧ y0 (z9_.l0 kq a0 x4_3 x5_5 x6_3 = some (r1,r2)) ∧ y0 (kq ≤ kj5) ∧ y0 (Below w.heap.size w w'))
      case atStart => exact ⟨(0),(0),(by first | rfl | (simp; done) | (simp [*]; done)),(by first | rfl | (simp; done) | (simp [*]; done)),H',⟨Nat.le_refl _⟩,⟨by repeat (first | (with_reducible first | exact HB.out | apply y5 | apply y18 | apply y6) | exact HB.out)⟩⟩
      case round =>
       clear H'
       try clear c1
       try clear p2
       try clear c3
       try clear c3b0
       try clear c3b1
       try clear c4
       try clear c4b0
       try clear c4b1
       try clear p5
       try clear q5
       try clear hx5
       try clear qi5
       try clear c6
       try clear c7
       try clear c8
       try clear c8b0
       try clear c8b1
       try clear c10
       try clear p2
       try clear p5
       try clear q5
       obtain ⟨x4_3,x6_3,rfl,rfl,HA,HK3,HB⟩ := hrel
       cases gk with
       | zero => exact absurd HA.out (by simp [z9_.l0])
       | succ k3 =>
        have H := HA.out
        clear HA
        simp only [z9_.l0] at H
        by_cases c11 : x6_3 < (x5_5.size : Int)
        ·rw [if_pos c11] at H
         have c11b0 : decide (x6_3 < (x5_5.size : Int)) = true := decide_eq_true c11
         clear c11
         by_cases c12 : 0 ≤ x6_3
         ·rw [if_pos c12] at H
          have c12b0 : decide (0 ≤ x6_3) = true := decide_eq_true c12
          clear c12
          replace H := Option.bind_eq_some_iff.mp H
          obtain ⟨t193,A140,H⟩ := H
          replace H : (if t193 = true then (z9_.l0 k3 a0 (wrap64 ((wrap64 (10 * x4_3)) + (((bt x5_5 x6_3) - 48) % 256))) x5_5 (wrap64 (x6_3 + 1))) else (some (0,false))) = some (r1,r2) := H
          have A14 := y0.mk A140
          clear A140
          by_cases c15 : t193 = true
          ·subst c15
           have H1 : (z9_.l0 k3 a0 (wrap64 ((wrap64 (10 * x4_3)) + (((bt x5_5 x6_3) - 48) % 256))) x5_5 (wrap64 (x6_3 + 1))) = some (r1,r2) := by rw [if_pos rfl] at H; exact H
           clear H
           have H := H1
           clear H1
           have H' := y0.mk H
           clear H
           have p13 : 0 ≤ (x6_3 : Int) := of_decide_eq_true (by first | (with_reducible assumption) | assumption)
           have q13 : x6_3 < (x5_5.size : Int) := of_decide_eq_true (by first | (with_reducible assumption) | assumption)
           have hx13 := bt_at x5_5 x6_3
           replace p13 := eq_true p13
           replace q13 := eq_true q13
           go_wp2_with (first | ((with_reducible refine y11 (f := 88) rfl ?_); refine y12 (some 31) rfl rfl Tryd.func88 (by kernel_rfl) rfl #[.int .u8 (bt x5_5 x6_3)] rfl (by (try simp only [qM_,List.map_cons,List.map_nil]); first | done | rfl | (simp only [qD_,qT_]; rfl)) ?_; (with_reducible refine (spec_l01Digit.calls (bt x5_5 x6_3) true _ A14.out).mono ?_); rintro e w' ⟨rfl,⟨nd,rfl⟩⟩; refine ⟨_,rfl, ?_⟩; have p16 : 0 ≤ (x6_3 : Int) := of_decide_eq_true (by first | (with_reducible assumption) | assumption); have q16 : x6_3 < (x5_5.size : Int) := of_decide_eq_true (by first | (with_reducible assumption) | assumption); have hx16 := bt_at x5_5 x6_3; replace p16 := eq_true p16; replace q16 := eq_true q16))
           go_roundg k3
           case measure => have := HJ1.out; have := HJ5.out; have := HK3.out; omega
           case rel => exact ⟨(wrap64 ((wrap64 (10 * x4_3)) + (((bt x5_5 x6_3) - 48) % 256))),(wrap64 (x6_3 + 1)),(by first | rfl | (simp; done) | (simp [*]; done)),(by first | rfl | (simp; done) | (simp [*]; done)),H',⟨by have := HJ1.out; have := HJ5.out; have := HK3.out; omega⟩,⟨by repeat (first | (with_reducible first | exact HB.out | apply y5 | apply y18 | apply y6) | exact HB.out)⟩⟩
          ·replace c15 := Bool.eq_false_iff.mpr c15
           subst c15
           have H1 : (some (0,false)) = some (r1,r2) := by rw [if_neg (show ¬ (false = true) by decide)] at H; exact H
           clear H
           have H := H1
           clear H1
           simp only [Option.some.injEq,Prod.mk.injEq] at H
           obtain ⟨rfl,rfl⟩ := H
           have p13 : 0 ≤ (x6_3 : Int) := of_decide_eq_true (by first | (with_reducible assumption) | assumption)
           have q13 : x6_3 < (x5_5.size : Int) := of_decide_eq_true (by first | (with_reducible assumption) | assumption)
           have hx13 := bt_at x5_5 x6_3
           replace p13 := eq_true p13
           replace q13 := eq_true q13
           go_wp2_with (first | ((with_reducible refine y11 (f := 88) rfl ?_); refine y12 (some 31) rfl rfl Tryd.func88 (by kernel_rfl) rfl #[.int .u8 (bt x5_5 x6_3)] rfl (by (try simp only [qM_,List.map_cons,List.map_nil]); first | done | rfl | (simp only [qD_,qT_]; rfl)) ?_; (with_reducible refine (spec_l01Digit.calls (bt x5_5 x6_3) false _ A14.out).mono ?_); rintro e w' ⟨rfl,⟨nd,rfl⟩⟩; refine ⟨_,rfl, ?_⟩))
           go_ret2
           exact ⟨by first | rfl | (simp [y9,y10] <;> rfl) | (simp [*,y9,y10] <;> rfl),by repeat (first | (with_reducible first | exact HB.out | apply y5 | apply y18 | apply y6) | exact HB.out)⟩
         ·rw [if_neg c12] at H
          exact absurd H (by simp)
        ·rw [if_neg c11] at H
         have c11b0 : decide (x6_3 < (x5_5.size : Int)) = false := decide_eq_false c11
         clear c11
         by_cases c17 : x5_5.toList = a0.toList
         ·rw [if_pos c17] at H
          have c17b0 : (x5_5.toList == a0.toList) = true := beq_iff_eq.mpr c17
          have c17b1 : (x5_5.toList != a0.toList) = false := bne_eq_false_iff_eq.mpr c17
          clear c17
          replace H := Option.bind_eq_some_iff.mp H
          obtain ⟨t194,A180,H⟩ := H
          replace H : (if t194.toList = a0.toList then ((spec_l01Between.f x4_3 (-1000000) 1000000).bind fun t195 => (some (x4_3,t195))) else (some (x4_3,false))) = some (r1,r2) := H
          have A18 := y0.mk A180
          clear A180
          by_cases c19 : t194.toList = a0.toList
          ·rw [if_pos c19] at H
           have c19b0 : (t194.toList == a0.toList) = true := beq_iff_eq.mpr c19
           have c19b1 : (t194.toList != a0.toList) = false := bne_eq_false_iff_eq.mpr c19
           clear c19
           replace H := Option.bind_eq_some_iff.mp H
           obtain ⟨t195,A200,H⟩ := H
           replace H : (some (x4_3,t195)) = some (r1,r2) := H
           have A20 := y0.mk A200
           clear A200
           simp only [Option.some.injEq,Prod.mk.injEq] at H
           obtain ⟨rfl,rfl⟩ := H
           go_wp2_with (first | ((with_reducible refine y11 (f := 20) rfl ?_); refine y12 (some 48) rfl rfl Tryd.func20 (by kernel_rfl) rfl #[.int .i64 x4_3] rfl (by (try simp only [qM_,List.map_cons,List.map_nil]); first | done | rfl | (simp only [qD_,qT_]; rfl)) ?_; (with_reducible refine (spec_NumText.calls k3 x4_3 t194 _ A18.out).mono ?_); rintro e w21 ⟨rfl,hb⟩; refine ⟨_,rfl, ?_⟩; have n0_ := y0.mk (y8 (by repeat (first | (with_reducible first | exact HB.out | apply y5 | apply y18 | apply y6) | exact HB.out)) hb); clear HB; have HB := n0_; clear n0_; (try clear hb); (try clear hb2); (try clear hk); (try clear hi)) | (go_at_call 66; (with_reducible refine (spec_l01Between.calls x4_3 (-1000000) 1000000 t195 _ A20.out).mono ?_); rintro e w' ⟨rfl,⟨nd,rfl⟩⟩))
           go_ret2
           exact ⟨by first | rfl | (simp [y9,y10] <;> rfl) | (simp [*,y9,y10] <;> rfl),by repeat (first | (with_reducible first | exact HB.out | apply y5 | apply y18 | apply y6) | exact HB.out)⟩
          ·rw [if_neg c19] at H
           have c19b0 : (t194.toList == a0.toList) = false := beq_eq_false_iff_ne.mpr c19
           have c19b1 : (t194.toList != a0.toList) = true := bne_iff_ne.mpr c19
           simp only [Option.some.injEq,Prod.mk.injEq] at H
           obtain ⟨rfl,rfl⟩ := H
           go_wp2_with (first | ((with_reducible refine y11 (f := 20) rfl ?_); refine y12 (some 48) rfl rfl Tryd.func20 (by kernel_rfl) rfl #[.int .i64 x4_3] rfl (by (try simp only [qM_,List.map_cons,List.map_nil]); first | done | rfl | (simp only [qD_,qT_]; rfl)) ?_; (with_reducible refine (spec_NumText.calls k3 x4_3 t194 _ A18.out).mono ?_); rintro e w22 ⟨rfl,hb⟩; refine ⟨_,rfl, ?_⟩; have n0_ := y0.mk (y8 (by repeat (first | (with_reducible first | exact HB.out | apply y5 | apply y18 | apply y6) | exact HB.out)) hb); clear HB; have HB := n0_; clear n0_; (try clear hb); (try clear hb2); (try clear hk); (try clear hi)))
           go_ret2
           exact ⟨by first | rfl | (simp [y9,y10] <;> rfl) | (simp [*,y9,y10] <;> rfl),by repeat (first | (with_reducible first | exact HB.out | apply y5 | apply y18 | apply y6) | exact HB.out)⟩
         ·rw [if_neg c17] at H
          have c17b0 : (x5_5.toList == a0.toList) = false := beq_eq_false_iff_ne.mpr c17
          have c17b1 : (x5_5.toList != a0.toList) = true := bne_iff_ne.mpr c17
          replace H := Option.bind_eq_some_iff.mp H
          obtain ⟨t196,A230,H⟩ := H
          replace H : (if t196.toList = a0.toList then ((spec_l01Between.f (wrap64 (-x4_3)) (-1000000) 1000000).bind fun t197 => (some (wrap64 (-x4_3),t197))) else (some (wrap64 (-x4_3),false))) = some (r1,r2) := H
          have A23 := y0.mk A230
          clear A230
          by_cases c24 : t196.toList = a0.toList
          ·rw [if_pos c24] at H
           have c24b0 : (t196.toList == a0.toList) = true := beq_iff_eq.mpr c24
           have c24b1 : (t196.toList != a0.toList) = false := bne_eq_false_iff_eq.mpr c24
           clear c24
           replace H := Option.bind_eq_some_iff.mp H
           obtain ⟨t197,A250,H⟩ := H
           replace H : (some (wrap64 (-x4_3),t197)) = some (r1,r2) := H
           have A25 := y0.mk A250
           clear A250
           simp only [Option.some.injEq,Prod.mk.injEq] at H
           obtain ⟨rfl,rfl⟩ := H
           go_wp2_with (first | ((with_reducible refine y11 (f := 20) rfl ?_); refine y12 (some 48) rfl rfl Tryd.func20 (by kernel_rfl) rfl #[.int .i64 (wrap64 (-x4_3))] rfl (by (try simp only [qM_,List.map_cons,List.map_nil]); first | done | rfl | (simp only [qD_,qT_]; rfl)) ?_; (with_reducible refine (spec_NumText.calls k3 (wrap64 (-x4_3)) t196 _ A23.out).mono ?_); rintro e w26 ⟨rfl,hb⟩; refine ⟨_,rfl, ?_⟩; have n0_ := y0.mk (y8 (by repeat (first | (with_reducible first | exact HB.out | apply y5 | apply y18 | apply y6) | exact HB.out)) hb); clear HB; have HB := n0_; clear n0_; (try clear hb); (try clear hb2); (try clear hk); (try clear hi)) | (go_at_call 66; (with_reducible refine (spec_l01Between.calls (wrap64 (-x4_3)) (-1000000) 1000000 t197 _ A25.out).mono ?_); rintro e w' ⟨rfl,⟨nd,rfl⟩⟩))
           go_ret2
           exact ⟨by first | rfl | (simp [y9,y10] <;> rfl) | (simp [*,y9,y10] <;> rfl),by repeat (first | (with_reducible first | exact HB.out | apply y5 | apply y18 | apply y6) | exact HB.out)⟩
          ·rw [if_neg c24] at H
           have c24b0 : (t196.toList == a0.toList) = false := beq_eq_false_iff_ne.mpr c24
           have c24b1 : (t196.toList != a0.toList) = true := bne_iff_ne.mpr c24
           simp only [Option.some.injEq,Prod.mk.injEq] at H
           obtain ⟨rfl,rfl⟩ := H
           go_wp2_with (first | ((with_reducible refine y11 (f := 20) rfl ?_); refine y12 (some 48) rfl rfl Tryd.func20 (by kernel_rfl) rfl #[.int .i64 (wrap64 (-x4_3))] rfl (by (try simp only [qM_,List.map_cons,List.map_nil]); first | done | rfl | (simp only [qD_,qT_]; rfl)) ?_; (with_reducible refine (spec_NumText.calls k3 (wrap64 (-x4_3)) t196 _ A23.out).mono ?_); rintro e w27 ⟨rfl,hb⟩; refine ⟨_,rfl, ?_⟩; have n0_ := y0.mk (y8 (by repeat (first | (with_reducible first | exact HB.out | apply y5 | apply y18 | apply y6) | exact HB.out)) hb); clear HB; have HB := n0_; clear n0_; (try clear hb); (try clear hb2); (try clear hk); (try clear hi)))
           go_ret2
           exact ⟨by first | rfl | (simp [y9,y10] <;> rfl) | (simp [*,y9,y10] <;> rfl),by repeat (first | (with_reducible first | exact HB.out | apply y5 | apply y18 | apply y6) | exact HB.out)⟩
     ·replace c10 := Bool.eq_false_iff.mpr c10
      subst c10
      have H1 : (some (0,false)) = some (r1,r2) := by rw [if_neg (show ¬ (false = true) by decide)] at H; exact H
      clear H
      have H := H1
      clear H1
      simp only [Option.some.injEq,Prod.mk.injEq] at H
      obtain ⟨rfl,rfl⟩ := H
      go_wp2_with (first | ((with_reducible refine y11 (f := 66) rfl ?_); refine y12 (some 20) rfl rfl Tryd.func66 (by kernel_rfl) rfl #[.int .i64 (x5_5.size : Int),.int .i64 1,.int .i64 7] rfl (by (try simp only [qM_,List.map_cons,List.map_nil]); first | done | rfl | (simp only [qD_,qT_]; rfl)) ?_; (with_reducible refine (spec_l01Between.calls (x5_5.size : Int) 1 7 false _ A9.out).mono ?_); rintro e w' ⟨rfl,⟨nd,rfl⟩⟩; refine ⟨_,rfl, ?_⟩))
      go_ret2
      exact ⟨by first | rfl | (simp [y9,y10] <;> rfl) | (simp [*,y9,y10] <;> rfl),by repeat (first | (with_reducible first | exact HB.out | apply y5 | apply y18 | apply y6) | exact HB.out)⟩
end Go.Proofs.YtebadckdihgklaaDoor.Pb
end

-- Cut by prune.py, a program of this session, out of the texts of this claim: Lean checks it.
import Derived.Test.YtocmfolajckaeaaGreatDoorVskPex0
import Derived.Test.YtocmfolajckaeaaGreatDoorVskPex9
section
namespace Go.Proofs.YtocmfolajckaeaaGreatDoor.Pe
open Go.RowKit Go.Proofs.YtocmfolajckaeaaGreatDoorW.PrintWords Go.Proofs.YtocmfolajckaeaaGreatDoorW.PrintLast Go.Proofs.YtocmfolajckaeaaGreatDoorW.PrintMore
attribute [local go_sem] max2_int min2_int max_two min_two max_three min_three max_four min_four   -- for this text's walks alone
set_option linter.unusedVariables false
set_option linter.unusedSimpArgs false
def spec_l02Same.l0 : Nat → Int → List ByteArray → List ByteArray → Option (Bool)
 | 0,_,_,_ => none
 | k + 1,x5,x246000,x247000 => if x5 < (x246000.length : Int) then (if 0 ≤ x5 then (if x5 < (x247000.length : Int) then (if (rdOf ByteArray.empty x246000 x5).toList = (rdOf ByteArray.empty x247000 x5).toList then (spec_l02Same.l0 k (wrap64 (x5 + 1)) x246000 x247000) else (some false)) else (none)) else (none)) else (some true)
def spec_l02Same.f (k : Nat) (l0_0 : List ByteArray) (l1_0 : List ByteArray) : Option (Bool) := if (l0_0.length : Int) = (l1_0.length : Int) then (spec_l02Same.l0 k 0 l0_0 l1_0) else (some false)
set_option maxHeartbeats 8000000 in
set_option maxRecDepth 100000 in
theorem spec_l02Same.calls (k : Nat) (A0_0 : Option Addr) (c0_0 : Nat) (l0_0 : List ByteArray) (A1_0 : Option Addr) (c1_0 : Nat) (l1_0 : List ByteArray) (r : Bool) (w : World) (hr0_0 : Kd.C Kd.string w A0_0 l0_0.length l0_0) (hc0_0 : l0_0.length ≤ c0_0) (hr1_0 : Kd.C Kd.string w A1_0 l1_0.length l1_0) (hc1_0 : l1_0.length ≤ c1_0) (h : spec_l02Same.f k l0_0 l1_0 = some r) :
  Calls Tryz.prog 34 #[.agg #[.slice A0_0 l0_0.length c0_0],.agg #[.slice A1_0 l1_0.length c1_0]] w fun e w' => e = .returned (.bool r) ∧ Below w.heap.size w w' := by
 have hu48 := Tryz.underlying48
 have HR0_0 := y0.mk hr0_0
 have HC0_0 := y0.mk hc0_0
 clear hr0_0 hc0_0
 have HR1_0 := y0.mk hr1_0
 have HC1_0 := y0.mk hc1_0
 clear hr1_0 hc1_0
 have HB := y0.mk (Below.refl w.heap.size w)
 have H : (if (l0_0.length : Int) = (l1_0.length : Int) then (spec_l02Same.l0 k 0 l0_0 l1_0) else (some false)) = some r := h
 clear h
 by_cases c3 : (l0_0.length : Int) = (l1_0.length : Int)
 ·rw [if_pos c3] at H
  have c3b0 : ((l0_0.length : Int) == (l1_0.length : Int)) = true := beq_iff_eq.mpr c3
  have c3b1 : ((l0_0.length : Int) != (l1_0.length : Int)) = false := bne_eq_false_iff_eq.mpr c3
  have c3b2 : (l0_0.length == l1_0.length) = true := by first | simpa using c3 | (simp at c3 ⊢; omega)
  clear c3
  have H' := y0.mk H
  clear H
  go_enter Tryz.func34,Tryz.ntmps34
  go_wp2_with (first | ((with_reducible refine y15 (N := 2) rfl ?_); refine qe 2 #[.slice A0_0 l0_0.length c0_0] 48 ?_; intro gb245 hg w4 hbox hb; have BK245 := y0.mk (hbox); have GW245 := y0.mk (qg (w := w) hg); have GE245 := y0.mk (qg (w := w) hg); replace HB := y0.mk (y5 qb hb); clear hb hbox hg) | ((with_reducible refine y15 (N := 3) rfl ?_); refine qe 3 #[.slice A1_0 l1_0.length c1_0] 48 ?_; intro gb246 hg w5 hbox hb; have BK246 := y0.mk (hbox); have GW246 := y0.mk (qg (w := w) hg); have GE246 := y0.mk (qg (w := w) hg); replace HB := y0.mk (y5 qb hb); have NB245_246 := y0.mk (qn BK245.out hg); have NB246_245 := y0.mk (qm BK245.out hg); replace BK245 := y0.mk (qK BK245.out hb); clear hb hbox hg; have hnb6 := NB245_246.out; have hnc6 := NB246_245.out; obtain ⟨hcz7_0,hfz7_0⟩ := qz1 BK245.out; obtain ⟨hcz8_0,hfz8_0⟩ := qz1 BK246.out))
  repeat (go_quiet (first | ((with_reducible refine y15 (N := 2) rfl ?_); refine qe 2 #[.slice A0_0 l0_0.length c0_0] 48 ?_; intro gb245 hg w4 hbox hb; have BK245 := y0.mk (hbox); have GW245 := y0.mk (qg (w := w) hg); have GE245 := y0.mk (qg (w := w) hg); replace HB := y0.mk (y5 qb hb); clear hb hbox hg) | ((with_reducible refine y15 (N := 3) rfl ?_); refine qe 3 #[.slice A1_0 l1_0.length c1_0] 48 ?_; intro gb246 hg w5 hbox hb; have BK246 := y0.mk (hbox); have GW246 := y0.mk (qg (w := w) hg); have GE246 := y0.mk (qg (w := w) hg); replace HB := y0.mk (y5 qb hb); have NB245_246 := y0.mk (qn BK245.out hg); have NB246_245 := y0.mk (qm BK245.out hg); replace BK245 := y0.mk (qK BK245.out hb); clear hb hbox hg; have hnb6 := NB245_246.out; have hnc6 := NB246_245.out; obtain ⟨hcz7_0,hfz7_0⟩ := qz1 BK245.out; obtain ⟨hcz8_0,hfz8_0⟩ := qz1 BK246.out)); try go_wp2_with (first | ((with_reducible refine y15 (N := 2) rfl ?_); refine qe 2 #[.slice A0_0 l0_0.length c0_0] 48 ?_; intro gb245 hg w4 hbox hb; have BK245 := y0.mk (hbox); have GW245 := y0.mk (qg (w := w) hg); have GE245 := y0.mk (qg (w := w) hg); replace HB := y0.mk (y5 qb hb); clear hb hbox hg) | ((with_reducible refine y15 (N := 3) rfl ?_); refine qe 3 #[.slice A1_0 l1_0.length c1_0] 48 ?_; intro gb246 hg w5 hbox hb; have BK246 := y0.mk (hbox); have GW246 := y0.mk (qg (w := w) hg); have GE246 := y0.mk (qg (w := w) hg); replace HB := y0.mk (y5 qb hb); have NB245_246 := y0.mk (qn BK245.out hg); have NB246_245 := y0.mk (qm BK245.out hg); replace BK245 := y0.mk (qK BK245.out hb); clear hb hbox hg; have hnb6 := NB245_246.out; have hnc6 := NB246_245.out; obtain ⟨hcz7_0,hfz7_0⟩ := qz1 BK245.out; obtain ⟨hcz8_0,hfz8_0⟩ := qz1 BK246.out)))
  go_loopg [5] k (fun kq v5 w' => ∃ (x5_1 : Int),v5 = .int .i64 x5_1 ∧ y0 (spec_l02Same.l0 kq x5_1 l0_0 l1_0 = some r) ∧ y0 (kq ≤ k) ∧ y0 (w'.heap[gb245]? = some (.cells #[(.slice A0_0 l0_0.length c0_0)] 48 (0,0))) ∧ y0 (w'.heap[gb246]? = some (.cells #[(.slice A1_0 l1_0.length c1_0)] 48 (0,0))) ∧ y0 (Below w.heap.size w w'))
  case atStart => exact ⟨(0),qy2,H',⟨Nat.le_refl _⟩,⟨qk BK245.out⟩,⟨qk BK246.out⟩,⟨qb⟩⟩
  case round =>
   clear H'
   (try clear c3b0 c3b1 c3b2 hcz7_0 hcz8_0 hfz7_0 hfz8_0)
   obtain ⟨x5_1,rfl,HA,HK1,BK245,BK246,HB⟩ := hrel
   cases gk with
   | zero => exact absurd HA.out (by simp [spec_l02Same.l0])
   | succ k1 =>
    have H := HA.out
    clear HA
    simp only [spec_l02Same.l0] at H
    by_cases c9 : x5_1 < (l0_0.length : Int)
    ·rw [if_pos c9] at H
     have c9b0 := decide_eq_true c9
     clear c9
     obtain ⟨c10,H⟩ := qo H
     have c10b0 : decide (0 ≤ x5_1) = true := decide_eq_true c10
     clear c10
     obtain ⟨c11,H⟩ := qo H
     have c11b0 : decide (x5_1 < (l1_0.length : Int)) = true := decide_eq_true c11
     clear c11
     by_cases c12 : (rdOf ByteArray.empty l0_0 x5_1).toList = (rdOf ByteArray.empty l1_0 x5_1).toList
     ·rw [if_pos c12] at H
      have c12b0 : ((rdOf ByteArray.empty l0_0 x5_1).toList == (rdOf ByteArray.empty l1_0 x5_1).toList) = true := beq_iff_eq.mpr c12
      have c12b1 : ((rdOf ByteArray.empty l0_0 x5_1).toList != (rdOf ByteArray.empty l1_0 x5_1).toList) = false := bne_eq_false_iff_eq.mpr c12
      clear c12
      have H' := y0.mk H
      clear H
      have hnb13 := NB245_246.out
      have hnc13 := NB246_245.out
      obtain ⟨hcz14_0,hfz14_0⟩ := qz1 BK245.out
      have p247 : 0 ≤ (x5_1 : Int) := of_decide_eq_true qy1
      have q247 : x5_1 < (l0_0.length : Int) := of_decide_eq_true qy1
      obtain ⟨ad247,e247,hx247_0⟩ := Kd.at_string HR0_0.out x5_1 p247 q247
      cases e247
      replace hx247_0 := (HB.out.cell (World.block_lt_of_cell? w _ hx247_0)).trans hx247_0
      replace p247 := eq_true p247
      replace q247 := eq_true q247
      obtain ⟨hcz15_0,hfz15_0⟩ := qz1 BK246.out
      have p248 : 0 ≤ (x5_1 : Int) := of_decide_eq_true qy1
      have q248 : x5_1 < (l1_0.length : Int) := of_decide_eq_true qy1
      obtain ⟨ad248,e248,hx248_0⟩ := Kd.at_string HR1_0.out x5_1 p248 q248
      cases e248
      replace hx248_0 := (HB.out.cell (World.block_lt_of_cell? w _ hx248_0)).trans hx248_0
      replace p248 := eq_true p248
      replace q248 := eq_true q248
      go_wp2
      repeat (go_quiet (fail); try go_wp2)
      go_roundg k1
      case measure => have := HK1.out; omega
      exact ⟨(wrap64 (x5_1 + 1)),qy2,H',⟨by have := HK1.out; omega⟩,⟨qk BK245.out⟩,⟨qk BK246.out⟩,⟨qb⟩⟩
     ·rw [if_neg c12] at H
      have c12b0 : ((rdOf ByteArray.empty l0_0 x5_1).toList == (rdOf ByteArray.empty l1_0 x5_1).toList) = false := beq_eq_false_iff_ne.mpr c12
      have c12b1 : ((rdOf ByteArray.empty l0_0 x5_1).toList != (rdOf ByteArray.empty l1_0 x5_1).toList) = true := bne_iff_ne.mpr c12
      obtain rfl := Option.some.inj H
      have hnb16 := NB245_246.out
      have hnc16 := NB246_245.out
      obtain ⟨hcz17_0,hfz17_0⟩ := qz1 BK245.out
      have p247 : 0 ≤ (x5_1 : Int) := of_decide_eq_true qy1
      have q247 : x5_1 < (l0_0.length : Int) := of_decide_eq_true qy1
      obtain ⟨ad247,e247,hx247_0⟩ := Kd.at_string HR0_0.out x5_1 p247 q247
      cases e247
      replace hx247_0 := (HB.out.cell (World.block_lt_of_cell? w _ hx247_0)).trans hx247_0
      replace p247 := eq_true p247
      replace q247 := eq_true q247
      obtain ⟨hcz18_0,hfz18_0⟩ := qz1 BK246.out
      have p248 : 0 ≤ (x5_1 : Int) := of_decide_eq_true qy1
      have q248 : x5_1 < (l1_0.length : Int) := of_decide_eq_true qy1
      obtain ⟨ad248,e248,hx248_0⟩ := Kd.at_string HR1_0.out x5_1 p248 q248
      cases e248
      replace hx248_0 := (HB.out.cell (World.block_lt_of_cell? w _ hx248_0)).trans hx248_0
      replace p248 := eq_true p248
      replace q248 := eq_true q248
      go_wp2
      repeat (go_quiet (fail); try go_wp2)
      go_ret
      exact ⟨by first | rfl | (simp [y12,y13] <;> rfl) | (simp [*,y12,y13] <;> rfl),qb⟩
    ·rw [if_neg c9] at H
     have c9b0 := decide_eq_false c9
     clear c9
     obtain rfl := Option.some.inj H
     have hnb19 := NB245_246.out
     have hnc19 := NB246_245.out
     obtain ⟨hcz20_0,hfz20_0⟩ := qz1 BK245.out
     go_wp2
     repeat (go_quiet (fail); try go_wp2)
     go_ret
     exact ⟨by first | rfl | (simp [y12,y13] <;> rfl) | (simp [*,y12,y13] <;> rfl),qb⟩
 ·rw [if_neg c3] at H
  have c3b0 : ((l0_0.length : Int) == (l1_0.length : Int)) = false := beq_eq_false_iff_ne.mpr c3
  have c3b1 : ((l0_0.length : Int) != (l1_0.length : Int)) = true := bne_iff_ne.mpr c3
  have c3b2 : (l0_0.length == l1_0.length) = false := by first | simpa using c3 | (simp at c3 ⊢; omega)
  obtain rfl := Option.some.inj H
  go_enter Tryz.func34,Tryz.ntmps34
  go_wp2_with (first | ((with_reducible refine y15 (N := 2) rfl ?_); refine qe 2 #[.slice A0_0 l0_0.length c0_0] 48 ?_; intro gb245 hg w21 hbox hb; have BK245 := y0.mk (hbox); have GW245 := y0.mk (qg (w := w) hg); have GE245 := y0.mk (qg (w := w) hg); replace HB := y0.mk (y5 qb hb); clear hb hbox hg) | ((with_reducible refine y15 (N := 3) rfl ?_); refine qe 3 #[.slice A1_0 l1_0.length c1_0] 48 ?_; intro gb246 hg w22 hbox hb; have BK246 := y0.mk (hbox); have GW246 := y0.mk (qg (w := w) hg); have GE246 := y0.mk (qg (w := w) hg); replace HB := y0.mk (y5 qb hb); have NB245_246 := y0.mk (qn BK245.out hg); have NB246_245 := y0.mk (qm BK245.out hg); replace BK245 := y0.mk (qK BK245.out hb); clear hb hbox hg; have hnb23 := NB245_246.out; have hnc23 := NB246_245.out; obtain ⟨hcz24_0,hfz24_0⟩ := qz1 BK245.out; obtain ⟨hcz25_0,hfz25_0⟩ := qz1 BK246.out))
  repeat (go_quiet (first | ((with_reducible refine y15 (N := 2) rfl ?_); refine qe 2 #[.slice A0_0 l0_0.length c0_0] 48 ?_; intro gb245 hg w21 hbox hb; have BK245 := y0.mk (hbox); have GW245 := y0.mk (qg (w := w) hg); have GE245 := y0.mk (qg (w := w) hg); replace HB := y0.mk (y5 qb hb); clear hb hbox hg) | ((with_reducible refine y15 (N := 3) rfl ?_); refine qe 3 #[.slice A1_0 l1_0.length c1_0] 48 ?_; intro gb246 hg w22 hbox hb; have BK246 := y0.mk (hbox); have GW246 := y0.mk (qg (w := w) hg); have GE246 := y0.mk (qg (w := w) hg); replace HB := y0.mk (y5 qb hb); have NB245_246 := y0.mk (qn BK245.out hg); have NB246_245 := y0.mk (qm BK245.out hg); replace BK245 := y0.mk (qK BK245.out hb); clear hb hbox hg; have hnb23 := NB245_246.out; have hnc23 := NB246_245.out; obtain ⟨hcz24_0,hfz24_0⟩ := qz1 BK245.out; obtain ⟨hcz25_0,hfz25_0⟩ := qz1 BK246.out)); try go_wp2_with (first | ((with_reducible refine y15 (N := 2) rfl ?_); refine qe 2 #[.slice A0_0 l0_0.length c0_0] 48 ?_; intro gb245 hg w21 hbox hb; have BK245 := y0.mk (hbox); have GW245 := y0.mk (qg (w := w) hg); have GE245 := y0.mk (qg (w := w) hg); replace HB := y0.mk (y5 qb hb); clear hb hbox hg) | ((with_reducible refine y15 (N := 3) rfl ?_); refine qe 3 #[.slice A1_0 l1_0.length c1_0] 48 ?_; intro gb246 hg w22 hbox hb; have BK246 := y0.mk (hbox); have GW246 := y0.mk (qg (w := w) hg); have GE246 := y0.mk (qg (w := w) hg); replace HB := y0.mk (y5 qb hb); have NB245_246 := y0.mk (qn BK245.out hg); have NB246_245 := y0.mk (qm BK245.out hg); replace BK245 := y0.mk (qK BK245.out hb); clear hb hbox hg; have hnb23 := NB245_246.out; have hnc23 := NB246_245.out; obtain ⟨hcz24_0,hfz24_0⟩ := qz1 BK245.out; obtain ⟨hcz25_0,hfz25_0⟩ := qz1 BK246.out)))
  go_ret
  exact ⟨by first | rfl | (simp [y12,y13] <;> rfl) | (simp [*,y12,y13] <;> rfl),qb⟩
def spec_l02Tuple.f (l0_0 : List ByteArray) : Option (List ByteArray) := (some (([] : List ByteArray) : List ByteArray)).bind fun y251 => (if y251.length + l0_0.length < 8796093022208 then (some (y251 ++ l0_0)) else (none))
set_option maxHeartbeats 8000000 in
set_option maxRecDepth 100000 in
theorem spec_l02Tuple.calls (A0_0 : Option Addr) (c0_0 : Nat) (l0_0 : List ByteArray) (r : List ByteArray) (w : World) (hr0_0 : Kd.C Kd.string w A0_0 l0_0.length l0_0) (hc0_0 : l0_0.length ≤ c0_0) (h : spec_l02Tuple.f l0_0 = some r) :
  Calls Tryz.prog 35 #[.agg #[.slice A0_0 l0_0.length c0_0]] w fun e w' => ∃ v0_ : Value,e = .returned (.agg #[v0_]) ∧ Kd.R Kd.string 9 w' w.heap.size (fun _ => True) v0_ r ∧ Below w.heap.size w w' := by
 have hu48 := Tryz.underlying48
 have HR0_0 := y0.mk hr0_0
 have HC0_0 := y0.mk hc0_0
 clear hr0_0 hc0_0
 have HB := y0.mk (Below.refl w.heap.size w)
 have H : ((some (([] : List ByteArray) : List ByteArray)).bind fun y251 => (if y251.length + l0_0.length < 8796093022208 then (some (y251 ++ l0_0)) else (none))) = some r := h
 clear h
 obtain ⟨y251,hy251⟩ : ∃ y_ : List ByteArray,y_ = (([] : List ByteArray)) := ⟨_,rfl⟩
 replace H : (if y251.length + l0_0.length < 8796093022208 then (some (y251 ++ l0_0)) else (none)) = some r := by first | (rw [hy251]; with_reducible exact H) | (have H2_ := (Option.bind_some _ _).symm.trans H; rw [hy251]; with_reducible exact H2_) | (have H2_ := (Option.bind_some _ _).symm.trans H; with_reducible exact H2_) | with_reducible exact H | (rw [hy251]; exact H) | exact H
 have Ny251 := y0.mk hy251
 clear hy251
 obtain ⟨c2,H⟩ := qo H
 have LMc2 := y0.mk c2
 clear c2
 obtain ⟨y254,hy254⟩ : ∃ y_ : List ByteArray,y_ = (y251 ++ l0_0) := ⟨_,rfl⟩
 replace H : (some y254) = some r := by first | (rw [hy254]; with_reducible exact H) | (have H2_ := (Option.bind_some _ _).symm.trans H; rw [hy254]; with_reducible exact H2_) | (have H2_ := (Option.bind_some _ _).symm.trans H; with_reducible exact H2_) | with_reducible exact H | (rw [hy254]; exact H) | exact H
 have Ny254 := y0.mk hy254
 clear hy254
 obtain rfl := Option.some.inj H
 go_enter Tryz.func35,Tryz.ntmps35
 go_wp2_with (first | ((with_reducible refine y15 (N := 1) rfl ?_); refine qe 1 #[.slice A0_0 l0_0.length c0_0] 48 ?_; intro gb249 hg w3 hbox hb; have BK249 := y0.mk (hbox); have GW249 := y0.mk (qg (w := w) hg); have GE249 := y0.mk (qg (w := w) hg); replace HB := y0.mk (y5 qb hb); clear hb hbox hg) | ((with_reducible refine y15 (N := 2) rfl ?_); refine qe 2 #[.slice none 0 0] 48 ?_; intro gb250 hg w4 hbox hb; have BK250 := y0.mk (hbox); have GW250 := y0.mk (qg (w := w) hg); have GE250 := y0.mk (qg (w := w) hg); replace HB := y0.mk (y5 qb hb); have NB249_250 := y0.mk (qn BK249.out hg); have NB250_249 := y0.mk (qm BK249.out hg); replace BK249 := y0.mk (qK BK249.out hb); clear hb hbox hg) | ((with_reducible refine y15 (N := 3) rfl ?_); refine Kd.R_lit Kd.string _ 9 ?hg (N := 3) ?hd (xs := ([] : List ByteArray)) (inner := []) (ok := fun _ => True) (okp := fun _ => True) ?hr ?hp (fun _ hk => hk) trivial (Below.refl _ _) (Nat.le_refl _) (by simp) ?_; (case hd => rfl); (case hg => rfl); (case hr => first | (go_simp; done) | (go_simp; rfl)); (case hp => exact (Reps.none _ _)); intro v252 w5 ho6 hb hg_ hnew_; clear hg_ hnew_; (first | rw [← Ny251.out] at ho6 | (simp only [Int.reduceToNat] at ho6; rw [← Ny251.out] at ho6)); have HO253 := y0.mk (Kd.R_lower ho6 (y4 qb)); replace BK249 := y0.mk (qK BK249.out hb); replace BK250 := y0.mk (qK BK250.out hb); replace HB := y0.mk (y5 qb hb); clear hb ho6; have hnb7 := NB249_250.out; have hnc7 := NB250_249.out; obtain ⟨hcz8_0,hfz8_0⟩ := qz1 BK249.out) | ((with_reducible refine gate_builtin (b := .append) (xs := #[.tmp 3,.tmp 5]) rfl ?_); at_builtin; refine Kd.R_append_rows Kd.string (w0 := w) w.heap.size rfl (.tmp 3) (.tmp 5) 25 9 (.string ⟨#[]⟩) 16 rfl Tryz.underlying25 info9 rfl (by decide) (by omega) v252 y251 l0_0 _ _ _ (fun _ => True) (fun _ => False) rfl rfl ?aO ?aR (fun _ _ h => h) (fun _ h => h.elim) ?aF ?aB ?aS ?aL ?_; (case aR => repeat (first | exact (Kd.C_below HR0_0.out HB.out) | (with_reducible refine Kd.C_alloc ?_ _) | (with_reducible refine Kd.C_drewN ?_ _) | (with_reducible refine Kd.C_drew ?_))); (case aB => exact qb); (case aF => exact (fun _ _ => trivial)); (case aO => exact (qR HO253.out)); (case aS => exact (y4 qb)); (case aL => have := LMc2.out; omega); intro v255 w9 ho hb hg hat; rw [← Ny254.out] at ho; replace BK249 := y0.mk (blk_grown (qk BK249.out) hg (Kd.R_ne HO253.out BK249.out (by decide))); replace BK250 := y0.mk (blk_grown (qk BK250.out) hg (Kd.R_ne HO253.out BK250.out (by decide))); replace HB := y0.mk (hb); have HO256 := y0.mk (ho); clear HO253; clear ho hb hg hat; obtain ⟨Ao10,co10,eo10⟩ := Kd.R_slice HO256.out; subst eo10; obtain ⟨hcz11_0,hfz11_0⟩ := qz1 BK250.out))
 refine bodyPost_ret (results_cell_row rfl _ _ gb250 48 #[.slice Ao10 y254.length co10] (0,0) _ rfl (by (with_reducible repeat (first | refine y10 ?_ _ | refine y9 ?_ | refine y6 ?_ _)); refine blk_put (cs := #[.slice none 0 0]) ?_ 0 _ rfl; (with_reducible repeat (first | refine y10 ?_ _ | refine y9 ?_ | refine y6 ?_ _)); exact BK250.out) Tryz.underlying48 rfl (by kernel_rfl)) rfl ?_
 exact ⟨_,by first | rfl | (simp [y12,y13] <;> rfl) | (simp [*,y12,y13] <;> rfl),by (with_reducible repeat (first | apply Kd.R_alloc | apply Kd.R_drewN | apply Kd.R_drew)); exact Kd.R_mono (Kd.R_far (p := ⟨gb250,0,none⟩) (Kd.R_types HO256.out BK250.out (by decide)) (fun _ hk => hk.2) (.slice Ao10 y254.length co10)) (fun _ hk => trivial),qb⟩
mutual
def spec_RelSeek.j0 : Nat → List ByteArray → List (S48) → Bool → Int → List (S48) → Option ((List (S48)))
 | 0,_,_,_,_,_ => none
 | k + 1,x1,x5,x17,x258000,x258001 => if x17 = true then (some x5) else (spec_RelSeek.l0 k x1 x5 0 x258000 x258001)
def spec_RelSeek.l0 : Nat → List ByteArray → List (S48) → Int → Int → List (S48) → Option ((List (S48)))
 | 0,_,_,_,_,_ => none
 | k + 1,x1,x5,x6,x258000,x258001 => if x6 < (x258001.length : Int) then (if 0 ≤ x6 then (if 0 ≤ (x1.length : Int) then (if (x1.length : Int) ≤ (((y19 x258001 x6).f0).length : Int) then ((spec_l02Same.f k (((y19 x258001 x6).f0).take ((x1.length : Int) : Int).toNat) x1).bind fun t264 => (if t264 = true then ((spec_l02Tuple.f ((y19 x258001 x6).f0)).bind fun t266 => (if x5.length < 5864062014805 then (spec_RelSeek.l0 k x1 (x5 ++ [(⟨t266⟩ : S48)]) (wrap64 (x6 + 1)) x258000 x258001) else (none))) else (spec_RelSeek.l0 k x1 x5 (wrap64 (x6 + 1)) x258000 x258001))) else (none)) else (none)) else (none)) else (some x5)
end
def spec_RelSeek.f (k : Nat) (a0_0 : Int) (l0_1 : List (S48)) (l1 : List ByteArray) : Option ((List (S48))) := (some (([] : List (S48)) : List (S48))).bind fun y258 => ((spec_RelOk.f k a0_0 l0_1).bind fun t261 => (if t261 = true then (spec_RelSeek.j0 k l1 y258 (decide ((l1.length : Int) > a0_0)) a0_0 l0_1) else (spec_RelSeek.j0 k l1 y258 true a0_0 l0_1)))
set_option maxHeartbeats 8000000 in
set_option maxRecDepth 100000 in
theorem spec_RelSeek.calls (k : Nat) (a0_0 : Int) (A0_1 : Option Addr) (c0_1 : Nat) (l0_1 : List (S48)) (A1 : Option Addr) (c1 : Nat) (l1 : List ByteArray) (r : List (S48)) (w : World) (hr0_1 : Kd.C k48 w A0_1 l0_1.length l0_1) (hc0_1 : l0_1.length ≤ c0_1) (hr1 : Kd.C Kd.string w A1 l1.length l1) (hc1 : l1.length ≤ c1) (h : spec_RelSeek.f k a0_0 l0_1 l1 = some r) :
  Calls Tryz.prog 9 #[.agg #[.int .i64 a0_0,.slice A0_1 l0_1.length c0_1],.slice A1 l1.length c1] w fun e w' => ∃ v0_ : Value,e = .returned (v0_) ∧ Kd.S k48 48 w' w.heap.size (fun _ => True) v0_ r ∧ Below w.heap.size w w' := by
 have hu31 := Tryz.underlying31
 have hu48 := Tryz.underlying48
 have HR0_1 := y0.mk hr0_1
 have HC0_1 := y0.mk hc0_1
 clear hr0_1 hc0_1
 have HR1 := y0.mk hr1
 have HC1 := y0.mk hc1
 clear hr1 hc1
 have HB := y0.mk (Below.refl w.heap.size w)
 have H : ((some (([] : List (S48)) : List (S48))).bind fun y258 => ((spec_RelOk.f k a0_0 l0_1).bind fun t261 => (if t261 = true then (spec_RelSeek.j0 k l1 y258 (decide ((l1.length : Int) > a0_0)) a0_0 l0_1) else (spec_RelSeek.j0 k l1 y258 true a0_0 l0_1)))) = some r := h
 clear h
 obtain ⟨y258,hy258⟩ : ∃ y_ : List (S48),y_ = (([] : List (S48))) := ⟨_,rfl⟩
 replace H : ((spec_RelOk.f k a0_0 l0_1).bind fun t261 => (if t261 = true then (spec_RelSeek.j0 k l1 y258 (decide ((l1.length : Int) > a0_0)) a0_0 l0_1) else (spec_RelSeek.j0 k l1 y258 true a0_0 l0_1))) = some r := by first | (rw [hy258]; with_reducible exact H) | (have H2_ := (Option.bind_some _ _).symm.trans H; rw [hy258]; with_reducible exact H2_) | (have H2_ := (Option.bind_some _ _).symm.trans H; with_reducible exact H2_) | with_reducible exact H | (rw [hy258]; exact H) | exact H
 have Ny258 := y0.mk hy258
 clear hy258
 have HC3 := y0.mk H
 clear H
 go_enter Tryz.func9,Tryz.ntmps9
 go_upto_region 2 with (first | ((with_reducible refine y15 (N := 2) rfl ?_); (try (refine gate_guard (by rfl) ?_; dsimp only)); refine qe 2 #[.int .i64 a0_0,.slice A0_1 l0_1.length c0_1] 31 ?_; intro gb257 hg w4 hbox hb; have BK257 := y0.mk (hbox); have GW257 := y0.mk (qg (w := w) hg); have GE257 := y0.mk (qg (w := w) hg); replace HB := y0.mk (y5 qb hb); clear hb hbox hg) | ((with_reducible refine y15 (N := 7) rfl ?_); (try (refine gate_guard (by rfl) ?_; dsimp only)); refine Kd.S_lit k48 _ 48 ?hg (N := 7) ?hd (xs := ([] : List (S48))) (inner := []) (ok := fun _ => True) (okp := fun _ => True) ?hr ?hp (fun _ hk => hk) trivial (Below.refl _ _) (Nat.le_refl _) (by simp) ?_; (case hd => rfl); (case hg => rfl); (case hr => first | (go_simp; done) | (go_simp; rfl)); (case hp => exact (Reps.none _ _)); intro v259 w5 ho6 hb hg_ hnew_; clear hg_ hnew_; (first | rw [← Ny258.out] at ho6 | (simp only [Int.reduceToNat] at ho6; rw [← Ny258.out] at ho6)); have HO260 := y0.mk (Kd.S_lower ho6 (y4 qb)); replace BK257 := y0.mk (qK BK257.out hb); replace HB := y0.mk (y5 qb hb); clear hb ho6))
 (try simp only [Act.put,qS_,qZ_,qC_])
 go_cut [17] (fun v17 wc => ∃ (kq : Nat) (x17_2 : Bool),v17 = .bool x17_2 ∧ y0 (spec_RelSeek.j0 kq l1 y258 x17_2 a0_0 l0_1 = some r) ∧ y0 (kq ≤ k) ∧ y0 (Kd.S k48 48 wc w.heap.size (fun _ => True) v259 y258) ∧ y0 (wc.heap[gb257]? = some (.cells #[.int .i64 a0_0,(.slice A0_1 l0_1.length c0_1)] 31 (0,0))) ∧ y0 (Below w.heap.size w wc))
 case first =>
  have H := HC3.out
  clear HC3
  obtain ⟨t261,A7,H⟩ := qB H
  by_cases c8 : t261 = true
  ·subst c8
   replace H := qT H
   have H' := y0.mk H
   clear H
   obtain ⟨hcz9_0,hcz9_1,hfz9_0,hfz9_1⟩ := qz2 BK257.out
   go_wp2_with (first | ((with_reducible refine y14 (f := 25) rfl ?_); refine y16 (some 9) rfl rfl Tryz.func25 (by kernel_rfl) rfl #[.agg #[.int .i64 a0_0,.slice A0_1 l0_1.length c0_1]] rfl qy0 ?_; (with_reducible refine (spec_RelOk.calls k a0_0 _ _ l0_1 true _ (qc (Kd.C_below HR0_1.out HB.out)) HC0_1.out A7.out).mono ?_); rintro e w10 ⟨rfl,hb⟩; refine ⟨_,rfl, ?_⟩; replace HO260 := y0.mk (Kd.S_below (qS HO260.out) hb); replace BK257 := y0.mk (qK BK257.out hb); replace HB := y0.mk (y5 qb hb); (try clear hb); (try clear hb2); (try clear hk); (try clear hi); obtain ⟨hcz11_0,hcz11_1,hfz11_0,hfz11_1⟩ := qz2 BK257.out))
   go_meet
   exact ⟨_,(decide ((l1.length : Int) > a0_0)),qy2,H',⟨by first | omega | exact Nat.le_refl _⟩,⟨qS HO260.out⟩,⟨qk BK257.out⟩,⟨qb⟩⟩
  ·replace c8 := Bool.eq_false_iff.mpr c8
   subst c8
   replace H := qF H
   have H' := y0.mk H
   clear H
   obtain ⟨hcz12_0,hcz12_1,hfz12_0,hfz12_1⟩ := qz2 BK257.out
   go_wp2_with (first | ((with_reducible refine y14 (f := 25) rfl ?_); refine y16 (some 9) rfl rfl Tryz.func25 (by kernel_rfl) rfl #[.agg #[.int .i64 a0_0,.slice A0_1 l0_1.length c0_1]] rfl qy0 ?_; (with_reducible refine (spec_RelOk.calls k a0_0 _ _ l0_1 false _ (qc (Kd.C_below HR0_1.out HB.out)) HC0_1.out A7.out).mono ?_); rintro e w13 ⟨rfl,hb⟩; refine ⟨_,rfl, ?_⟩; replace HO260 := y0.mk (Kd.S_below (qS HO260.out) hb); replace BK257 := y0.mk (qK BK257.out hb); replace HB := y0.mk (y5 qb hb); (try clear hb); (try clear hb2); (try clear hk); (try clear hi)))
   go_meet
   exact ⟨_,(true),qy2,H',⟨by first | omega | exact Nat.le_refl _⟩,⟨qS HO260.out⟩,⟨qk BK257.out⟩,⟨qb⟩⟩
 case rest =>
  clear HC3
  obtain ⟨kq,x17_2,rfl,HA,HJ2,HO_5,BK257,HB⟩ := hcut
  cases kq with
  | zero => exact absurd HA.out (by simp [spec_RelSeek.j0])
  | succ kj2 =>
   have H := HA.out
   clear HA
   simp only [spec_RelSeek.j0] at H
   by_cases c14 : x17_2 = true
   ·subst c14
    replace H := qT H
    obtain rfl := Option.some.inj H
    go_wp2
    go_ret
    exact ⟨_,by first | rfl | (simp [y12,y13] <;> rfl) | (simp [*,y12,y13] <;> rfl),by (with_reducible repeat (first | apply Kd.S_alloc | apply Kd.S_drewN | apply Kd.S_drew)); exact HO_5.out,qb⟩
   ·replace c14 := Bool.eq_false_iff.mpr c14
    subst c14
    replace H := qF H
    have H' := y0.mk H
    clear H
    go_wp2
    go_loopg [5,6] kj2 (fun kq v5 v6 w' => ∃ (x5_2 : List (S48)) (x6_2 : Int),v6 = .int .i64 x6_2 ∧ y0 (spec_RelSeek.l0 kq l1 x5_2 x6_2 a0_0 l0_1 = some r) ∧ y0 (kq ≤ kj2) ∧ y0 (Kd.S k48 48 w' w.heap.size (fun _ => True) v5 x5_2) ∧ y0 (w'.heap[gb257]? = some (.cells #[.int .i64 a0_0,(.slice A0_1 l0_1.length c0_1)] 31 (0,0))) ∧ y0 (Below w.heap.size w w'))
    case atStart => exact ⟨(y258),(0),qy2,H',⟨Nat.le_refl _⟩,⟨qS HO_5.out⟩,⟨qk BK257.out⟩,⟨qb⟩⟩
    case round =>
     clear H'
     (try clear c14)
     obtain ⟨x5_2,x6_2,rfl,HA,HK2,HO_5,BK257,HB⟩ := hrel
     cases gk with
     | zero => exact absurd HA.out (by simp [spec_RelSeek.l0])
     | succ k2 =>
      have H := HA.out
      clear HA
      simp only [spec_RelSeek.l0] at H
      by_cases c15 : x6_2 < (l0_1.length : Int)
      ·rw [if_pos c15] at H
       have c15b0 := decide_eq_true c15
       clear c15
       obtain ⟨c16,H⟩ := qo H
       have c16b0 : decide (0 ≤ x6_2) = true := decide_eq_true c16
       clear c16
       obtain ⟨c17,H⟩ := qo H
       have c17b0 := eq_true c17
       have c17b1 := decide_eq_true c17
       clear c17
       obtain ⟨c18,H⟩ := qo H
       have c18b0 := eq_true c18
       have c18b1 := decide_eq_true c18
       clear c18
       obtain ⟨t264,A19,H⟩ := qB H
       by_cases c20 : t264 = true
       ·subst c20
        replace H := qT H
        obtain ⟨t266,A21,H⟩ := qB H
        obtain ⟨c22,H⟩ := qo H
        have LMc22 := y0.mk c22
        clear c22
        obtain ⟨y269,hy269⟩ : ∃ y_ : List (S48),y_ = (x5_2 ++ [(⟨t266⟩ : S48)]) := ⟨_,rfl⟩
        replace H : (spec_RelSeek.l0 k2 l1 y269 (wrap64 (x6_2 + 1)) a0_0 l0_1) = some r := by first | (rw [hy269]; with_reducible exact H) | (have H2_ := (Option.bind_some _ _).symm.trans H; rw [hy269]; with_reducible exact H2_) | (have H2_ := (Option.bind_some _ _).symm.trans H; with_reducible exact H2_) | with_reducible exact H | (rw [hy269]; exact H) | exact H
        have Ny269 := y0.mk hy269
        clear hy269
        have H' := y0.mk H
        clear H
        obtain ⟨hcz23_0,hcz23_1,hfz23_0,hfz23_1⟩ := qz2 BK257.out
        have p262 : 0 ≤ (x6_2 : Int) := of_decide_eq_true qy1
        have q262 : x6_2 < (l0_1.length : Int) := of_decide_eq_true qy1
        obtain ⟨ad262,A262_0,c262_0,e262,hx262_0,hl262_0,hi262_0⟩ := at_T48 HR0_1.out x6_2 p262 q262
        cases e262
        replace hx262_0 := (HB.out.cell (World.block_lt_of_cell? w _ hx262_0)).trans hx262_0
        have HR262_0 := y0.mk hi262_0
        have HC262_0 := y0.mk hl262_0
        clear hi262_0 hl262_0
        replace p262 := eq_true p262
        replace q262 := eq_true q262
        obtain ⟨i024,hi024,_,hsz24,_⟩ := info_parts info9
        obtain ⟨hcut24,hA24,hC24⟩ := print_take_of (P := Tryz.prog) Value.string (⟨#[]⟩ : ByteArray) 25 9 .i64 Tryz.underlying25 hi024 hsz24 A262_0 c262_0 ((y19 l0_1 x6_2).f0) (l1.length : Int) (of_decide_eq_true qy1) (of_decide_eq_true qy1) HC262_0.out
        have HR263 := y0.mk (show Kd.C Kd.string _ _ _ _ from Kd.C_of_reads (h1 := fun _ => rfl) (hA24 _ (Kd.reads_of_C HR262_0.out)))
        have HC263 := y0.mk hC24
        clear hA24 hC24 hi024 hsz24
        go_wp2_with (first | ((with_reducible refine y14 (f := 34) rfl ?_); refine y16 (some 38) rfl rfl Tryz.func34 (by kernel_rfl) rfl #[.agg #[.slice A262_0 (((y19 l0_1 x6_2).f0).take ((l1.length : Int) : Int).toNat).length c262_0],.agg #[.slice A1 l1.length c1]] rfl (by (try simp only [qM_,List.map_cons,List.map_nil]); first | done | (rw [show (((y19 l0_1 x6_2).f0).take ((l1.length : Int) : Int).toNat).length = (l1.length : Int).toNat from (by rw [qT_]; have h_ : ((l1.length : Int) : Int) ≤ (((y19 l0_1 x6_2).f0).length : Int) := of_decide_eq_true qy1; omega)] <;> rfl) | rfl | (simp only [qD_,qT_]; rfl)) ?_; (with_reducible refine (spec_l02Same.calls k2 _ _ (((y19 l0_1 x6_2).f0).take ((l1.length : Int) : Int).toNat) _ _ l1 true _ (qc (Kd.C_below HR263.out HB.out)) HC263.out (qc (Kd.C_below HR1.out HB.out)) HC1.out A19.out).mono ?_); rintro e w25 ⟨rfl,hb⟩; refine ⟨_,rfl, ?_⟩; replace HO_5 := y0.mk (Kd.S_below (qS HO_5.out) hb); replace BK257 := y0.mk (qK BK257.out hb); replace HB := y0.mk (y5 qb hb); (try clear hb); (try clear hb2); (try clear hk); (try clear hi); obtain ⟨hcz26_0,hcz26_1,hfz26_0,hfz26_1⟩ := qz2 BK257.out; have p265 : 0 ≤ (x6_2 : Int) := of_decide_eq_true qy1; have q265 : x6_2 < (l0_1.length : Int) := of_decide_eq_true qy1; obtain ⟨ad265,A265_0,c265_0,e265,hx265_0,hl265_0,hi265_0⟩ := at_T48 HR0_1.out x6_2 p265 q265; obtain rfl : ad262 = ad265 := (by injection e265); replace hx265_0 := (HB.out.cell (World.block_lt_of_cell? w _ hx265_0)).trans hx265_0; have HR265_0 := y0.mk hi265_0; have HC265_0 := y0.mk hl265_0; clear hi265_0 hl265_0; replace p265 := eq_true p265; replace q265 := eq_true q265) | ((with_reducible refine y14 (f := 35) rfl ?_); refine y16 (some 45) rfl rfl Tryz.func35 (by kernel_rfl) rfl #[.agg #[.slice A265_0 ((y19 l0_1 x6_2).f0).length c265_0]] rfl qy0 ?_; (with_reducible refine (spec_l02Tuple.calls _ _ ((y19 l0_1 x6_2).f0) t266 _ (qc (Kd.C_below HR265_0.out HB.out)) HC265_0.out A21.out).mono ?_); rintro e w27 ⟨v267,rfl,ho0,hb⟩; refine ⟨_,rfl, ?_⟩; replace HO_5 := y0.mk (Kd.S_elder' (qS HO_5.out) (Kd.R_base ho0) hb); have HO268 := y0.mk (Kd.R_lower ho0 (y4 qb)); replace BK257 := y0.mk (qK BK257.out hb); replace HB := y0.mk (y5 qb hb); (try clear hb); (try clear hb2); (try clear hk); (try clear hi); (try clear ho0); obtain ⟨Ao29,co29,eo29⟩ := Kd.R_slice HO268.out; subst eo29) | ((with_reducible refine gate_builtin (b := .append) (xs := #[.tmp 39,.tmp 46]) rfl ?_); (try (refine gate_guard (by rfl) ?_; dsimp only)); at_builtin; refine Kd.S_append k48 (w0 := w) w.heap.size rfl (.tmp 39) (.tmp 46) 28 48 (.agg #[(.slice none 0 0)]) 24 rfl Tryz.underlying28 info48 rfl (by decide) (by omega) u5 x5_2 (⟨t266⟩ : S48) [.slice Ao29 t266.length co29] (fun _ => True) (fun k_ => some k_ = (.slice Ao29 t266.length co29 : Value).ownBlock) rfl rfl ?aP (fun k_ hk_ => ((Kd.R_mono (ok' := fun k_ => ((fun _ => True)) k_ ∧ some k_ ≠ (u5 : Value).ownBlock) (Kd.R_apart' (HO268.out) (Kd.S_typed HO_5.out) (by decide)) (fun k_ hk => ⟨trivial,hk.2⟩))).1 k_ hk_.symm) ?aF ?aO ?aB ?aS ?aL ?_; (case aP => exact k48_mkM _ _ _ (⟨t266⟩ : S48) (Kd.R_mono (Kd.R_tight rfl (Kd.R_mono (ok' := fun k_ => ((fun _ => True)) k_ ∧ some k_ ≠ (u5 : Value).ownBlock) (Kd.R_apart' (HO268.out) (Kd.S_typed HO_5.out) (by decide)) (fun k_ hk => ⟨trivial,hk.2⟩))) (fun _ h_ => h_))); (case aB => exact qb); (case aF => exact (fun _ _ => trivial)); (case aO => exact (qS (Kd.S_mono HO_5.out (fun k_ hk => ⟨trivial,fun e_ => hk.2 e_⟩)))); (case aS => exact (y4 qb)); (case aL => have := LMc22.out; omega); intro v270 w28 ho hb hg hat; rw [← Ny269.out] at ho; replace BK257 := y0.mk (blk_grown (qk BK257.out) hg (Kd.S_ne HO_5.out BK257.out (by decide))); replace HB := y0.mk (hb); have HO271 := y0.mk (ho); clear HO_5 HO268; clear ho hb hg hat))
        go_roundg k2
        case measure => have := HJ2.out; have := HK2.out; omega
        exact ⟨(y269),(wrap64 (x6_2 + 1)),qy2,H',⟨by have := HJ2.out; have := HK2.out; omega⟩,⟨qS HO271.out⟩,⟨qk BK257.out⟩,⟨qb⟩⟩
       ·replace c20 := Bool.eq_false_iff.mpr c20
        subst c20
        replace H := qF H
        have H' := y0.mk H
        clear H
        obtain ⟨hcz30_0,hcz30_1,hfz30_0,hfz30_1⟩ := qz2 BK257.out
        have p262 : 0 ≤ (x6_2 : Int) := of_decide_eq_true qy1
        have q262 : x6_2 < (l0_1.length : Int) := of_decide_eq_true qy1
        obtain ⟨ad262,A262_0,c262_0,e262,hx262_0,hl262_0,hi262_0⟩ := at_T48 HR0_1.out x6_2 p262 q262
        cases e262
        replace hx262_0 := (HB.out.cell (World.block_lt_of_cell? w _ hx262_0)).trans hx262_0
        have HR262_0 := y0.mk hi262_0
        have HC262_0 := y0.mk hl262_0
        clear hi262_0 hl262_0
        replace p262 := eq_true p262
        replace q262 := eq_true q262
        obtain ⟨i031,hi031,_,hsz31,_⟩ := info_parts info9
        obtain ⟨hcut31,hA31,hC31⟩ := print_take_of (P := Tryz.prog) Value.string (⟨#[]⟩ : ByteArray) 25 9 .i64 Tryz.underlying25 hi031 hsz31 A262_0 c262_0 ((y19 l0_1 x6_2).f0) (l1.length : Int) (of_decide_eq_true qy1) (of_decide_eq_true qy1) HC262_0.out
        have HR263 := y0.mk (show Kd.C Kd.string _ _ _ _ from Kd.C_of_reads (h1 := fun _ => rfl) (hA31 _ (Kd.reads_of_C HR262_0.out)))
        have HC263 := y0.mk hC31
        clear hA31 hC31 hi031 hsz31
        go_wp2_with (first | ((with_reducible refine y14 (f := 34) rfl ?_); refine y16 (some 38) rfl rfl Tryz.func34 (by kernel_rfl) rfl #[.agg #[.slice A262_0 (((y19 l0_1 x6_2).f0).take ((l1.length : Int) : Int).toNat).length c262_0],.agg #[.slice A1 l1.length c1]] rfl (by (try simp only [qM_,List.map_cons,List.map_nil]); first | done | (rw [show (((y19 l0_1 x6_2).f0).take ((l1.length : Int) : Int).toNat).length = (l1.length : Int).toNat from (by rw [qT_]; have h_ : ((l1.length : Int) : Int) ≤ (((y19 l0_1 x6_2).f0).length : Int) := of_decide_eq_true qy1; omega)] <;> rfl) | rfl | (simp only [qD_,qT_]; rfl)) ?_; (with_reducible refine (spec_l02Same.calls k2 _ _ (((y19 l0_1 x6_2).f0).take ((l1.length : Int) : Int).toNat) _ _ l1 false _ (qc (Kd.C_below HR263.out HB.out)) HC263.out (qc (Kd.C_below HR1.out HB.out)) HC1.out A19.out).mono ?_); rintro e w32 ⟨rfl,hb⟩; refine ⟨_,rfl, ?_⟩; replace HO_5 := y0.mk (Kd.S_below (qS HO_5.out) hb); replace BK257 := y0.mk (qK BK257.out hb); replace HB := y0.mk (y5 qb hb); (try clear hb); (try clear hb2); (try clear hk); (try clear hi)))
        go_roundg k2
        case measure => have := HJ2.out; have := HK2.out; omega
        exact ⟨(x5_2),(wrap64 (x6_2 + 1)),qy2,H',⟨by have := HJ2.out; have := HK2.out; omega⟩,⟨qS HO_5.out⟩,⟨qk BK257.out⟩,⟨qb⟩⟩
      ·rw [if_neg c15] at H
       have c15b0 := decide_eq_false c15
       clear c15
       obtain rfl := Option.some.inj H
       obtain ⟨hcz33_0,hcz33_1,hfz33_0,hfz33_1⟩ := qz2 BK257.out
       go_wp2
       go_ret
       exact ⟨_,by first | rfl | (simp [y12,y13] <;> rfl) | (simp [*,y12,y13] <;> rfl),by (with_reducible repeat (first | apply Kd.S_alloc | apply Kd.S_drewN | apply Kd.S_drew)); exact HO_5.out,qb⟩
def impl_in.f (a0 : Int) (a1 : Int) (a2 : Int) : Option (Bool) := if a0 ≥ a1 then (some (decide (a0 ≤ a2))) else (some false)
set_option maxHeartbeats 8000000 in
set_option maxRecDepth 100000 in
theorem impl_in.calls (a0 : Int) (a1 : Int) (a2 : Int) (r : Bool) (w : World) (h : impl_in.f a0 a1 a2 = some r) :
  Calls Tryz.prog 58 #[.int .i64 a0,.int .i64 a1,.int .i64 a2] w fun e w' => e = .returned (.bool r) ∧ y1 w w' := by
 have H : (if a0 ≥ a1 then (some (decide (a0 ≤ a2))) else (some false)) = some r := h
 clear h
 by_cases c4 : a0 ≥ a1
 ·rw [if_pos c4] at H
  have c4b0 : decide (a1 ≤ a0) = true := decide_eq_true c4
  clear c4
  obtain rfl := Option.some.inj H
  go_enter Tryz.func58,Tryz.ntmps58
  go_wp2
  go_ret
  exact ⟨by first | rfl | (simp; done) | (simp [*]; done),by repeat (first | exact y1.refl _ | apply y1.step)⟩
 ·rw [if_neg c4] at H
  have c4b0 : decide (a1 ≤ a0) = false := decide_eq_false c4
  clear c4
  obtain rfl := Option.some.inj H
  go_enter Tryz.func58,Tryz.ntmps58
  go_wp2
  go_ret
  exact ⟨by first | rfl | (simp; done) | (simp [*]; done),by repeat (first | exact y1.refl _ | apply y1.step)⟩
end Go.Proofs.YtocmfolajckaeaaGreatDoor.Pe
end
section
namespace Go.Proofs.YtocmfolajckaeaaGreatDoor.Pe
open Go.RowKit Go.Proofs.YtocmfolajckaeaaGreatDoorW.PrintWords Go.Proofs.YtocmfolajckaeaaGreatDoorW.PrintLast Go.Proofs.YtocmfolajckaeaaGreatDoorW.PrintMore
attribute [local go_sem] max2_int min2_int max_two min_two max_three min_three max_four min_four   -- for this text's walks alone
set_option linter.unusedVariables false
set_option linter.unusedSimpArgs false
mutual
def impl_symbolLong.l0 : Nat → ByteArray → Int → Option (Int)
 | 0,_,_ => none
 | k + 1,x0,x3 => if x3 < (x0.size : Int) then (impl_symbolLong.j1 k x0 x3 (decide (x3 ≤ 21))) else (impl_symbolLong.j1 k x0 x3 false)
def impl_symbolLong.j1 : Nat → ByteArray → Int → Bool → Option (Int)
 | 0,_,_,_ => none
 | k + 1,x0,x3,x11 => if x11 = true then (if 0 ≤ x3 then (if x3 < (x0.size : Int) then (if (bt x0 x3) = 34 then (some (wrap64 (x3 + 1))) else (if (bt x0 x3) < 32 then (some 0) else (if (bt x0 x3) > 126 then (some 0) else (if (bt x0 x3) = 92 then (some 0) else (impl_symbolLong.l0 k x0 (wrap64 (x3 + 1))))))) else (none)) else (none)) else (some 0)
end
def impl_symbolLong.f (k : Nat) (a0 : ByteArray) : Option (Int) := impl_symbolLong.l0 k a0 1
set_option maxHeartbeats 8000000 in
set_option maxRecDepth 100000 in
theorem impl_symbolLong.calls (k : Nat) (a0 : ByteArray) (r : Int) (w : World) (h : impl_symbolLong.f k a0 = some r) :
  Calls Tryz.prog 96 #[.string a0] w fun e w' => e = .returned (.int .i64 r) ∧ y1 w w' := by
 have H : (impl_symbolLong.l0 k a0 1) = some r := h
 clear h
 have H' := y0.mk H
 clear H
 go_enter Tryz.func96,Tryz.ntmps96
 go_wp2
 go_loopg [3] k (fun kq v3 w' => ∃ (x3_1 : Int),v3 = .int .i64 x3_1 ∧ y0 (impl_symbolLong.l0 kq a0 x3_1 = some r) ∧ y0 (kq ≤ k) ∧ y1 w w')
 case atStart => exact ⟨(1),qy2,H',⟨Nat.le_refl _⟩,by repeat (first | exact y1.refl _ | apply y1.step)⟩
 case round =>
  clear H'
  obtain ⟨x3_1,rfl,HA,HK1,⟨m1,rfl⟩⟩ := hrel
  cases gk with
  | zero => exact absurd HA.out (by simp [impl_symbolLong.l0])
  | succ k1 =>
   have H := HA.out
   clear HA
   simp only [impl_symbolLong.l0] at H
   have HC2 := y0.mk H
   clear H
   go_upto_region 2 with (fail)
   go_cut [11] (fun v11 wc => ∃ (kq : Nat) (x11_1 : Bool),v11 = .bool x11_1 ∧ y0 (impl_symbolLong.j1 kq a0 x3_1 x11_1 = some r) ∧ y0 (kq ≤ k1) ∧ y1 w wc)
   case first =>
    have H := HC2.out
    clear HC2
    by_cases c3 : x3_1 < (a0.size : Int)
    ·rw [if_pos c3] at H
     have c3b0 := decide_eq_true c3
     clear c3
     (first | rw [c3b0] | (simp only [y18,y17]; rw [c3b0]) | skip)
     have H' := y0.mk H
     clear H
     go_wp2
     go_meet
     exact ⟨_,(decide (x3_1 ≤ 21)),qy2,H',⟨by have := HK1.out; first | omega | exact Nat.le_refl _⟩,by repeat (first | exact y1.refl _ | apply y1.step)⟩
    ·rw [if_neg c3] at H
     have c3b0 := decide_eq_false c3
     clear c3
     (first | rw [c3b0] | (simp only [y18,y17]; rw [c3b0]) | skip)
     have H' := y0.mk H
     clear H
     go_wp2
     go_meet
     exact ⟨_,(false),qy2,H',⟨by have := HK1.out; first | omega | exact Nat.le_refl _⟩,by repeat (first | exact y1.refl _ | apply y1.step)⟩
   case rest =>
    clear HC2
    obtain ⟨kq,x11_1,rfl,HA,HJ1,⟨mc1,rfl⟩⟩ := hcut
    cases kq with
    | zero => exact absurd HA.out (by simp [impl_symbolLong.j1])
    | succ kj1 =>
     have H := HA.out
     clear HA
     simp only [impl_symbolLong.j1] at H
     by_cases c4 : x11_1 = true
     ·subst c4
      replace H := qT H
      obtain ⟨c5,H⟩ := qo H
      have c5b0 : decide (0 ≤ x3_1) = true := decide_eq_true c5
      clear c5
      obtain ⟨c6,H⟩ := qo H
      have c6b0 : decide (x3_1 < (a0.size : Int)) = true := decide_eq_true c6
      clear c6
      by_cases c8 : (bt a0 x3_1) = 34
      ·rw [if_pos c8] at H
       have c8b0 : ((bt a0 x3_1) == 34) = true := beq_iff_eq.mpr c8
       have c8b1 : ((bt a0 x3_1) != 34) = false := bne_eq_false_iff_eq.mpr c8
       clear c8
       obtain rfl := Option.some.inj H
       have p7 : 0 ≤ (x3_1 : Int) := of_decide_eq_true qy1
       have q7 : x3_1 < (a0.size : Int) := of_decide_eq_true qy1
       have hx7 := bt_at a0 x3_1
       replace p7 := eq_true p7
       replace q7 := eq_true q7
       go_wp2
       go_ret
       exact ⟨by first | rfl | (simp; done) | (simp [*]; done),by repeat (first | exact y1.refl _ | apply y1.step)⟩
      ·rw [if_neg c8] at H
       have c8b0 : ((bt a0 x3_1) == 34) = false := beq_eq_false_iff_ne.mpr c8
       have c8b1 : ((bt a0 x3_1) != 34) = true := bne_iff_ne.mpr c8
       by_cases c10 : (bt a0 x3_1) < 32
       ·rw [if_pos c10] at H
        have c10b0 := decide_eq_true c10
        clear c10
        obtain rfl := Option.some.inj H
        have p7 : 0 ≤ (x3_1 : Int) := of_decide_eq_true qy1
        have q7 : x3_1 < (a0.size : Int) := of_decide_eq_true qy1
        have hx7 := bt_at a0 x3_1
        replace p7 := eq_true p7
        replace q7 := eq_true q7
        have p9 : 0 ≤ (x3_1 : Int) := of_decide_eq_true qy1
        have q9 : x3_1 < (a0.size : Int) := of_decide_eq_true qy1
        have hx9 := bt_at a0 x3_1
        replace p9 := eq_true p9
        replace q9 := eq_true q9
        go_wp2
        go_ret
        exact ⟨by first | rfl | (simp; done) | (simp [*]; done),by repeat (first | exact y1.refl _ | apply y1.step)⟩
       ·rw [if_neg c10] at H
        have c10b0 := decide_eq_false c10
        clear c10
        by_cases c12 : (bt a0 x3_1) > 126
        ·rw [if_pos c12] at H
         have c12b0 : decide (126 < (bt a0 x3_1)) = true := decide_eq_true c12
         clear c12
         obtain rfl := Option.some.inj H
         have p7 : 0 ≤ (x3_1 : Int) := of_decide_eq_true qy1
         have q7 : x3_1 < (a0.size : Int) := of_decide_eq_true qy1
         have hx7 := bt_at a0 x3_1
         replace p7 := eq_true p7
         replace q7 := eq_true q7
         have p9 : 0 ≤ (x3_1 : Int) := of_decide_eq_true qy1
         have q9 : x3_1 < (a0.size : Int) := of_decide_eq_true qy1
         have hx9 := bt_at a0 x3_1
         replace p9 := eq_true p9
         replace q9 := eq_true q9
         have p11 : 0 ≤ (x3_1 : Int) := of_decide_eq_true qy1
         have q11 : x3_1 < (a0.size : Int) := of_decide_eq_true qy1
         have hx11 := bt_at a0 x3_1
         replace p11 := eq_true p11
         replace q11 := eq_true q11
         go_wp2
         go_ret
         exact ⟨by first | rfl | (simp; done) | (simp [*]; done),by repeat (first | exact y1.refl _ | apply y1.step)⟩
        ·rw [if_neg c12] at H
         have c12b0 : decide (126 < (bt a0 x3_1)) = false := decide_eq_false c12
         clear c12
         by_cases c14 : (bt a0 x3_1) = 92
         ·rw [if_pos c14] at H
          have c14b0 : ((bt a0 x3_1) == 92) = true := beq_iff_eq.mpr c14
          have c14b1 : ((bt a0 x3_1) != 92) = false := bne_eq_false_iff_eq.mpr c14
          clear c14
          obtain rfl := Option.some.inj H
          have p7 : 0 ≤ (x3_1 : Int) := of_decide_eq_true qy1
          have q7 : x3_1 < (a0.size : Int) := of_decide_eq_true qy1
          have hx7 := bt_at a0 x3_1
          replace p7 := eq_true p7
          replace q7 := eq_true q7
          have p9 : 0 ≤ (x3_1 : Int) := of_decide_eq_true qy1
          have q9 : x3_1 < (a0.size : Int) := of_decide_eq_true qy1
          have hx9 := bt_at a0 x3_1
          replace p9 := eq_true p9
          replace q9 := eq_true q9
          have p11 : 0 ≤ (x3_1 : Int) := of_decide_eq_true qy1
          have q11 : x3_1 < (a0.size : Int) := of_decide_eq_true qy1
          have hx11 := bt_at a0 x3_1
          replace p11 := eq_true p11
          replace q11 := eq_true q11
          have p13 : 0 ≤ (x3_1 : Int) := of_decide_eq_true qy1
          have q13 : x3_1 < (a0.size : Int) := of_decide_eq_true qy1
          have hx13 := bt_at a0 x3_1
          replace p13 := eq_true p13
          replace q13 := eq_true q13
          go_wp2
          go_ret
          exact ⟨by first | rfl | (simp; done) | (simp [*]; done),by repeat (first | exact y1.refl _ | apply y1.step)⟩
         ·rw [if_neg c14] at H
          have c14b0 : ((bt a0 x3_1) == 92) = false := beq_eq_false_iff_ne.mpr c14
          have c14b1 : ((bt a0 x3_1) != 92) = true := bne_iff_ne.mpr c14
          have H' := y0.mk H
          clear H
          have p7 : 0 ≤ (x3_1 : Int) := of_decide_eq_true qy1
          have q7 : x3_1 < (a0.size : Int) := of_decide_eq_true qy1
          have hx7 := bt_at a0 x3_1
          replace p7 := eq_true p7
          replace q7 := eq_true q7
          have p9 : 0 ≤ (x3_1 : Int) := of_decide_eq_true qy1
          have q9 : x3_1 < (a0.size : Int) := of_decide_eq_true qy1
          have hx9 := bt_at a0 x3_1
          replace p9 := eq_true p9
          replace q9 := eq_true q9
          have p11 : 0 ≤ (x3_1 : Int) := of_decide_eq_true qy1
          have q11 : x3_1 < (a0.size : Int) := of_decide_eq_true qy1
          have hx11 := bt_at a0 x3_1
          replace p11 := eq_true p11
          replace q11 := eq_true q11
          have p13 : 0 ≤ (x3_1 : Int) := of_decide_eq_true qy1
          have q13 : x3_1 < (a0.size : Int) := of_decide_eq_true qy1
          have hx13 := bt_at a0 x3_1
          replace p13 := eq_true p13
          replace q13 := eq_true q13
          go_wp2
          go_roundg kj1
          case measure => have := HK1.out; have := HJ1.out; omega
          exact ⟨(wrap64 (x3_1 + 1)),qy2,H',⟨by have := HK1.out; have := HJ1.out; omega⟩,by repeat (first | exact y1.refl _ | apply y1.step)⟩
     ·replace c4 := Bool.eq_false_iff.mpr c4
      subst c4
      replace H := qF H
      obtain rfl := Option.some.inj H
      go_wp2
      go_ret
      exact ⟨by first | rfl | (simp; done) | (simp [*]; done),by repeat (first | exact y1.refl _ | apply y1.step)⟩
def impl_isDigit.f (a0 : Int) : Option (Bool) := if a0 ≥ 48 then (some (decide (a0 ≤ 57))) else (some false)
set_option maxHeartbeats 8000000 in
set_option maxRecDepth 100000 in
theorem impl_isDigit.calls (a0 : Int) (r : Bool) (w : World) (h : impl_isDigit.f a0 = some r) :
  Calls Tryz.prog 97 #[.int .u8 a0] w fun e w' => e = .returned (.bool r) ∧ y1 w w' := by
 have H : (if a0 ≥ 48 then (some (decide (a0 ≤ 57))) else (some false)) = some r := h
 clear h
 by_cases c2 : a0 ≥ 48
 ·rw [if_pos c2] at H
  have c2b0 : decide (48 ≤ a0) = true := decide_eq_true c2
  clear c2
  obtain rfl := Option.some.inj H
  go_enter Tryz.func97,Tryz.ntmps97
  go_wp2
  go_ret
  exact ⟨by first | rfl | (simp; done) | (simp [*]; done),by repeat (first | exact y1.refl _ | apply y1.step)⟩
 ·rw [if_neg c2] at H
  have c2b0 : decide (48 ≤ a0) = false := decide_eq_false c2
  clear c2
  obtain rfl := Option.some.inj H
  go_enter Tryz.func97,Tryz.ntmps97
  go_wp2
  go_ret
  exact ⟨by first | rfl | (simp; done) | (simp [*]; done),by repeat (first | exact y1.refl _ | apply y1.step)⟩
def ErrIs : Option Int → Value → Prop
 | none,ev => ev = .nilIface
 | some _,ev => ∃ te pe,ev = .iface te pe
theorem errIs_none {ev : Value} (h : ErrIs none ev) : ev = .nilIface := h
theorem errIs_some {q : Int} {ev : Value} (h : ErrIs (some q) ev) : ∃ te pe,ev = .iface te pe := h
/-- strconv.Atoi: the number, and whether there is an error. -/
def strconv_Atoi.f (a0 : ByteArray) : Option (Int × Option Int) :=
 if a0.size ≤ 281474976710656 then (match Lib.atoiAll a0.data.toList with
  | .ok v => some (v,none)
  | .range => some (Lib.atoiSat a0.data.toList,some 1)
  | _ => some (0,some 0)) else none
theorem strconv_Atoi.calls (a0 : ByteArray) (r1 : Int) (r2 : Option Int) (w : World) (hT : Tb w) (h : strconv_Atoi.f a0 = some (r1,r2)) :
  Calls Tryz.prog 98 #[.string a0] w fun e w' => ∃ ev,e = .returned (.tuple #[.int .i64 r1,ev]) ∧ ErrIs r2 ev ∧ Below w.heap.size w w' := by
 unfold strconv_Atoi.f at h
 by_cases h0 : a0.size ≤ 281474976710656
 ·rw [if_pos h0] at h
  rcases hn : Lib.atoiAll a0.data.toList with v | _ | _
  ·
   simp only [hn,Option.some.injEq,Prod.mk.injEq] at h
   obtain ⟨rfl,rfl⟩ := h
   refine (Tryz.strconv_Atoi_ok a0 (by omega) v hn w).mono ?_
   rintro e w' ⟨rfl,hw⟩
   refine ⟨_,rfl,rfl, ?_⟩
   rcases hw with rfl | ⟨t,rfl⟩
   ·exact Below.refl _ _
   ·exact bytes_below (Below.refl _ _) (Nat.le_refl _) _ _
  ·
   simp only [hn,Option.some.injEq,Prod.mk.injEq] at h
   obtain ⟨rfl,rfl⟩ := h
   obtain ⟨ev,h1,h2⟩ := hT.es
   refine (Tryz.strconv_Atoi_syntax a0 h0 hn ev w h1 h2).mono ?_
   rintro e w' ⟨n,rfl,_,_,hb⟩
   exact ⟨_,rfl,⟨_,_,rfl⟩,hb⟩
  ·
   simp only [hn,Option.some.injEq,Prod.mk.injEq] at h
   obtain ⟨rfl,rfl⟩ := h
   obtain ⟨ev,h1,h2⟩ := hT.er
   refine (Tryz.strconv_Atoi_range a0 h0 hn ev w h1 h2).mono ?_
   rintro e w' ⟨n,rfl,_,_,hb⟩
   exact ⟨_,rfl,⟨_,_,rfl⟩,hb⟩
 ·rw [if_neg h0] at h
  cases h
def strconv_Itoa.f (a0 : Int) : Option ByteArray := if -9223372036854775808 ≤ a0 then if a0 ≤ 9223372036854775807 then some ⟨(Lib.itoa a0).toArray⟩ else none else none
theorem strconv_Itoa.calls (a0 : Int) (r : ByteArray) (w : World) (hT : Tb w) (h : strconv_Itoa.f a0 = some r) :
  Calls Tryz.prog 99 #[.int .i64 a0] w fun e w' => e = .returned (.string r) ∧ Below w.heap.size w w' := by
 unfold strconv_Itoa.f at h
 by_cases h0 : -9223372036854775808 ≤ a0
 ·by_cases h1 : a0 ≤ 9223372036854775807
  ·rw [if_pos h0,if_pos h1] at h
   obtain rfl := Option.some.inj h
   refine (Tryz.strconv_Itoa a0 h0 h1 w hT.pow).mono ?_
   rintro e w' ⟨rfl,k,os,rfl⟩
   exact ⟨rfl,QRead.below_grow_drewN w k os⟩
  ·rw [if_pos h0,if_neg h1] at h
   cases h
 ·rw [if_neg h0] at h
  cases h
def impl_isLetter.f (a0 : Int) : Option (Bool) := if a0 ≥ 97 then (if a0 ≤ 122 then (some true) else (if a0 ≥ 65 then (some (decide (a0 ≤ 90))) else (some false))) else (if a0 ≥ 65 then (some (decide (a0 ≤ 90))) else (some false))
set_option maxHeartbeats 8000000 in
set_option maxRecDepth 100000 in
theorem impl_isLetter.calls (a0 : Int) (r : Bool) (w : World) (h : impl_isLetter.f a0 = some r) :
  Calls Tryz.prog 110 #[.int .u8 a0] w fun e w' => e = .returned (.bool r) ∧ y1 w w' := by
 have H : (if a0 ≥ 97 then (if a0 ≤ 122 then (some true) else (if a0 ≥ 65 then (some (decide (a0 ≤ 90))) else (some false))) else (if a0 ≥ 65 then (some (decide (a0 ≤ 90))) else (some false))) = some r := h
 clear h
 by_cases c2 : a0 ≥ 97
 ·rw [if_pos c2] at H
  have c2b0 : decide (97 ≤ a0) = true := decide_eq_true c2
  clear c2
  by_cases c3 : a0 ≤ 122
  ·rw [if_pos c3] at H
   have c3b0 := decide_eq_true c3
   clear c3
   obtain rfl := Option.some.inj H
   go_enter Tryz.func110,Tryz.ntmps110
   go_wp2
   go_ret
   exact ⟨by first | rfl | (simp; done) | (simp [*]; done),by repeat (first | exact y1.refl _ | apply y1.step)⟩
  ·rw [if_neg c3] at H
   have c3b0 := decide_eq_false c3
   clear c3
   by_cases c4 : a0 ≥ 65
   ·rw [if_pos c4] at H
    have c4b0 : decide (65 ≤ a0) = true := decide_eq_true c4
    clear c4
    obtain rfl := Option.some.inj H
    go_enter Tryz.func110,Tryz.ntmps110
    go_wp2
    go_ret
    exact ⟨by first | rfl | (simp; done) | (simp [*]; done),by repeat (first | exact y1.refl _ | apply y1.step)⟩
   ·rw [if_neg c4] at H
    have c4b0 : decide (65 ≤ a0) = false := decide_eq_false c4
    clear c4
    obtain rfl := Option.some.inj H
    go_enter Tryz.func110,Tryz.ntmps110
    go_wp2
    go_ret
    exact ⟨by first | rfl | (simp; done) | (simp [*]; done),by repeat (first | exact y1.refl _ | apply y1.step)⟩
 ·rw [if_neg c2] at H
  have c2b0 : decide (97 ≤ a0) = false := decide_eq_false c2
  clear c2
  by_cases c5 : a0 ≥ 65
  ·rw [if_pos c5] at H
   have c5b0 : decide (65 ≤ a0) = true := decide_eq_true c5
   clear c5
   obtain rfl := Option.some.inj H
   go_enter Tryz.func110,Tryz.ntmps110
   go_wp2
   go_ret
   exact ⟨by first | rfl | (simp; done) | (simp [*]; done),by repeat (first | exact y1.refl _ | apply y1.step)⟩
  ·rw [if_neg c5] at H
   have c5b0 : decide (65 ≤ a0) = false := decide_eq_false c5
   clear c5
   obtain rfl := Option.some.inj H
   go_enter Tryz.func110,Tryz.ntmps110
   go_wp2
   go_ret
   exact ⟨by first | rfl | (simp; done) | (simp [*]; done),by repeat (first | exact y1.refl _ | apply y1.step)⟩
def impl_isWordByte.f (a0 : Int) : Option (Bool) := (impl_isLetter.f a0).bind fun t272 => (if t272 = true then (some true) else ((impl_isDigit.f a0).bind fun t273 => (if t273 = true then (some true) else (some (a0 == 95)))))
set_option maxHeartbeats 8000000 in
set_option maxRecDepth 100000 in
theorem impl_isWordByte.calls (a0 : Int) (r : Bool) (w : World) (h : impl_isWordByte.f a0 = some r) :
  Calls Tryz.prog 109 #[.int .u8 a0] w fun e w' => e = .returned (.bool r) ∧ y1 w w' := by
 have H : ((impl_isLetter.f a0).bind fun t272 => (if t272 = true then (some true) else ((impl_isDigit.f a0).bind fun t273 => (if t273 = true then (some true) else (some (a0 == 95)))))) = some r := h
 clear h
 obtain ⟨t272,A2,H⟩ := qB H
 by_cases c3 : t272 = true
 ·subst c3
  replace H := qT H
  obtain rfl := Option.some.inj H
  go_enter Tryz.func109,Tryz.ntmps109
  go_wp2_with (first | ((with_reducible refine y14 (f := 110) rfl ?_); refine y16 (some 4) rfl rfl Tryz.func110 (by kernel_rfl) rfl #[.int .u8 a0] rfl qy0 ?_; (with_reducible refine (impl_isLetter.calls a0 true _ A2.out).mono ?_); rintro e w' ⟨rfl,⟨nd,rfl⟩⟩; refine ⟨_,rfl, ?_⟩))
  go_ret
  exact ⟨by first | rfl | (simp; done) | (simp [*]; done),by repeat (first | exact y1.refl _ | apply y1.step)⟩
 ·replace c3 := Bool.eq_false_iff.mpr c3
  subst c3
  replace H := qF H
  obtain ⟨t273,A4,H⟩ := qB H
  by_cases c5 : t273 = true
  ·subst c5
   replace H := qT H
   obtain rfl := Option.some.inj H
   go_enter Tryz.func109,Tryz.ntmps109
   go_wp2_with (first | ((with_reducible refine y14 (f := 110) rfl ?_); refine y16 (some 4) rfl rfl Tryz.func110 (by kernel_rfl) rfl #[.int .u8 a0] rfl qy0 ?_; (with_reducible refine (impl_isLetter.calls a0 false _ A2.out).mono ?_); rintro e w' ⟨rfl,⟨nd,rfl⟩⟩; refine ⟨_,rfl, ?_⟩) | (go_at_call 97; (with_reducible refine (impl_isDigit.calls a0 true _ A4.out).mono ?_); rintro e w' ⟨rfl,⟨nd,rfl⟩⟩))
   go_ret
   exact ⟨by first | rfl | (simp; done) | (simp [*]; done),by repeat (first | exact y1.refl _ | apply y1.step)⟩
  ·replace c5 := Bool.eq_false_iff.mpr c5
   subst c5
   replace H := qF H
   obtain rfl := Option.some.inj H
   go_enter Tryz.func109,Tryz.ntmps109
   go_wp2_with (first | ((with_reducible refine y14 (f := 110) rfl ?_); refine y16 (some 4) rfl rfl Tryz.func110 (by kernel_rfl) rfl #[.int .u8 a0] rfl qy0 ?_; (with_reducible refine (impl_isLetter.calls a0 false _ A2.out).mono ?_); rintro e w' ⟨rfl,⟨nd,rfl⟩⟩; refine ⟨_,rfl, ?_⟩) | (go_at_call 97; (with_reducible refine (impl_isDigit.calls a0 false _ A4.out).mono ?_); rintro e w' ⟨rfl,⟨nd,rfl⟩⟩))
   go_ret
   exact ⟨by first | rfl | (simp; done) | (simp [*]; done),by repeat (first | exact y1.refl _ | apply y1.step)⟩
def impl_nameLong.l0 : Nat → ByteArray → Int → Option (Int)
 | 0,_,_ => none
 | k + 1,x0,x3 => if x3 < (x0.size : Int) then (if 0 ≤ x3 then ((impl_isWordByte.f (bt x0 x3)).bind fun t274 => (if t274 = true then (if x3 > 0 then (impl_nameLong.l0 k x0 (wrap64 (x3 + 1))) else (if 0 < (x0.size : Int) then ((impl_isLetter.f (bt x0 0)).bind fun t275 => (if t275 = true then (impl_nameLong.l0 k x0 (wrap64 (x3 + 1))) else (some x3))) else (none))) else (some x3))) else (none)) else (some x3)
def impl_nameLong.f (k : Nat) (a0 : ByteArray) : Option (Int) := impl_nameLong.l0 k a0 0
set_option maxHeartbeats 8000000 in
set_option maxRecDepth 100000 in
theorem impl_nameLong.calls (k : Nat) (a0 : ByteArray) (r : Int) (w : World) (h : impl_nameLong.f k a0 = some r) :
  Calls Tryz.prog 100 #[.string a0] w fun e w' => e = .returned (.int .i64 r) ∧ y1 w w' := by
 have H : (impl_nameLong.l0 k a0 0) = some r := h
 clear h
 have H' := y0.mk H
 clear H
 go_enter Tryz.func100,Tryz.ntmps100
 go_wp2
 go_loopg [3] k (fun kq v3 w' => ∃ (x3_1 : Int),v3 = .int .i64 x3_1 ∧ y0 (impl_nameLong.l0 kq a0 x3_1 = some r) ∧ y0 (kq ≤ k) ∧ y1 w w')
 case atStart => exact ⟨(0),qy2,H',⟨Nat.le_refl _⟩,by repeat (first | exact y1.refl _ | apply y1.step)⟩
 case round =>
  clear H'
  obtain ⟨x3_1,rfl,HA,HK1,⟨m1,rfl⟩⟩ := hrel
  cases gk with
  | zero => exact absurd HA.out (by simp [impl_nameLong.l0])
  | succ k1 =>
   have H := HA.out
   clear HA
   simp only [impl_nameLong.l0] at H
   by_cases c2 : x3_1 < (a0.size : Int)
   ·rw [if_pos c2] at H
    have c2b0 := decide_eq_true c2
    clear c2
    obtain ⟨c3,H⟩ := qo H
    have c3b0 : decide (0 ≤ x3_1) = true := decide_eq_true c3
    clear c3
    obtain ⟨t274,A5,H⟩ := qB H
    by_cases c6 : t274 = true
    ·subst c6
     replace H := qT H
     by_cases c7 : x3_1 > 0
     ·rw [if_pos c7] at H
      have c7b0 : decide (0 < x3_1) = true := decide_eq_true c7
      clear c7
      have H' := y0.mk H
      clear H
      have p4 : 0 ≤ (x3_1 : Int) := of_decide_eq_true qy1
      have q4 : x3_1 < (a0.size : Int) := of_decide_eq_true qy1
      have hx4 := bt_at a0 x3_1
      replace p4 := eq_true p4
      replace q4 := eq_true q4
      go_wp2_with (first | (go_at_call 109; (with_reducible refine (impl_isWordByte.calls (bt a0 x3_1) true _ A5.out).mono ?_); rintro e w' ⟨rfl,⟨nd,rfl⟩⟩))
      go_roundg k1
      case measure => have := HK1.out; omega
      exact ⟨(wrap64 (x3_1 + 1)),qy2,H',⟨by have := HK1.out; omega⟩,by repeat (first | exact y1.refl _ | apply y1.step)⟩
     ·rw [if_neg c7] at H
      have c7b0 : decide (0 < x3_1) = false := decide_eq_false c7
      clear c7
      obtain ⟨c8,H⟩ := qo H
      have c8b0 : decide (0 < (a0.size : Int)) = true := decide_eq_true c8
      have c8b1 : decide (0 < a0.size) = true := decide_eq_true (by omega)
      clear c8
      obtain ⟨t275,A10,H⟩ := qB H
      by_cases c11 : t275 = true
      ·subst c11
       replace H := qT H
       have H' := y0.mk H
       clear H
       have p4 : 0 ≤ (x3_1 : Int) := of_decide_eq_true qy1
       have q4 : x3_1 < (a0.size : Int) := of_decide_eq_true qy1
       have hx4 := bt_at a0 x3_1
       replace p4 := eq_true p4
       replace q4 := eq_true q4
       go_wp2_with (first | (go_at_call 109; (with_reducible refine (impl_isWordByte.calls (bt a0 x3_1) true _ A5.out).mono ?_); rintro e w' ⟨rfl,⟨nd,rfl⟩⟩; have p9 : 0 ≤ (0 : Int) := (by omega); have q9 : 0 < a0.size := qy3; have hx9 : ∀ h : 0 < a0.size,((a0[0]'h).toNat : Int) = bt a0 0 := bt_at a0 0; clear p9; have qi9 : (0 < (a0.size : Int)) = True := eq_true (of_decide_eq_true qy1); replace q9 := eq_true q9) | (go_at_call 110; (with_reducible refine (impl_isLetter.calls (bt a0 0) true _ A10.out).mono ?_); rintro e w' ⟨rfl,⟨nd,rfl⟩⟩))
       go_roundg k1
       case measure => have := HK1.out; omega
       exact ⟨(wrap64 (x3_1 + 1)),qy2,H',⟨by have := HK1.out; omega⟩,by repeat (first | exact y1.refl _ | apply y1.step)⟩
      ·replace c11 := Bool.eq_false_iff.mpr c11
       subst c11
       replace H := qF H
       obtain rfl := Option.some.inj H
       have p4 : 0 ≤ (x3_1 : Int) := of_decide_eq_true qy1
       have q4 : x3_1 < (a0.size : Int) := of_decide_eq_true qy1
       have hx4 := bt_at a0 x3_1
       replace p4 := eq_true p4
       replace q4 := eq_true q4
       go_wp2_with (first | (go_at_call 109; (with_reducible refine (impl_isWordByte.calls (bt a0 x3_1) true _ A5.out).mono ?_); rintro e w' ⟨rfl,⟨nd,rfl⟩⟩; have p9 : 0 ≤ (0 : Int) := (by omega); have q9 : 0 < a0.size := qy3; have hx9 : ∀ h : 0 < a0.size,((a0[0]'h).toNat : Int) = bt a0 0 := bt_at a0 0; clear p9; have qi9 : (0 < (a0.size : Int)) = True := eq_true (of_decide_eq_true qy1); replace q9 := eq_true q9) | (go_at_call 110; (with_reducible refine (impl_isLetter.calls (bt a0 0) false _ A10.out).mono ?_); rintro e w' ⟨rfl,⟨nd,rfl⟩⟩))
       go_ret
       exact ⟨by first | rfl | (simp; done) | (simp [*]; done),by repeat (first | exact y1.refl _ | apply y1.step)⟩
    ·replace c6 := Bool.eq_false_iff.mpr c6
     subst c6
     replace H := qF H
     obtain rfl := Option.some.inj H
     have p4 : 0 ≤ (x3_1 : Int) := of_decide_eq_true qy1
     have q4 : x3_1 < (a0.size : Int) := of_decide_eq_true qy1
     have hx4 := bt_at a0 x3_1
     replace p4 := eq_true p4
     replace q4 := eq_true q4
     go_wp2_with (first | (go_at_call 109; (with_reducible refine (impl_isWordByte.calls (bt a0 x3_1) false _ A5.out).mono ?_); rintro e w' ⟨rfl,⟨nd,rfl⟩⟩))
     go_ret
     exact ⟨by first | rfl | (simp; done) | (simp [*]; done),by repeat (first | exact y1.refl _ | apply y1.step)⟩
   ·rw [if_neg c2] at H
    have c2b0 := decide_eq_false c2
    clear c2
    obtain rfl := Option.some.inj H
    go_wp2
    go_ret
    exact ⟨by first | rfl | (simp; done) | (simp [*]; done),by repeat (first | exact y1.refl _ | apply y1.step)⟩
end Go.Proofs.YtocmfolajckaeaaGreatDoor.Pe
end
section
namespace Go.Proofs.YtocmfolajckaeaaGreatDoor.Pe
open Go.RowKit Go.Proofs.YtocmfolajckaeaaGreatDoorW.PrintWords Go.Proofs.YtocmfolajckaeaaGreatDoorW.PrintLast Go.Proofs.YtocmfolajckaeaaGreatDoorW.PrintMore
attribute [local go_sem] max2_int min2_int max_two min_two max_three min_three max_four min_four   -- for this text's walks alone
set_option linter.unusedVariables false
set_option linter.unusedSimpArgs false
mutual
def impl_termAt.j0 : Nat → ByteArray → Bool → Option (Int × Int)
 | 0,_,_ => none
 | k + 1,x0,x23 => if x23 = true then (impl_termAt.l0 k x0 1) else (if 0 < (x0.size : Int) then (if (bt x0 0) ≥ 65 then (impl_termAt.j3 k x0 (decide ((bt x0 0) ≤ 90))) else (impl_termAt.j3 k x0 false)) else (none))
def impl_termAt.j2 : Nat → ByteArray → Int → Option (Int × Int)
 | 0,_,_ => none
 | k + 1,x0,x5 => if 0 ≤ x5 then (if x5 ≤ (x0.size : Int) then ((strconv_Atoi.f (x0.extract 0 (x5 : Int).toNat)).bind fun bt279 => (if bt279.2.isNone = true then ((impl_in.f bt279.1 (-1000000) 1000000).bind fun t282 => (if t282 = true then ((strconv_Itoa.f bt279.1).bind fun t283 => (if t283.toList = (x0.extract 0 (x5 : Int).toNat).toList then (some (1,x5)) else (some (0,0)))) else (some (0,0)))) else (some (0,0)))) else (none)) else (none)
def impl_termAt.l0 : Nat → ByteArray → Int → Option (Int × Int)
 | 0,_,_ => none
 | k + 1,x0,x5 => if x5 < (x0.size : Int) then (if 0 ≤ x5 then ((impl_isDigit.f (bt x0 x5)).bind fun t278 => (if t278 = true then (impl_termAt.l0 k x0 (wrap64 (x5 + 1))) else (impl_termAt.j2 k x0 x5))) else (none)) else (impl_termAt.j2 k x0 x5)
def impl_termAt.j3 : Nat → ByteArray → Bool → Option (Int × Int)
 | 0,_,_ => none
 | k + 1,x0,x66 => if x66 = true then ((impl_nameLong.f k x0).bind fun t284 => (if t284 > 20 then (some (0,0)) else (if t284 = (x0.size : Int) then (impl_termAt.j4 k x0 t284 true) else (if 0 ≤ t284 then (if t284 < (x0.size : Int) then (impl_termAt.j4 k x0 t284 ((bt x0 t284) != 40)) else (none)) else (none))))) else (some (0,0))
def impl_termAt.j4 : Nat → ByteArray → Int → Bool → Option (Int × Int)
 | 0,_,_,_ => none
 | k + 1,x0,x8,x88 => if x88 = true then (some (3,x8)) else (impl_termAt.l1 k x0 x8 true)
def impl_termAt.l1 : Nat → ByteArray → Int → Bool → Option (Int × Int)
 | 0,_,_,_ => none
 | k + 1,x0,x8,x9 => if x9 = true then (if 0 ≤ (wrap64 (x8 + 1)) then (if (wrap64 (x8 + 1)) ≤ (x0.size : Int) then ((impl_termAt.f k (x0.extract ((wrap64 (x8 + 1)) : Int).toNat x0.size)).bind fun bt285 => (if bt285.1 = 0 then (some (0,0)) else (if (wrap64 (x8 + (wrap64 (1 + bt285.2)))) < (x0.size : Int) then (if 0 ≤ (wrap64 (x8 + (wrap64 (1 + bt285.2)))) then (impl_termAt.l1 k x0 (wrap64 (x8 + (wrap64 (1 + bt285.2)))) ((bt x0 (wrap64 (x8 + (wrap64 (1 + bt285.2))))) == 44)) else (none)) else (impl_termAt.l1 k x0 (wrap64 (x8 + (wrap64 (1 + bt285.2)))) false)))) else (none)) else (none)) else (if x8 < (x0.size : Int) then (if 0 ≤ x8 then (if (bt x0 x8) = 41 then (some (3,wrap64 (x8 + 1))) else (some (0,0))) else (none)) else (some (0,0)))
def impl_termAt.f : Nat → ByteArray → Option (Int × Int)
 | 0,_ => none
 | k + 1,a0 => if a0.toList = ([] : List UInt8) then (some (0,0)) else (if 0 < (a0.size : Int) then (if (bt a0 0) = 34 then ((impl_symbolLong.f k a0).bind fun t276 => (if t276 > 0 then (some (2,t276)) else (some (0,0)))) else (if (bt a0 0) = 45 then (impl_termAt.j0 k a0 true) else ((impl_isDigit.f (bt a0 0)).bind fun t277 => (impl_termAt.j0 k a0 t277)))) else (none))
end
def impl_termAt.T12 : Bool × List (List Nat × List Nat) := (true,[([],[]),([0],[0]),([1],[1]),([2],[2]),([3,2,2],[2,3]),([2,4],[2,4]),([5,4],[5]),([6],[6]),([7,6,6],[6,7]),([6],[6]),([6],[6]),([9,10,6],[6,9,10]),([8,11,6],[6,8,11]),([6,12],[6,12])])
def impl_termAt.B12 : List Nat := [0,1,3,7,15,31,63,127,255,127,127,1663,4095,8191]
theorem impl_termAt.tab12 : rtab .any (opsOf Tryz.f86 12) = impl_termAt.T12 := by kernel_rfl
theorem impl_termAt.bits12 : waitsOk impl_termAt.T12.2 impl_termAt.B12 = true := by kernel_rfl
set_option maxHeartbeats 8000000 in
set_option maxRecDepth 100000 in
theorem impl_termAt.calls (k : Nat) : ∀ (a0 : ByteArray) (r1 : Int) (r2 : Int) (w : World) (hT : Tb w) (h : impl_termAt.f k a0 = some (r1,r2)),
  Calls Tryz.prog 86 #[.string a0] w fun e w' => e = .returned (.tuple #[.int .i64 r1,.int .i64 r2]) ∧ Below w.heap.size w w' := by
 induction k using Nat.strongRecOn with
 | _ k ih =>
 intro a0 r1 r2 w hT h
 cases k with
 | zero => exact absurd h (by simp [impl_termAt.f])
 | succ k =>
 simp only [impl_termAt.f] at h
 have hu104 := Tryz.underlying104
 have HT := y0.mk hT
 clear hT
 have HB := y0.mk (Below.refl w.heap.size w)
 have H : (if a0.toList = ([] : List UInt8) then (some (0,0)) else (if 0 < (a0.size : Int) then (if (bt a0 0) = 34 then ((impl_symbolLong.f k a0).bind fun t276 => (if t276 > 0 then (some (2,t276)) else (some (0,0)))) else (if (bt a0 0) = 45 then (impl_termAt.j0 k a0 true) else ((impl_isDigit.f (bt a0 0)).bind fun t277 => (impl_termAt.j0 k a0 t277)))) else (none))) = some (r1,r2) := h
 clear h
 by_cases c2 : a0.toList = ([] : List UInt8)
 ·rw [if_pos c2] at H
  have c2b0 : (a0.toList == ([] : List UInt8)) = true := beq_iff_eq.mpr c2
  have c2b1 : (a0.toList != ([] : List UInt8)) = false := bne_eq_false_iff_eq.mpr c2
  clear c2
  simp only [Option.some.injEq,Prod.mk.injEq] at H
  obtain ⟨rfl,rfl⟩ := H
  go_enter Tryz.func86,Tryz.ntmps86
  go_wp2
  go_ret2
  exact ⟨by first | rfl | (simp [y12,y13] <;> rfl) | (simp [*,y12,y13] <;> rfl),qb⟩
 ·rw [if_neg c2] at H
  have c2b0 : (a0.toList == ([] : List UInt8)) = false := beq_eq_false_iff_ne.mpr c2
  have c2b1 : (a0.toList != ([] : List UInt8)) = true := bne_iff_ne.mpr c2
  obtain ⟨c3,H⟩ := qo H
  have c3b0 : decide (0 < (a0.size : Int)) = true := decide_eq_true c3
  have c3b1 : decide (0 < a0.size) = true := decide_eq_true (by omega)
  clear c3
  by_cases c5 : (bt a0 0) = 34
  ·rw [if_pos c5] at H
   have c5b0 : ((bt a0 0) == 34) = true := beq_iff_eq.mpr c5
   have c5b1 : ((bt a0 0) != 34) = false := bne_eq_false_iff_eq.mpr c5
   clear c5
   obtain ⟨t276,A6,H⟩ := qB H
   by_cases c7 : t276 > 0
   ·rw [if_pos c7] at H
    have c7b0 : decide (0 < t276) = true := decide_eq_true c7
    clear c7
    simp only [Option.some.injEq,Prod.mk.injEq] at H
    obtain ⟨rfl,rfl⟩ := H
    have p4 : 0 ≤ (0 : Int) := (by omega)
    have q4 : 0 < a0.size := qy3
    have hx4 : ∀ h : 0 < a0.size,((a0[0]'h).toNat : Int) = bt a0 0 := bt_at a0 0
    clear p4
    have qi4 : (0 < (a0.size : Int)) = True := eq_true (of_decide_eq_true qy1)
    replace q4 := eq_true q4
    go_enter Tryz.func86,Tryz.ntmps86
    go_wp2_with (first | ((with_reducible refine y14 (f := 96) rfl ?_); refine y16 (some 19) rfl rfl Tryz.func96 (by kernel_rfl) rfl #[.string a0] rfl qy0 ?_; (with_reducible refine (impl_symbolLong.calls k a0 t276 _ A6.out).mono ?_); rintro e w' ⟨rfl,⟨nd,rfl⟩⟩; refine ⟨_,rfl, ?_⟩))
    go_ret2
    exact ⟨by first | rfl | (simp [y12,y13] <;> rfl) | (simp [*,y12,y13] <;> rfl),qb⟩
   ·rw [if_neg c7] at H
    have c7b0 : decide (0 < t276) = false := decide_eq_false c7
    clear c7
    simp only [Option.some.injEq,Prod.mk.injEq] at H
    obtain ⟨rfl,rfl⟩ := H
    have p4 : 0 ≤ (0 : Int) := (by omega)
    have q4 : 0 < a0.size := qy3
    have hx4 : ∀ h : 0 < a0.size,((a0[0]'h).toNat : Int) = bt a0 0 := bt_at a0 0
    clear p4
    have qi4 : (0 < (a0.size : Int)) = True := eq_true (of_decide_eq_true qy1)
    replace q4 := eq_true q4
    go_enter Tryz.func86,Tryz.ntmps86
    go_wp2_with (first | ((with_reducible refine y14 (f := 96) rfl ?_); refine y16 (some 19) rfl rfl Tryz.func96 (by kernel_rfl) rfl #[.string a0] rfl qy0 ?_; (with_reducible refine (impl_symbolLong.calls k a0 t276 _ A6.out).mono ?_); rintro e w' ⟨rfl,⟨nd,rfl⟩⟩; refine ⟨_,rfl, ?_⟩))
    go_ret2
    exact ⟨by first | rfl | (simp [y12,y13] <;> rfl) | (simp [*,y12,y13] <;> rfl),qb⟩
  ·rw [if_neg c5] at H
   have c5b0 : ((bt a0 0) == 34) = false := beq_eq_false_iff_ne.mpr c5
   have c5b1 : ((bt a0 0) != 34) = true := bne_iff_ne.mpr c5
   have HC8 := y0.mk H
   clear H
   have p4 : 0 ≤ (0 : Int) := (by omega)
   have q4 : 0 < a0.size := qy3
   have hx4 : ∀ h : 0 < a0.size,((a0[0]'h).toNat : Int) = bt a0 0 := bt_at a0 0
   clear p4
   have qi4 : (0 < (a0.size : Int)) = True := eq_true (of_decide_eq_true qy1)
   replace q4 := eq_true q4
   go_enter Tryz.func86,Tryz.ntmps86
   go_upto_region 7 with (fail)
   go_cut [23] (fun v23 wc => ∃ (kq : Nat) (x23_7 : Bool),v23 = .bool x23_7 ∧ y0 (impl_termAt.j0 kq a0 x23_7 = some (r1,r2)) ∧ y0 (kq ≤ k) ∧ y0 (Below w.heap.size w wc))
   case first =>
    have H := HC8.out
    clear HC8
    by_cases c10 : (bt a0 0) = 45
    ·rw [if_pos c10] at H
     have c10b0 : ((bt a0 0) == 45) = true := beq_iff_eq.mpr c10
     have c10b1 : ((bt a0 0) != 45) = false := bne_eq_false_iff_eq.mpr c10
     clear c10
     (first | rw [c10b0] | (simp only [y18,y17]; rw [c10b0]) | skip)
     have H' := y0.mk H
     clear H
     have p9 : 0 ≤ (0 : Int) := (by omega)
     have q9 : 0 < a0.size := qy3
     have hx9 : ∀ h : 0 < a0.size,((a0[0]'h).toNat : Int) = bt a0 0 := bt_at a0 0
     clear p9
     have qi9 : (0 < (a0.size : Int)) = True := eq_true (of_decide_eq_true qy1)
     replace q9 := eq_true q9
     go_wp2
     go_meet
     exact ⟨_,(true),qy2,H',⟨by first | omega | exact Nat.le_refl _⟩,⟨qb⟩⟩
    ·rw [if_neg c10] at H
     have c10b0 : ((bt a0 0) == 45) = false := beq_eq_false_iff_ne.mpr c10
     have c10b1 : ((bt a0 0) != 45) = true := bne_iff_ne.mpr c10
     (first | rw [c10b0] | (simp only [y18,y17]; rw [c10b0]) | skip)
     obtain ⟨t277,A12,H⟩ := qB H
     have H' := y0.mk H
     clear H
     have p9 : 0 ≤ (0 : Int) := (by omega)
     have q9 : 0 < a0.size := qy3
     have hx9 : ∀ h : 0 < a0.size,((a0[0]'h).toNat : Int) = bt a0 0 := bt_at a0 0
     clear p9
     have qi9 : (0 < (a0.size : Int)) = True := eq_true (of_decide_eq_true qy1)
     replace q9 := eq_true q9
     have p11 : 0 ≤ (0 : Int) := (by omega)
     have q11 : 0 < a0.size := qy3
     have hx11 : ∀ h : 0 < a0.size,((a0[0]'h).toNat : Int) = bt a0 0 := bt_at a0 0
     clear p11
     have qi11 : (0 < (a0.size : Int)) = True := eq_true (of_decide_eq_true qy1)
     replace q11 := eq_true q11
     go_wp2_with (first | (go_at_call 97; (with_reducible refine (impl_isDigit.calls (bt a0 0) t277 _ A12.out).mono ?_); rintro e w' ⟨rfl,⟨nd,rfl⟩⟩))
     go_meet
     exact ⟨_,(t277),qy2,H',⟨by first | omega | exact Nat.le_refl _⟩,⟨qb⟩⟩
   case rest =>
    clear HC8
    (try clear c2b0 c2b1 c3b0 c3b1 q4 hx4 qi4 c5b0 c5b1 q4)
    obtain ⟨kq,x23_7,rfl,HA,HJ7,HB⟩ := hcut
    cases kq with
    | zero => exact absurd HA.out (by simp [impl_termAt.j0])
    | succ kj7 =>
     have H := HA.out
     clear HA
     simp only [impl_termAt.j0] at H
     by_cases c13 : x23_7 = true
     ·subst c13
      replace H := qT H
      have HC14 := y0.mk H
      clear H
      go_upto_block 1 with (fail)
      go_cut [5] (fun v5 wc => ∃ (kq : Nat) (x5_13 : Int),v5 = .int .i64 x5_13 ∧ y0 (impl_termAt.j2 kq a0 x5_13 = some (r1,r2)) ∧ y0 (kq ≤ kj7) ∧ y0 (Below w.heap.size w wc))
      case first =>
       have H := HC14.out
       clear HC14
       have H' := y0.mk H
       clear H
       go_wp2
       go_loopg [5] kj7 (fun kq v5 w' => ∃ (x5_2 : Int),v5 = .int .i64 x5_2 ∧ y0 (impl_termAt.l0 kq a0 x5_2 = some (r1,r2)) ∧ y0 (kq ≤ kj7) ∧ y0 (Below w.heap.size w w'))
       case atStart => exact ⟨(1),qy2,H',⟨Nat.le_refl _⟩,⟨qb⟩⟩
       case round =>
        clear H'
        (try clear c13)
        obtain ⟨x5_2,rfl,HA,HK2,HB⟩ := hrel
        cases gk with
        | zero => exact absurd HA.out (by simp [impl_termAt.l0])
        | succ k2 =>
         have H := HA.out
         clear HA
         simp only [impl_termAt.l0] at H
         by_cases c15 : x5_2 < (a0.size : Int)
         ·rw [if_pos c15] at H
          have c15b0 := decide_eq_true c15
          clear c15
          (first | rw [c15b0] | (simp only [y18,y17]; rw [c15b0]) | skip)
          obtain ⟨c16,H⟩ := qo H
          have c16b0 : decide (0 ≤ x5_2) = true := decide_eq_true c16
          clear c16
          obtain ⟨t278,A18,H⟩ := qB H
          by_cases c19 : t278 = true
          ·subst c19
           replace H := qT H
           have H' := y0.mk H
           clear H
           have p17 : 0 ≤ (x5_2 : Int) := of_decide_eq_true qy1
           have q17 : x5_2 < (a0.size : Int) := of_decide_eq_true qy1
           have hx17 := bt_at a0 x5_2
           replace p17 := eq_true p17
           replace q17 := eq_true q17
           go_wp2_with (first | (go_at_call 97; (with_reducible refine (impl_isDigit.calls (bt a0 x5_2) true _ A18.out).mono ?_); rintro e w' ⟨rfl,⟨nd,rfl⟩⟩))
           go_roundg k2
           case measure => have := HJ7.out; have := HK2.out; omega
           exact ⟨(wrap64 (x5_2 + 1)),qy2,H',⟨by have := HJ7.out; have := HK2.out; omega⟩,⟨qb⟩⟩
          ·replace c19 := Bool.eq_false_iff.mpr c19
           subst c19
           replace H := qF H
           have H' := y0.mk H
           clear H
           have p17 : 0 ≤ (x5_2 : Int) := of_decide_eq_true qy1
           have q17 : x5_2 < (a0.size : Int) := of_decide_eq_true qy1
           have hx17 := bt_at a0 x5_2
           replace p17 := eq_true p17
           replace q17 := eq_true q17
           go_wp2_with (first | (go_at_call 97; (with_reducible refine (impl_isDigit.calls (bt a0 x5_2) false _ A18.out).mono ?_); rintro e w' ⟨rfl,⟨nd,rfl⟩⟩))
           go_meet
           exact ⟨_,(x5_2),qy2,H',⟨by have := HJ7.out; have := HK2.out; first | omega | exact Nat.le_refl _⟩,⟨qb⟩⟩
         ·rw [if_neg c15] at H
          have c15b0 := decide_eq_false c15
          clear c15
          (first | rw [c15b0] | (simp only [y18,y17]; rw [c15b0]) | skip)
          have H' := y0.mk H
          clear H
          go_wp2
          go_meet
          exact ⟨_,(x5_2),qy2,H',⟨by have := HJ7.out; have := HK2.out; first | omega | exact Nat.le_refl _⟩,⟨qb⟩⟩
      case rest =>
       clear HC14
       obtain ⟨kq,x5_13,rfl,HA,HJ13,HB⟩ := hcut
       cases kq with
       | zero => exact absurd HA.out (by simp [impl_termAt.j2])
       | succ kj13 =>
        have H := HA.out
        clear HA
        simp only [impl_termAt.j2] at H
        obtain ⟨c20,H⟩ := qo H
        have c20b0 := eq_true c20
        have c20b1 := decide_eq_true c20
        clear c20
        obtain ⟨c21,H⟩ := qo H
        have c21b0 := eq_true c21
        have c21b1 := decide_eq_true c21
        clear c21
        obtain ⟨⟨t279,t280⟩,A22,H⟩ := qB H
        replace H : (if t280.isNone = true then ((impl_in.f t279 (-1000000) 1000000).bind fun t282 => (if t282 = true then ((strconv_Itoa.f t279).bind fun t283 => (if t283.toList = (a0.extract 0 (x5_13 : Int).toNat).toList then (some (1,x5_13)) else (some (0,0)))) else (some (0,0)))) else (some (0,0))) = some (r1,r2) := H
        rcases t280 with _ | q281
        ·have H1 : ((impl_in.f t279 (-1000000) 1000000).bind fun t282 => (if t282 = true then ((strconv_Itoa.f t279).bind fun t283 => (if t283.toList = (a0.extract 0 (x5_13 : Int).toNat).toList then (some (1,x5_13)) else (some (0,0)))) else (some (0,0)))) = some (r1,r2) := by rw [if_pos (show (none : Option Int).isNone = true by rfl)] at H; exact H
         clear H
         have H := H1
         clear H1
         try simp only [y12,y13]
         obtain ⟨t282,A23,H⟩ := qB H
         by_cases c24 : t282 = true
         ·subst c24
          replace H := qT H
          obtain ⟨t283,A25,H⟩ := qB H
          have c26b0 := eq_true (of_decide_eq_true qy1 : 0 ≤ x5_13)
          have c27b0 := eq_true (of_decide_eq_true qy1 : x5_13 ≤ (a0.size : Int))
          by_cases c28 : t283.toList = (a0.extract 0 (x5_13 : Int).toNat).toList
          ·rw [if_pos c28] at H
           have c28b0 : (t283.toList == (a0.extract 0 (x5_13 : Int).toNat).toList) = true := beq_iff_eq.mpr c28
           have c28b1 : (t283.toList != (a0.extract 0 (x5_13 : Int).toNat).toList) = false := bne_eq_false_iff_eq.mpr c28
           clear c28
           simp only [Option.some.injEq,Prod.mk.injEq] at H
           obtain ⟨rfl,rfl⟩ := H
           try go_wp2_with (first | ((with_reducible refine y14 (f := 98) rfl ?_); refine y16 (some 48) rfl rfl Tryz.func98 (by kernel_rfl) rfl #[.string (a0.extract 0 (x5_13 : Int).toNat)] rfl qy0 ?_; (with_reducible refine (strconv_Atoi.calls (a0.extract 0 (x5_13 : Int).toNat) t279 none _ (by exact Tb.below HT.out qb) A22.out).mono ?_); rintro e w29 ⟨ev_,rfl,hev_,hb⟩; obtain rfl := errIs_none hev_; refine ⟨_,rfl, ?_⟩; replace HB := y0.mk (y5 qb hb); (try clear hb); (try clear hb2); (try clear hk); (try clear hi); (try simp only [y12,y13])))
           replace HB := y0.mk (y3 HB.out)
           refine start_ (n := 14) (S := fun w' => True) (ds := []) (fl_ 14 0) (by kernel_rfl) rfl rfl trivial (fun hHeld => ?_); refine with_tabW impl_termAt.tab12 impl_termAt.bits12 (fun HT_ HW_ => ?_)
           generalize w29.drew = w30 at HB hHeld ⊢
           refine qp 0 51 (fl_ 14 1) ?_
           refine qp 1 52 (fl_ 14 3) ?_
           refine qp 2 53 (fl_ 14 7) ?_
           refine qp 3 54 (fl_ 14 15) ?_
           refine one_ (i := 4) (N := some 55) (fl_ 14 31) rfl rfl (one_of HT_.out (by kernel_rfl)) (by decide) (fun K hK => ?_)
           refine goes_ Tryz.func58 (by kernel_rfl) rfl #[.int .i64 t279,.int .i64 (-1000000),.int .i64 1000000] (by rfl) rfl rfl qy0 ?_
           with_reducible refine (impl_in.calls t279 (-1000000) 1000000 true _ A23.out).mono ?_
           rintro e w' ⟨rfl,⟨nd,rfl⟩⟩
           refine ⟨_,rfl, ?_⟩
           refine hK.out _ _ trivial (fun hHeld => ?_)
           clear hK K
           refine norm_ (a' := ?_) ?_ ?_
           rotate_left
           ·show Act.put _ (some 55) _ = _
            simp only [Act.put,qS_,qZ_,qC_,y18,y17]
            rfl
           refine qp 5 56 (fl_ 14 63) ?_
           refine qp 6 57 (fl_ 14 127) ?_
           refine qp 7 58 (fl_ 14 255) ?_
           refine qp 9 60 (fl_ 14 767) ?_
           refine qp 10 61 (fl_ 14 1791) ?_
           refine qp 11 62 (fl_ 14 3839) ?_
           refine one_ (i := 8) (N := some 59) (fl_ 14 4095) rfl rfl (one_of HT_.out (by kernel_rfl)) (by decide) (fun K hK => ?_)
           refine goes_ Tryz.func99 (by kernel_rfl) rfl #[.int .i64 t279] (by rfl) rfl rfl qy0 ?_
           with_reducible refine (strconv_Itoa.calls t279 t283 _ (by exact Tb.below HT.out qb) A25.out).mono ?_
           rintro e w31 ⟨rfl,hb⟩
           refine ⟨_,rfl, ?_⟩
           replace HB := y0.mk (y5 qb hb)
           (try clear hb)
           (try clear hb2)
           (try clear hk)
           (try clear hi)
           refine hK.out _ _ trivial (fun hHeld => ?_)
           clear hK K
           refine norm_ (a' := ?_) ?_ ?_
           rotate_left
           ·show Act.put _ (some 59) _ = _
            simp only [Act.put,qS_,qZ_,qC_,y18,y17]
            rfl
           refine qp 12 63 (fl_ 14 8191) ?_
           refine qp 13 64 (fl_ 14 16383) ?_
           refine done_ (done_of HT_.out (by kernel_rfl)) ?_
           try go_wp2
           go_ret2
           exact ⟨by first | rfl | (simp [y12,y13] <;> rfl) | (simp [*,y12,y13] <;> rfl),qb⟩
          ·rw [if_neg c28] at H
           have c28b0 : (t283.toList == (a0.extract 0 (x5_13 : Int).toNat).toList) = false := beq_eq_false_iff_ne.mpr c28
           have c28b1 : (t283.toList != (a0.extract 0 (x5_13 : Int).toNat).toList) = true := bne_iff_ne.mpr c28
           simp only [Option.some.injEq,Prod.mk.injEq] at H
           obtain ⟨rfl,rfl⟩ := H
           try go_wp2_with (first | ((with_reducible refine y14 (f := 98) rfl ?_); refine y16 (some 48) rfl rfl Tryz.func98 (by kernel_rfl) rfl #[.string (a0.extract 0 (x5_13 : Int).toNat)] rfl qy0 ?_; (with_reducible refine (strconv_Atoi.calls (a0.extract 0 (x5_13 : Int).toNat) t279 none _ (by exact Tb.below HT.out qb) A22.out).mono ?_); rintro e w32 ⟨ev_,rfl,hev_,hb⟩; obtain rfl := errIs_none hev_; refine ⟨_,rfl, ?_⟩; replace HB := y0.mk (y5 qb hb); (try clear hb); (try clear hb2); (try clear hk); (try clear hi); (try simp only [y12,y13])))
           replace HB := y0.mk (y3 HB.out)
           refine start_ (n := 14) (S := fun w' => True) (ds := []) (fl_ 14 0) (by kernel_rfl) rfl rfl trivial (fun hHeld => ?_); refine with_tabW impl_termAt.tab12 impl_termAt.bits12 (fun HT_ HW_ => ?_)
           generalize w32.drew = w33 at HB hHeld ⊢
           refine qp 0 51 (fl_ 14 1) ?_
           refine qp 1 52 (fl_ 14 3) ?_
           refine qp 2 53 (fl_ 14 7) ?_
           refine qp 3 54 (fl_ 14 15) ?_
           refine one_ (i := 4) (N := some 55) (fl_ 14 31) rfl rfl (one_of HT_.out (by kernel_rfl)) (by decide) (fun K hK => ?_)
           refine goes_ Tryz.func58 (by kernel_rfl) rfl #[.int .i64 t279,.int .i64 (-1000000),.int .i64 1000000] (by rfl) rfl rfl qy0 ?_
           with_reducible refine (impl_in.calls t279 (-1000000) 1000000 true _ A23.out).mono ?_
           rintro e w' ⟨rfl,⟨nd,rfl⟩⟩
           refine ⟨_,rfl, ?_⟩
           refine hK.out _ _ trivial (fun hHeld => ?_)
           clear hK K
           refine norm_ (a' := ?_) ?_ ?_
           rotate_left
           ·show Act.put _ (some 55) _ = _
            simp only [Act.put,qS_,qZ_,qC_,y18,y17]
            rfl
           refine qp 5 56 (fl_ 14 63) ?_
           refine qp 6 57 (fl_ 14 127) ?_
           refine qp 7 58 (fl_ 14 255) ?_
           refine qp 9 60 (fl_ 14 767) ?_
           refine qp 10 61 (fl_ 14 1791) ?_
           refine qp 11 62 (fl_ 14 3839) ?_
           refine one_ (i := 8) (N := some 59) (fl_ 14 4095) rfl rfl (one_of HT_.out (by kernel_rfl)) (by decide) (fun K hK => ?_)
           refine goes_ Tryz.func99 (by kernel_rfl) rfl #[.int .i64 t279] (by rfl) rfl rfl qy0 ?_
           with_reducible refine (strconv_Itoa.calls t279 t283 _ (by exact Tb.below HT.out qb) A25.out).mono ?_
           rintro e w34 ⟨rfl,hb⟩
           refine ⟨_,rfl, ?_⟩
           replace HB := y0.mk (y5 qb hb)
           (try clear hb)
           (try clear hb2)
           (try clear hk)
           (try clear hi)
           refine hK.out _ _ trivial (fun hHeld => ?_)
           clear hK K
           refine norm_ (a' := ?_) ?_ ?_
           rotate_left
           ·show Act.put _ (some 59) _ = _
            simp only [Act.put,qS_,qZ_,qC_,y18,y17]
            rfl
           refine qp 12 63 (fl_ 14 8191) ?_
           refine qp 13 64 (fl_ 14 16383) ?_
           refine done_ (done_of HT_.out (by kernel_rfl)) ?_
           try go_wp2
           go_ret2
           exact ⟨by first | rfl | (simp [y12,y13] <;> rfl) | (simp [*,y12,y13] <;> rfl),qb⟩
         ·replace c24 := Bool.eq_false_iff.mpr c24
          subst c24
          replace H := qF H
          simp only [Option.some.injEq,Prod.mk.injEq] at H
          obtain ⟨rfl,rfl⟩ := H
          try go_wp2_with (first | ((with_reducible refine y14 (f := 98) rfl ?_); refine y16 (some 48) rfl rfl Tryz.func98 (by kernel_rfl) rfl #[.string (a0.extract 0 (x5_13 : Int).toNat)] rfl qy0 ?_; (with_reducible refine (strconv_Atoi.calls (a0.extract 0 (x5_13 : Int).toNat) t279 none _ (by exact Tb.below HT.out qb) A22.out).mono ?_); rintro e w35 ⟨ev_,rfl,hev_,hb⟩; obtain rfl := errIs_none hev_; refine ⟨_,rfl, ?_⟩; replace HB := y0.mk (y5 qb hb); (try clear hb); (try clear hb2); (try clear hk); (try clear hi); (try simp only [y12,y13])))
          replace HB := y0.mk (y3 HB.out)
          refine start_ (n := 14) (S := fun w' => True) (ds := []) (fl_ 14 0) (by kernel_rfl) rfl rfl trivial (fun hHeld => ?_); refine with_tabW impl_termAt.tab12 impl_termAt.bits12 (fun HT_ HW_ => ?_)
          generalize w35.drew = w36 at HB hHeld ⊢
          refine qp 0 51 (fl_ 14 1) ?_
          refine qp 1 52 (fl_ 14 3) ?_
          refine qp 2 53 (fl_ 14 7) ?_
          refine qp 3 54 (fl_ 14 15) ?_
          refine one_ (i := 4) (N := some 55) (fl_ 14 31) rfl rfl (one_of HT_.out (by kernel_rfl)) (by decide) (fun K hK => ?_)
          refine goes_ Tryz.func58 (by kernel_rfl) rfl #[.int .i64 t279,.int .i64 (-1000000),.int .i64 1000000] (by rfl) rfl rfl qy0 ?_
          with_reducible refine (impl_in.calls t279 (-1000000) 1000000 false _ A23.out).mono ?_
          rintro e w' ⟨rfl,⟨nd,rfl⟩⟩
          refine ⟨_,rfl, ?_⟩
          refine hK.out _ _ trivial (fun hHeld => ?_)
          clear hK K
          refine norm_ (a' := ?_) ?_ ?_
          rotate_left
          ·show Act.put _ (some 55) _ = _
           simp only [Act.put,qS_,qZ_,qC_,y18,y17]
           rfl
          refine qp 5 56 (fl_ 14 63) ?_
          refine qp 6 57 (fl_ 14 127) ?_
          refine pure_ (i := 7) (N := some 58) (v := undef) (a' := ?_) (fl_ 14 255) rfl rfl (y2 HT_.out (by kernel_rfl)) (fun _ _ _ h => h) (Or.inr ⟨by rfl,rfl⟩) ?_ ?_
          rotate_left
          ·simp only [Act.put,qS_,qZ_,qC_,y18,y17]
           rfl
          refine pure_ (i := 8) (N := some 59) (v := undef) (a' := ?_) (fl_ 14 511) rfl rfl (y2 HT_.out (by kernel_rfl)) (fun _ _ _ h => h) (Or.inr ⟨by rfl,rfl⟩) ?_ ?_
          rotate_left
          ·simp only [Act.put,qS_,qZ_,qC_,y18,y17]
           rfl
          refine pure_ (i := 9) (N := some 60) (v := undef) (a' := ?_) (fl_ 14 1023) rfl rfl (y2 HT_.out (by kernel_rfl)) (fun _ _ _ h => h) (Or.inr ⟨by rfl,rfl⟩) ?_ ?_
          rotate_left
          ·simp only [Act.put,qS_,qZ_,qC_,y18,y17]
           rfl
          refine pure_ (i := 10) (N := some 61) (v := undef) (a' := ?_) (fl_ 14 2047) rfl rfl (y2 HT_.out (by kernel_rfl)) (fun _ _ _ h => h) (Or.inr ⟨by rfl,rfl⟩) ?_ ?_
          rotate_left
          ·simp only [Act.put,qS_,qZ_,qC_,y18,y17]
           rfl
          refine pure_ (i := 11) (N := some 62) (v := undef) (a' := ?_) (fl_ 14 4095) rfl rfl (y2 HT_.out (by kernel_rfl)) (fun _ _ _ h => h) (Or.inr ⟨by rfl,rfl⟩) ?_ ?_
          rotate_left
          ·simp only [Act.put,qS_,qZ_,qC_,y18,y17]
           rfl
          refine pure_ (i := 12) (N := some 63) (v := undef) (a' := ?_) (fl_ 14 8191) rfl rfl (y2 HT_.out (by kernel_rfl)) (fun _ _ _ h => h) (Or.inr ⟨by rfl,rfl⟩) ?_ ?_
          rotate_left
          ·simp only [Act.put,qS_,qZ_,qC_,y18,y17]
           rfl
          refine qp 13 64 (fl_ 14 16383) ?_
          refine done_ (done_of HT_.out (by kernel_rfl)) ?_
          try go_wp2
          go_ret2
          exact ⟨by first | rfl | (simp [y12,y13] <;> rfl) | (simp [*,y12,y13] <;> rfl),qb⟩
        ·have H1 : (some (0,0)) = some (r1,r2) := by rw [if_neg (show ¬ (some q281).isNone = true by simp)] at H; exact H
         clear H
         have H := H1
         clear H1
         try simp only [y12,y13]
         simp only [Option.some.injEq,Prod.mk.injEq] at H
         obtain ⟨rfl,rfl⟩ := H
         try go_wp2_with (first | ((with_reducible refine y14 (f := 98) rfl ?_); refine y16 (some 48) rfl rfl Tryz.func98 (by kernel_rfl) rfl #[.string (a0.extract 0 (x5_13 : Int).toNat)] rfl qy0 ?_; (with_reducible refine (strconv_Atoi.calls (a0.extract 0 (x5_13 : Int).toNat) t279 (some q281) _ (by exact Tb.below HT.out qb) A22.out).mono ?_); rintro e w37 ⟨ev_,rfl,hev_,hb⟩; obtain ⟨te_,pe_,rfl⟩ := errIs_some hev_; refine ⟨_,rfl, ?_⟩; replace HB := y0.mk (y5 qb hb); (try clear hb); (try clear hb2); (try clear hk); (try clear hi); (try simp only [y12,y13])))
         replace HB := y0.mk (y3 HB.out)
         refine start_ (n := 14) (S := fun w' => True) (ds := []) (fl_ 14 0) (by kernel_rfl) rfl rfl trivial (fun hHeld => ?_); refine with_tabW impl_termAt.tab12 impl_termAt.bits12 (fun HT_ HW_ => ?_)
         generalize w37.drew = w38 at HB hHeld ⊢
         refine qp 0 51 (fl_ 14 1) ?_
         refine qp 1 52 (fl_ 14 3) ?_
         refine qp 2 53 (fl_ 14 7) ?_
         refine pure_ (i := 3) (N := some 54) (v := undef) (a' := ?_) (fl_ 14 15) rfl rfl (y2 HT_.out (by kernel_rfl)) (fun _ _ _ h => h) (Or.inr ⟨by rfl,rfl⟩) ?_ ?_
         rotate_left
         ·simp only [Act.put,qS_,qZ_,qC_,y18,y17]
          rfl
         refine pure_ (i := 4) (N := some 55) (v := undef) (a' := ?_) (fl_ 14 31) rfl rfl (y2 HT_.out (by kernel_rfl)) (fun _ _ _ h => h) (Or.inr ⟨by rfl,rfl⟩) ?_ ?_
         rotate_left
         ·simp only [Act.put,qS_,qZ_,qC_,y18,y17]
          rfl
         refine qp 5 56 (fl_ 14 63) ?_
         refine qp 6 57 (fl_ 14 127) ?_
         refine pure_ (i := 7) (N := some 58) (v := undef) (a' := ?_) (fl_ 14 255) rfl rfl (y2 HT_.out (by kernel_rfl)) (fun _ _ _ h => h) (Or.inr ⟨by rfl,rfl⟩) ?_ ?_
         rotate_left
         ·simp only [Act.put,qS_,qZ_,qC_,y18,y17]
          rfl
         refine pure_ (i := 8) (N := some 59) (v := undef) (a' := ?_) (fl_ 14 511) rfl rfl (y2 HT_.out (by kernel_rfl)) (fun _ _ _ h => h) (Or.inr ⟨by rfl,rfl⟩) ?_ ?_
         rotate_left
         ·simp only [Act.put,qS_,qZ_,qC_,y18,y17]
          rfl
         refine pure_ (i := 9) (N := some 60) (v := undef) (a' := ?_) (fl_ 14 1023) rfl rfl (y2 HT_.out (by kernel_rfl)) (fun _ _ _ h => h) (Or.inr ⟨by rfl,rfl⟩) ?_ ?_
         rotate_left
         ·simp only [Act.put,qS_,qZ_,qC_,y18,y17]
          rfl
         refine pure_ (i := 10) (N := some 61) (v := undef) (a' := ?_) (fl_ 14 2047) rfl rfl (y2 HT_.out (by kernel_rfl)) (fun _ _ _ h => h) (Or.inr ⟨by rfl,rfl⟩) ?_ ?_
         rotate_left
         ·simp only [Act.put,qS_,qZ_,qC_,y18,y17]
          rfl
         refine pure_ (i := 11) (N := some 62) (v := undef) (a' := ?_) (fl_ 14 4095) rfl rfl (y2 HT_.out (by kernel_rfl)) (fun _ _ _ h => h) (Or.inr ⟨by rfl,rfl⟩) ?_ ?_
         rotate_left
         ·simp only [Act.put,qS_,qZ_,qC_,y18,y17]
          rfl
         refine pure_ (i := 12) (N := some 63) (v := undef) (a' := ?_) (fl_ 14 8191) rfl rfl (y2 HT_.out (by kernel_rfl)) (fun _ _ _ h => h) (Or.inr ⟨by rfl,rfl⟩) ?_ ?_
         rotate_left
         ·simp only [Act.put,qS_,qZ_,qC_,y18,y17]
          rfl
         refine qp 13 64 (fl_ 14 16383) ?_
         refine done_ (done_of HT_.out (by kernel_rfl)) ?_
         try go_wp2
         go_ret2
         exact ⟨by first | rfl | (simp [y12,y13] <;> rfl) | (simp [*,y12,y13] <;> rfl),qb⟩
     ·replace c13 := Bool.eq_false_iff.mpr c13
      subst c13
      replace H := qF H
      have HC39 := y0.mk H
      clear H
      go_upto_region 14 with (fail)
      go_cut [66] (fun v66 wc => ∃ (kq : Nat) (x66_38 : Bool),v66 = .bool x66_38 ∧ y0 (impl_termAt.j3 kq a0 x66_38 = some (r1,r2)) ∧ y0 (kq ≤ kj7) ∧ y0 (Below w.heap.size w wc))
      case first =>
       have H := HC39.out
       clear HC39
       obtain ⟨c40,H⟩ := qo H
       have c40b0 : decide (0 < (a0.size : Int)) = true := decide_eq_true c40
       have c40b1 : decide (0 < a0.size) = true := decide_eq_true (by omega)
       clear c40
       (first | rw [c40b0] | (simp only [y18,y17]; rw [c40b0]) | skip)
       by_cases c42 : (bt a0 0) ≥ 65
       ·rw [if_pos c42] at H
        have c42b0 : decide (65 ≤ (bt a0 0)) = true := decide_eq_true c42
        clear c42
        have H' := y0.mk H
        clear H
        have p41 : 0 ≤ (0 : Int) := (by omega)
        have q41 : 0 < a0.size := qy3
        have hx41 : ∀ h : 0 < a0.size,((a0[0]'h).toNat : Int) = bt a0 0 := bt_at a0 0
        clear p41
        have qi41 : (0 < (a0.size : Int)) = True := eq_true (of_decide_eq_true qy1)
        replace q41 := eq_true q41
        have p43 : 0 ≤ (0 : Int) := (by omega)
        have q43 : 0 < a0.size := qy3
        have hx43 : ∀ h : 0 < a0.size,((a0[0]'h).toNat : Int) = bt a0 0 := bt_at a0 0
        clear p43
        have qi43 : (0 < (a0.size : Int)) = True := eq_true (of_decide_eq_true qy1)
        replace q43 := eq_true q43
        go_wp2
        go_meet
        exact ⟨_,(decide ((bt a0 0) ≤ 90)),qy2,H',⟨by have := HJ7.out; first | omega | exact Nat.le_refl _⟩,⟨qb⟩⟩
       ·rw [if_neg c42] at H
        have c42b0 : decide (65 ≤ (bt a0 0)) = false := decide_eq_false c42
        clear c42
        have H' := y0.mk H
        clear H
        have p41 : 0 ≤ (0 : Int) := (by omega)
        have q41 : 0 < a0.size := qy3
        have hx41 : ∀ h : 0 < a0.size,((a0[0]'h).toNat : Int) = bt a0 0 := bt_at a0 0
        clear p41
        have qi41 : (0 < (a0.size : Int)) = True := eq_true (of_decide_eq_true qy1)
        replace q41 := eq_true q41
        go_wp2
        go_meet
        exact ⟨_,(false),qy2,H',⟨by have := HJ7.out; first | omega | exact Nat.le_refl _⟩,⟨qb⟩⟩
      case rest =>
       clear HC39
       (try clear c13)
       obtain ⟨kq,x66_38,rfl,HA,HJ38,HB⟩ := hcut
       cases kq with
       | zero => exact absurd HA.out (by simp [impl_termAt.j3])
       | succ kj38 =>
        have H := HA.out
        clear HA
        simp only [impl_termAt.j3] at H
        by_cases c44 : x66_38 = true
        ·subst c44
         replace H := qT H
         obtain ⟨t284,A45,H⟩ := qB H
         by_cases c46 : t284 > 20
         ·rw [if_pos c46] at H
          have c46b0 : decide (20 < t284) = true := decide_eq_true c46
          clear c46
          simp only [Option.some.injEq,Prod.mk.injEq] at H
          obtain ⟨rfl,rfl⟩ := H
          go_wp2_with (first | ((with_reducible refine y14 (f := 100) rfl ?_); refine y16 (some 76) rfl rfl Tryz.func100 (by kernel_rfl) rfl #[.string a0] rfl qy0 ?_; (with_reducible refine (impl_nameLong.calls kj38 a0 t284 _ A45.out).mono ?_); rintro e w' ⟨rfl,⟨nd,rfl⟩⟩; refine ⟨_,rfl, ?_⟩))
          go_ret2
          exact ⟨by first | rfl | (simp [y12,y13] <;> rfl) | (simp [*,y12,y13] <;> rfl),qb⟩
         ·rw [if_neg c46] at H
          have c46b0 : decide (20 < t284) = false := decide_eq_false c46
          clear c46
          have HC47 := y0.mk H
          clear H
          go_upto_region 18 with (first | ((with_reducible refine y14 (f := 100) rfl ?_); refine y16 (some 76) rfl rfl Tryz.func100 (by kernel_rfl) rfl #[.string a0] rfl qy0 ?_; (with_reducible refine (impl_nameLong.calls kj38 a0 t284 _ A45.out).mono ?_); rintro e w' ⟨rfl,⟨nd,rfl⟩⟩; refine ⟨_,rfl, ?_⟩))
          (try simp only [Act.put,qS_,qZ_,qC_])
          go_cut [88] (fun v88 wc => ∃ (kq : Nat) (x88_46 : Bool),v88 = .bool x88_46 ∧ y0 (impl_termAt.j4 kq a0 t284 x88_46 = some (r1,r2)) ∧ y0 (kq ≤ kj38) ∧ y0 (Below w.heap.size w wc))
          case first =>
           have H := HC47.out
           clear HC47
           by_cases c48 : t284 = (a0.size : Int)
           ·rw [if_pos c48] at H
            have c48b0 : (t284 == (a0.size : Int)) = true := beq_iff_eq.mpr c48
            have c48b1 : (t284 != (a0.size : Int)) = false := bne_eq_false_iff_eq.mpr c48
            clear c48
            (first | rw [c48b0] | (simp only [y18,y17]; rw [c48b0]) | skip)
            have H' := y0.mk H
            clear H
            go_wp2
            go_meet
            exact ⟨_,(true),qy2,H',⟨by have := HJ7.out; have := HJ38.out; first | omega | exact Nat.le_refl _⟩,⟨qb⟩⟩
           ·rw [if_neg c48] at H
            have c48b0 : (t284 == (a0.size : Int)) = false := beq_eq_false_iff_ne.mpr c48
            have c48b1 : (t284 != (a0.size : Int)) = true := bne_iff_ne.mpr c48
            (first | rw [c48b0] | (simp only [y18,y17]; rw [c48b0]) | skip)
            obtain ⟨c49,H⟩ := qo H
            have c49b0 : decide (0 ≤ t284) = true := decide_eq_true c49
            clear c49
            obtain ⟨c50,H⟩ := qo H
            have c50b0 : decide (t284 < (a0.size : Int)) = true := decide_eq_true c50
            clear c50
            have H' := y0.mk H
            clear H
            have p51 : 0 ≤ (t284 : Int) := of_decide_eq_true qy1
            have q51 : t284 < (a0.size : Int) := of_decide_eq_true qy1
            have hx51 := bt_at a0 t284
            replace p51 := eq_true p51
            replace q51 := eq_true q51
            go_wp2
            go_meet
            exact ⟨_,(((bt a0 t284) != 40)),qy2,H',⟨by have := HJ7.out; have := HJ38.out; first | omega | exact Nat.le_refl _⟩,⟨qb⟩⟩
          case rest =>
           clear HC47
           (try clear c44 c46b0)
           obtain ⟨kq,x88_46,rfl,HA,HJ46,HB⟩ := hcut
           cases kq with
           | zero => exact absurd HA.out (by simp [impl_termAt.j4])
           | succ kj46 =>
            have H := HA.out
            clear HA
            simp only [impl_termAt.j4] at H
            by_cases c52 : x88_46 = true
            ·subst c52
             replace H := qT H
             simp only [Option.some.injEq,Prod.mk.injEq] at H
             obtain ⟨rfl,rfl⟩ := H
             go_wp2
             go_ret2
             exact ⟨by first | rfl | (simp [y12,y13] <;> rfl) | (simp [*,y12,y13] <;> rfl),qb⟩
            ·replace c52 := Bool.eq_false_iff.mpr c52
             subst c52
             replace H := qF H
             have H' := y0.mk H
             clear H
             go_wp2
             go_loopg [8,9] kj46 (fun kq v8 v9 w' => ∃ (x8_4 : Int) (x9_4 : Bool),v8 = .int .i64 x8_4 ∧ v9 = .bool x9_4 ∧ y0 (impl_termAt.l1 kq a0 x8_4 x9_4 = some (r1,r2)) ∧ y0 (kq ≤ kj46) ∧ y0 (Below w.heap.size w w'))
             case atStart => exact ⟨(t284),(true),qy2,qy2,H',⟨Nat.le_refl _⟩,⟨qb⟩⟩
             case round =>
              clear H'
              (try clear c52)
              obtain ⟨x8_4,x9_4,rfl,rfl,HA,HK4,HB⟩ := hrel
              cases gk with
              | zero => exact absurd HA.out (by simp [impl_termAt.l1])
              | succ k4 =>
               have H := HA.out
               clear HA
               simp only [impl_termAt.l1] at H
               by_cases c53 : x9_4 = true
               ·subst c53
                replace H := qT H
                obtain ⟨ji54,hji54⟩ : ∃ j_ : Int,(wrap64 (x8_4 + 1)) = j_ := ⟨_,rfl⟩
                replace H : (if 0 ≤ (ji54) then (if (ji54) ≤ (a0.size : Int) then ((impl_termAt.f k4 (a0.extract ((ji54) : Int).toNat a0.size)).bind fun bt285 => (if bt285.1 = 0 then (some (0,0)) else (if (wrap64 (x8_4 + (wrap64 (1 + bt285.2)))) < (a0.size : Int) then (if 0 ≤ (wrap64 (x8_4 + (wrap64 (1 + bt285.2)))) then (impl_termAt.l1 k4 a0 (wrap64 (x8_4 + (wrap64 (1 + bt285.2)))) ((bt a0 (wrap64 (x8_4 + (wrap64 (1 + bt285.2))))) == 44)) else (none)) else (impl_termAt.l1 k4 a0 (wrap64 (x8_4 + (wrap64 (1 + bt285.2)))) false)))) else (none)) else (none)) = some (r1,r2) := by first | (rw [hji54] at H; exact H) | (simp only [hji54] at H ⊢; exact H)
                have hji54w : (IntKind.i64.wrap (x8_4 + 1)) = ji54 := (y18 _).trans hji54
                obtain ⟨c55,H⟩ := qo H
                have c55b0 := eq_true c55
                have c55b1 := decide_eq_true c55
                clear c55
                obtain ⟨c56,H⟩ := qo H
                have c56b0 := eq_true c56
                have c56b1 := decide_eq_true c56
                clear c56
                obtain ⟨⟨t285,t286⟩,A57,H⟩ := qB H
                replace H : (if t285 = 0 then (some (0,0)) else (if (wrap64 (x8_4 + (wrap64 (1 + t286)))) < (a0.size : Int) then (if 0 ≤ (wrap64 (x8_4 + (wrap64 (1 + t286)))) then (impl_termAt.l1 k4 a0 (wrap64 (x8_4 + (wrap64 (1 + t286)))) ((bt a0 (wrap64 (x8_4 + (wrap64 (1 + t286))))) == 44)) else (none)) else (impl_termAt.l1 k4 a0 (wrap64 (x8_4 + (wrap64 (1 + t286)))) false))) = some (r1,r2) := H
                by_cases c58 : t285 = 0
                ·rw [if_pos c58] at H
                 have c58b0 : (t285 == 0) = true := beq_iff_eq.mpr c58
                 have c58b1 : (t285 != 0) = false := bne_eq_false_iff_eq.mpr c58
                 clear c58
                 simp only [Option.some.injEq,Prod.mk.injEq] at H
                 obtain ⟨rfl,rfl⟩ := H
                 go_wp2_with (first | ((with_reducible refine y14 (f := 86) rfl ?_); refine y16 (some 106) rfl rfl Tryz.func86 (by kernel_rfl) rfl #[.string (a0.extract ((ji54) : Int).toNat a0.size)] rfl (by (try simp only [qM_,List.map_cons,List.map_nil]); first | done | (simp only [hji54]; rfl) | rfl | (simp only [qD_,qT_]; rfl)) ?_; (with_reducible refine (ih k4 (by have := HJ7.out; have := HJ38.out; have := HJ46.out; have := HK4.out; omega) (a0.extract ((ji54) : Int).toNat a0.size) t285 t286 _ (by exact Tb.below HT.out qb) A57.out).mono ?_); rintro e w59 ⟨rfl,hb⟩; refine ⟨_,rfl, ?_⟩; replace HB := y0.mk (y5 qb hb); (try clear hb); (try clear hb2); (try clear hk); (try clear hi)))
                 go_ret2
                 exact ⟨by first | rfl | (simp [y12,y13] <;> rfl) | (simp only [← hji54]; first | rfl | (simp [y12,y13] <;> rfl)) | (simp [*,y12,y13] <;> rfl),qb⟩
                ·rw [if_neg c58] at H
                 have c58b0 : (t285 == 0) = false := beq_eq_false_iff_ne.mpr c58
                 have c58b1 : (t285 != 0) = true := bne_iff_ne.mpr c58
                 by_cases c60 : (wrap64 (x8_4 + (wrap64 (1 + t286)))) < (a0.size : Int)
                 ·rw [if_pos c60] at H
                  have c60b0 := decide_eq_true c60
                  clear c60
                  obtain ⟨ji61,hji61⟩ : ∃ j_ : Int,(wrap64 (x8_4 + (wrap64 (1 + t286)))) = j_ := ⟨_,rfl⟩
                  replace H : (if 0 ≤ (ji61) then (impl_termAt.l1 k4 a0 ji61 ((bt a0 (ji61)) == 44)) else (none)) = some (r1,r2) := by first | (rw [hji61] at H; exact H) | (simp only [hji61] at H ⊢; exact H)
                  (try rw [hji61] at c60b0)
                  (try rw [hji61] at A57)
                  have hji61w : (IntKind.i64.wrap (x8_4 + (wrap64 (1 + t286)))) = ji61 := (y18 _).trans hji61
                  obtain ⟨c62,H⟩ := qo H
                  have c62b0 : decide (0 ≤ (ji61)) = true := decide_eq_true c62
                  clear c62
                  have H' := y0.mk H
                  clear H
                  go_wp2_with (first | ((with_reducible refine y14 (f := 86) rfl ?_); refine y16 (some 106) rfl rfl Tryz.func86 (by kernel_rfl) rfl #[.string (a0.extract ((ji54) : Int).toNat a0.size)] rfl (by (try simp only [qM_,List.map_cons,List.map_nil]); first | done | (simp only [hji54]; rfl) | rfl | (simp only [qD_,qT_]; rfl)) ?_; (with_reducible refine (ih k4 (by have := HJ7.out; have := HJ38.out; have := HJ46.out; have := HK4.out; omega) (a0.extract ((ji54) : Int).toNat a0.size) t285 t286 _ (by exact Tb.below HT.out qb) A57.out).mono ?_); rintro e w64 ⟨rfl,hb⟩; refine ⟨_,rfl, ?_⟩; replace HB := y0.mk (y5 qb hb); (try clear hb); (try clear hb2); (try clear hk); (try clear hi); have p63 : 0 ≤ ((ji61) : Int) := of_decide_eq_true qy1; have q63 : (ji61) < (a0.size : Int) := of_decide_eq_true qy1; have hx63 := bt_at a0 (ji61); replace p63 := eq_true p63; replace q63 := eq_true q63))
                  go_roundg k4
                  case measure => have := HJ7.out; have := HJ38.out; have := HJ46.out; have := HK4.out; omega
                  exact ⟨(ji61),(((bt a0 (ji61)) == 44)),(by first | rfl | (simp; done) | (simp only [← hji61] <;> (first | rfl | simp)) | (simp [*]; done)),(by first | rfl | (simp; done) | (simp only [← hji61] <;> (first | rfl | simp)) | (simp [*]; done)),H',⟨by have := HJ7.out; have := HJ38.out; have := HJ46.out; have := HK4.out; omega⟩,⟨qb⟩⟩
                 ·rw [if_neg c60] at H
                  have c60b0 := decide_eq_false c60
                  clear c60
                  have H' := y0.mk H
                  clear H
                  go_wp2_with (first | ((with_reducible refine y14 (f := 86) rfl ?_); refine y16 (some 106) rfl rfl Tryz.func86 (by kernel_rfl) rfl #[.string (a0.extract ((ji54) : Int).toNat a0.size)] rfl (by (try simp only [qM_,List.map_cons,List.map_nil]); first | done | (simp only [hji54]; rfl) | rfl | (simp only [qD_,qT_]; rfl)) ?_; (with_reducible refine (ih k4 (by have := HJ7.out; have := HJ38.out; have := HJ46.out; have := HK4.out; omega) (a0.extract ((ji54) : Int).toNat a0.size) t285 t286 _ (by exact Tb.below HT.out qb) A57.out).mono ?_); rintro e w65 ⟨rfl,hb⟩; refine ⟨_,rfl, ?_⟩; replace HB := y0.mk (y5 qb hb); (try clear hb); (try clear hb2); (try clear hk); (try clear hi)))
                  go_roundg k4
                  case measure => have := HJ7.out; have := HJ38.out; have := HJ46.out; have := HK4.out; omega
                  exact ⟨(wrap64 (x8_4 + (wrap64 (1 + t286)))),(false),qy2,qy2,H',⟨by have := HJ7.out; have := HJ38.out; have := HJ46.out; have := HK4.out; omega⟩,⟨qb⟩⟩
               ·replace c53 := Bool.eq_false_iff.mpr c53
                subst c53
                replace H := qF H
                by_cases c66 : x8_4 < (a0.size : Int)
                ·rw [if_pos c66] at H
                 have c66b0 := decide_eq_true c66
                 clear c66
                 obtain ⟨c67,H⟩ := qo H
                 have c67b0 : decide (0 ≤ x8_4) = true := decide_eq_true c67
                 clear c67
                 by_cases c69 : (bt a0 x8_4) = 41
                 ·rw [if_pos c69] at H
                  have c69b0 : ((bt a0 x8_4) == 41) = true := beq_iff_eq.mpr c69
                  have c69b1 : ((bt a0 x8_4) != 41) = false := bne_eq_false_iff_eq.mpr c69
                  clear c69
                  simp only [Option.some.injEq,Prod.mk.injEq] at H
                  obtain ⟨rfl,rfl⟩ := H
                  have p68 : 0 ≤ (x8_4 : Int) := of_decide_eq_true qy1
                  have q68 : x8_4 < (a0.size : Int) := of_decide_eq_true qy1
                  have hx68 := bt_at a0 x8_4
                  replace p68 := eq_true p68
                  replace q68 := eq_true q68
                  go_wp2
                  go_ret2
                  exact ⟨by first | rfl | (simp [y12,y13] <;> rfl) | (simp [*,y12,y13] <;> rfl),qb⟩
                 ·rw [if_neg c69] at H
                  have c69b0 : ((bt a0 x8_4) == 41) = false := beq_eq_false_iff_ne.mpr c69
                  have c69b1 : ((bt a0 x8_4) != 41) = true := bne_iff_ne.mpr c69
                  simp only [Option.some.injEq,Prod.mk.injEq] at H
                  obtain ⟨rfl,rfl⟩ := H
                  have p68 : 0 ≤ (x8_4 : Int) := of_decide_eq_true qy1
                  have q68 : x8_4 < (a0.size : Int) := of_decide_eq_true qy1
                  have hx68 := bt_at a0 x8_4
                  replace p68 := eq_true p68
                  replace q68 := eq_true q68
                  go_wp2
                  go_ret2
                  exact ⟨by first | rfl | (simp [y12,y13] <;> rfl) | (simp [*,y12,y13] <;> rfl),qb⟩
                ·rw [if_neg c66] at H
                 have c66b0 := decide_eq_false c66
                 clear c66
                 simp only [Option.some.injEq,Prod.mk.injEq] at H
                 obtain ⟨rfl,rfl⟩ := H
                 go_wp2
                 go_ret2
                 exact ⟨by first | rfl | (simp [y12,y13] <;> rfl) | (simp [*,y12,y13] <;> rfl),qb⟩
        ·replace c44 := Bool.eq_false_iff.mpr c44
         subst c44
         replace H := qF H
         simp only [Option.some.injEq,Prod.mk.injEq] at H
         obtain ⟨rfl,rfl⟩ := H
         go_wp2
         go_ret2
         exact ⟨by first | rfl | (simp [y12,y13] <;> rfl) | (simp [*,y12,y13] <;> rfl),qb⟩
end Go.Proofs.YtocmfolajckaeaaGreatDoor.Pe
end

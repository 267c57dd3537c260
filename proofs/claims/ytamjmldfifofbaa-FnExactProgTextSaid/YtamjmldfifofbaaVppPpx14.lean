-- Cut by prune.py, a program of this session, out of the texts of this claim: Lean checks it.
import Derived.Test.YtamjmldfifofbaaVppPpx0
import Derived.Test.YtamjmldfifofbaaVppPpx9
namespace Go.Proofs.Ytamjmldfifofbaa.Pp
open Go.RowKit Go.Proofs.YtamjmldfifofbaaW.PrintWords Go.Proofs.YtamjmldfifofbaaW.PrintLast Go.Proofs.YtamjmldfifofbaaW.PrintMore
attribute [local go_sem] max2_int min2_int max_two min_two max_three min_three max_four min_four   -- for this text's walks alone
set_option linter.unusedVariables false
set_option linter.unusedSimpArgs false
def laws_szTypeDeclS.l0 : Nat → List (S112) → Int → Int → Option (Int)
 | 0,_,_,_ => none
 | k + 1,x0,x1,x5 => if x5 < (x0.length : Int) then (if 0 ≤ x5 then ((laws_szTypeDecl.f k ((rd_T112 x0 x5).f0) ((rd_T112 x0 x5).f1) x1).bind fun t388 => (if t388 < 0 then (some (-1)) else (laws_szTypeDeclS.l0 k x0 t388 (wrap64 (x5 + 1))))) else (none)) else (some x1)
def laws_szTypeDeclS.f (k : Nat) (l0 : List (S112)) (a1 : Int) : Option (Int) := if (wrap64 (a1 - (l0.length : Int))) < 0 then (some (-1)) else (laws_szTypeDeclS.l0 k l0 (wrap64 (a1 - (l0.length : Int))) 0)
set_option maxHeartbeats 8000000 in
set_option maxRecDepth 100000 in
theorem laws_szTypeDeclS.calls (k : Nat) (A0 : Option Addr) (c0 : Nat) (l0 : List (S112)) (a1 : Int) (r : Int) (w : World) (hr0 : Kd.C k112 w A0 l0.length l0) (hc0 : l0.length ≤ c0) (h : laws_szTypeDeclS.f k l0 a1 = some r) :
  Calls Try.prog 34 #[.slice A0 l0.length c0,.int .i64 a1] w fun e w' => e = .returned (.int .i64 r) ∧ Below w.heap.size w w' := by
 have hu112 := Try.underlying112
 have HR0 := y0.mk hr0
 have HC0 := y0.mk hc0
 clear hr0 hc0
 have HB := y0.mk (Below.refl w.heap.size w)
 have H : (if (wrap64 (a1 - (l0.length : Int))) < 0 then (some (-1)) else (laws_szTypeDeclS.l0 k l0 (wrap64 (a1 - (l0.length : Int))) 0)) = some r := h
 clear h
 by_cases c3 : (wrap64 (a1 - (l0.length : Int))) < 0
 ·rw [if_pos c3] at H
  have c3b0 := decide_eq_true c3
  clear c3
  obtain rfl := Option.some.inj H
  go_enter Try.func34,Try.ntmps34
  go_wp2
  go_ret
  exact ⟨by first | rfl | (simp [y12,y13] <;> rfl) | (simp [*,y12,y13] <;> rfl),qb⟩
 ·rw [if_neg c3] at H
  have c3b0 := decide_eq_false c3
  clear c3
  have H' := y0.mk H
  clear H
  go_enter Try.func34,Try.ntmps34
  go_wp2
  go_loopg [1,5] k (fun kq v1 v5 w' => ∃ (x1_1 : Int) (x5_1 : Int),v1 = .int .i64 x1_1 ∧ v5 = .int .i64 x5_1 ∧ y0 (laws_szTypeDeclS.l0 kq l0 x1_1 x5_1 = some r) ∧ y0 (kq ≤ k) ∧ y0 (Below w.heap.size w w'))
  case atStart => exact ⟨(wrap64 (a1 - (l0.length : Int))),(0),qy2,qy2,H',⟨Nat.le_refl _⟩,⟨qb⟩⟩
  case round =>
   clear H'
   (try clear c3b0)
   obtain ⟨x1_1,x5_1,rfl,rfl,HA,HK1,HB⟩ := hrel
   cases gk with
   | zero => exact absurd HA.out (by simp [laws_szTypeDeclS.l0])
   | succ k1 =>
    have H := HA.out
    clear HA
    simp only [laws_szTypeDeclS.l0] at H
    by_cases c4 : x5_1 < (l0.length : Int)
    ·rw [if_pos c4] at H
     have c4b0 := decide_eq_true c4
     clear c4
     obtain ⟨c5,H⟩ := qo H
     have c5b0 : decide (0 ≤ x5_1) = true := decide_eq_true c5
     clear c5
     obtain ⟨t388,A6,H⟩ := qB H
     have p387 : 0 ≤ (x5_1 : Int) := of_decide_eq_true qy1
     have q387 : x5_1 < (l0.length : Int) := of_decide_eq_true qy1
     obtain ⟨ad387,A387_1,c387_1,e387,hx387_0,hx387_1,hl387_1,hi387_1⟩ := at_T112 HR0.out x5_1 p387 q387
     cases e387
     replace hx387_0 := (HB.out.cell (World.block_lt_of_cell? w _ hx387_0)).trans hx387_0
     replace hx387_1 := (HB.out.cell (World.block_lt_of_cell? w _ hx387_1)).trans hx387_1
     have HR387_1 := y0.mk hi387_1
     have HC387_1 := y0.mk hl387_1
     clear hi387_1 hl387_1
     replace p387 := eq_true p387
     replace q387 := eq_true q387
     by_cases c7 : t388 < 0
     ·rw [if_pos c7] at H
      have c7b0 := decide_eq_true c7
      clear c7
      obtain rfl := Option.some.inj H
      go_wp2_with (first | ((with_reducible refine y15 (f := 64) rfl ?_); refine y17 (some 23) rfl rfl Try.func64 (by kernel_rfl) rfl #[.agg #[.string ((rd_T112 l0 x5_1).f0),.slice A387_1 ((rd_T112 l0 x5_1).f1).length c387_1],.int .i64 x1_1] rfl qy0 ?_; (with_reducible refine (laws_szTypeDecl.calls k1 ((rd_T112 l0 x5_1).f0) _ _ ((rd_T112 l0 x5_1).f1) x1_1 t388 _ (qc (Kd.C_below HR387_1.out HB.out)) HC387_1.out A6.out).mono ?_); rintro e w8 ⟨rfl,hb⟩; refine ⟨_,rfl, ?_⟩; replace HB := y0.mk (y4 qb hb); (try clear hb); (try clear hb2); (try clear hk); (try clear hi)))
      go_ret
      exact ⟨by first | rfl | (simp [y12,y13] <;> rfl) | (simp [*,y12,y13] <;> rfl),qb⟩
     ·rw [if_neg c7] at H
      have c7b0 := decide_eq_false c7
      clear c7
      have H' := y0.mk H
      clear H
      go_wp2_with (first | ((with_reducible refine y15 (f := 64) rfl ?_); refine y17 (some 23) rfl rfl Try.func64 (by kernel_rfl) rfl #[.agg #[.string ((rd_T112 l0 x5_1).f0),.slice A387_1 ((rd_T112 l0 x5_1).f1).length c387_1],.int .i64 x1_1] rfl qy0 ?_; (with_reducible refine (laws_szTypeDecl.calls k1 ((rd_T112 l0 x5_1).f0) _ _ ((rd_T112 l0 x5_1).f1) x1_1 t388 _ (qc (Kd.C_below HR387_1.out HB.out)) HC387_1.out A6.out).mono ?_); rintro e w9 ⟨rfl,hb⟩; refine ⟨_,rfl, ?_⟩; replace HB := y0.mk (y4 qb hb); (try clear hb); (try clear hb2); (try clear hk); (try clear hi)))
      go_roundg k1
      case measure => have := HK1.out; omega
      exact ⟨(t388),(wrap64 (x5_1 + 1)),qy2,qy2,H',⟨by have := HK1.out; omega⟩,⟨qb⟩⟩
    ·rw [if_neg c4] at H
     have c4b0 := decide_eq_false c4
     clear c4
     obtain rfl := Option.some.inj H
     go_wp2
     go_ret
     exact ⟨by first | rfl | (simp [y12,y13] <;> rfl) | (simp [*,y12,y13] <;> rfl),qb⟩
def laws_szRelDecl.f (k : Nat) (a0_0 : ByteArray) (l0_1 : List ByteArray) (a0_2 : Int) (a1 : Int) : Option (Int) := if (wrap64 (a1 - (a0_0.size : Int))) < 0 then (some (-1)) else ((laws_szStringS.f k l0_1 (wrap64 (a1 - (a0_0.size : Int)))).bind fun t390 => (if t390 < 0 then (some (-1)) else (some t390)))
set_option maxHeartbeats 8000000 in
set_option maxRecDepth 100000 in
theorem laws_szRelDecl.calls (k : Nat) (a0_0 : ByteArray) (A0_1 : Option Addr) (c0_1 : Nat) (l0_1 : List ByteArray) (a0_2 : Int) (a1 : Int) (r : Int) (w : World) (hr0_1 : Kd.C Kd.string w A0_1 l0_1.length l0_1) (hc0_1 : l0_1.length ≤ c0_1) (h : laws_szRelDecl.f k a0_0 l0_1 a0_2 a1 = some r) :
  Calls Try.prog 65 #[.agg #[.string a0_0,.slice A0_1 l0_1.length c0_1,.int .i64 a0_2],.int .i64 a1] w fun e w' => e = .returned (.int .i64 r) ∧ Below w.heap.size w w' := by
 have hu114 := Try.underlying114
 have HR0_1 := y0.mk hr0_1
 have HC0_1 := y0.mk hc0_1
 clear hr0_1 hc0_1
 have HB := y0.mk (Below.refl w.heap.size w)
 have H : (if (wrap64 (a1 - (a0_0.size : Int))) < 0 then (some (-1)) else ((laws_szStringS.f k l0_1 (wrap64 (a1 - (a0_0.size : Int)))).bind fun t390 => (if t390 < 0 then (some (-1)) else (some t390)))) = some r := h
 clear h
 by_cases c3 : (wrap64 (a1 - (a0_0.size : Int))) < 0
 ·rw [if_pos c3] at H
  have c3b0 := decide_eq_true c3
  clear c3
  obtain rfl := Option.some.inj H
  go_enter Try.func65,Try.ntmps65
  go_wp2_with (first | ((with_reducible refine y16 (N := 2) rfl ?_); refine qe 2 #[.string a0_0,.slice A0_1 l0_1.length c0_1,.int .i64 a0_2] 114 ?_; intro gb389 hg w4 hbox hb; have BK389 := y0.mk (hbox); have GW389 := y0.mk (qg (w := w) hg); have GE389 := y0.mk (qg (w := w) hg); replace HB := y0.mk (y4 qb hb); clear hb hbox hg; obtain ⟨hcz5_0,hcz5_1,hcz5_2,hfz5_0,hfz5_1,hfz5_2⟩ := qz3 BK389.out))
  go_ret
  exact ⟨by first | rfl | (simp [y12,y13] <;> rfl) | (simp [*,y12,y13] <;> rfl),qb⟩
 ·rw [if_neg c3] at H
  have c3b0 := decide_eq_false c3
  clear c3
  obtain ⟨t390,A6,H⟩ := qB H
  by_cases c7 : t390 < 0
  ·rw [if_pos c7] at H
   have c7b0 := decide_eq_true c7
   clear c7
   obtain rfl := Option.some.inj H
   go_enter Try.func65,Try.ntmps65
   go_wp2_with (first | ((with_reducible refine y16 (N := 2) rfl ?_); refine qe 2 #[.string a0_0,.slice A0_1 l0_1.length c0_1,.int .i64 a0_2] 114 ?_; intro gb389 hg w8 hbox hb; have BK389 := y0.mk (hbox); have GW389 := y0.mk (qg (w := w) hg); have GE389 := y0.mk (qg (w := w) hg); replace HB := y0.mk (y4 qb hb); clear hb hbox hg; obtain ⟨hcz9_0,hcz9_1,hcz9_2,hfz9_0,hfz9_1,hfz9_2⟩ := qz3 BK389.out) | ((with_reducible refine y15 (f := 86) rfl ?_); refine y17 (some 15) rfl rfl Try.func86 (by kernel_rfl) rfl #[.slice A0_1 l0_1.length c0_1,.int .i64 (wrap64 (a1 - (a0_0.size : Int)))] rfl qy0 ?_; (with_reducible refine (laws_szStringS.calls k _ _ l0_1 (wrap64 (a1 - (a0_0.size : Int))) t390 _ (qc (Kd.C_below HR0_1.out HB.out)) HC0_1.out A6.out).mono ?_); rintro e w' ⟨rfl,⟨nd,rfl⟩⟩; refine ⟨_,rfl, ?_⟩))
   go_ret
   exact ⟨by first | rfl | (simp [y12,y13] <;> rfl) | (simp [*,y12,y13] <;> rfl),qb⟩
  ·rw [if_neg c7] at H
   have c7b0 := decide_eq_false c7
   clear c7
   obtain rfl := Option.some.inj H
   go_enter Try.func65,Try.ntmps65
   go_wp2_with (first | ((with_reducible refine y16 (N := 2) rfl ?_); refine qe 2 #[.string a0_0,.slice A0_1 l0_1.length c0_1,.int .i64 a0_2] 114 ?_; intro gb389 hg w10 hbox hb; have BK389 := y0.mk (hbox); have GW389 := y0.mk (qg (w := w) hg); have GE389 := y0.mk (qg (w := w) hg); replace HB := y0.mk (y4 qb hb); clear hb hbox hg; obtain ⟨hcz11_0,hcz11_1,hcz11_2,hfz11_0,hfz11_1,hfz11_2⟩ := qz3 BK389.out) | ((with_reducible refine y15 (f := 86) rfl ?_); refine y17 (some 15) rfl rfl Try.func86 (by kernel_rfl) rfl #[.slice A0_1 l0_1.length c0_1,.int .i64 (wrap64 (a1 - (a0_0.size : Int)))] rfl qy0 ?_; (with_reducible refine (laws_szStringS.calls k _ _ l0_1 (wrap64 (a1 - (a0_0.size : Int))) t390 _ (qc (Kd.C_below HR0_1.out HB.out)) HC0_1.out A6.out).mono ?_); rintro e w' ⟨rfl,⟨nd,rfl⟩⟩; refine ⟨_,rfl, ?_⟩))
   go_ret
   exact ⟨by first | rfl | (simp [y12,y13] <;> rfl) | (simp [*,y12,y13] <;> rfl),qb⟩
def laws_szRelDeclS.l0 : Nat → List (S114) → Int → Int → Option (Int)
 | 0,_,_,_ => none
 | k + 1,x0,x1,x5 => if x5 < (x0.length : Int) then (if 0 ≤ x5 then ((laws_szRelDecl.f k ((rd_T114 x0 x5).f0) ((rd_T114 x0 x5).f1) ((rd_T114 x0 x5).f2) x1).bind fun t392 => (if t392 < 0 then (some (-1)) else (laws_szRelDeclS.l0 k x0 t392 (wrap64 (x5 + 1))))) else (none)) else (some x1)
def laws_szRelDeclS.f (k : Nat) (l0 : List (S114)) (a1 : Int) : Option (Int) := if (wrap64 (a1 - (l0.length : Int))) < 0 then (some (-1)) else (laws_szRelDeclS.l0 k l0 (wrap64 (a1 - (l0.length : Int))) 0)
set_option maxHeartbeats 8000000 in
set_option maxRecDepth 100000 in
theorem laws_szRelDeclS.calls (k : Nat) (A0 : Option Addr) (c0 : Nat) (l0 : List (S114)) (a1 : Int) (r : Int) (w : World) (hr0 : Kd.C k114 w A0 l0.length l0) (hc0 : l0.length ≤ c0) (h : laws_szRelDeclS.f k l0 a1 = some r) :
  Calls Try.prog 35 #[.slice A0 l0.length c0,.int .i64 a1] w fun e w' => e = .returned (.int .i64 r) ∧ Below w.heap.size w w' := by
 have hu114 := Try.underlying114
 have HR0 := y0.mk hr0
 have HC0 := y0.mk hc0
 clear hr0 hc0
 have HB := y0.mk (Below.refl w.heap.size w)
 have H : (if (wrap64 (a1 - (l0.length : Int))) < 0 then (some (-1)) else (laws_szRelDeclS.l0 k l0 (wrap64 (a1 - (l0.length : Int))) 0)) = some r := h
 clear h
 by_cases c3 : (wrap64 (a1 - (l0.length : Int))) < 0
 ·rw [if_pos c3] at H
  have c3b0 := decide_eq_true c3
  clear c3
  obtain rfl := Option.some.inj H
  go_enter Try.func35,Try.ntmps35
  go_wp2
  go_ret
  exact ⟨by first | rfl | (simp [y12,y13] <;> rfl) | (simp [*,y12,y13] <;> rfl),qb⟩
 ·rw [if_neg c3] at H
  have c3b0 := decide_eq_false c3
  clear c3
  have H' := y0.mk H
  clear H
  go_enter Try.func35,Try.ntmps35
  go_wp2
  go_loopg [1,5] k (fun kq v1 v5 w' => ∃ (x1_1 : Int) (x5_1 : Int),v1 = .int .i64 x1_1 ∧ v5 = .int .i64 x5_1 ∧ y0 (laws_szRelDeclS.l0 kq l0 x1_1 x5_1 = some r) ∧ y0 (kq ≤ k) ∧ y0 (Below w.heap.size w w'))
  case atStart => exact ⟨(wrap64 (a1 - (l0.length : Int))),(0),qy2,qy2,H',⟨Nat.le_refl _⟩,⟨qb⟩⟩
  case round =>
   clear H'
   (try clear c3b0)
   obtain ⟨x1_1,x5_1,rfl,rfl,HA,HK1,HB⟩ := hrel
   cases gk with
   | zero => exact absurd HA.out (by simp [laws_szRelDeclS.l0])
   | succ k1 =>
    have H := HA.out
    clear HA
    simp only [laws_szRelDeclS.l0] at H
    by_cases c4 : x5_1 < (l0.length : Int)
    ·rw [if_pos c4] at H
     have c4b0 := decide_eq_true c4
     clear c4
     obtain ⟨c5,H⟩ := qo H
     have c5b0 : decide (0 ≤ x5_1) = true := decide_eq_true c5
     clear c5
     obtain ⟨t392,A6,H⟩ := qB H
     have p391 : 0 ≤ (x5_1 : Int) := of_decide_eq_true qy1
     have q391 : x5_1 < (l0.length : Int) := of_decide_eq_true qy1
     obtain ⟨ad391,A391_1,c391_1,e391,hx391_0,hx391_1,hx391_2,hl391_1,hi391_1⟩ := at_T114 HR0.out x5_1 p391 q391
     cases e391
     replace hx391_0 := (HB.out.cell (World.block_lt_of_cell? w _ hx391_0)).trans hx391_0
     replace hx391_1 := (HB.out.cell (World.block_lt_of_cell? w _ hx391_1)).trans hx391_1
     replace hx391_2 := (HB.out.cell (World.block_lt_of_cell? w _ hx391_2)).trans hx391_2
     have HR391_1 := y0.mk hi391_1
     have HC391_1 := y0.mk hl391_1
     clear hi391_1 hl391_1
     replace p391 := eq_true p391
     replace q391 := eq_true q391
     by_cases c7 : t392 < 0
     ·rw [if_pos c7] at H
      have c7b0 := decide_eq_true c7
      clear c7
      obtain rfl := Option.some.inj H
      go_wp2_with (first | ((with_reducible refine y15 (f := 65) rfl ?_); refine y17 (some 23) rfl rfl Try.func65 (by kernel_rfl) rfl #[.agg #[.string ((rd_T114 l0 x5_1).f0),.slice A391_1 ((rd_T114 l0 x5_1).f1).length c391_1,.int .i64 ((rd_T114 l0 x5_1).f2)],.int .i64 x1_1] rfl qy0 ?_; (with_reducible refine (laws_szRelDecl.calls k1 ((rd_T114 l0 x5_1).f0) _ _ ((rd_T114 l0 x5_1).f1) ((rd_T114 l0 x5_1).f2) x1_1 t392 _ (qc (Kd.C_below HR391_1.out HB.out)) HC391_1.out A6.out).mono ?_); rintro e w8 ⟨rfl,hb⟩; refine ⟨_,rfl, ?_⟩; replace HB := y0.mk (y4 qb hb); (try clear hb); (try clear hb2); (try clear hk); (try clear hi)))
      go_ret
      exact ⟨by first | rfl | (simp [y12,y13] <;> rfl) | (simp [*,y12,y13] <;> rfl),qb⟩
     ·rw [if_neg c7] at H
      have c7b0 := decide_eq_false c7
      clear c7
      have H' := y0.mk H
      clear H
      go_wp2_with (first | ((with_reducible refine y15 (f := 65) rfl ?_); refine y17 (some 23) rfl rfl Try.func65 (by kernel_rfl) rfl #[.agg #[.string ((rd_T114 l0 x5_1).f0),.slice A391_1 ((rd_T114 l0 x5_1).f1).length c391_1,.int .i64 ((rd_T114 l0 x5_1).f2)],.int .i64 x1_1] rfl qy0 ?_; (with_reducible refine (laws_szRelDecl.calls k1 ((rd_T114 l0 x5_1).f0) _ _ ((rd_T114 l0 x5_1).f1) ((rd_T114 l0 x5_1).f2) x1_1 t392 _ (qc (Kd.C_below HR391_1.out HB.out)) HC391_1.out A6.out).mono ?_); rintro e w9 ⟨rfl,hb⟩; refine ⟨_,rfl, ?_⟩; replace HB := y0.mk (y4 qb hb); (try clear hb); (try clear hb2); (try clear hk); (try clear hi)))
      go_roundg k1
      case measure => have := HK1.out; omega
      exact ⟨(t392),(wrap64 (x5_1 + 1)),qy2,qy2,H',⟨by have := HK1.out; omega⟩,⟨qb⟩⟩
    ·rw [if_neg c4] at H
     have c4b0 := decide_eq_false c4
     clear c4
     obtain rfl := Option.some.inj H
     go_wp2
     go_ret
     exact ⟨by first | rfl | (simp [y12,y13] <;> rfl) | (simp [*,y12,y13] <;> rfl),qb⟩
def laws_szRuleS.l0 : Nat → List (S28) → Int → Int → Option (Int)
 | 0,_,_,_ => none
 | k + 1,x0,x1,x5 => if x5 < (x0.length : Int) then (if 0 ≤ x5 then ((laws_szRule.f k ((rd_T28 x0 x5).f0) ((rd_T28 x0 x5).f1.f0) ((rd_T28 x0 x5).f1.f1) ((rd_T28 x0 x5).f1.f2) ((rd_T28 x0 x5).f2) x1).bind fun t394 => (if t394 < 0 then (some (-1)) else (laws_szRuleS.l0 k x0 t394 (wrap64 (x5 + 1))))) else (none)) else (some x1)
def laws_szRuleS.f (k : Nat) (l0 : List (S28)) (a1 : Int) : Option (Int) := if (wrap64 (a1 - (l0.length : Int))) < 0 then (some (-1)) else (laws_szRuleS.l0 k l0 (wrap64 (a1 - (l0.length : Int))) 0)
set_option maxHeartbeats 8000000 in
set_option maxRecDepth 100000 in
theorem laws_szRuleS.calls (k : Nat) (A0 : Option Addr) (c0 : Nat) (l0 : List (S28)) (a1 : Int) (r : Int) (w : World) (hr0 : Kd.C k28 w A0 l0.length l0) (hc0 : l0.length ≤ c0) (h : laws_szRuleS.f k l0 a1 = some r) :
  Calls Try.prog 36 #[.slice A0 l0.length c0,.int .i64 a1] w fun e w' => e = .returned (.int .i64 r) ∧ Below w.heap.size w w' := by
 have hu28 := Try.underlying28
 have HR0 := y0.mk hr0
 have HC0 := y0.mk hc0
 clear hr0 hc0
 have HB := y0.mk (Below.refl w.heap.size w)
 have H : (if (wrap64 (a1 - (l0.length : Int))) < 0 then (some (-1)) else (laws_szRuleS.l0 k l0 (wrap64 (a1 - (l0.length : Int))) 0)) = some r := h
 clear h
 by_cases c3 : (wrap64 (a1 - (l0.length : Int))) < 0
 ·rw [if_pos c3] at H
  have c3b0 := decide_eq_true c3
  clear c3
  obtain rfl := Option.some.inj H
  go_enter Try.func36,Try.ntmps36
  go_wp2
  go_ret
  exact ⟨by first | rfl | (simp [y12,y13] <;> rfl) | (simp [*,y12,y13] <;> rfl),qb⟩
 ·rw [if_neg c3] at H
  have c3b0 := decide_eq_false c3
  clear c3
  have H' := y0.mk H
  clear H
  go_enter Try.func36,Try.ntmps36
  go_wp2
  go_loopg [1,5] k (fun kq v1 v5 w' => ∃ (x1_1 : Int) (x5_1 : Int),v1 = .int .i64 x1_1 ∧ v5 = .int .i64 x5_1 ∧ y0 (laws_szRuleS.l0 kq l0 x1_1 x5_1 = some r) ∧ y0 (kq ≤ k) ∧ y0 (Below w.heap.size w w'))
  case atStart => exact ⟨(wrap64 (a1 - (l0.length : Int))),(0),qy2,qy2,H',⟨Nat.le_refl _⟩,⟨qb⟩⟩
  case round =>
   clear H'
   (try clear c3b0)
   obtain ⟨x1_1,x5_1,rfl,rfl,HA,HK1,HB⟩ := hrel
   cases gk with
   | zero => exact absurd HA.out (by simp [laws_szRuleS.l0])
   | succ k1 =>
    have H := HA.out
    clear HA
    simp only [laws_szRuleS.l0] at H
    by_cases c4 : x5_1 < (l0.length : Int)
    ·rw [if_pos c4] at H
     have c4b0 := decide_eq_true c4
     clear c4
     obtain ⟨c5,H⟩ := qo H
     have c5b0 : decide (0 ≤ x5_1) = true := decide_eq_true c5
     clear c5
     obtain ⟨t394,A6,H⟩ := qB H
     have p393 : 0 ≤ (x5_1 : Int) := of_decide_eq_true qy1
     have q393 : x5_1 < (l0.length : Int) := of_decide_eq_true qy1
     obtain ⟨ad393,A393_0,c393_0,A393_3,c393_3,A393_4,c393_4,e393,hx393_0,hx393_1,hx393_2,hx393_3,hx393_4,hl393_0,hi393_0,hl393_3,hi393_3,hl393_4,hi393_4⟩ := at_T28 HR0.out x5_1 p393 q393
     cases e393
     replace hx393_0 := (HB.out.cell (World.block_lt_of_cell? w _ hx393_0)).trans hx393_0
     replace hx393_1 := (HB.out.cell (World.block_lt_of_cell? w _ hx393_1)).trans hx393_1
     replace hx393_2 := (HB.out.cell (World.block_lt_of_cell? w _ hx393_2)).trans hx393_2
     replace hx393_3 := (HB.out.cell (World.block_lt_of_cell? w _ hx393_3)).trans hx393_3
     replace hx393_4 := (HB.out.cell (World.block_lt_of_cell? w _ hx393_4)).trans hx393_4
     have HR393_0 := y0.mk hi393_0
     have HC393_0 := y0.mk hl393_0
     clear hi393_0 hl393_0
     have HR393_3 := y0.mk hi393_3
     have HC393_3 := y0.mk hl393_3
     clear hi393_3 hl393_3
     have HR393_4 := y0.mk hi393_4
     have HC393_4 := y0.mk hl393_4
     clear hi393_4 hl393_4
     replace p393 := eq_true p393
     replace q393 := eq_true q393
     by_cases c7 : t394 < 0
     ·rw [if_pos c7] at H
      have c7b0 := decide_eq_true c7
      clear c7
      obtain rfl := Option.some.inj H
      go_wp2_with (first | ((with_reducible refine y15 (f := 6) rfl ?_); refine y17 (some 23) rfl rfl Try.func6 (by kernel_rfl) rfl #[.agg #[.slice A393_0 ((rd_T28 l0 x5_1).f0).length c393_0,.int .i64 ((rd_T28 l0 x5_1).f1.f0),.string ((rd_T28 l0 x5_1).f1.f1),.slice A393_3 ((rd_T28 l0 x5_1).f1.f2).length c393_3,.slice A393_4 ((rd_T28 l0 x5_1).f2).length c393_4],.int .i64 x1_1] rfl qy0 ?_; (with_reducible refine (laws_szRule.calls k1 _ _ ((rd_T28 l0 x5_1).f0) ((rd_T28 l0 x5_1).f1.f0) ((rd_T28 l0 x5_1).f1.f1) _ _ ((rd_T28 l0 x5_1).f1.f2) _ _ ((rd_T28 l0 x5_1).f2) x1_1 t394 _ (qc (Kd.C_below HR393_0.out HB.out)) HC393_0.out (qc (Kd.C_below HR393_3.out HB.out)) HC393_3.out (qc (Kd.C_below HR393_4.out HB.out)) HC393_4.out A6.out).mono ?_); rintro e w8 ⟨rfl,hb⟩; refine ⟨_,rfl, ?_⟩; replace HB := y0.mk (y4 qb hb); (try clear hb); (try clear hb2); (try clear hk); (try clear hi)))
      go_ret
      exact ⟨by first | rfl | (simp [y12,y13] <;> rfl) | (simp [*,y12,y13] <;> rfl),qb⟩
     ·rw [if_neg c7] at H
      have c7b0 := decide_eq_false c7
      clear c7
      have H' := y0.mk H
      clear H
      go_wp2_with (first | ((with_reducible refine y15 (f := 6) rfl ?_); refine y17 (some 23) rfl rfl Try.func6 (by kernel_rfl) rfl #[.agg #[.slice A393_0 ((rd_T28 l0 x5_1).f0).length c393_0,.int .i64 ((rd_T28 l0 x5_1).f1.f0),.string ((rd_T28 l0 x5_1).f1.f1),.slice A393_3 ((rd_T28 l0 x5_1).f1.f2).length c393_3,.slice A393_4 ((rd_T28 l0 x5_1).f2).length c393_4],.int .i64 x1_1] rfl qy0 ?_; (with_reducible refine (laws_szRule.calls k1 _ _ ((rd_T28 l0 x5_1).f0) ((rd_T28 l0 x5_1).f1.f0) ((rd_T28 l0 x5_1).f1.f1) _ _ ((rd_T28 l0 x5_1).f1.f2) _ _ ((rd_T28 l0 x5_1).f2) x1_1 t394 _ (qc (Kd.C_below HR393_0.out HB.out)) HC393_0.out (qc (Kd.C_below HR393_3.out HB.out)) HC393_3.out (qc (Kd.C_below HR393_4.out HB.out)) HC393_4.out A6.out).mono ?_); rintro e w9 ⟨rfl,hb⟩; refine ⟨_,rfl, ?_⟩; replace HB := y0.mk (y4 qb hb); (try clear hb); (try clear hb2); (try clear hk); (try clear hi)))
      go_roundg k1
      case measure => have := HK1.out; omega
      exact ⟨(t394),(wrap64 (x5_1 + 1)),qy2,qy2,H',⟨by have := HK1.out; omega⟩,⟨qb⟩⟩
    ·rw [if_neg c4] at H
     have c4b0 := decide_eq_false c4
     clear c4
     obtain rfl := Option.some.inj H
     go_wp2
     go_ret
     exact ⟨by first | rfl | (simp [y12,y13] <;> rfl) | (simp [*,y12,y13] <;> rfl),qb⟩
def laws_szProg.f (k : Nat) (l0_0 : List (S112)) (l0_1 : List (S114)) (l0_2 : List (S28)) (a1 : Int) : Option (Int) := (laws_szTypeDeclS.f k l0_0 a1).bind fun t396 => (if t396 < 0 then (some (-1)) else ((laws_szRelDeclS.f k l0_1 t396).bind fun t397 => (if t397 < 0 then (some (-1)) else ((laws_szRuleS.f k l0_2 t397).bind fun t398 => (if t398 < 0 then (some (-1)) else (some t398))))))
set_option maxHeartbeats 8000000 in
set_option maxRecDepth 100000 in
theorem laws_szProg.calls (k : Nat) (A0_0 : Option Addr) (c0_0 : Nat) (l0_0 : List (S112)) (A0_1 : Option Addr) (c0_1 : Nat) (l0_1 : List (S114)) (A0_2 : Option Addr) (c0_2 : Nat) (l0_2 : List (S28)) (a1 : Int) (r : Int) (w : World) (hr0_0 : Kd.C k112 w A0_0 l0_0.length l0_0) (hc0_0 : l0_0.length ≤ c0_0) (hr0_1 : Kd.C k114 w A0_1 l0_1.length l0_1) (hc0_1 : l0_1.length ≤ c0_1) (hr0_2 : Kd.C k28 w A0_2 l0_2.length l0_2) (hc0_2 : l0_2.length ≤ c0_2) (h : laws_szProg.f k l0_0 l0_1 l0_2 a1 = some r) :
  Calls Try.prog 11 #[.agg #[.slice A0_0 l0_0.length c0_0,.slice A0_1 l0_1.length c0_1,.slice A0_2 l0_2.length c0_2],.int .i64 a1] w fun e w' => e = .returned (.int .i64 r) ∧ Below w.heap.size w w' := by
 have hu43 := Try.underlying43
 have HR0_0 := y0.mk hr0_0
 have HC0_0 := y0.mk hc0_0
 clear hr0_0 hc0_0
 have HR0_1 := y0.mk hr0_1
 have HC0_1 := y0.mk hc0_1
 clear hr0_1 hc0_1
 have HR0_2 := y0.mk hr0_2
 have HC0_2 := y0.mk hc0_2
 clear hr0_2 hc0_2
 have HB := y0.mk (Below.refl w.heap.size w)
 have H : ((laws_szTypeDeclS.f k l0_0 a1).bind fun t396 => (if t396 < 0 then (some (-1)) else ((laws_szRelDeclS.f k l0_1 t396).bind fun t397 => (if t397 < 0 then (some (-1)) else ((laws_szRuleS.f k l0_2 t397).bind fun t398 => (if t398 < 0 then (some (-1)) else (some t398))))))) = some r := h
 clear h
 obtain ⟨t396,A3,H⟩ := qB H
 by_cases c4 : t396 < 0
 ·rw [if_pos c4] at H
  have c4b0 := decide_eq_true c4
  clear c4
  obtain rfl := Option.some.inj H
  go_enter Try.func11,Try.ntmps11
  go_wp2_with (first | ((with_reducible refine y16 (N := 2) rfl ?_); refine qe 2 #[.slice A0_0 l0_0.length c0_0,.slice A0_1 l0_1.length c0_1,.slice A0_2 l0_2.length c0_2] 43 ?_; intro gb395 hg w5 hbox hb; have BK395 := y0.mk (hbox); have GW395 := y0.mk (qg (w := w) hg); have GE395 := y0.mk (qg (w := w) hg); replace HB := y0.mk (y4 qb hb); clear hb hbox hg; obtain ⟨hcz6_0,hcz6_1,hcz6_2,hfz6_0,hfz6_1,hfz6_2⟩ := qz3 BK395.out) | ((with_reducible refine y15 (f := 34) rfl ?_); refine y17 (some 8) rfl rfl Try.func34 (by kernel_rfl) rfl #[.slice A0_0 l0_0.length c0_0,.int .i64 a1] rfl qy0 ?_; (with_reducible refine (laws_szTypeDeclS.calls k _ _ l0_0 a1 t396 _ (qc (Kd.C_below HR0_0.out HB.out)) HC0_0.out A3.out).mono ?_); rintro e w7 ⟨rfl,hb⟩; refine ⟨_,rfl, ?_⟩; replace BK395 := y0.mk (qK BK395.out hb); replace HB := y0.mk (y4 qb hb); (try clear hb); (try clear hb2); (try clear hk); (try clear hi)))
  go_ret
  exact ⟨by first | rfl | (simp [y12,y13] <;> rfl) | (simp [*,y12,y13] <;> rfl),qb⟩
 ·rw [if_neg c4] at H
  have c4b0 := decide_eq_false c4
  clear c4
  obtain ⟨t397,A8,H⟩ := qB H
  by_cases c9 : t397 < 0
  ·rw [if_pos c9] at H
   have c9b0 := decide_eq_true c9
   clear c9
   obtain rfl := Option.some.inj H
   go_enter Try.func11,Try.ntmps11
   go_wp2_with (first | ((with_reducible refine y16 (N := 2) rfl ?_); refine qe 2 #[.slice A0_0 l0_0.length c0_0,.slice A0_1 l0_1.length c0_1,.slice A0_2 l0_2.length c0_2] 43 ?_; intro gb395 hg w10 hbox hb; have BK395 := y0.mk (hbox); have GW395 := y0.mk (qg (w := w) hg); have GE395 := y0.mk (qg (w := w) hg); replace HB := y0.mk (y4 qb hb); clear hb hbox hg; obtain ⟨hcz11_0,hcz11_1,hcz11_2,hfz11_0,hfz11_1,hfz11_2⟩ := qz3 BK395.out) | ((with_reducible refine y15 (f := 34) rfl ?_); refine y17 (some 8) rfl rfl Try.func34 (by kernel_rfl) rfl #[.slice A0_0 l0_0.length c0_0,.int .i64 a1] rfl qy0 ?_; (with_reducible refine (laws_szTypeDeclS.calls k _ _ l0_0 a1 t396 _ (qc (Kd.C_below HR0_0.out HB.out)) HC0_0.out A3.out).mono ?_); rintro e w12 ⟨rfl,hb⟩; refine ⟨_,rfl, ?_⟩; replace BK395 := y0.mk (qK BK395.out hb); replace HB := y0.mk (y4 qb hb); (try clear hb); (try clear hb2); (try clear hk); (try clear hi); obtain ⟨hcz13_0,hcz13_1,hcz13_2,hfz13_0,hfz13_1,hfz13_2⟩ := qz3 BK395.out) | ((with_reducible refine y15 (f := 35) rfl ?_); refine y17 (some 14) rfl rfl Try.func35 (by kernel_rfl) rfl #[.slice A0_1 l0_1.length c0_1,.int .i64 t396] rfl qy0 ?_; (with_reducible refine (laws_szRelDeclS.calls k _ _ l0_1 t396 t397 _ (qc (Kd.C_below HR0_1.out HB.out)) HC0_1.out A8.out).mono ?_); rintro e w14 ⟨rfl,hb⟩; refine ⟨_,rfl, ?_⟩; replace BK395 := y0.mk (qK BK395.out hb); replace HB := y0.mk (y4 qb hb); (try clear hb); (try clear hb2); (try clear hk); (try clear hi)))
   go_ret
   exact ⟨by first | rfl | (simp [y12,y13] <;> rfl) | (simp [*,y12,y13] <;> rfl),qb⟩
  ·rw [if_neg c9] at H
   have c9b0 := decide_eq_false c9
   clear c9
   obtain ⟨t398,A15,H⟩ := qB H
   by_cases c16 : t398 < 0
   ·rw [if_pos c16] at H
    have c16b0 := decide_eq_true c16
    clear c16
    obtain rfl := Option.some.inj H
    go_enter Try.func11,Try.ntmps11
    go_wp2_with (first | ((with_reducible refine y16 (N := 2) rfl ?_); refine qe 2 #[.slice A0_0 l0_0.length c0_0,.slice A0_1 l0_1.length c0_1,.slice A0_2 l0_2.length c0_2] 43 ?_; intro gb395 hg w17 hbox hb; have BK395 := y0.mk (hbox); have GW395 := y0.mk (qg (w := w) hg); have GE395 := y0.mk (qg (w := w) hg); replace HB := y0.mk (y4 qb hb); clear hb hbox hg; obtain ⟨hcz18_0,hcz18_1,hcz18_2,hfz18_0,hfz18_1,hfz18_2⟩ := qz3 BK395.out) | ((with_reducible refine y15 (f := 34) rfl ?_); refine y17 (some 8) rfl rfl Try.func34 (by kernel_rfl) rfl #[.slice A0_0 l0_0.length c0_0,.int .i64 a1] rfl qy0 ?_; (with_reducible refine (laws_szTypeDeclS.calls k _ _ l0_0 a1 t396 _ (qc (Kd.C_below HR0_0.out HB.out)) HC0_0.out A3.out).mono ?_); rintro e w19 ⟨rfl,hb⟩; refine ⟨_,rfl, ?_⟩; replace BK395 := y0.mk (qK BK395.out hb); replace HB := y0.mk (y4 qb hb); (try clear hb); (try clear hb2); (try clear hk); (try clear hi); obtain ⟨hcz20_0,hcz20_1,hcz20_2,hfz20_0,hfz20_1,hfz20_2⟩ := qz3 BK395.out) | ((with_reducible refine y15 (f := 35) rfl ?_); refine y17 (some 14) rfl rfl Try.func35 (by kernel_rfl) rfl #[.slice A0_1 l0_1.length c0_1,.int .i64 t396] rfl qy0 ?_; (with_reducible refine (laws_szRelDeclS.calls k _ _ l0_1 t396 t397 _ (qc (Kd.C_below HR0_1.out HB.out)) HC0_1.out A8.out).mono ?_); rintro e w21 ⟨rfl,hb⟩; refine ⟨_,rfl, ?_⟩; replace BK395 := y0.mk (qK BK395.out hb); replace HB := y0.mk (y4 qb hb); (try clear hb); (try clear hb2); (try clear hk); (try clear hi); obtain ⟨hcz22_0,hcz22_1,hcz22_2,hfz22_0,hfz22_1,hfz22_2⟩ := qz3 BK395.out) | ((with_reducible refine y15 (f := 36) rfl ?_); refine y17 (some 20) rfl rfl Try.func36 (by kernel_rfl) rfl #[.slice A0_2 l0_2.length c0_2,.int .i64 t397] rfl qy0 ?_; (with_reducible refine (laws_szRuleS.calls k _ _ l0_2 t397 t398 _ (qc (Kd.C_below HR0_2.out HB.out)) HC0_2.out A15.out).mono ?_); rintro e w23 ⟨rfl,hb⟩; refine ⟨_,rfl, ?_⟩; replace BK395 := y0.mk (qK BK395.out hb); replace HB := y0.mk (y4 qb hb); (try clear hb); (try clear hb2); (try clear hk); (try clear hi)))
    go_ret
    exact ⟨by first | rfl | (simp [y12,y13] <;> rfl) | (simp [*,y12,y13] <;> rfl),qb⟩
   ·rw [if_neg c16] at H
    have c16b0 := decide_eq_false c16
    clear c16
    obtain rfl := Option.some.inj H
    go_enter Try.func11,Try.ntmps11
    go_wp2_with (first | ((with_reducible refine y16 (N := 2) rfl ?_); refine qe 2 #[.slice A0_0 l0_0.length c0_0,.slice A0_1 l0_1.length c0_1,.slice A0_2 l0_2.length c0_2] 43 ?_; intro gb395 hg w24 hbox hb; have BK395 := y0.mk (hbox); have GW395 := y0.mk (qg (w := w) hg); have GE395 := y0.mk (qg (w := w) hg); replace HB := y0.mk (y4 qb hb); clear hb hbox hg; obtain ⟨hcz25_0,hcz25_1,hcz25_2,hfz25_0,hfz25_1,hfz25_2⟩ := qz3 BK395.out) | ((with_reducible refine y15 (f := 34) rfl ?_); refine y17 (some 8) rfl rfl Try.func34 (by kernel_rfl) rfl #[.slice A0_0 l0_0.length c0_0,.int .i64 a1] rfl qy0 ?_; (with_reducible refine (laws_szTypeDeclS.calls k _ _ l0_0 a1 t396 _ (qc (Kd.C_below HR0_0.out HB.out)) HC0_0.out A3.out).mono ?_); rintro e w26 ⟨rfl,hb⟩; refine ⟨_,rfl, ?_⟩; replace BK395 := y0.mk (qK BK395.out hb); replace HB := y0.mk (y4 qb hb); (try clear hb); (try clear hb2); (try clear hk); (try clear hi); obtain ⟨hcz27_0,hcz27_1,hcz27_2,hfz27_0,hfz27_1,hfz27_2⟩ := qz3 BK395.out) | ((with_reducible refine y15 (f := 35) rfl ?_); refine y17 (some 14) rfl rfl Try.func35 (by kernel_rfl) rfl #[.slice A0_1 l0_1.length c0_1,.int .i64 t396] rfl qy0 ?_; (with_reducible refine (laws_szRelDeclS.calls k _ _ l0_1 t396 t397 _ (qc (Kd.C_below HR0_1.out HB.out)) HC0_1.out A8.out).mono ?_); rintro e w28 ⟨rfl,hb⟩; refine ⟨_,rfl, ?_⟩; replace BK395 := y0.mk (qK BK395.out hb); replace HB := y0.mk (y4 qb hb); (try clear hb); (try clear hb2); (try clear hk); (try clear hi); obtain ⟨hcz29_0,hcz29_1,hcz29_2,hfz29_0,hfz29_1,hfz29_2⟩ := qz3 BK395.out) | ((with_reducible refine y15 (f := 36) rfl ?_); refine y17 (some 20) rfl rfl Try.func36 (by kernel_rfl) rfl #[.slice A0_2 l0_2.length c0_2,.int .i64 t397] rfl qy0 ?_; (with_reducible refine (laws_szRuleS.calls k _ _ l0_2 t397 t398 _ (qc (Kd.C_below HR0_2.out HB.out)) HC0_2.out A15.out).mono ?_); rintro e w30 ⟨rfl,hb⟩; refine ⟨_,rfl, ?_⟩; replace BK395 := y0.mk (qK BK395.out hb); replace HB := y0.mk (y4 qb hb); (try clear hb); (try clear hb2); (try clear hk); (try clear hi)))
    go_ret
    exact ⟨by first | rfl | (simp [y12,y13] <;> rfl) | (simp [*,y12,y13] <;> rfl),qb⟩
mutual
def spec_l04List.l0 : Nat → List ByteArray → ByteArray → Int → Option (ByteArray)
 | 0,_,_,_ => none
 | k + 1,x0,x3,x4 => if x4 < (x0.length : Int) then (spec_l04List.j1 k x0 x3 x4 (decide ((x3.size : Int) ≤ 3000))) else (spec_l04List.j1 k x0 x3 x4 false)
def spec_l04List.j1 : Nat → List ByteArray → ByteArray → Int → Bool → Option (ByteArray)
 | 0,_,_,_,_ => none
 | k + 1,x0,x3,x4,x13 => if x13 = true then (if x4 > 0 then (if x3.size + 2 ≤ 9223372036854775807 then (if 0 ≤ x4 then (if x4 < (x0.length : Int) then (if (x3 ++ (⟨#[44,32]⟩ : ByteArray)).size + (rdOf ByteArray.empty x0 x4).size ≤ 9223372036854775807 then (spec_l04List.l0 k x0 ((x3 ++ (⟨#[44,32]⟩ : ByteArray)) ++ (rdOf ByteArray.empty x0 x4)) (wrap64 (x4 + 1))) else (none)) else (none)) else (none)) else (none)) else (if 0 ≤ x4 then (if x4 < (x0.length : Int) then (if x3.size + (rdOf ByteArray.empty x0 x4).size ≤ 9223372036854775807 then (spec_l04List.l0 k x0 (x3 ++ (rdOf ByteArray.empty x0 x4)) (wrap64 (x4 + 1))) else (none)) else (none)) else (none))) else (some x3)
end
def spec_l04List.f (k : Nat) (l0 : List ByteArray) : Option (ByteArray) := spec_l04List.l0 k l0 (⟨#[]⟩ : ByteArray) 0
set_option maxHeartbeats 8000000 in
set_option maxRecDepth 100000 in
theorem spec_l04List.calls (k : Nat) (A0 : Option Addr) (c0 : Nat) (l0 : List ByteArray) (r : ByteArray) (w : World) (hr0 : Kd.C Kd.string w A0 l0.length l0) (hc0 : l0.length ≤ c0) (h : spec_l04List.f k l0 = some r) :
  Calls Try.prog 37 #[.slice A0 l0.length c0] w fun e w' => e = .returned (.string r) ∧ y1 w w' := by
 have HR0 := y0.mk hr0
 have HC0 := y0.mk hc0
 clear hr0 hc0
 have H : (spec_l04List.l0 k l0 (⟨#[]⟩ : ByteArray) 0) = some r := h
 clear h
 have H' := y0.mk H
 clear H
 go_enter Try.func37,Try.ntmps37
 go_wp2
 go_loopg [3,4] k (fun kq v3 v4 w' => ∃ (x3_1 : ByteArray) (x4_1 : Int),v3 = .string x3_1 ∧ v4 = .int .i64 x4_1 ∧ y0 (spec_l04List.l0 kq l0 x3_1 x4_1 = some r) ∧ y0 (kq ≤ k) ∧ y1 w w')
 case atStart => exact ⟨((⟨#[]⟩ : ByteArray)),(0),qy2,qy2,H',⟨Nat.le_refl _⟩,by repeat (first | exact y1.refl _ | apply y1.step)⟩
 case round =>
  clear H'
  obtain ⟨x3_1,x4_1,rfl,rfl,HA,HK1,⟨m1,rfl⟩⟩ := hrel
  cases gk with
  | zero => exact absurd HA.out (by simp [spec_l04List.l0])
  | succ k1 =>
   have H := HA.out
   clear HA
   simp only [spec_l04List.l0] at H
   have HC2 := y0.mk H
   clear H
   go_upto_region 3 with (fail)
   go_cut [13] (fun v13 wc => ∃ (kq : Nat) (x13_1 : Bool),v13 = .bool x13_1 ∧ y0 (spec_l04List.j1 kq l0 x3_1 x4_1 x13_1 = some r) ∧ y0 (kq ≤ k1) ∧ y1 w wc)
   case first =>
    have H := HC2.out
    clear HC2
    by_cases c3 : x4_1 < (l0.length : Int)
    ·rw [if_pos c3] at H
     have c3b0 := decide_eq_true c3
     clear c3
     (first | rw [c3b0] | (simp only [i64_w,i32_w]; rw [c3b0]) | skip)
     have H' := y0.mk H
     clear H
     go_wp2
     go_meet
     exact ⟨_,(decide ((x3_1.size : Int) ≤ 3000)),qy2,H',⟨by have := HK1.out; first | omega | exact Nat.le_refl _⟩,by repeat (first | exact y1.refl _ | apply y1.step)⟩
    ·rw [if_neg c3] at H
     have c3b0 := decide_eq_false c3
     clear c3
     (first | rw [c3b0] | (simp only [i64_w,i32_w]; rw [c3b0]) | skip)
     have H' := y0.mk H
     clear H
     go_wp2
     go_meet
     exact ⟨_,(false),qy2,H',⟨by have := HK1.out; first | omega | exact Nat.le_refl _⟩,by repeat (first | exact y1.refl _ | apply y1.step)⟩
   case rest =>
    clear HC2
    obtain ⟨kq,x13_1,rfl,HA,HJ1,⟨mc1,rfl⟩⟩ := hcut
    cases kq with
    | zero => exact absurd HA.out (by simp [spec_l04List.j1])
    | succ kj1 =>
     have H := HA.out
     clear HA
     simp only [spec_l04List.j1] at H
     by_cases c4 : x13_1 = true
     ·subst c4
      replace H := qT H
      by_cases c5 : x4_1 > 0
      ·rw [if_pos c5] at H
       have c5b0 : decide (0 < x4_1) = true := decide_eq_true c5
       clear c5
       obtain ⟨c6,H⟩ := qo H
       have c6b0 := eq_true c6
       have c6b1 := decide_eq_true c6
       have c6b2 := eq_false (Nat.not_lt.2 c6)
       obtain ⟨c7,H⟩ := qo H
       have c7b0 : decide (0 ≤ x4_1) = true := decide_eq_true c7
       clear c7
       obtain ⟨c8,H⟩ := qo H
       have c8b0 : decide (x4_1 < (l0.length : Int)) = true := decide_eq_true c8
       clear c8
       obtain ⟨c9,H⟩ := qo H
       have c9b0 := eq_true c9
       have c9b1 := decide_eq_true c9
       have c9b2 := eq_false (Nat.not_lt.2 c9)
       have c9b3 : (9223372036854775807 < x3_1.size + 2 + (rdOf ByteArray.empty l0 x4_1).size) = False := qs c9b2
       have H' := y0.mk H
       clear H
       have p399 : 0 ≤ (x4_1 : Int) := of_decide_eq_true qy1
       have q399 : x4_1 < (l0.length : Int) := of_decide_eq_true qy1
       obtain ⟨ad399,e399,hx399_0⟩ := Kd.at_string HR0.out x4_1 p399 q399
       cases e399
       replace p399 := eq_true p399
       replace q399 := eq_true q399
       go_wp2
       go_roundg kj1
       case measure => have := HK1.out; have := HJ1.out; omega
       exact ⟨((x3_1 ++ (⟨#[44,32]⟩ : ByteArray)) ++ (rdOf ByteArray.empty l0 x4_1)),(wrap64 (x4_1 + 1)),qy2,qy2,H',⟨by have := HK1.out; have := HJ1.out; omega⟩,by repeat (first | exact y1.refl _ | apply y1.step)⟩
      ·rw [if_neg c5] at H
       have c5b0 : decide (0 < x4_1) = false := decide_eq_false c5
       clear c5
       obtain ⟨c10,H⟩ := qo H
       have c10b0 : decide (0 ≤ x4_1) = true := decide_eq_true c10
       clear c10
       obtain ⟨c11,H⟩ := qo H
       have c11b0 : decide (x4_1 < (l0.length : Int)) = true := decide_eq_true c11
       clear c11
       obtain ⟨c12,H⟩ := qo H
       have c12b0 := eq_true c12
       have c12b1 := decide_eq_true c12
       have c12b2 := eq_false (Nat.not_lt.2 c12)
       have H' := y0.mk H
       clear H
       have p400 : 0 ≤ (x4_1 : Int) := of_decide_eq_true qy1
       have q400 : x4_1 < (l0.length : Int) := of_decide_eq_true qy1
       obtain ⟨ad400,e400,hx400_0⟩ := Kd.at_string HR0.out x4_1 p400 q400
       cases e400
       replace p400 := eq_true p400
       replace q400 := eq_true q400
       go_wp2
       go_roundg kj1
       case measure => have := HK1.out; have := HJ1.out; omega
       exact ⟨(x3_1 ++ (rdOf ByteArray.empty l0 x4_1)),(wrap64 (x4_1 + 1)),qy2,qy2,H',⟨by have := HK1.out; have := HJ1.out; omega⟩,by repeat (first | exact y1.refl _ | apply y1.step)⟩
     ·replace c4 := Bool.eq_false_iff.mpr c4
      subst c4
      replace H := qF H
      obtain rfl := Option.some.inj H
      go_wp2
      go_ret
      exact ⟨by first | rfl | (simp; done) | (simp [*]; done),by repeat (first | exact y1.refl _ | apply y1.step)⟩
end Go.Proofs.Ytamjmldfifofbaa.Pp

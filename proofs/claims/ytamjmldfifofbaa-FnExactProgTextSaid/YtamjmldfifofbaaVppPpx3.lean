-- Cut by prune.py, a program of this session, out of the texts of this claim: Lean checks it.
import Derived.Test.YtamjmldfifofbaaVppPpx0
import Derived.Test.YtamjmldfifofbaaVppPpx2
section
namespace Go.Proofs.Ytamjmldfifofbaa.Pp
open Go.RowKit Go.Proofs.YtamjmldfifofbaaW.PrintWords Go.Proofs.YtamjmldfifofbaaW.PrintLast Go.Proofs.YtamjmldfifofbaaW.PrintMore
attribute [local go_sem] max2_int min2_int max_two min_two max_three min_three max_four min_four   -- for this text's walks alone
set_option linter.unusedVariables false
set_option linter.unusedSimpArgs false
mutual
def spec_l04Lit.j0 : Nat → List ByteArray → ByteArray → Int → ByteArray → List Int → Option (ByteArray × Bool)
 | 0,_,_,_,_,_ => none
 | k + 1,x1,x6,x164000,x164001,x164002 => spec_l04Lit.l0 k x1 x6 0 x164000 x164001 x164002
def spec_l04Lit.l0 : Nat → List ByteArray → ByteArray → Int → Int → ByteArray → List Int → Option (ByteArray × Bool)
 | 0,_,_,_,_,_,_ => none
 | k + 1,x1,x6,x7,x164000,x164001,x164002 => if x7 < (x164002.length : Int) then (if x7 > 0 then (if x6.size + 2 ≤ 9223372036854775807 then (if 0 ≤ x7 then (if 0 ≤ (rd x164002 x7) then (if (rd x164002 x7) < (x1.length : Int) then (if (x6 ++ (⟨#[44,32]⟩ : ByteArray)).size + (rdOf ByteArray.empty x1 (rd x164002 x7)).size ≤ 9223372036854775807 then (spec_l04Lit.l0 k x1 ((x6 ++ (⟨#[44,32]⟩ : ByteArray)) ++ (rdOf ByteArray.empty x1 (rd x164002 x7))) (wrap64 (x7 + 1)) x164000 x164001 x164002) else (none)) else (none)) else (none)) else (none)) else (none)) else (if 0 ≤ x7 then (if 0 ≤ (rd x164002 x7) then (if (rd x164002 x7) < (x1.length : Int) then (if x6.size + (rdOf ByteArray.empty x1 (rd x164002 x7)).size ≤ 9223372036854775807 then (spec_l04Lit.l0 k x1 (x6 ++ (rdOf ByteArray.empty x1 (rd x164002 x7))) (wrap64 (x7 + 1)) x164000 x164001 x164002) else (none)) else (none)) else (none)) else (none))) else (if x6.size + 1 ≤ 9223372036854775807 then (if x164000 = 1 then (some (x6 ++ (⟨#[41]⟩ : ByteArray),true)) else (some (x6 ++ (⟨#[41]⟩ : ByteArray),(x164000 == 2)))) else (none))
end
def spec_l04Lit.f (k : Nat) (a0_0 : Int) (a0_1 : ByteArray) (l0_2 : List Int) (l1 : List ByteArray) : Option (ByteArray × Bool) := if a0_0 = 3 then (if (l0_2.length : Int) = 2 then (if 0 < (l0_2.length : Int) then (if 0 ≤ (rd l0_2 0) then (if (rd l0_2 0) < (l1.length : Int) then (if (rdOf ByteArray.empty l1 (rd l0_2 0)).size + 1 ≤ 9223372036854775807 then (if ((rdOf ByteArray.empty l1 (rd l0_2 0)) ++ (⟨#[32]⟩ : ByteArray)).size + a0_1.size ≤ 9223372036854775807 then (if (((rdOf ByteArray.empty l1 (rd l0_2 0)) ++ (⟨#[32]⟩ : ByteArray)) ++ a0_1).size + 1 ≤ 9223372036854775807 then (if 1 < (l0_2.length : Int) then (if 0 ≤ (rd l0_2 1) then (if (rd l0_2 1) < (l1.length : Int) then (if ((((rdOf ByteArray.empty l1 (rd l0_2 0)) ++ (⟨#[32]⟩ : ByteArray)) ++ a0_1) ++ (⟨#[32]⟩ : ByteArray)).size + (rdOf ByteArray.empty l1 (rd l0_2 1)).size ≤ 9223372036854775807 then (some (((((rdOf ByteArray.empty l1 (rd l0_2 0)) ++ (⟨#[32]⟩ : ByteArray)) ++ a0_1) ++ (⟨#[32]⟩ : ByteArray)) ++ (rdOf ByteArray.empty l1 (rd l0_2 1)),true)) else (none)) else (none)) else (none)) else (none)) else (none)) else (none)) else (none)) else (none)) else (none)) else (none)) else (some ((⟨#[]⟩ : ByteArray),false))) else (if a0_1.size + 1 ≤ 9223372036854775807 then (if a0_0 = 2 then (if 1 + (a0_1 ++ (⟨#[40]⟩ : ByteArray)).size ≤ 9223372036854775807 then (spec_l04Lit.j0 k l1 ((⟨#[33]⟩ : ByteArray) ++ (a0_1 ++ (⟨#[40]⟩ : ByteArray))) a0_0 a0_1 l0_2) else (none)) else (spec_l04Lit.j0 k l1 (a0_1 ++ (⟨#[40]⟩ : ByteArray)) a0_0 a0_1 l0_2)) else (none))
set_option maxHeartbeats 8000000 in
set_option maxRecDepth 100000 in
theorem spec_l04Lit.calls (k : Nat) (a0_0 : Int) (a0_1 : ByteArray) (A0_2 : Option Addr) (c0_2 : Nat) (l0_2 : List Int) (A1 : Option Addr) (c1 : Nat) (l1 : List ByteArray) (r1 : ByteArray) (r2 : Bool) (w : World) (hr0_2 : Kd.C (Kd.int .i64) w A0_2 l0_2.length l0_2) (hc0_2 : l0_2.length ≤ c0_2) (hr1 : Kd.C Kd.string w A1 l1.length l1) (hc1 : l1.length ≤ c1) (h : spec_l04Lit.f k a0_0 a0_1 l0_2 l1 = some (r1,r2)) :
  Calls Try.prog 26 #[.agg #[.int .i64 a0_0,.string a0_1,.slice A0_2 l0_2.length c0_2],.slice A1 l1.length c1] w fun e w' => e = .returned (.tuple #[.string r1,.bool r2]) ∧ Below w.heap.size w w' := by
 have hu32 := Try.underlying32
 have HR0_2 := y0.mk hr0_2
 have HC0_2 := y0.mk hc0_2
 clear hr0_2 hc0_2
 have HR1 := y0.mk hr1
 have HC1 := y0.mk hc1
 clear hr1 hc1
 have HB := y0.mk (Below.refl w.heap.size w)
 have H : (if a0_0 = 3 then (if (l0_2.length : Int) = 2 then (if 0 < (l0_2.length : Int) then (if 0 ≤ (rd l0_2 0) then (if (rd l0_2 0) < (l1.length : Int) then (if (rdOf ByteArray.empty l1 (rd l0_2 0)).size + 1 ≤ 9223372036854775807 then (if ((rdOf ByteArray.empty l1 (rd l0_2 0)) ++ (⟨#[32]⟩ : ByteArray)).size + a0_1.size ≤ 9223372036854775807 then (if (((rdOf ByteArray.empty l1 (rd l0_2 0)) ++ (⟨#[32]⟩ : ByteArray)) ++ a0_1).size + 1 ≤ 9223372036854775807 then (if 1 < (l0_2.length : Int) then (if 0 ≤ (rd l0_2 1) then (if (rd l0_2 1) < (l1.length : Int) then (if ((((rdOf ByteArray.empty l1 (rd l0_2 0)) ++ (⟨#[32]⟩ : ByteArray)) ++ a0_1) ++ (⟨#[32]⟩ : ByteArray)).size + (rdOf ByteArray.empty l1 (rd l0_2 1)).size ≤ 9223372036854775807 then (some (((((rdOf ByteArray.empty l1 (rd l0_2 0)) ++ (⟨#[32]⟩ : ByteArray)) ++ a0_1) ++ (⟨#[32]⟩ : ByteArray)) ++ (rdOf ByteArray.empty l1 (rd l0_2 1)),true)) else (none)) else (none)) else (none)) else (none)) else (none)) else (none)) else (none)) else (none)) else (none)) else (none)) else (some ((⟨#[]⟩ : ByteArray),false))) else (if a0_1.size + 1 ≤ 9223372036854775807 then (if a0_0 = 2 then (if 1 + (a0_1 ++ (⟨#[40]⟩ : ByteArray)).size ≤ 9223372036854775807 then (spec_l04Lit.j0 k l1 ((⟨#[33]⟩ : ByteArray) ++ (a0_1 ++ (⟨#[40]⟩ : ByteArray))) a0_0 a0_1 l0_2) else (none)) else (spec_l04Lit.j0 k l1 (a0_1 ++ (⟨#[40]⟩ : ByteArray)) a0_0 a0_1 l0_2)) else (none))) = some (r1,r2) := h
 clear h
 by_cases c3 : a0_0 = 3
 ·rw [if_pos c3] at H
  have c3b0 : (a0_0 == 3) = true := beq_iff_eq.mpr c3
  have c3b1 : (a0_0 != 3) = false := bne_eq_false_iff_eq.mpr c3
  clear c3
  by_cases c4 : (l0_2.length : Int) = 2
  ·rw [if_pos c4] at H
   have c4b0 : ((l0_2.length : Int) == 2) = true := beq_iff_eq.mpr c4
   have c4b1 : ((l0_2.length : Int) != 2) = false := bne_eq_false_iff_eq.mpr c4
   clear c4
   obtain ⟨c5,H⟩ := qo H
   have c5b0 : decide (0 < (l0_2.length : Int)) = true := decide_eq_true c5
   have c5b1 : decide (0 < l0_2.length) = true := decide_eq_true (by omega)
   clear c5
   obtain ⟨c6,H⟩ := qo H
   have c6b0 : decide (0 ≤ (rd l0_2 0)) = true := decide_eq_true c6
   clear c6
   obtain ⟨c7,H⟩ := qo H
   have c7b0 : decide ((rd l0_2 0) < (l1.length : Int)) = true := decide_eq_true c7
   clear c7
   obtain ⟨c8,H⟩ := qo H
   have c8b0 := eq_true c8
   have c8b1 := decide_eq_true c8
   have c8b2 := eq_false (Nat.not_lt.2 c8)
   obtain ⟨c9,H⟩ := qo H
   have c9b0 := eq_true c9
   have c9b1 := decide_eq_true c9
   have c9b2 := eq_false (Nat.not_lt.2 c9)
   have c9b3 : (9223372036854775807 < (rdOf ByteArray.empty l1 (rd l0_2 0)).size + 1 + a0_1.size) = False := qs c9b2
   obtain ⟨c10,H⟩ := qo H
   have c10b0 := eq_true c10
   have c10b1 := decide_eq_true c10
   have c10b2 := eq_false (Nat.not_lt.2 c10)
   have c10b3 : (9223372036854775807 < (rdOf ByteArray.empty l1 (rd l0_2 0)).size + 1 + a0_1.size + 1) = False := qs c10b2
   obtain ⟨c11,H⟩ := qo H
   have c11b0 : decide (1 < (l0_2.length : Int)) = true := decide_eq_true c11
   have c11b1 : decide (1 < l0_2.length) = true := decide_eq_true (by omega)
   clear c11
   obtain ⟨c12,H⟩ := qo H
   have c12b0 : decide (0 ≤ (rd l0_2 1)) = true := decide_eq_true c12
   clear c12
   obtain ⟨c13,H⟩ := qo H
   have c13b0 : decide ((rd l0_2 1) < (l1.length : Int)) = true := decide_eq_true c13
   clear c13
   obtain ⟨c14,H⟩ := qo H
   have c14b0 := eq_true c14
   have c14b1 := decide_eq_true c14
   have c14b2 := eq_false (Nat.not_lt.2 c14)
   have c14b3 : (9223372036854775807 < (rdOf ByteArray.empty l1 (rd l0_2 0)).size + 1 + a0_1.size + 1 + (rdOf ByteArray.empty l1 (rd l0_2 1)).size) = False := qs c14b2
   simp only [Option.some.injEq,Prod.mk.injEq] at H
   obtain ⟨rfl,rfl⟩ := H
   go_enter Try.func26,Try.ntmps26
   go_wp2_with (first | ((with_reducible refine y16 (N := 2) rfl ?_); refine qe 2 #[.int .i64 a0_0,.string a0_1,.slice A0_2 l0_2.length c0_2] 32 ?_; intro gb163 hg w15 hbox hb; have BK163 := y0.mk (hbox); have GW163 := y0.mk (qg (w := w) hg); have GE163 := y0.mk (qg (w := w) hg); replace HB := y0.mk (y4 qb hb); clear hb hbox hg; obtain ⟨hcz16_0,hcz16_1,hcz16_2,hfz16_0,hfz16_1,hfz16_2⟩ := qz3 BK163.out; have p164 : 0 ≤ (0 : Int) := (by omega); have q164 : 0 < (l0_2.length : Int) := of_decide_eq_true qy1; obtain ⟨ad164,e164,hx164_0⟩ := Kd.at_int HR0_2.out 0 p164 q164; cases e164; have qi164 : (0 < l0_2.length) = True := eq_true (by omega); (try rw [show ((0 : Int)).toNat = 0 from rfl] at hx164_0); (try rw [Addr.add_zero'] at hx164_0); replace hx164_0 := (HB.out.cell (World.block_lt_of_cell? w _ hx164_0)).trans hx164_0; replace p164 := eq_true p164; replace q164 := eq_true q164; have p165 : 0 ≤ ((rd l0_2 0) : Int) := of_decide_eq_true qy1; have q165 : (rd l0_2 0) < (l1.length : Int) := of_decide_eq_true qy1; obtain ⟨ad165,e165,hx165_0⟩ := Kd.at_string HR1.out (rd l0_2 0) p165 q165; cases e165; replace hx165_0 := (HB.out.cell (World.block_lt_of_cell? w _ hx165_0)).trans hx165_0; replace p165 := eq_true p165; replace q165 := eq_true q165; have p166 : 0 ≤ (1 : Int) := (by omega); have q166 : 1 < (l0_2.length : Int) := of_decide_eq_true qy1; obtain ⟨ad166,e166,hx166_0⟩ := Kd.at_int HR0_2.out 1 p166 q166; obtain rfl : ad164 = ad166 := (by injection e166); (try simp only [show (1 : Int).toNat = 1 from rfl,Nat.reduceMul,Nat.reduceEqDiff,Go.Addr.add,↓reduceIte] at hx166_0); have qi166 : (1 < l0_2.length) = True := eq_true (by omega); (try rw [show ((1 : Int)).toNat = 1 from rfl] at hx166_0); replace hx166_0 := (HB.out.cell (World.block_lt_of_cell? w _ hx166_0)).trans hx166_0; replace p166 := eq_true p166; replace q166 := eq_true q166; have p167 : 0 ≤ ((rd l0_2 1) : Int) := of_decide_eq_true qy1; have q167 : (rd l0_2 1) < (l1.length : Int) := of_decide_eq_true qy1; obtain ⟨ad167,e167,hx167_0⟩ := Kd.at_string HR1.out (rd l0_2 1) p167 q167; obtain rfl : ad165 = ad167 := (by injection e167); replace hx167_0 := (HB.out.cell (World.block_lt_of_cell? w _ hx167_0)).trans hx167_0; replace p167 := eq_true p167; replace q167 := eq_true q167))
   repeat (go_quiet (first | ((with_reducible refine y16 (N := 2) rfl ?_); refine qe 2 #[.int .i64 a0_0,.string a0_1,.slice A0_2 l0_2.length c0_2] 32 ?_; intro gb163 hg w15 hbox hb; have BK163 := y0.mk (hbox); have GW163 := y0.mk (qg (w := w) hg); have GE163 := y0.mk (qg (w := w) hg); replace HB := y0.mk (y4 qb hb); clear hb hbox hg; obtain ⟨hcz16_0,hcz16_1,hcz16_2,hfz16_0,hfz16_1,hfz16_2⟩ := qz3 BK163.out; have p164 : 0 ≤ (0 : Int) := (by omega); have q164 : 0 < (l0_2.length : Int) := of_decide_eq_true qy1; obtain ⟨ad164,e164,hx164_0⟩ := Kd.at_int HR0_2.out 0 p164 q164; cases e164; have qi164 : (0 < l0_2.length) = True := eq_true (by omega); (try rw [show ((0 : Int)).toNat = 0 from rfl] at hx164_0); (try rw [Addr.add_zero'] at hx164_0); replace hx164_0 := (HB.out.cell (World.block_lt_of_cell? w _ hx164_0)).trans hx164_0; replace p164 := eq_true p164; replace q164 := eq_true q164; have p165 : 0 ≤ ((rd l0_2 0) : Int) := of_decide_eq_true qy1; have q165 : (rd l0_2 0) < (l1.length : Int) := of_decide_eq_true qy1; obtain ⟨ad165,e165,hx165_0⟩ := Kd.at_string HR1.out (rd l0_2 0) p165 q165; cases e165; replace hx165_0 := (HB.out.cell (World.block_lt_of_cell? w _ hx165_0)).trans hx165_0; replace p165 := eq_true p165; replace q165 := eq_true q165; have p166 : 0 ≤ (1 : Int) := (by omega); have q166 : 1 < (l0_2.length : Int) := of_decide_eq_true qy1; obtain ⟨ad166,e166,hx166_0⟩ := Kd.at_int HR0_2.out 1 p166 q166; obtain rfl : ad164 = ad166 := (by injection e166); (try simp only [show (1 : Int).toNat = 1 from rfl,Nat.reduceMul,Nat.reduceEqDiff,Go.Addr.add,↓reduceIte] at hx166_0); have qi166 : (1 < l0_2.length) = True := eq_true (by omega); (try rw [show ((1 : Int)).toNat = 1 from rfl] at hx166_0); replace hx166_0 := (HB.out.cell (World.block_lt_of_cell? w _ hx166_0)).trans hx166_0; replace p166 := eq_true p166; replace q166 := eq_true q166; have p167 : 0 ≤ ((rd l0_2 1) : Int) := of_decide_eq_true qy1; have q167 : (rd l0_2 1) < (l1.length : Int) := of_decide_eq_true qy1; obtain ⟨ad167,e167,hx167_0⟩ := Kd.at_string HR1.out (rd l0_2 1) p167 q167; obtain rfl : ad165 = ad167 := (by injection e167); replace hx167_0 := (HB.out.cell (World.block_lt_of_cell? w _ hx167_0)).trans hx167_0; replace p167 := eq_true p167; replace q167 := eq_true q167)); try go_wp2_with (first | ((with_reducible refine y16 (N := 2) rfl ?_); refine qe 2 #[.int .i64 a0_0,.string a0_1,.slice A0_2 l0_2.length c0_2] 32 ?_; intro gb163 hg w15 hbox hb; have BK163 := y0.mk (hbox); have GW163 := y0.mk (qg (w := w) hg); have GE163 := y0.mk (qg (w := w) hg); replace HB := y0.mk (y4 qb hb); clear hb hbox hg; obtain ⟨hcz16_0,hcz16_1,hcz16_2,hfz16_0,hfz16_1,hfz16_2⟩ := qz3 BK163.out; have p164 : 0 ≤ (0 : Int) := (by omega); have q164 : 0 < (l0_2.length : Int) := of_decide_eq_true qy1; obtain ⟨ad164,e164,hx164_0⟩ := Kd.at_int HR0_2.out 0 p164 q164; cases e164; have qi164 : (0 < l0_2.length) = True := eq_true (by omega); (try rw [show ((0 : Int)).toNat = 0 from rfl] at hx164_0); (try rw [Addr.add_zero'] at hx164_0); replace hx164_0 := (HB.out.cell (World.block_lt_of_cell? w _ hx164_0)).trans hx164_0; replace p164 := eq_true p164; replace q164 := eq_true q164; have p165 : 0 ≤ ((rd l0_2 0) : Int) := of_decide_eq_true qy1; have q165 : (rd l0_2 0) < (l1.length : Int) := of_decide_eq_true qy1; obtain ⟨ad165,e165,hx165_0⟩ := Kd.at_string HR1.out (rd l0_2 0) p165 q165; cases e165; replace hx165_0 := (HB.out.cell (World.block_lt_of_cell? w _ hx165_0)).trans hx165_0; replace p165 := eq_true p165; replace q165 := eq_true q165; have p166 : 0 ≤ (1 : Int) := (by omega); have q166 : 1 < (l0_2.length : Int) := of_decide_eq_true qy1; obtain ⟨ad166,e166,hx166_0⟩ := Kd.at_int HR0_2.out 1 p166 q166; obtain rfl : ad164 = ad166 := (by injection e166); (try simp only [show (1 : Int).toNat = 1 from rfl,Nat.reduceMul,Nat.reduceEqDiff,Go.Addr.add,↓reduceIte] at hx166_0); have qi166 : (1 < l0_2.length) = True := eq_true (by omega); (try rw [show ((1 : Int)).toNat = 1 from rfl] at hx166_0); replace hx166_0 := (HB.out.cell (World.block_lt_of_cell? w _ hx166_0)).trans hx166_0; replace p166 := eq_true p166; replace q166 := eq_true q166; have p167 : 0 ≤ ((rd l0_2 1) : Int) := of_decide_eq_true qy1; have q167 : (rd l0_2 1) < (l1.length : Int) := of_decide_eq_true qy1; obtain ⟨ad167,e167,hx167_0⟩ := Kd.at_string HR1.out (rd l0_2 1) p167 q167; obtain rfl : ad165 = ad167 := (by injection e167); replace hx167_0 := (HB.out.cell (World.block_lt_of_cell? w _ hx167_0)).trans hx167_0; replace p167 := eq_true p167; replace q167 := eq_true q167)))
   go_ret2
   exact ⟨by first | rfl | (simp [y12,y13] <;> rfl) | (simp [*,y12,y13] <;> rfl),qb⟩
  ·rw [if_neg c4] at H
   have c4b0 : ((l0_2.length : Int) == 2) = false := beq_eq_false_iff_ne.mpr c4
   have c4b1 : ((l0_2.length : Int) != 2) = true := bne_iff_ne.mpr c4
   simp only [Option.some.injEq,Prod.mk.injEq] at H
   obtain ⟨rfl,rfl⟩ := H
   go_enter Try.func26,Try.ntmps26
   go_wp2_with (first | ((with_reducible refine y16 (N := 2) rfl ?_); refine qe 2 #[.int .i64 a0_0,.string a0_1,.slice A0_2 l0_2.length c0_2] 32 ?_; intro gb163 hg w17 hbox hb; have BK163 := y0.mk (hbox); have GW163 := y0.mk (qg (w := w) hg); have GE163 := y0.mk (qg (w := w) hg); replace HB := y0.mk (y4 qb hb); clear hb hbox hg; obtain ⟨hcz18_0,hcz18_1,hcz18_2,hfz18_0,hfz18_1,hfz18_2⟩ := qz3 BK163.out))
   repeat (go_quiet (first | ((with_reducible refine y16 (N := 2) rfl ?_); refine qe 2 #[.int .i64 a0_0,.string a0_1,.slice A0_2 l0_2.length c0_2] 32 ?_; intro gb163 hg w17 hbox hb; have BK163 := y0.mk (hbox); have GW163 := y0.mk (qg (w := w) hg); have GE163 := y0.mk (qg (w := w) hg); replace HB := y0.mk (y4 qb hb); clear hb hbox hg; obtain ⟨hcz18_0,hcz18_1,hcz18_2,hfz18_0,hfz18_1,hfz18_2⟩ := qz3 BK163.out)); try go_wp2_with (first | ((with_reducible refine y16 (N := 2) rfl ?_); refine qe 2 #[.int .i64 a0_0,.string a0_1,.slice A0_2 l0_2.length c0_2] 32 ?_; intro gb163 hg w17 hbox hb; have BK163 := y0.mk (hbox); have GW163 := y0.mk (qg (w := w) hg); have GE163 := y0.mk (qg (w := w) hg); replace HB := y0.mk (y4 qb hb); clear hb hbox hg; obtain ⟨hcz18_0,hcz18_1,hcz18_2,hfz18_0,hfz18_1,hfz18_2⟩ := qz3 BK163.out)))
   go_ret2
   exact ⟨by first | rfl | (simp [y12,y13] <;> rfl) | (simp [*,y12,y13] <;> rfl),qb⟩
 ·rw [if_neg c3] at H
  have c3b0 : (a0_0 == 3) = false := beq_eq_false_iff_ne.mpr c3
  have c3b1 : (a0_0 != 3) = true := bne_iff_ne.mpr c3
  obtain ⟨c19,H⟩ := qo H
  have c19b0 := eq_true c19
  have c19b1 := decide_eq_true c19
  have c19b2 := eq_false (Nat.not_lt.2 c19)
  have HC20 := y0.mk H
  clear H
  go_enter Try.func26,Try.ntmps26
  go_upto_if 40 with (first | ((with_reducible refine y16 (N := 2) rfl ?_); refine qe 2 #[.int .i64 a0_0,.string a0_1,.slice A0_2 l0_2.length c0_2] 32 ?_; intro gb163 hg w21 hbox hb; have BK163 := y0.mk (hbox); have GW163 := y0.mk (qg (w := w) hg); have GE163 := y0.mk (qg (w := w) hg); replace HB := y0.mk (y4 qb hb); clear hb hbox hg; obtain ⟨hcz22_0,hcz22_1,hcz22_2,hfz22_0,hfz22_1,hfz22_2⟩ := qz3 BK163.out))
  repeat (go_quiet (first | ((with_reducible refine y16 (N := 2) rfl ?_); refine qe 2 #[.int .i64 a0_0,.string a0_1,.slice A0_2 l0_2.length c0_2] 32 ?_; intro gb163 hg w21 hbox hb; have BK163 := y0.mk (hbox); have GW163 := y0.mk (qg (w := w) hg); have GE163 := y0.mk (qg (w := w) hg); replace HB := y0.mk (y4 qb hb); clear hb hbox hg; obtain ⟨hcz22_0,hcz22_1,hcz22_2,hfz22_0,hfz22_1,hfz22_2⟩ := qz3 BK163.out)); go_upto_if 40 with (first | ((with_reducible refine y16 (N := 2) rfl ?_); refine qe 2 #[.int .i64 a0_0,.string a0_1,.slice A0_2 l0_2.length c0_2] 32 ?_; intro gb163 hg w21 hbox hb; have BK163 := y0.mk (hbox); have GW163 := y0.mk (qg (w := w) hg); have GE163 := y0.mk (qg (w := w) hg); replace HB := y0.mk (y4 qb hb); clear hb hbox hg; obtain ⟨hcz22_0,hcz22_1,hcz22_2,hfz22_0,hfz22_1,hfz22_2⟩ := qz3 BK163.out)))
  (try simp only [Act.put,qS_,qZ_,qC_])
  go_cut [6] (fun v6 wc => ∃ (kq : Nat) (x6_19 : ByteArray),v6 = .string x6_19 ∧ y0 (spec_l04Lit.j0 kq l1 x6_19 a0_0 a0_1 l0_2 = some (r1,r2)) ∧ y0 (kq ≤ k) ∧ y0 (wc.heap[gb163]? = some (.cells #[.int .i64 a0_0,.string a0_1,(.slice A0_2 l0_2.length c0_2)] 32 (0,0))) ∧ y0 (Below w.heap.size w wc))
  case first =>
   have H := HC20.out
   clear HC20
   by_cases c23 : a0_0 = 2
   ·rw [if_pos c23] at H
    have c23b0 : (a0_0 == 2) = true := beq_iff_eq.mpr c23
    have c23b1 : (a0_0 != 2) = false := bne_eq_false_iff_eq.mpr c23
    clear c23
    (first | rw [c23b0] | (simp only [i64_w,i32_w]; rw [c23b0]) | skip)
    obtain ⟨c24,H⟩ := qo H
    have c24b0 := eq_true c24
    have c24b1 := decide_eq_true c24
    have c24b2 := eq_false (Nat.not_lt.2 c24)
    have c24b3 : (9223372036854775807 < 1 + a0_1.size + 1) = False := qs c24b2
    have c24b7 : (9223372036854775807 < 1 + (a0_1.size + 1)) = False := qs c24b2
    have c24b9 : (9223372036854775807 < 1 + (a0_1.size + 1)) = False := qs c24b2
    have H' := y0.mk H
    clear H
    go_wp2
    repeat (go_quiet (fail); try go_wp2)
    go_meet
    exact ⟨_,((⟨#[33]⟩ : ByteArray) ++ (a0_1 ++ (⟨#[40]⟩ : ByteArray))),qy2,H',⟨by first | omega | exact Nat.le_refl _⟩,⟨qk BK163.out⟩,⟨qb⟩⟩
   ·rw [if_neg c23] at H
    have c23b0 : (a0_0 == 2) = false := beq_eq_false_iff_ne.mpr c23
    have c23b1 : (a0_0 != 2) = true := bne_iff_ne.mpr c23
    (first | rw [c23b0] | (simp only [i64_w,i32_w]; rw [c23b0]) | skip)
    have H' := y0.mk H
    clear H
    go_wp2
    repeat (go_quiet (fail); try go_wp2)
    go_meet
    exact ⟨_,(a0_1 ++ (⟨#[40]⟩ : ByteArray)),qy2,H',⟨by first | omega | exact Nat.le_refl _⟩,⟨qk BK163.out⟩,⟨qb⟩⟩
  case rest =>
   clear HC20
   (try clear c3b0 c3b1 c19 c19b0 c19b1 c19b2 hcz22_0 hcz22_1 hcz22_2 hfz22_0 hfz22_1 hfz22_2)
   obtain ⟨kq,x6_19,rfl,HA,HJ19,BK163,HB⟩ := hcut
   cases kq with
   | zero => exact absurd HA.out (by simp [spec_l04Lit.j0])
   | succ kj19 =>
    have H := HA.out
    clear HA
    simp only [spec_l04Lit.j0] at H
    have H' := y0.mk H
    clear H
    go_wp2
    repeat (go_quiet (fail); try go_wp2)
    go_loopg [6,7] kj19 (fun kq v6 v7 w' => ∃ (x6_2 : ByteArray) (x7_2 : Int),v6 = .string x6_2 ∧ v7 = .int .i64 x7_2 ∧ y0 (spec_l04Lit.l0 kq l1 x6_2 x7_2 a0_0 a0_1 l0_2 = some (r1,r2)) ∧ y0 (kq ≤ kj19) ∧ y0 (w'.heap[gb163]? = some (.cells #[.int .i64 a0_0,.string a0_1,(.slice A0_2 l0_2.length c0_2)] 32 (0,0))) ∧ y0 (Below w.heap.size w w'))
    case atStart => exact ⟨(x6_19),(0),qy2,qy2,H',⟨Nat.le_refl _⟩,⟨qk BK163.out⟩,⟨qb⟩⟩
    case round =>
     clear H'
     obtain ⟨x6_2,x7_2,rfl,rfl,HA,HK2,BK163,HB⟩ := hrel
     cases gk with
     | zero => exact absurd HA.out (by simp [spec_l04Lit.l0])
     | succ k2 =>
      have H := HA.out
      clear HA
      simp only [spec_l04Lit.l0] at H
      by_cases c25 : x7_2 < (l0_2.length : Int)
      ·rw [if_pos c25] at H
       have c25b0 := decide_eq_true c25
       clear c25
       by_cases c26 : x7_2 > 0
       ·rw [if_pos c26] at H
        have c26b0 : decide (0 < x7_2) = true := decide_eq_true c26
        clear c26
        obtain ⟨c27,H⟩ := qo H
        have c27b0 := eq_true c27
        have c27b1 := decide_eq_true c27
        have c27b2 := eq_false (Nat.not_lt.2 c27)
        obtain ⟨c28,H⟩ := qo H
        have c28b0 : decide (0 ≤ x7_2) = true := decide_eq_true c28
        clear c28
        obtain ⟨c29,H⟩ := qo H
        have c29b0 : decide (0 ≤ (rd l0_2 x7_2)) = true := decide_eq_true c29
        clear c29
        obtain ⟨c30,H⟩ := qo H
        have c30b0 : decide ((rd l0_2 x7_2) < (l1.length : Int)) = true := decide_eq_true c30
        clear c30
        obtain ⟨c31,H⟩ := qo H
        have c31b0 := eq_true c31
        have c31b1 := decide_eq_true c31
        have c31b2 := eq_false (Nat.not_lt.2 c31)
        have c31b3 : (9223372036854775807 < x6_2.size + 2 + (rdOf ByteArray.empty l1 (rd l0_2 x7_2)).size) = False := qs c31b2
        have H' := y0.mk H
        clear H
        obtain ⟨hcz32_0,hcz32_1,hcz32_2,hfz32_0,hfz32_1,hfz32_2⟩ := qz3 BK163.out
        have p168 : 0 ≤ (x7_2 : Int) := of_decide_eq_true qy1
        have q168 : x7_2 < (l0_2.length : Int) := of_decide_eq_true qy1
        obtain ⟨ad168,e168,hx168_0⟩ := Kd.at_int HR0_2.out x7_2 p168 q168
        cases e168
        replace hx168_0 := (HB.out.cell (World.block_lt_of_cell? w _ hx168_0)).trans hx168_0
        replace p168 := eq_true p168
        replace q168 := eq_true q168
        have p169 : 0 ≤ ((rd l0_2 x7_2) : Int) := of_decide_eq_true qy1
        have q169 : (rd l0_2 x7_2) < (l1.length : Int) := of_decide_eq_true qy1
        obtain ⟨ad169,e169,hx169_0⟩ := Kd.at_string HR1.out (rd l0_2 x7_2) p169 q169
        cases e169
        replace hx169_0 := (HB.out.cell (World.block_lt_of_cell? w _ hx169_0)).trans hx169_0
        replace p169 := eq_true p169
        replace q169 := eq_true q169
        go_wp2
        repeat (go_quiet (fail); try go_wp2)
        go_roundg k2
        case measure => have := HJ19.out; have := HK2.out; omega
        exact ⟨((x6_2 ++ (⟨#[44,32]⟩ : ByteArray)) ++ (rdOf ByteArray.empty l1 (rd l0_2 x7_2))),(wrap64 (x7_2 + 1)),qy2,qy2,H',⟨by have := HJ19.out; have := HK2.out; omega⟩,⟨qk BK163.out⟩,⟨qb⟩⟩
       ·rw [if_neg c26] at H
        have c26b0 : decide (0 < x7_2) = false := decide_eq_false c26
        clear c26
        obtain ⟨c33,H⟩ := qo H
        have c33b0 : decide (0 ≤ x7_2) = true := decide_eq_true c33
        clear c33
        obtain ⟨c34,H⟩ := qo H
        have c34b0 : decide (0 ≤ (rd l0_2 x7_2)) = true := decide_eq_true c34
        clear c34
        obtain ⟨c35,H⟩ := qo H
        have c35b0 : decide ((rd l0_2 x7_2) < (l1.length : Int)) = true := decide_eq_true c35
        clear c35
        obtain ⟨c36,H⟩ := qo H
        have c36b0 := eq_true c36
        have c36b1 := decide_eq_true c36
        have c36b2 := eq_false (Nat.not_lt.2 c36)
        have H' := y0.mk H
        clear H
        obtain ⟨hcz37_0,hcz37_1,hcz37_2,hfz37_0,hfz37_1,hfz37_2⟩ := qz3 BK163.out
        have p170 : 0 ≤ (x7_2 : Int) := of_decide_eq_true qy1
        have q170 : x7_2 < (l0_2.length : Int) := of_decide_eq_true qy1
        obtain ⟨ad170,e170,hx170_0⟩ := Kd.at_int HR0_2.out x7_2 p170 q170
        cases e170
        replace hx170_0 := (HB.out.cell (World.block_lt_of_cell? w _ hx170_0)).trans hx170_0
        replace p170 := eq_true p170
        replace q170 := eq_true q170
        have p171 : 0 ≤ ((rd l0_2 x7_2) : Int) := of_decide_eq_true qy1
        have q171 : (rd l0_2 x7_2) < (l1.length : Int) := of_decide_eq_true qy1
        obtain ⟨ad171,e171,hx171_0⟩ := Kd.at_string HR1.out (rd l0_2 x7_2) p171 q171
        cases e171
        replace hx171_0 := (HB.out.cell (World.block_lt_of_cell? w _ hx171_0)).trans hx171_0
        replace p171 := eq_true p171
        replace q171 := eq_true q171
        go_wp2
        repeat (go_quiet (fail); try go_wp2)
        go_roundg k2
        case measure => have := HJ19.out; have := HK2.out; omega
        exact ⟨(x6_2 ++ (rdOf ByteArray.empty l1 (rd l0_2 x7_2))),(wrap64 (x7_2 + 1)),qy2,qy2,H',⟨by have := HJ19.out; have := HK2.out; omega⟩,⟨qk BK163.out⟩,⟨qb⟩⟩
      ·rw [if_neg c25] at H
       have c25b0 := decide_eq_false c25
       clear c25
       obtain ⟨c38,H⟩ := qo H
       have c38b0 := eq_true c38
       have c38b1 := decide_eq_true c38
       have c38b2 := eq_false (Nat.not_lt.2 c38)
       by_cases c39 : a0_0 = 1
       ·rw [if_pos c39] at H
        have c39b0 : (a0_0 == 1) = true := beq_iff_eq.mpr c39
        have c39b1 : (a0_0 != 1) = false := bne_eq_false_iff_eq.mpr c39
        clear c39
        simp only [Option.some.injEq,Prod.mk.injEq] at H
        obtain ⟨rfl,rfl⟩ := H
        obtain ⟨hcz40_0,hcz40_1,hcz40_2,hfz40_0,hfz40_1,hfz40_2⟩ := qz3 BK163.out
        go_wp2
        repeat (go_quiet (fail); try go_wp2)
        go_ret2
        exact ⟨by first | rfl | (simp [y12,y13] <;> rfl) | (simp [*,y12,y13] <;> rfl),qb⟩
       ·rw [if_neg c39] at H
        have c39b0 : (a0_0 == 1) = false := beq_eq_false_iff_ne.mpr c39
        have c39b1 : (a0_0 != 1) = true := bne_iff_ne.mpr c39
        simp only [Option.some.injEq,Prod.mk.injEq] at H
        obtain ⟨rfl,rfl⟩ := H
        obtain ⟨hcz41_0,hcz41_1,hcz41_2,hfz41_0,hfz41_1,hfz41_2⟩ := qz3 BK163.out
        go_wp2
        repeat (go_quiet (fail); try go_wp2)
        go_ret2
        exact ⟨by first | rfl | (simp [y12,y13] <;> rfl) | (simp [*,y12,y13] <;> rfl),qb⟩
end Go.Proofs.Ytamjmldfifofbaa.Pp
end
section
namespace Go.Proofs.Ytamjmldfifofbaa.Pp
open Go.RowKit Go.Proofs.YtamjmldfifofbaaW.PrintWords Go.Proofs.YtamjmldfifofbaaW.PrintLast Go.Proofs.YtamjmldfifofbaaW.PrintMore
attribute [local go_sem] max2_int min2_int max_two min_two max_three min_three max_four min_four   -- for this text's walks alone
set_option linter.unusedVariables false
set_option linter.unusedSimpArgs false
mutual
def z7_.j0 : Nat → List ByteArray → ByteArray → Bool → List (S101) → Int → ByteArray → List Int → List (S32) → Option (ByteArray)
 | 0,_,_,_,_,_,_,_,_ => none
 | k + 1,x3,x5,x34,x173000,x173001,x173002,x173003,x173004 => if x34 = true then (some (⟨#[]⟩ : ByteArray)) else (z7_.l0 k x3 x5 0 x173000 x173001 x173002 x173003 x173004)
def z7_.l0 : Nat → List ByteArray → ByteArray → Int → List (S101) → Int → ByteArray → List Int → List (S32) → Option (ByteArray)
 | 0,_,_,_,_,_,_,_,_ => none
 | k + 1,x3,x5,x6,x173000,x173001,x173002,x173003,x173004 => if x6 < (x173004.length : Int) then (z7_.j2 k x3 x5 x6 (decide ((x5.size : Int) ≤ 3000)) x173000 x173001 x173002 x173003 x173004) else (z7_.j2 k x3 x5 x6 false x173000 x173001 x173002 x173003 x173004)
def z7_.j2 : Nat → List ByteArray → ByteArray → Int → Bool → List (S101) → Int → ByteArray → List Int → List (S32) → Option (ByteArray)
 | 0,_,_,_,_,_,_,_,_,_ => none
 | k + 1,x3,x5,x6,x44,x173000,x173001,x173002,x173003,x173004 => if x44 = true then (if x6 = 0 then (if x5.size + 4 ≤ 9223372036854775807 then (if 0 ≤ x6 then (if x6 < (x173004.length : Int) then ((spec_l04Lit.f k ((y19 x173004 x6).f0) ((y19 x173004 x6).f1) ((y19 x173004 x6).f2) x3).bind fun bt180 => (if bt180.2 = true then (if (x5 ++ (⟨#[32,58,45,32]⟩ : ByteArray)).size + bt180.1.size ≤ 9223372036854775807 then (z7_.l0 k x3 ((x5 ++ (⟨#[32,58,45,32]⟩ : ByteArray)) ++ bt180.1) (wrap64 (x6 + 1)) x173000 x173001 x173002 x173003 x173004) else (none)) else (some (⟨#[]⟩ : ByteArray)))) else (none)) else (none)) else (none)) else (if x5.size + 2 ≤ 9223372036854775807 then (if 0 ≤ x6 then (if x6 < (x173004.length : Int) then ((spec_l04Lit.f k ((y19 x173004 x6).f0) ((y19 x173004 x6).f1) ((y19 x173004 x6).f2) x3).bind fun bt183 => (if bt183.2 = true then (if (x5 ++ (⟨#[44,32]⟩ : ByteArray)).size + bt183.1.size ≤ 9223372036854775807 then (z7_.l0 k x3 ((x5 ++ (⟨#[44,32]⟩ : ByteArray)) ++ bt183.1) (wrap64 (x6 + 1)) x173000 x173001 x173002 x173003 x173004) else (none)) else (some (⟨#[]⟩ : ByteArray)))) else (none)) else (none)) else (none))) else (if x5.size + 1 ≤ 9223372036854775807 then (if ((x5 ++ (⟨#[46]⟩ : ByteArray)).size : Int) > 3000 then (some (⟨#[]⟩ : ByteArray)) else (some (x5 ++ (⟨#[46]⟩ : ByteArray)))) else (none))
end
def z7_.f (k : Nat) (l0_0 : List (S101)) (a0_1 : Int) (a0_2 : ByteArray) (l0_3 : List Int) (l0_4 : List (S32)) : Option (ByteArray) := if (l0_4.length : Int) > 3000 then (some (⟨#[]⟩ : ByteArray)) else ((z8_.f k l0_0 a0_1 a0_2 l0_3 l0_4).bind fun bt173 => (if bt173.2 = true then ((spec_l04Lit.f k a0_1 a0_2 l0_3 bt173.1).bind fun bt177 => (if bt177.2 = true then (z7_.j0 k bt173.1 bt177.1 (a0_1 != 1) l0_0 a0_1 a0_2 l0_3 l0_4) else (z7_.j0 k bt173.1 bt177.1 true l0_0 a0_1 a0_2 l0_3 l0_4))) else (some (⟨#[]⟩ : ByteArray))))
set_option maxHeartbeats 8000000 in
set_option maxRecDepth 100000 in
theorem z7_.calls (k : Nat) (A0_0 : Option Addr) (c0_0 : Nat) (l0_0 : List (S101)) (a0_1 : Int) (a0_2 : ByteArray) (A0_3 : Option Addr) (c0_3 : Nat) (l0_3 : List Int) (A0_4 : Option Addr) (c0_4 : Nat) (l0_4 : List (S32)) (r : ByteArray) (w : World) (hr0_0 : Kd.C k101 w A0_0 l0_0.length l0_0) (hc0_0 : l0_0.length ≤ c0_0) (hr0_3 : Kd.C (Kd.int .i64) w A0_3 l0_3.length l0_3) (hc0_3 : l0_3.length ≤ c0_3) (hr0_4 : Kd.C k32 w A0_4 l0_4.length l0_4) (hc0_4 : l0_4.length ≤ c0_4) (h : z7_.f k l0_0 a0_1 a0_2 l0_3 l0_4 = some r) :
  Calls Try.prog 7 #[.agg #[.slice A0_0 l0_0.length c0_0,.int .i64 a0_1,.string a0_2,.slice A0_3 l0_3.length c0_3,.slice A0_4 l0_4.length c0_4]] w fun e w' => e = .returned (.string r) ∧ Below w.heap.size w w' := by
 have hu35 := Try.underlying35
 have hu32 := Try.underlying32
 have HR0_0 := y0.mk hr0_0
 have HC0_0 := y0.mk hc0_0
 clear hr0_0 hc0_0
 have HR0_3 := y0.mk hr0_3
 have HC0_3 := y0.mk hc0_3
 clear hr0_3 hc0_3
 have HR0_4 := y0.mk hr0_4
 have HC0_4 := y0.mk hc0_4
 clear hr0_4 hc0_4
 have HB := y0.mk (Below.refl w.heap.size w)
 have H : (if (l0_4.length : Int) > 3000 then (some (⟨#[]⟩ : ByteArray)) else ((z8_.f k l0_0 a0_1 a0_2 l0_3 l0_4).bind fun bt173 => (if bt173.2 = true then ((spec_l04Lit.f k a0_1 a0_2 l0_3 bt173.1).bind fun bt177 => (if bt177.2 = true then (z7_.j0 k bt173.1 bt177.1 (a0_1 != 1) l0_0 a0_1 a0_2 l0_3 l0_4) else (z7_.j0 k bt173.1 bt177.1 true l0_0 a0_1 a0_2 l0_3 l0_4))) else (some (⟨#[]⟩ : ByteArray))))) = some r := h
 clear h
 by_cases c2 : (l0_4.length : Int) > 3000
 ·rw [if_pos c2] at H
  have c2b0 : decide (3000 < (l0_4.length : Int)) = true := decide_eq_true c2
  have c2b1 : decide (3000 < l0_4.length) = true := decide_eq_true (by omega)
  clear c2
  obtain rfl := Option.some.inj H
  go_enter Try.func7,Try.ntmps7
  go_wp2_with (first | ((with_reducible refine y16 (N := 1) rfl ?_); (try (refine gate_guard (by rfl) ?_; dsimp only)); refine qe 1 #[.slice A0_0 l0_0.length c0_0,.int .i64 a0_1,.string a0_2,.slice A0_3 l0_3.length c0_3,.slice A0_4 l0_4.length c0_4] 35 ?_; intro gb172 hg w3 hbox hb; have BK172 := y0.mk (hbox); have GW172 := y0.mk (qg (w := w) hg); have GE172 := y0.mk (qg (w := w) hg); replace HB := y0.mk (y4 qb hb); clear hb hbox hg; obtain ⟨hcz4_0,hcz4_1,hcz4_2,hcz4_3,hcz4_4,hfz4_0,hfz4_1,hfz4_2,hfz4_3,hfz4_4⟩ := qz5 BK172.out))
  go_ret
  exact ⟨by first | rfl | (simp [y12,y13] <;> rfl) | (simp [*,y12,y13] <;> rfl),qb⟩
 ·rw [if_neg c2] at H
  have c2b0 : decide (3000 < (l0_4.length : Int)) = false := decide_eq_false c2
  have c2b1 : decide (3000 < l0_4.length) = false := decide_eq_false (by omega)
  clear c2
  obtain ⟨⟨t173,t176⟩,A5,H⟩ := qB H
  replace H : (if t176 = true then ((spec_l04Lit.f k a0_1 a0_2 l0_3 t173).bind fun bt177 => (if bt177.2 = true then (z7_.j0 k t173 bt177.1 (a0_1 != 1) l0_0 a0_1 a0_2 l0_3 l0_4) else (z7_.j0 k t173 bt177.1 true l0_0 a0_1 a0_2 l0_3 l0_4))) else (some (⟨#[]⟩ : ByteArray))) = some r := H
  by_cases c6 : t176 = true
  ·subst c6
   replace H := qT H
   obtain ⟨⟨t177,t178⟩,A7,H⟩ := qB H
   replace H : (if t178 = true then (z7_.j0 k t173 t177 (a0_1 != 1) l0_0 a0_1 a0_2 l0_3 l0_4) else (z7_.j0 k t173 t177 true l0_0 a0_1 a0_2 l0_3 l0_4)) = some r := H
   have HC8 := y0.mk H
   clear H
   go_enter Try.func7,Try.ntmps7
   go_upto_region 7 with (first | ((with_reducible refine y16 (N := 1) rfl ?_); (try (refine gate_guard (by rfl) ?_; dsimp only)); refine qe 1 #[.slice A0_0 l0_0.length c0_0,.int .i64 a0_1,.string a0_2,.slice A0_3 l0_3.length c0_3,.slice A0_4 l0_4.length c0_4] 35 ?_; intro gb172 hg w9 hbox hb; have BK172 := y0.mk (hbox); have GW172 := y0.mk (qg (w := w) hg); have GE172 := y0.mk (qg (w := w) hg); replace HB := y0.mk (y4 qb hb); clear hb hbox hg; obtain ⟨hcz10_0,hcz10_1,hcz10_2,hcz10_3,hcz10_4,hfz10_0,hfz10_1,hfz10_2,hfz10_3,hfz10_4⟩ := qz5 BK172.out) | ((with_reducible refine y15 (f := 25) rfl ?_); refine y17 (some 15) rfl rfl Try.func25 (by kernel_rfl) rfl #[.agg #[.slice A0_0 l0_0.length c0_0,.int .i64 a0_1,.string a0_2,.slice A0_3 l0_3.length c0_3,.slice A0_4 l0_4.length c0_4]] rfl qy0 ?_; (with_reducible refine (z8_.calls k _ _ l0_0 a0_1 a0_2 (fun k_ => k_ < w.heap.size) _ _ l0_3 (fun k_ => k_ < w.heap.size) _ _ l0_4 t173 true _ (qc (Kd.C_below HR0_0.out HB.out)) HC0_0.out (by exact Kd.V_mk HC0_3.out (Kd.F_below (Kd.C_F (Kd.heap_int .i64) HR0_3.out) qb)) (by exact Kd.V_mk HC0_4.out (Kd.F_below (Kd.C_F k32_heap HR0_4.out) qb)) A5.out).mono ?_); rintro e w11 ⟨v174,rfl,ho0,hb⟩; refine ⟨_,rfl, ?_⟩; have HO175 := y0.mk (Kd.R_lower (Kd.R_mono (ok' := fun k_ => True) ho0 (fun _ hk_ => trivial)) (y3 qb)); replace BK172 := y0.mk (qK BK172.out hb); replace HB := y0.mk (y4 qb hb); (try clear hb); (try clear hb2); (try clear hk); (try clear hi); (try clear ho0); obtain ⟨hcz12_0,hcz12_1,hcz12_2,hcz12_3,hcz12_4,hfz12_0,hfz12_1,hfz12_2,hfz12_3,hfz12_4⟩ := qz5 BK172.out; obtain ⟨Ao13,co13,eo13⟩ := Kd.R_slice HO175.out; subst eo13) | ((with_reducible refine y15 (f := 26) rfl ?_); refine y17 (some 24) rfl rfl Try.func26 (by kernel_rfl) rfl #[.agg #[.int .i64 a0_1,.string a0_2,.slice A0_3 l0_3.length c0_3],.slice Ao13 t173.length co13] rfl qy0 ?_; (with_reducible refine (spec_l04Lit.calls k a0_1 a0_2 _ _ l0_3 _ _ t173 t177 t178 _ (qc (Kd.C_below HR0_3.out HB.out)) HC0_3.out (qc ((Kd.R_reads' HO175.out).2.2)) (by exact (Kd.R_reads' HO175.out).2.1) A7.out).mono ?_); rintro e w14 ⟨rfl,hb⟩; refine ⟨_,rfl, ?_⟩; replace HO175 := y0.mk (Kd.R_below (qR HO175.out) hb); replace BK172 := y0.mk (qK BK172.out hb); replace HB := y0.mk (y4 qb hb); (try clear hb); (try clear hb2); (try clear hk); (try clear hi)))
   (try simp only [Act.put,qS_,qZ_,qC_])
   go_cut [34] (fun v34 wc => ∃ (kq : Nat) (x34_7 : Bool),v34 = .bool x34_7 ∧ y0 (z7_.j0 kq t173 t177 x34_7 l0_0 a0_1 a0_2 l0_3 l0_4 = some r) ∧ y0 (kq ≤ k) ∧ y0 (Kd.R Kd.string 9 wc w.heap.size (fun _ => True) (.slice Ao13 t173.length co13) t173) ∧ y0 (wc.heap[gb172]? = some (.cells #[(.slice A0_0 l0_0.length c0_0),.int .i64 a0_1,.string a0_2,(.slice A0_3 l0_3.length c0_3),(.slice A0_4 l0_4.length c0_4)] 35 (0,0))) ∧ y0 (Below w.heap.size w wc))
   case first =>
    have H := HC8.out
    clear HC8
    by_cases c15 : t178 = true
    ·subst c15
     replace H := qT H
     have H' := y0.mk H
     clear H
     obtain ⟨hcz16_0,hcz16_1,hcz16_2,hcz16_3,hcz16_4,hfz16_0,hfz16_1,hfz16_2,hfz16_3,hfz16_4⟩ := qz5 BK172.out
     go_wp2
     go_meet
     exact ⟨_,((a0_1 != 1)),qy2,H',⟨by first | omega | exact Nat.le_refl _⟩,⟨qR HO175.out⟩,⟨qk BK172.out⟩,⟨qb⟩⟩
    ·replace c15 := Bool.eq_false_iff.mpr c15
     subst c15
     replace H := qF H
     have H' := y0.mk H
     clear H
     go_wp2
     go_meet
     exact ⟨_,(true),qy2,H',⟨by first | omega | exact Nat.le_refl _⟩,⟨qR HO175.out⟩,⟨qk BK172.out⟩,⟨qb⟩⟩
   case rest =>
    clear HC8
    (try clear c2b0 c2b1 c6 hcz10_0 hcz10_1 hcz10_2 hcz10_3 hcz10_4 hcz12_0 hcz12_1 hcz12_2 hcz12_3 hcz12_4 hfz10_0 hfz10_1 hfz10_2 hfz10_3 hfz10_4 hfz12_0 hfz12_1 hfz12_2 hfz12_3 hfz12_4)
    obtain ⟨kq,x34_7,rfl,HA,HJ7,HO_3,BK172,HB⟩ := hcut
    cases kq with
    | zero => exact absurd HA.out (by simp [z7_.j0])
    | succ kj7 =>
     have H := HA.out
     clear HA
     simp only [z7_.j0] at H
     by_cases c17 : x34_7 = true
     ·subst c17
      replace H := qT H
      obtain rfl := Option.some.inj H
      go_wp2
      go_ret
      exact ⟨by first | rfl | (simp [y12,y13] <;> rfl) | (simp [*,y12,y13] <;> rfl),qb⟩
     ·replace c17 := Bool.eq_false_iff.mpr c17
      subst c17
      replace H := qF H
      have H' := y0.mk H
      clear H
      go_wp2
      go_loopg [5,6] kj7 (fun kq v5 v6 w' => ∃ (x5_2 : ByteArray) (x6_2 : Int),v5 = .string x5_2 ∧ v6 = .int .i64 x6_2 ∧ y0 (z7_.l0 kq t173 x5_2 x6_2 l0_0 a0_1 a0_2 l0_3 l0_4 = some r) ∧ y0 (kq ≤ kj7) ∧ y0 (Kd.R Kd.string 9 w' w.heap.size (fun _ => True) (.slice Ao13 t173.length co13) t173) ∧ y0 (w'.heap[gb172]? = some (.cells #[(.slice A0_0 l0_0.length c0_0),.int .i64 a0_1,.string a0_2,(.slice A0_3 l0_3.length c0_3),(.slice A0_4 l0_4.length c0_4)] 35 (0,0))) ∧ y0 (Below w.heap.size w w'))
      case atStart => exact ⟨(t177),(0),qy2,qy2,H',⟨Nat.le_refl _⟩,⟨qR HO_3.out⟩,⟨qk BK172.out⟩,⟨qb⟩⟩
      case round =>
       clear H'
       (try clear c17)
       obtain ⟨x5_2,x6_2,rfl,rfl,HA,HK2,HO_3,BK172,HB⟩ := hrel
       cases gk with
       | zero => exact absurd HA.out (by simp [z7_.l0])
       | succ k2 =>
        have H := HA.out
        clear HA
        simp only [z7_.l0] at H
        have HC18 := y0.mk H
        clear H
        go_upto_region 10 with (fail)
        go_cut [44] (fun v44 wc => ∃ (kq : Nat) (x44_17 : Bool),v44 = .bool x44_17 ∧ y0 (z7_.j2 kq t173 x5_2 x6_2 x44_17 l0_0 a0_1 a0_2 l0_3 l0_4 = some r) ∧ y0 (kq ≤ k2) ∧ y0 (Kd.R Kd.string 9 wc w.heap.size (fun _ => True) (.slice Ao13 t173.length co13) t173) ∧ y0 (wc.heap[gb172]? = some (.cells #[(.slice A0_0 l0_0.length c0_0),.int .i64 a0_1,.string a0_2,(.slice A0_3 l0_3.length c0_3),(.slice A0_4 l0_4.length c0_4)] 35 (0,0))) ∧ y0 (Below w.heap.size w wc))
        case first =>
         have H := HC18.out
         clear HC18
         by_cases c19 : x6_2 < (l0_4.length : Int)
         ·rw [if_pos c19] at H
          have c19b0 := decide_eq_true c19
          clear c19
          (first | rw [c19b0] | (simp only [i64_w,i32_w]; rw [c19b0]) | skip)
          have H' := y0.mk H
          clear H
          obtain ⟨hcz20_0,hcz20_1,hcz20_2,hcz20_3,hcz20_4,hfz20_0,hfz20_1,hfz20_2,hfz20_3,hfz20_4⟩ := qz5 BK172.out
          go_wp2
          go_meet
          exact ⟨_,(decide ((x5_2.size : Int) ≤ 3000)),qy2,H',⟨by have := HJ7.out; have := HK2.out; first | omega | exact Nat.le_refl _⟩,⟨qR HO_3.out⟩,⟨qk BK172.out⟩,⟨qb⟩⟩
         ·rw [if_neg c19] at H
          have c19b0 := decide_eq_false c19
          clear c19
          (first | rw [c19b0] | (simp only [i64_w,i32_w]; rw [c19b0]) | skip)
          have H' := y0.mk H
          clear H
          obtain ⟨hcz21_0,hcz21_1,hcz21_2,hcz21_3,hcz21_4,hfz21_0,hfz21_1,hfz21_2,hfz21_3,hfz21_4⟩ := qz5 BK172.out
          go_wp2
          go_meet
          exact ⟨_,(false),qy2,H',⟨by have := HJ7.out; have := HK2.out; first | omega | exact Nat.le_refl _⟩,⟨qR HO_3.out⟩,⟨qk BK172.out⟩,⟨qb⟩⟩
        case rest =>
         clear HC18
         obtain ⟨kq,x44_17,rfl,HA,HJ17,HO_3,BK172,HB⟩ := hcut
         cases kq with
         | zero => exact absurd HA.out (by simp [z7_.j2])
         | succ kj17 =>
          have H := HA.out
          clear HA
          simp only [z7_.j2] at H
          by_cases c22 : x44_17 = true
          ·subst c22
           replace H := qT H
           by_cases c23 : x6_2 = 0
           ·rw [if_pos c23] at H
            have c23b0 : (x6_2 == 0) = true := beq_iff_eq.mpr c23
            have c23b1 : (x6_2 != 0) = false := bne_eq_false_iff_eq.mpr c23
            clear c23
            obtain ⟨c24,H⟩ := qo H
            have c24b0 := eq_true c24
            have c24b1 := decide_eq_true c24
            have c24b2 := eq_false (Nat.not_lt.2 c24)
            obtain ⟨c25,H⟩ := qo H
            have c25b0 : decide (0 ≤ x6_2) = true := decide_eq_true c25
            clear c25
            obtain ⟨c26,H⟩ := qo H
            have c26b0 : decide (x6_2 < (l0_4.length : Int)) = true := decide_eq_true c26
            clear c26
            obtain ⟨⟨t180,t181⟩,A27,H⟩ := qB H
            replace H : (if t181 = true then (if (x5_2 ++ (⟨#[32,58,45,32]⟩ : ByteArray)).size + t180.size ≤ 9223372036854775807 then (z7_.l0 kj17 t173 ((x5_2 ++ (⟨#[32,58,45,32]⟩ : ByteArray)) ++ t180) (wrap64 (x6_2 + 1)) l0_0 a0_1 a0_2 l0_3 l0_4) else (none)) else (some (⟨#[]⟩ : ByteArray))) = some r := H
            by_cases c28 : t181 = true
            ·subst c28
             replace H := qT H
             obtain ⟨c29,H⟩ := qo H
             have c29b0 := eq_true c29
             have c29b1 := decide_eq_true c29
             have c29b2 := eq_false (Nat.not_lt.2 c29)
             have c29b3 : (9223372036854775807 < x5_2.size + 4 + t180.size) = False := qs c29b2
             have H' := y0.mk H
             clear H
             obtain ⟨hcz30_0,hcz30_1,hcz30_2,hcz30_3,hcz30_4,hfz30_0,hfz30_1,hfz30_2,hfz30_3,hfz30_4⟩ := qz5 BK172.out
             have p179 : 0 ≤ (x6_2 : Int) := of_decide_eq_true qy1
             have q179 : x6_2 < (l0_4.length : Int) := of_decide_eq_true qy1
             obtain ⟨ad179,A179_2,c179_2,e179,hx179_0,hx179_1,hx179_2,hl179_2,hi179_2⟩ := at_T32 HR0_4.out x6_2 p179 q179
             cases e179
             replace hx179_0 := (HB.out.cell (World.block_lt_of_cell? w _ hx179_0)).trans hx179_0
             replace hx179_1 := (HB.out.cell (World.block_lt_of_cell? w _ hx179_1)).trans hx179_1
             replace hx179_2 := (HB.out.cell (World.block_lt_of_cell? w _ hx179_2)).trans hx179_2
             have HR179_2 := y0.mk hi179_2
             have HC179_2 := y0.mk hl179_2
             clear hi179_2 hl179_2
             replace p179 := eq_true p179
             replace q179 := eq_true q179
             go_wp2_with (first | ((with_reducible refine y15 (f := 26) rfl ?_); refine y17 (some 60) rfl rfl Try.func26 (by kernel_rfl) rfl #[.agg #[.int .i64 ((y19 l0_4 x6_2).f0),.string ((y19 l0_4 x6_2).f1),.slice A179_2 ((y19 l0_4 x6_2).f2).length c179_2],.slice Ao13 t173.length co13] rfl qy0 ?_; (with_reducible refine (spec_l04Lit.calls kj17 ((y19 l0_4 x6_2).f0) ((y19 l0_4 x6_2).f1) _ _ ((y19 l0_4 x6_2).f2) _ _ t173 t180 true _ (qc (Kd.C_below HR179_2.out HB.out)) HC179_2.out (qc ((Kd.R_reads' HO_3.out).2.2)) (by exact (Kd.R_reads' HO_3.out).2.1) A27.out).mono ?_); rintro e w31 ⟨rfl,hb⟩; refine ⟨_,rfl, ?_⟩; replace HO_3 := y0.mk (Kd.R_below (qR HO_3.out) hb); replace BK172 := y0.mk (qK BK172.out hb); replace HB := y0.mk (y4 qb hb); (try clear hb); (try clear hb2); (try clear hk); (try clear hi)))
             go_roundg kj17
             case measure => have := HJ7.out; have := HK2.out; have := HJ17.out; omega
             exact ⟨((x5_2 ++ (⟨#[32,58,45,32]⟩ : ByteArray)) ++ t180),(wrap64 (x6_2 + 1)),qy2,qy2,H',⟨by have := HJ7.out; have := HK2.out; have := HJ17.out; omega⟩,⟨qR HO_3.out⟩,⟨qk BK172.out⟩,⟨qb⟩⟩
            ·replace c28 := Bool.eq_false_iff.mpr c28
             subst c28
             replace H := qF H
             obtain rfl := Option.some.inj H
             obtain ⟨hcz32_0,hcz32_1,hcz32_2,hcz32_3,hcz32_4,hfz32_0,hfz32_1,hfz32_2,hfz32_3,hfz32_4⟩ := qz5 BK172.out
             have p179 : 0 ≤ (x6_2 : Int) := of_decide_eq_true qy1
             have q179 : x6_2 < (l0_4.length : Int) := of_decide_eq_true qy1
             obtain ⟨ad179,A179_2,c179_2,e179,hx179_0,hx179_1,hx179_2,hl179_2,hi179_2⟩ := at_T32 HR0_4.out x6_2 p179 q179
             cases e179
             replace hx179_0 := (HB.out.cell (World.block_lt_of_cell? w _ hx179_0)).trans hx179_0
             replace hx179_1 := (HB.out.cell (World.block_lt_of_cell? w _ hx179_1)).trans hx179_1
             replace hx179_2 := (HB.out.cell (World.block_lt_of_cell? w _ hx179_2)).trans hx179_2
             have HR179_2 := y0.mk hi179_2
             have HC179_2 := y0.mk hl179_2
             clear hi179_2 hl179_2
             replace p179 := eq_true p179
             replace q179 := eq_true q179
             go_wp2_with (first | ((with_reducible refine y15 (f := 26) rfl ?_); refine y17 (some 60) rfl rfl Try.func26 (by kernel_rfl) rfl #[.agg #[.int .i64 ((y19 l0_4 x6_2).f0),.string ((y19 l0_4 x6_2).f1),.slice A179_2 ((y19 l0_4 x6_2).f2).length c179_2],.slice Ao13 t173.length co13] rfl qy0 ?_; (with_reducible refine (spec_l04Lit.calls kj17 ((y19 l0_4 x6_2).f0) ((y19 l0_4 x6_2).f1) _ _ ((y19 l0_4 x6_2).f2) _ _ t173 t180 false _ (qc (Kd.C_below HR179_2.out HB.out)) HC179_2.out (qc ((Kd.R_reads' HO_3.out).2.2)) (by exact (Kd.R_reads' HO_3.out).2.1) A27.out).mono ?_); rintro e w33 ⟨rfl,hb⟩; refine ⟨_,rfl, ?_⟩; replace HO_3 := y0.mk (Kd.R_below (qR HO_3.out) hb); replace BK172 := y0.mk (qK BK172.out hb); replace HB := y0.mk (y4 qb hb); (try clear hb); (try clear hb2); (try clear hk); (try clear hi)))
             go_ret
             exact ⟨by first | rfl | (simp [y12,y13] <;> rfl) | (simp [*,y12,y13] <;> rfl),qb⟩
           ·rw [if_neg c23] at H
            have c23b0 : (x6_2 == 0) = false := beq_eq_false_iff_ne.mpr c23
            have c23b1 : (x6_2 != 0) = true := bne_iff_ne.mpr c23
            obtain ⟨c34,H⟩ := qo H
            have c34b0 := eq_true c34
            have c34b1 := decide_eq_true c34
            have c34b2 := eq_false (Nat.not_lt.2 c34)
            obtain ⟨c35,H⟩ := qo H
            have c35b0 : decide (0 ≤ x6_2) = true := decide_eq_true c35
            clear c35
            obtain ⟨c36,H⟩ := qo H
            have c36b0 := decide_eq_true c36
            clear c36
            obtain ⟨⟨t183,t184⟩,A37,H⟩ := qB H
            replace H : (if t184 = true then (if (x5_2 ++ (⟨#[44,32]⟩ : ByteArray)).size + t183.size ≤ 9223372036854775807 then (z7_.l0 kj17 t173 ((x5_2 ++ (⟨#[44,32]⟩ : ByteArray)) ++ t183) (wrap64 (x6_2 + 1)) l0_0 a0_1 a0_2 l0_3 l0_4) else (none)) else (some (⟨#[]⟩ : ByteArray))) = some r := H
            by_cases c38 : t184 = true
            ·subst c38
             replace H := qT H
             obtain ⟨c39,H⟩ := qo H
             have c39b0 := eq_true c39
             have c39b1 := decide_eq_true c39
             have c39b2 := eq_false (Nat.not_lt.2 c39)
             have c39b3 : (9223372036854775807 < x5_2.size + 2 + t183.size) = False := qs c39b2
             have H' := y0.mk H
             clear H
             obtain ⟨hcz40_0,hcz40_1,hcz40_2,hcz40_3,hcz40_4,hfz40_0,hfz40_1,hfz40_2,hfz40_3,hfz40_4⟩ := qz5 BK172.out
             have p182 : 0 ≤ (x6_2 : Int) := of_decide_eq_true qy1
             have q182 : x6_2 < (l0_4.length : Int) := of_decide_eq_true qy1
             obtain ⟨ad182,A182_2,c182_2,e182,hx182_0,hx182_1,hx182_2,hl182_2,hi182_2⟩ := at_T32 HR0_4.out x6_2 p182 q182
             cases e182
             replace hx182_0 := (HB.out.cell (World.block_lt_of_cell? w _ hx182_0)).trans hx182_0
             replace hx182_1 := (HB.out.cell (World.block_lt_of_cell? w _ hx182_1)).trans hx182_1
             replace hx182_2 := (HB.out.cell (World.block_lt_of_cell? w _ hx182_2)).trans hx182_2
             have HR182_2 := y0.mk hi182_2
             have HC182_2 := y0.mk hl182_2
             clear hi182_2 hl182_2
             replace p182 := eq_true p182
             replace q182 := eq_true q182
             go_wp2_with (first | ((with_reducible refine y15 (f := 26) rfl ?_); refine y17 (some 60) rfl rfl Try.func26 (by kernel_rfl) rfl #[.agg #[.int .i64 ((y19 l0_4 x6_2).f0),.string ((y19 l0_4 x6_2).f1),.slice A182_2 ((y19 l0_4 x6_2).f2).length c182_2],.slice Ao13 t173.length co13] rfl qy0 ?_; (with_reducible refine (spec_l04Lit.calls kj17 ((y19 l0_4 x6_2).f0) ((y19 l0_4 x6_2).f1) _ _ ((y19 l0_4 x6_2).f2) _ _ t173 t183 true _ (qc (Kd.C_below HR182_2.out HB.out)) HC182_2.out (qc ((Kd.R_reads' HO_3.out).2.2)) (by exact (Kd.R_reads' HO_3.out).2.1) A37.out).mono ?_); rintro e w41 ⟨rfl,hb⟩; refine ⟨_,rfl, ?_⟩; replace HO_3 := y0.mk (Kd.R_below (qR HO_3.out) hb); replace BK172 := y0.mk (qK BK172.out hb); replace HB := y0.mk (y4 qb hb); (try clear hb); (try clear hb2); (try clear hk); (try clear hi)))
             go_roundg kj17
             case measure => have := HJ7.out; have := HK2.out; have := HJ17.out; omega
             exact ⟨((x5_2 ++ (⟨#[44,32]⟩ : ByteArray)) ++ t183),(wrap64 (x6_2 + 1)),qy2,qy2,H',⟨by have := HJ7.out; have := HK2.out; have := HJ17.out; omega⟩,⟨qR HO_3.out⟩,⟨qk BK172.out⟩,⟨qb⟩⟩
            ·replace c38 := Bool.eq_false_iff.mpr c38
             subst c38
             replace H := qF H
             obtain rfl := Option.some.inj H
             obtain ⟨hcz42_0,hcz42_1,hcz42_2,hcz42_3,hcz42_4,hfz42_0,hfz42_1,hfz42_2,hfz42_3,hfz42_4⟩ := qz5 BK172.out
             have p182 : 0 ≤ (x6_2 : Int) := of_decide_eq_true qy1
             have q182 : x6_2 < (l0_4.length : Int) := of_decide_eq_true qy1
             obtain ⟨ad182,A182_2,c182_2,e182,hx182_0,hx182_1,hx182_2,hl182_2,hi182_2⟩ := at_T32 HR0_4.out x6_2 p182 q182
             cases e182
             replace hx182_0 := (HB.out.cell (World.block_lt_of_cell? w _ hx182_0)).trans hx182_0
             replace hx182_1 := (HB.out.cell (World.block_lt_of_cell? w _ hx182_1)).trans hx182_1
             replace hx182_2 := (HB.out.cell (World.block_lt_of_cell? w _ hx182_2)).trans hx182_2
             have HR182_2 := y0.mk hi182_2
             have HC182_2 := y0.mk hl182_2
             clear hi182_2 hl182_2
             replace p182 := eq_true p182
             replace q182 := eq_true q182
             go_wp2_with (first | ((with_reducible refine y15 (f := 26) rfl ?_); refine y17 (some 60) rfl rfl Try.func26 (by kernel_rfl) rfl #[.agg #[.int .i64 ((y19 l0_4 x6_2).f0),.string ((y19 l0_4 x6_2).f1),.slice A182_2 ((y19 l0_4 x6_2).f2).length c182_2],.slice Ao13 t173.length co13] rfl qy0 ?_; (with_reducible refine (spec_l04Lit.calls kj17 ((y19 l0_4 x6_2).f0) ((y19 l0_4 x6_2).f1) _ _ ((y19 l0_4 x6_2).f2) _ _ t173 t183 false _ (qc (Kd.C_below HR182_2.out HB.out)) HC182_2.out (qc ((Kd.R_reads' HO_3.out).2.2)) (by exact (Kd.R_reads' HO_3.out).2.1) A37.out).mono ?_); rintro e w43 ⟨rfl,hb⟩; refine ⟨_,rfl, ?_⟩; replace HO_3 := y0.mk (Kd.R_below (qR HO_3.out) hb); replace BK172 := y0.mk (qK BK172.out hb); replace HB := y0.mk (y4 qb hb); (try clear hb); (try clear hb2); (try clear hk); (try clear hi)))
             go_ret
             exact ⟨by first | rfl | (simp [y12,y13] <;> rfl) | (simp [*,y12,y13] <;> rfl),qb⟩
          ·replace c22 := Bool.eq_false_iff.mpr c22
           subst c22
           replace H := qF H
           obtain ⟨c44,H⟩ := qo H
           have c44b0 := eq_true c44
           have c44b1 := decide_eq_true c44
           have c44b2 := eq_false (Nat.not_lt.2 c44)
           by_cases c45 : ((x5_2 ++ (⟨#[46]⟩ : ByteArray)).size : Int) > 3000
           ·rw [if_pos c45] at H
            have c45b8 : (3000 < (x5_2.size : Int) + 1) = True := eq_true (by have h_ := c45; rw [show (x5_2 ++ (⟨#[46]⟩ : ByteArray)).size = x5_2.size + 1 from by (simp only [ByteArray.size_append]; rfl)] at h_; omega)
            have c45b0 : decide (3000 < ((x5_2 ++ (⟨#[46]⟩ : ByteArray)).size : Int)) = true := decide_eq_true c45
            have c45b1 : decide (3000 < (x5_2 ++ (⟨#[46]⟩ : ByteArray)).size) = true := decide_eq_true (by omega)
            clear c45
            obtain rfl := Option.some.inj H
            go_wp2
            go_ret
            exact ⟨by first | rfl | (simp [y12,y13] <;> rfl) | (simp [*,y12,y13] <;> rfl),qb⟩
           ·rw [if_neg c45] at H
            have c45b8 : (3000 < (x5_2.size : Int) + 1) = False := eq_false (by have h_ := c45; rw [show (x5_2 ++ (⟨#[46]⟩ : ByteArray)).size = x5_2.size + 1 from by (simp only [ByteArray.size_append]; rfl)] at h_; omega)
            have c45b0 : decide (3000 < ((x5_2 ++ (⟨#[46]⟩ : ByteArray)).size : Int)) = false := decide_eq_false c45
            have c45b1 : decide (3000 < (x5_2 ++ (⟨#[46]⟩ : ByteArray)).size) = false := decide_eq_false (by omega)
            clear c45
            obtain rfl := Option.some.inj H
            go_wp2
            go_ret
            exact ⟨by first | rfl | (simp [y12,y13] <;> rfl) | (simp [*,y12,y13] <;> rfl),qb⟩
  ·replace c6 := Bool.eq_false_iff.mpr c6
   subst c6
   replace H := qF H
   obtain rfl := Option.some.inj H
   go_enter Try.func7,Try.ntmps7
   go_wp2_with (first | ((with_reducible refine y16 (N := 1) rfl ?_); (try (refine gate_guard (by rfl) ?_; dsimp only)); refine qe 1 #[.slice A0_0 l0_0.length c0_0,.int .i64 a0_1,.string a0_2,.slice A0_3 l0_3.length c0_3,.slice A0_4 l0_4.length c0_4] 35 ?_; intro gb172 hg w46 hbox hb; have BK172 := y0.mk (hbox); have GW172 := y0.mk (qg (w := w) hg); have GE172 := y0.mk (qg (w := w) hg); replace HB := y0.mk (y4 qb hb); clear hb hbox hg; obtain ⟨hcz47_0,hcz47_1,hcz47_2,hcz47_3,hcz47_4,hfz47_0,hfz47_1,hfz47_2,hfz47_3,hfz47_4⟩ := qz5 BK172.out) | ((with_reducible refine y15 (f := 25) rfl ?_); refine y17 (some 15) rfl rfl Try.func25 (by kernel_rfl) rfl #[.agg #[.slice A0_0 l0_0.length c0_0,.int .i64 a0_1,.string a0_2,.slice A0_3 l0_3.length c0_3,.slice A0_4 l0_4.length c0_4]] rfl qy0 ?_; (with_reducible refine (z8_.calls k _ _ l0_0 a0_1 a0_2 (fun k_ => k_ < w.heap.size) _ _ l0_3 (fun k_ => k_ < w.heap.size) _ _ l0_4 t173 false _ (qc (Kd.C_below HR0_0.out HB.out)) HC0_0.out (by exact Kd.V_mk HC0_3.out (Kd.F_below (Kd.C_F (Kd.heap_int .i64) HR0_3.out) qb)) (by exact Kd.V_mk HC0_4.out (Kd.F_below (Kd.C_F k32_heap HR0_4.out) qb)) A5.out).mono ?_); rintro e w48 ⟨v174,rfl,ho0,hb⟩; refine ⟨_,rfl, ?_⟩; have HO175 := y0.mk (Kd.R_lower (Kd.R_mono (ok' := fun k_ => True) ho0 (fun _ hk_ => trivial)) (y3 qb)); replace BK172 := y0.mk (qK BK172.out hb); replace HB := y0.mk (y4 qb hb); (try clear hb); (try clear hb2); (try clear hk); (try clear hi); (try clear ho0)))
   go_ret
   exact ⟨by first | rfl | (simp [y12,y13] <;> rfl) | (simp [*,y12,y13] <;> rfl),qb⟩
def laws_toIntS.l0 : Nat → List Int → List Int → Int → Option (List Int)
 | 0,_,_,_ => none
 | k + 1,x0,x3,x4 => if x4 < (x0.length : Int) then (if 0 ≤ x4 then (if x4 < (x3.length : Int) then (laws_toIntS.l0 k x0 (x3.set (x4 : Int).toNat (rd x0 x4)) (wrap64 (x4 + 1))) else (none)) else (none)) else (some x3)
def laws_toIntS.f (k : Nat) (l0 : List Int) : Option (List Int) := if 0 ≤ (l0.length : Int) then (if ((l0.length : Int) : Int).toNat ≤ 35184372088832 then (laws_toIntS.l0 k l0 (List.replicate ((l0.length : Int) : Int).toNat 0) 0) else (none)) else (none)
set_option maxHeartbeats 8000000 in
set_option maxRecDepth 100000 in
theorem laws_toIntS.calls (k : Nat) (A0 : Option Addr) (c0 : Nat) (l0 : List Int) (r : List Int) (w : World) (hr0 : Kd.C (Kd.int .i64) w A0 l0.length l0) (hc0 : l0.length ≤ c0) (h : laws_toIntS.f k l0 = some r) :
  Calls Try.prog 58 #[.slice A0 l0.length c0] w fun e w' => ∃ v0_ : Value,e = .returned (v0_) ∧ Kd.R (Kd.int .i64) 3 w' w.heap.size (fun _ => True) v0_ r ∧ Below w.heap.size w w' := by
 have HR0 := y0.mk hr0
 have HC0 := y0.mk hc0
 clear hr0 hc0
 have HB := y0.mk (Below.refl w.heap.size w)
 have H : (if 0 ≤ (l0.length : Int) then (if ((l0.length : Int) : Int).toNat ≤ 35184372088832 then (laws_toIntS.l0 k l0 (List.replicate ((l0.length : Int) : Int).toNat 0) 0) else (none)) else (none)) = some r := h
 clear h
 obtain ⟨c2,H⟩ := qo H
 have c2b0 := eq_true c2
 have c2b1 := decide_eq_true c2
 clear c2
 obtain ⟨c3,H⟩ := qo H
 have c3b0 := eq_true c3
 have c3b1 := decide_eq_true c3
 clear c3
 obtain ⟨y185,hy185⟩ : ∃ y_ : List Int,y_ = (List.replicate ((l0.length : Int) : Int).toNat 0) := ⟨_,rfl⟩
 replace H : (laws_toIntS.l0 k l0 y185 0) = some r := by first | (rw [hy185]; with_reducible exact H) | (have H2_ := (Option.bind_some _ _).symm.trans H; rw [hy185]; with_reducible exact H2_) | (have H2_ := (Option.bind_some _ _).symm.trans H; with_reducible exact H2_) | with_reducible exact H | (rw [hy185]; exact H) | exact H
 have Ny185 := y0.mk hy185
 clear hy185
 have H' := y0.mk H
 clear H
 go_enter Try.func58,Try.ntmps58
 go_wp2_with (first | ((with_reducible refine y16 (N := 7) rfl ?_); refine Kd.R_make (Kd.int .i64) _ 3 rfl (N := 7) rfl 23 _ _ rfl (l0.length : Int) rfl rfl Try.underlying23 (.int .i64 0) 8 info3 rfl (by decide) (by omega) 0 (ok := fun _ => True) (okp := fun _ => True) rfl (fun _ hk => hk) trivial (of_decide_eq_true qy1) (Nat.le_trans (Nat.mul_le_mul_right _ (of_decide_eq_true qy1 : (l0.length : Int).toNat ≤ 35184372088832)) (by omega)) (Below.refl _ _) (Nat.le_refl _) ?_; intro v186 w4 ho5 hb hg_ hnew_; clear hg_ hnew_; (first | rw [← Ny185.out] at ho5 | (simp only [Int.reduceToNat] at ho5; rw [← Ny185.out] at ho5)); have HO187 := y0.mk (Kd.R_lower ho5 (y3 qb)); replace HB := y0.mk (y4 qb hb); clear hb ho5))
 go_loopg [4] k (fun kq v4 w' => ∃ (x3_1 : List Int) (x4_1 : Int),v4 = .int .i64 x4_1 ∧ y0 (laws_toIntS.l0 kq l0 x3_1 x4_1 = some r) ∧ y0 (kq ≤ k) ∧ y0 (Kd.R (Kd.int .i64) 3 w' w.heap.size (fun _ => True) v186 x3_1) ∧ y0 (Below w.heap.size w w'))
 case atStart => exact ⟨(y185),(0),qy2,H',⟨Nat.le_refl _⟩,⟨qR HO187.out⟩,⟨qb⟩⟩
 case round =>
  clear H'
  (try clear c2b0 c2b1 c3b0 c3b1)
  obtain ⟨x3_1,x4_1,rfl,HA,HK1,HO_3,HB⟩ := hrel
  cases gk with
  | zero => exact absurd HA.out (by simp [laws_toIntS.l0])
  | succ k1 =>
   have H := HA.out
   clear HA
   simp only [laws_toIntS.l0] at H
   by_cases c6 : x4_1 < (l0.length : Int)
   ·rw [if_pos c6] at H
    have c6b0 := decide_eq_true c6
    clear c6
    obtain ⟨c7,H⟩ := qo H
    have c7b0 : decide (0 ≤ x4_1) = true := decide_eq_true c7
    clear c7
    obtain ⟨c8,H⟩ := qo H
    have c8b0 := decide_eq_true c8
    clear c8
    obtain ⟨y189,hy189⟩ : ∃ y_ : List Int,y_ = (x3_1.set (x4_1 : Int).toNat (rd l0 x4_1)) := ⟨_,rfl⟩
    replace H : (laws_toIntS.l0 k1 l0 y189 (wrap64 (x4_1 + 1))) = some r := by first | (rw [hy189]; with_reducible exact H) | (have H2_ := (Option.bind_some _ _).symm.trans H; rw [hy189]; with_reducible exact H2_) | (have H2_ := (Option.bind_some _ _).symm.trans H; with_reducible exact H2_) | with_reducible exact H | (rw [hy189]; exact H) | exact H
    have Ny189 := y0.mk hy189
    clear hy189
    have H' := y0.mk H
    clear H
    have p188 : 0 ≤ (x4_1 : Int) := of_decide_eq_true qy1
    have q188 : x4_1 < (l0.length : Int) := of_decide_eq_true qy1
    obtain ⟨ad188,e188,hx188_0⟩ := Kd.at_int HR0.out x4_1 p188 q188
    cases e188
    replace hx188_0 := (HB.out.cell (World.block_lt_of_cell? w _ hx188_0)).trans hx188_0
    replace p188 := eq_true p188
    replace q188 := eq_true q188
    have p9 : 0 ≤ (x4_1 : Int) := of_decide_eq_true qy1
    have q9 : (x4_1 : Int) < ((x3_1.length : Int) : Int) := of_decide_eq_true qy1
    obtain ⟨go9,co9,eo9,gb9,gl9,cl9,HG9⟩ := Kd.R_form HO_3.out (by omega)
    (first | cases eo9 | (injection eo9 with ea_ en_ ec_; (first | subst ea_ | (injection ea_ with ea_; subst ea_)); subst ec_; clear en_))
    have GB9 := y0.mk gb9
    have GG9 := y0.mk HG9
    clear gb9 gl9 HG9
    obtain ⟨hx9_0,hf9_0⟩ := Kd.R_celln 0 HO_3.out (x4_1 : Int) p9 q9
    replace p9 := eq_true p9
    replace q9 := eq_true q9
    have HP10 := Kd.R_putg HO_3.out (x4_1 : Int) (rd l0 x4_1)
    go_wp2_with (first | ((with_reducible refine gate_store (t := 3) (p := 20) rfl ?_); refine store_event (t := 3) (p := 20) (v := ?vo_w11) (w1 := (wr.setCell ⟨go9,(x4_1 : Int).toNat,none⟩ (.int .i64 (rd l0 x4_1)))) ?hg ?ho ?hn ?hr ?_; (case ho => rfl); (case hg => rfl); (case hn => rfl); (case hr => first | (go_simp; done) | (go_simp; rfl)); intro w11 hw; have hg : wr.grownBy w11 (some go9) := (by rw [hw]; exact HP10.2); have hp_ : Kd.R (Kd.int .i64) 3 w11 w.heap.size (fun _ => True) (.slice (some ⟨go9,0,none⟩) x3_1.length co9) y189 := (by rw [hw,Ny189.out]; exact HP10.1); clear HP10; replace HO_3 := y0.mk (hp_); replace HB := y0.mk ((by rw [hw]; exact below_set (HB.out) GB9.out : Below w.heap.size w w11)); clear hg hw hp_))
    go_roundg k1
    case measure => have := HK1.out; omega
    exact ⟨(y189),(wrap64 (x4_1 + 1)),qy2,H',⟨by have := HK1.out; omega⟩,⟨qR HO_3.out⟩,⟨qb⟩⟩
   ·rw [if_neg c6] at H
    have c6b0 := decide_eq_false c6
    clear c6
    obtain rfl := Option.some.inj H
    go_wp2
    go_ret
    exact ⟨_,by first | rfl | (simp [y12,y13] <;> rfl) | (simp [*,y12,y13] <;> rfl),by (with_reducible repeat (first | apply Kd.R_alloc | apply Kd.R_drewN | apply Kd.R_drew)); exact HO_3.out,qb⟩
def laws_toExp.f (k : Nat) (a0_0 : Int) (a0_1 : ByteArray) (l0_2 : List Int) : Option (Int × ByteArray × List Int) := (laws_toIntS.f k l0_2).bind fun t193 => (some (a0_0,a0_1,t193))
set_option maxHeartbeats 8000000 in
set_option maxRecDepth 100000 in
theorem laws_toExp.calls (k : Nat) (a0_0 : Int) (a0_1 : ByteArray) (A0_2 : Option Addr) (c0_2 : Nat) (l0_2 : List Int) (r1 : Int) (r2 : ByteArray) (r3 : List Int) (w : World) (hr0_2 : Kd.C (Kd.int .i64) w A0_2 l0_2.length l0_2) (hc0_2 : l0_2.length ≤ c0_2) (h : laws_toExp.f k a0_0 a0_1 l0_2 = some (r1,r2,r3)) :
  Calls Try.prog 57 #[.agg #[.int .i64 a0_0,.string a0_1,.slice A0_2 l0_2.length c0_2]] w fun e w' => ∃ v2_ : Value,e = .returned (.agg #[.int .i64 r1,.string r2,v2_]) ∧ Kd.R (Kd.int .i64) 3 w' w.heap.size (fun _ => True) v2_ r3 ∧ Below w.heap.size w w' := by
 have hu99 := Try.underlying99
 have hu101 := Try.underlying101
 have HR0_2 := y0.mk hr0_2
 have HC0_2 := y0.mk hc0_2
 clear hr0_2 hc0_2
 have HB := y0.mk (Below.refl w.heap.size w)
 have H : ((laws_toIntS.f k l0_2).bind fun t193 => (some (a0_0,a0_1,t193))) = some (r1,r2,r3) := h
 clear h
 obtain ⟨t193,A2,H⟩ := qB H
 simp only [Option.some.injEq,Prod.mk.injEq] at H
 obtain ⟨rfl,rfl,rfl⟩ := H
 go_enter Try.func57,Try.ntmps57
 go_wp2_with (first | ((with_reducible refine y16 (N := 1) rfl ?_); refine qe 1 #[.int .i64 a0_0,.string a0_1,.slice A0_2 l0_2.length c0_2] 99 ?_; intro gb190 hg w3 hbox hb; have BK190 := y0.mk (hbox); have GW190 := y0.mk (qg (w := w) hg); have GE190 := y0.mk (qg (w := w) hg); replace HB := y0.mk (y4 qb hb); clear hb hbox hg) | ((with_reducible refine y16 (N := 2) rfl ?_); refine qe 2 #[.int .i64 0,.string (⟨#[]⟩ : ByteArray),.slice none 0 0] 101 ?_; intro gb191 hg w4 hbox hb; have BK191 := y0.mk (hbox); have GW191 := y0.mk (qg (w := w) hg); have GE191 := y0.mk (qg (w := w) hg); replace HB := y0.mk (y4 qb hb); have NB190_191 := y0.mk (qn BK190.out hg); have NB191_190 := y0.mk (qm BK190.out hg); replace BK190 := y0.mk (qK BK190.out hb); clear hb hbox hg) | ((with_reducible refine y16 (N := 3) rfl ?_); refine qe 3 #[.int .i64 0,.string (⟨#[]⟩ : ByteArray),.slice none 0 0] 101 ?_; intro gb192 hg w5 hbox hb; have BK192 := y0.mk (hbox); have GW192 := y0.mk (qg (w := w) hg); have GE192 := y0.mk (qg (w := w) hg); replace HB := y0.mk (y4 qb hb); have NB190_192 := y0.mk (qn BK190.out hg); have NB192_190 := y0.mk (qm BK190.out hg); replace BK190 := y0.mk (qK BK190.out hb); have NB191_192 := y0.mk (qn BK191.out hg); have NB192_191 := y0.mk (qm BK191.out hg); replace BK191 := y0.mk (qK BK191.out hb); clear hb hbox hg; have hnb6 := NB190_191.out; have hnc6 := NB191_190.out; have hnb7 := NB190_192.out; have hnc7 := NB192_190.out; obtain ⟨hcz8_0,hcz8_1,hcz8_2,hfz8_0,hfz8_1,hfz8_2⟩ := qz3 BK190.out; have hnb9 := NB192_191.out; have hnc9 := NB191_192.out; obtain ⟨hcz10_0,hcz10_1,hcz10_2,hfz10_0,hfz10_1,hfz10_2⟩ := qz3 BK192.out) | ((with_reducible refine y15 (f := 58) rfl ?_); refine y17 (some 12) rfl rfl Try.func58 (by kernel_rfl) rfl #[.slice A0_2 l0_2.length c0_2] rfl qy0 ?_; (with_reducible refine (laws_toIntS.calls k _ _ l0_2 t193 _ (by exact Kd.C_below HR0_2.out qb) HC0_2.out A2.out).mono ?_); rintro e w11 ⟨v194,rfl,ho0,hb⟩; refine ⟨_,rfl, ?_⟩; have HO195 := y0.mk (Kd.R_lower ho0 (y3 qb)); replace BK190 := y0.mk (y6 (g := gb190) (o := .cells #[.int .i64 a0_0,.string a0_1,.slice A0_2 l0_2.length c0_2] 99 (0,0)) (by (with_reducible repeat (first | refine y9 ?_ _ | refine y8 ?_ | refine y5 ?_ _)); refine y10 ?_ NB190_192.out _; (with_reducible repeat (first | refine y9 ?_ _ | refine y8 ?_ | refine y5 ?_ _)); refine y10 ?_ NB190_192.out _; (with_reducible repeat (first | refine y9 ?_ _ | refine y8 ?_ | refine y5 ?_ _)); exact BK190.out) hb); replace BK191 := y0.mk (y6 (g := gb191) (o := .cells #[.int .i64 0,.string (⟨#[]⟩ : ByteArray),.slice none 0 0] 101 (0,0)) (by (with_reducible repeat (first | refine y9 ?_ _ | refine y8 ?_ | refine y5 ?_ _)); refine y10 ?_ NB191_192.out _; (with_reducible repeat (first | refine y9 ?_ _ | refine y8 ?_ | refine y5 ?_ _)); refine y10 ?_ NB191_192.out _; (with_reducible repeat (first | refine y9 ?_ _ | refine y8 ?_ | refine y5 ?_ _)); exact BK191.out) hb); replace BK192 := y0.mk (y6 (g := gb192) (o := .cells #[.int .i64 a0_0,.string a0_1,.slice none 0 0] 101 (0,0)) (by (with_reducible repeat (first | refine y9 ?_ _ | refine y8 ?_ | refine y5 ?_ _)); refine y11 (cs := #[.int .i64 a0_0,.string (⟨#[]⟩ : ByteArray),.slice none 0 0]) ?_ 1 _ rfl; (with_reducible repeat (first | refine y9 ?_ _ | refine y8 ?_ | refine y5 ?_ _)); refine y11 (cs := #[.int .i64 0,.string (⟨#[]⟩ : ByteArray),.slice none 0 0]) ?_ 0 _ rfl; (with_reducible repeat (first | refine y9 ?_ _ | refine y8 ?_ | refine y5 ?_ _)); exact BK192.out) hb); replace HB := y0.mk (y4 qb hb); (try clear hb); (try clear hb2); (try clear hk); (try clear hi); (try clear ho0); obtain ⟨Ao12,co12,eo12⟩ := Kd.R_slice HO195.out; subst eo12; obtain ⟨hcz13_0,hcz13_1,hcz13_2,hfz13_0,hfz13_1,hfz13_2⟩ := qz3 BK192.out; obtain ⟨hcz14_0,hcz14_1,hcz14_2,hfz14_0,hfz14_1,hfz14_2⟩ := qz3 BK191.out))
 refine bodyPost_ret (results_cell_row rfl _ _ gb191 101 #[.int .i64 a0_0,.string a0_1,.slice Ao12 t193.length co12] (0,0) _ rfl (by (with_reducible repeat (first | refine y9 ?_ _ | refine y8 ?_ | refine y5 ?_ _)); refine y11 (cs := #[.int .i64 a0_0,.string a0_1,.slice none 0 0]) ?_ 2 _ rfl; (with_reducible repeat (first | refine y9 ?_ _ | refine y8 ?_ | refine y5 ?_ _)); refine y11 (cs := #[.int .i64 a0_0,.string (⟨#[]⟩ : ByteArray),.slice none 0 0]) ?_ 1 _ rfl; (with_reducible repeat (first | refine y9 ?_ _ | refine y8 ?_ | refine y5 ?_ _)); refine y11 (cs := #[.int .i64 0,.string (⟨#[]⟩ : ByteArray),.slice none 0 0]) ?_ 0 _ rfl; (with_reducible repeat (first | refine y9 ?_ _ | refine y8 ?_ | refine y5 ?_ _)); refine y10 ?_ NB191_192.out _; (with_reducible repeat (first | refine y9 ?_ _ | refine y8 ?_ | refine y5 ?_ _)); exact BK191.out) Try.underlying101 rfl (by kernel_rfl)) rfl ?_
 exact ⟨_,by first | rfl | (simp [y12,y13] <;> rfl) | (simp [*,y12,y13] <;> rfl),by (with_reducible repeat (first | apply Kd.R_alloc | apply Kd.R_drewN | apply Kd.R_drew)); exact Kd.R_mono (Kd.R_far (p := ⟨gb191,2,none⟩) (Kd.R_far (p := ⟨gb191,1,none⟩) (Kd.R_far (p := ⟨gb191,0,none⟩) (Kd.R_far (p := ⟨gb192,2,none⟩) (Kd.R_types (Kd.R_types HO195.out BK192.out (by decide)) BK191.out (by decide)) (fun _ hk => hk.1.2) (.slice Ao12 t193.length co12)) (fun _ hk => hk.2) (.int .i64 a0_0)) (fun _ hk => hk.2) (.string a0_1)) (fun _ hk => hk.2) (.slice Ao12 t193.length co12)) (fun _ hk => trivial),qb⟩
end Go.Proofs.Ytamjmldfifofbaa.Pp
end
section
namespace Go.Proofs.Ytamjmldfifofbaa.Pp
open Go.RowKit Go.Proofs.YtamjmldfifofbaaW.PrintWords Go.Proofs.YtamjmldfifofbaaW.PrintLast Go.Proofs.YtamjmldfifofbaaW.PrintMore
attribute [local go_sem] max2_int min2_int max_two min_two max_three min_three max_four min_four   -- for this text's walks alone
set_option linter.unusedVariables false
set_option linter.unusedSimpArgs false
def laws_toExpS.l0 : Nat → List (S99) → List (S101) → Int → Option ((List (S101)))
 | 0,_,_,_ => none
 | k + 1,x0,x3,x4 => if x4 < (x0.length : Int) then (if 0 ≤ x4 then ((laws_toExp.f k ((rd_T99 x0 x4).f0) ((rd_T99 x0 x4).f1) ((rd_T99 x0 x4).f2)).bind fun bt200 => (if x4 < (x3.length : Int) then (laws_toExpS.l0 k x0 (x3.set (x4 : Int).toNat (⟨bt200.1,bt200.2.1,bt200.2.2⟩ : S101)) (wrap64 (x4 + 1))) else (none))) else (none)) else (some x3)
def laws_toExpS.f (k : Nat) (l0 : List (S99)) : Option ((List (S101))) := if 0 ≤ (l0.length : Int) then (if ((l0.length : Int) : Int).toNat ≤ 5864062014805 then (laws_toExpS.l0 k l0 (List.replicate ((l0.length : Int) : Int).toNat z101) 0) else (none)) else (none)
set_option maxHeartbeats 8000000 in
set_option maxRecDepth 100000 in
theorem laws_toExpS.calls (k : Nat) (A0 : Option Addr) (c0 : Nat) (l0 : List (S99)) (r : List (S101)) (w : World) (hr0 : Kd.C k99 w A0 l0.length l0) (hc0 : l0.length ≤ c0) (h : laws_toExpS.f k l0 = some r) :
  Calls Try.prog 27 #[.slice A0 l0.length c0] w fun e w' => ∃ v0_ : Value,e = .returned (v0_) ∧ Kd.S k101 101 w' w.heap.size (fun _ => True) v0_ r ∧ Below w.heap.size w w' := by
 have hu99 := Try.underlying99
 have hu101 := Try.underlying101
 have HR0 := y0.mk hr0
 have HC0 := y0.mk hc0
 clear hr0 hc0
 have HB := y0.mk (Below.refl w.heap.size w)
 have H : (if 0 ≤ (l0.length : Int) then (if ((l0.length : Int) : Int).toNat ≤ 5864062014805 then (laws_toExpS.l0 k l0 (List.replicate ((l0.length : Int) : Int).toNat z101) 0) else (none)) else (none)) = some r := h
 clear h
 obtain ⟨c2,H⟩ := qo H
 have c2b0 := eq_true c2
 have c2b1 := decide_eq_true c2
 clear c2
 obtain ⟨c3,H⟩ := qo H
 have c3b0 := eq_true c3
 have c3b1 := decide_eq_true c3
 clear c3
 obtain ⟨y196,hy196⟩ : ∃ y_ : List (S101),y_ = (List.replicate ((l0.length : Int) : Int).toNat z101) := ⟨_,rfl⟩
 replace H : (laws_toExpS.l0 k l0 y196 0) = some r := by first | (rw [hy196]; with_reducible exact H) | (have H2_ := (Option.bind_some _ _).symm.trans H; rw [hy196]; with_reducible exact H2_) | (have H2_ := (Option.bind_some _ _).symm.trans H; with_reducible exact H2_) | with_reducible exact H | (rw [hy196]; exact H) | exact H
 have Ny196 := y0.mk hy196
 clear hy196
 have H' := y0.mk H
 clear H
 go_enter Try.func27,Try.ntmps27
 go_wp2_with (first | ((with_reducible refine y16 (N := 7) rfl ?_); refine Kd.S_make k101 _ 101 rfl (N := 7) rfl 31 _ _ rfl (l0.length : Int) rfl rfl Try.underlying31 (.agg #[(.int .i64 0),(.string ⟨#[]⟩),(.slice none 0 0)]) 48 info101 rfl (by decide) (by omega) z101 (ok := fun _ => True) (okp := fun _ => True) (k101_mkM _ _ _ z101 (Kd.R_nil _ _ _ _ _)) (fun _ hk => hk) trivial (of_decide_eq_true qy1) (Nat.le_trans (Nat.mul_le_mul_right _ (of_decide_eq_true qy1 : (l0.length : Int).toNat ≤ 5864062014805)) (by omega)) (Below.refl _ _) (Nat.le_refl _) ?_; intro v197 w4 ho5 hb hg_ hnew_; clear hg_ hnew_; (first | rw [← Ny196.out] at ho5 | (simp only [Int.reduceToNat] at ho5; rw [← Ny196.out] at ho5)); have HO198 := y0.mk (Kd.S_lower ho5 (y3 qb)); replace HB := y0.mk (y4 qb hb); clear hb ho5))
 go_loopg [4] k (fun kq v4 w' => ∃ (x3_1 : List (S101)) (x4_1 : Int),v4 = .int .i64 x4_1 ∧ y0 (laws_toExpS.l0 kq l0 x3_1 x4_1 = some r) ∧ y0 (kq ≤ k) ∧ y0 (Kd.S k101 101 w' w.heap.size (fun _ => True) v197 x3_1) ∧ y0 (Below w.heap.size w w'))
 case atStart => exact ⟨(y196),(0),qy2,H',⟨Nat.le_refl _⟩,⟨qS HO198.out⟩,⟨qb⟩⟩
 case round =>
  clear H'
  (try clear c2b0 c2b1 c3b0 c3b1)
  obtain ⟨x3_1,x4_1,rfl,HA,HK1,HO_3,HB⟩ := hrel
  cases gk with
  | zero => exact absurd HA.out (by simp [laws_toExpS.l0])
  | succ k1 =>
   have H := HA.out
   clear HA
   simp only [laws_toExpS.l0] at H
   by_cases c6 : x4_1 < (l0.length : Int)
   ·rw [if_pos c6] at H
    have c6b0 := decide_eq_true c6
    clear c6
    obtain ⟨c7,H⟩ := qo H
    have c7b0 : decide (0 ≤ x4_1) = true := decide_eq_true c7
    clear c7
    obtain ⟨⟨t200,t201,t202⟩,A8,H⟩ := qB H
    replace H : (if x4_1 < (x3_1.length : Int) then (laws_toExpS.l0 k1 l0 (x3_1.set (x4_1 : Int).toNat (⟨t200,t201,t202⟩ : S101)) (wrap64 (x4_1 + 1))) else (none)) = some r := H
    obtain ⟨c9,H⟩ := qo H
    have c9b0 := decide_eq_true c9
    clear c9
    obtain ⟨y205,hy205⟩ : ∃ y_ : List (S101),y_ = (x3_1.set (x4_1 : Int).toNat (⟨t200,t201,t202⟩ : S101)) := ⟨_,rfl⟩
    replace H : (laws_toExpS.l0 k1 l0 y205 (wrap64 (x4_1 + 1))) = some r := by first | (rw [hy205]; with_reducible exact H) | (have H2_ := (Option.bind_some _ _).symm.trans H; rw [hy205]; with_reducible exact H2_) | (have H2_ := (Option.bind_some _ _).symm.trans H; with_reducible exact H2_) | with_reducible exact H | (rw [hy205]; exact H) | exact H
    have Ny205 := y0.mk hy205
    clear hy205
    have H' := y0.mk H
    clear H
    have p199 : 0 ≤ (x4_1 : Int) := of_decide_eq_true qy1
    have q199 : x4_1 < (l0.length : Int) := of_decide_eq_true qy1
    obtain ⟨ad199,A199_2,c199_2,e199,hx199_0,hx199_1,hx199_2,hl199_2,hi199_2⟩ := at_T99 HR0.out x4_1 p199 q199
    cases e199
    replace hx199_0 := (HB.out.cell (World.block_lt_of_cell? w _ hx199_0)).trans hx199_0
    replace hx199_1 := (HB.out.cell (World.block_lt_of_cell? w _ hx199_1)).trans hx199_1
    replace hx199_2 := (HB.out.cell (World.block_lt_of_cell? w _ hx199_2)).trans hx199_2
    have HR199_2 := y0.mk hi199_2
    have HC199_2 := y0.mk hl199_2
    clear hi199_2 hl199_2
    replace p199 := eq_true p199
    replace q199 := eq_true q199
    go_wp2_with (first | ((with_reducible refine y15 (f := 57) rfl ?_); refine y17 (some 20) rfl rfl Try.func57 (by kernel_rfl) rfl #[.agg #[.int .i64 ((rd_T99 l0 x4_1).f0),.string ((rd_T99 l0 x4_1).f1),.slice A199_2 ((rd_T99 l0 x4_1).f2).length c199_2]] rfl qy0 ?_; (with_reducible refine (laws_toExp.calls k1 ((rd_T99 l0 x4_1).f0) ((rd_T99 l0 x4_1).f1) _ _ ((rd_T99 l0 x4_1).f2) t200 t201 t202 _ (qc (Kd.C_below HR199_2.out HB.out)) HC199_2.out A8.out).mono ?_); rintro e w11 ⟨v203,rfl,ho0,hb⟩; refine ⟨_,rfl, ?_⟩; replace HO_3 := y0.mk (Kd.S_elder' (qS HO_3.out) (Kd.R_base ho0) hb); have HO204 := y0.mk (Kd.R_lower ho0 (y3 qb)); replace HB := y0.mk (y4 qb hb); (try clear hb); (try clear hb2); (try clear hk); (try clear hi); (try clear ho0); have p10 : 0 ≤ (x4_1 : Int) := of_decide_eq_true qy1; have q10 : (x4_1 : Int) < ((x3_1.length : Int) : Int) := of_decide_eq_true qy1; obtain ⟨go10,co10,eo10,gb10,gl10,cl10,HG10⟩ := Kd.S_form HO_3.out (by omega); (first | cases eo10 | (injection eo10 with ea_ en_ ec_; (first | subst ea_ | (injection ea_ with ea_; subst ea_)); subst ec_; clear en_)); have GB10 := y0.mk gb10; have GG10 := y0.mk HG10; clear gb10 gl10 HG10; obtain ⟨_,ce10,hcl10,hM10,hcc10,hfr10,_,_⟩ := Kd.S_elem HO_3.out z101 (x4_1 : Int) p10 q10; obtain ⟨ve10_2,rfl,ge10_2⟩ := k101_openM hM10; have hx10_0 : w11.cell? ⟨go10,(x4_1 : Int).toNat * 3,none⟩ = some (.int .i64 ((y18 x3_1 x4_1).f0)) := hcc10 0 _ rfl; have hx10_1 : w11.cell? ⟨go10,(x4_1 : Int).toNat * 3 + 1,none⟩ = some (.string ((y18 x3_1 x4_1).f1)) := hcc10 1 _ rfl; have hx10_2 : w11.cell? ⟨go10,(x4_1 : Int).toNat * 3 + 2,none⟩ = some (ve10_2) := hcc10 2 _ rfl; have hf10_0 : w11.frozen? ⟨go10,(x4_1 : Int).toNat * 3,none⟩ = false := hfr10 0; have hf10_1 : w11.frozen? ⟨go10,(x4_1 : Int).toNat * 3 + 1,none⟩ = false := hfr10 1; have hf10_2 : w11.frozen? ⟨go10,(x4_1 : Int).toNat * 3 + 2,none⟩ = false := hfr10 2; clear hcl10 hcc10 hfr10 hM10; replace p10 := eq_true p10; replace q10 := eq_true q10; have n_ := y0.mk (Kd.S_mono (ok' := (fun k_ => some k_ ≠ (v203 : Value).ownBlock)) HO_3.out (fun k_ hk => hk.2)); clear HO_3; have HO_3 := n_; clear n_; have HX12 := y0.mk (show Kd.S k101 101 w11 w.heap.size (fun k_ => ((fun _ => True)) k_ ∧ ¬ ((fun k_ => some k_ = (v203 : Value).ownBlock)) k_) (.slice (some ⟨go10,0,none⟩) x3_1.length co10) x3_1 from (qS (Kd.S_mono HO_3.out (fun k_ hk => ⟨trivial,fun e_ => hk e_⟩)))); obtain ⟨oki12,ce12,hcl12,hM12,hcc12,hfr12,hoki12,hH12⟩ := Kd.S_elem HX12.out z101 (x4_1 : Int) (of_decide_eq_true qy1) (by have h_ : (x4_1 : Int) < ((x3_1.length : Int) : Int) := of_decide_eq_true qy1; first | exact h_ | (have e_ := (Kd.S_reads' HO_3.out).1; omega) | simpa using h_); obtain ⟨ve12_2,rfl,ge12_2⟩ := k101_openM hM12; have HP12 := Kd.S_seg hH12 (of_decide_eq_true qy1) (by have h_ : (x4_1 : Int) < ((x3_1.length : Int) : Int) := of_decide_eq_true qy1; first | exact h_ | (have e_ := (Kd.S_reads' HO_3.out).1; omega) | simpa using h_) (seg := [.int .i64 t200,.string t201,v203]) (j := 0) (show 3 ≤ 3 from by decide) (x' := (⟨t200,t201,t202⟩ : S101)) (k101_mkM _ _ _ (⟨t200,t201,t202⟩ : S101) (Kd.R_mono (Kd.R_tight rfl (Kd.R_mono (ok' := fun k_ => ((fun _ => True)) k_ ∧ k_ ≠ go10) (Kd.R_apart' (HO204.out) (Kd.S_typed HO_3.out) (by decide)) (fun k_ hk => ⟨trivial,fun e_ => (hk.2) (by rw [e_]; rfl)⟩))) (fun _ h_ => Or.inr (h_)))) (fun _ hk => hk) (fun k_ hk_ => ((Kd.R_mono (ok' := fun k_ => ((fun _ => True)) k_ ∧ k_ ≠ go10) (Kd.R_apart' (HO204.out) (Kd.S_typed HO_3.out) (by decide)) (fun k_ hk => ⟨trivial,fun e_ => (hk.2) (by rw [e_]; rfl)⟩))).1 k_ hk_.symm); have hx12_0 := hcc12 0 _ rfl; (try simp only [show (k101).sz = 3 from rfl,Nat.mul_one,Nat.add_zero] at hx12_0); have hf12_0 := hfr12 0; (try simp only [show (k101).sz = 3 from rfl,Nat.mul_one,Nat.add_zero] at hf12_0); have hx12_1 := hcc12 1 _ rfl; (try simp only [show (k101).sz = 3 from rfl,Nat.mul_one,Nat.add_zero] at hx12_1); have hf12_1 := hfr12 1; (try simp only [show (k101).sz = 3 from rfl,Nat.mul_one,Nat.add_zero] at hf12_1); have hx12_2 := hcc12 2 _ rfl; (try simp only [show (k101).sz = 3 from rfl,Nat.mul_one,Nat.add_zero] at hx12_2); have hf12_2 := hfr12 2; (try simp only [show (k101).sz = 3 from rfl,Nat.mul_one,Nat.add_zero] at hf12_2); clear hcl12 hcc12 hfr12 hM12 hoki12 hH12) | ((with_reducible refine gate_store (t := 101) (p := 21) rfl ?_); refine store_event (t := 101) (p := 21) (v := ?vo_w13) (w1 := (((w11.setCell ⟨go10,(x4_1 : Int).toNat * 3,none⟩ (.int .i64 t200)).setCell ⟨go10,(x4_1 : Int).toNat * 3 + 1,none⟩ (.string t201)).setCell ⟨go10,(x4_1 : Int).toNat * 3 + 2,none⟩ (v203))) ?hg ?ho ?hn ?hr ?_; (case ho => rfl); (case hg => rfl); (case hn => rfl); (case hr => (first | (obtain ⟨_,_,eo_⟩ := Kd.R_slice HO204.out; subst eo_) | (obtain ⟨_,_,eo_⟩ := Kd.S_slice HO204.out; subst eo_) | (obtain ⟨_,_,eo_⟩ := Kd.N_slice HO204.out; subst eo_) | skip); first | (go_simp; done) | (go_simp; rfl)); intro w13 hw; have hg : w11.grownBy w13 (some go10) := (by rw [hw]; exact HP12.2); have hp_ : Kd.S k101 101 w13 w.heap.size (fun _ => True) (.slice (some ⟨go10,0,none⟩) x3_1.length co10) y205 := (by rw [hw,Ny205.out]; exact HP12.1); clear HP12; replace HO_3 := y0.mk (hp_); replace HB := y0.mk ((by rw [hw]; exact below_set (below_set (below_set (HB.out) GB10.out) GB10.out) GB10.out : Below w.heap.size w w13)); clear HO204; clear hg hw hp_))
    go_roundg k1
    case measure => have := HK1.out; omega
    exact ⟨(y205),(wrap64 (x4_1 + 1)),qy2,H',⟨by have := HK1.out; omega⟩,⟨qS HO_3.out⟩,⟨qb⟩⟩
   ·rw [if_neg c6] at H
    have c6b0 := decide_eq_false c6
    clear c6
    obtain rfl := Option.some.inj H
    go_wp2
    go_ret
    exact ⟨_,by first | rfl | (simp [y12,y13] <;> rfl) | (simp [*,y12,y13] <;> rfl),by (with_reducible repeat (first | apply Kd.S_alloc | apply Kd.S_drewN | apply Kd.S_drew)); exact HO_3.out,qb⟩
def laws_toLit.f (k : Nat) (a0_0 : Int) (a0_1 : ByteArray) (l0_2 : List Int) : Option (Int × ByteArray × List Int) := (laws_toIntS.f k l0_2).bind fun t209 => (some (a0_0,a0_1,t209))
set_option maxHeartbeats 8000000 in
set_option maxRecDepth 100000 in
theorem laws_toLit.calls (k : Nat) (a0_0 : Int) (a0_1 : ByteArray) (A0_2 : Option Addr) (c0_2 : Nat) (l0_2 : List Int) (r1 : Int) (r2 : ByteArray) (r3 : List Int) (w : World) (hr0_2 : Kd.C (Kd.int .i64) w A0_2 l0_2.length l0_2) (hc0_2 : l0_2.length ≤ c0_2) (h : laws_toLit.f k a0_0 a0_1 l0_2 = some (r1,r2,r3)) :
  Calls Try.prog 28 #[.agg #[.int .i64 a0_0,.string a0_1,.slice A0_2 l0_2.length c0_2]] w fun e w' => ∃ v2_ : Value,e = .returned (.agg #[.int .i64 r1,.string r2,v2_]) ∧ Kd.R (Kd.int .i64) 3 w' w.heap.size (fun _ => True) v2_ r3 ∧ Below w.heap.size w w' := by
 have hu25 := Try.underlying25
 have hu32 := Try.underlying32
 have HR0_2 := y0.mk hr0_2
 have HC0_2 := y0.mk hc0_2
 clear hr0_2 hc0_2
 have HB := y0.mk (Below.refl w.heap.size w)
 have H : ((laws_toIntS.f k l0_2).bind fun t209 => (some (a0_0,a0_1,t209))) = some (r1,r2,r3) := h
 clear h
 obtain ⟨t209,A2,H⟩ := qB H
 simp only [Option.some.injEq,Prod.mk.injEq] at H
 obtain ⟨rfl,rfl,rfl⟩ := H
 go_enter Try.func28,Try.ntmps28
 go_wp2_with (first | ((with_reducible refine y16 (N := 1) rfl ?_); refine qe 1 #[.int .i64 a0_0,.string a0_1,.slice A0_2 l0_2.length c0_2] 25 ?_; intro gb206 hg w3 hbox hb; have BK206 := y0.mk (hbox); have GW206 := y0.mk (qg (w := w) hg); have GE206 := y0.mk (qg (w := w) hg); replace HB := y0.mk (y4 qb hb); clear hb hbox hg) | ((with_reducible refine y16 (N := 2) rfl ?_); refine qe 2 #[.int .i64 0,.string (⟨#[]⟩ : ByteArray),.slice none 0 0] 32 ?_; intro gb207 hg w4 hbox hb; have BK207 := y0.mk (hbox); have GW207 := y0.mk (qg (w := w) hg); have GE207 := y0.mk (qg (w := w) hg); replace HB := y0.mk (y4 qb hb); have NB206_207 := y0.mk (qn BK206.out hg); have NB207_206 := y0.mk (qm BK206.out hg); replace BK206 := y0.mk (qK BK206.out hb); clear hb hbox hg) | ((with_reducible refine y16 (N := 3) rfl ?_); refine qe 3 #[.int .i64 0,.string (⟨#[]⟩ : ByteArray),.slice none 0 0] 32 ?_; intro gb208 hg w5 hbox hb; have BK208 := y0.mk (hbox); have GW208 := y0.mk (qg (w := w) hg); have GE208 := y0.mk (qg (w := w) hg); replace HB := y0.mk (y4 qb hb); have NB206_208 := y0.mk (qn BK206.out hg); have NB208_206 := y0.mk (qm BK206.out hg); replace BK206 := y0.mk (qK BK206.out hb); have NB207_208 := y0.mk (qn BK207.out hg); have NB208_207 := y0.mk (qm BK207.out hg); replace BK207 := y0.mk (qK BK207.out hb); clear hb hbox hg; have hnb6 := NB206_207.out; have hnc6 := NB207_206.out; have hnb7 := NB206_208.out; have hnc7 := NB208_206.out; obtain ⟨hcz8_0,hcz8_1,hcz8_2,hfz8_0,hfz8_1,hfz8_2⟩ := qz3 BK206.out; have hnb9 := NB208_207.out; have hnc9 := NB207_208.out; obtain ⟨hcz10_0,hcz10_1,hcz10_2,hfz10_0,hfz10_1,hfz10_2⟩ := qz3 BK208.out) | ((with_reducible refine y15 (f := 58) rfl ?_); refine y17 (some 12) rfl rfl Try.func58 (by kernel_rfl) rfl #[.slice A0_2 l0_2.length c0_2] rfl qy0 ?_; (with_reducible refine (laws_toIntS.calls k _ _ l0_2 t209 _ (by exact Kd.C_below HR0_2.out qb) HC0_2.out A2.out).mono ?_); rintro e w11 ⟨v210,rfl,ho0,hb⟩; refine ⟨_,rfl, ?_⟩; have HO211 := y0.mk (Kd.R_lower ho0 (y3 qb)); replace BK206 := y0.mk (y6 (g := gb206) (o := .cells #[.int .i64 a0_0,.string a0_1,.slice A0_2 l0_2.length c0_2] 25 (0,0)) (by (with_reducible repeat (first | refine y9 ?_ _ | refine y8 ?_ | refine y5 ?_ _)); refine y10 ?_ NB206_208.out _; (with_reducible repeat (first | refine y9 ?_ _ | refine y8 ?_ | refine y5 ?_ _)); refine y10 ?_ NB206_208.out _; (with_reducible repeat (first | refine y9 ?_ _ | refine y8 ?_ | refine y5 ?_ _)); exact BK206.out) hb); replace BK207 := y0.mk (y6 (g := gb207) (o := .cells #[.int .i64 0,.string (⟨#[]⟩ : ByteArray),.slice none 0 0] 32 (0,0)) (by (with_reducible repeat (first | refine y9 ?_ _ | refine y8 ?_ | refine y5 ?_ _)); refine y10 ?_ NB207_208.out _; (with_reducible repeat (first | refine y9 ?_ _ | refine y8 ?_ | refine y5 ?_ _)); refine y10 ?_ NB207_208.out _; (with_reducible repeat (first | refine y9 ?_ _ | refine y8 ?_ | refine y5 ?_ _)); exact BK207.out) hb); replace BK208 := y0.mk (y6 (g := gb208) (o := .cells #[.int .i64 a0_0,.string a0_1,.slice none 0 0] 32 (0,0)) (by (with_reducible repeat (first | refine y9 ?_ _ | refine y8 ?_ | refine y5 ?_ _)); refine y11 (cs := #[.int .i64 a0_0,.string (⟨#[]⟩ : ByteArray),.slice none 0 0]) ?_ 1 _ rfl; (with_reducible repeat (first | refine y9 ?_ _ | refine y8 ?_ | refine y5 ?_ _)); refine y11 (cs := #[.int .i64 0,.string (⟨#[]⟩ : ByteArray),.slice none 0 0]) ?_ 0 _ rfl; (with_reducible repeat (first | refine y9 ?_ _ | refine y8 ?_ | refine y5 ?_ _)); exact BK208.out) hb); replace HB := y0.mk (y4 qb hb); (try clear hb); (try clear hb2); (try clear hk); (try clear hi); (try clear ho0); obtain ⟨Ao12,co12,eo12⟩ := Kd.R_slice HO211.out; subst eo12; obtain ⟨hcz13_0,hcz13_1,hcz13_2,hfz13_0,hfz13_1,hfz13_2⟩ := qz3 BK208.out; obtain ⟨hcz14_0,hcz14_1,hcz14_2,hfz14_0,hfz14_1,hfz14_2⟩ := qz3 BK207.out))
 refine bodyPost_ret (results_cell_row rfl _ _ gb207 32 #[.int .i64 a0_0,.string a0_1,.slice Ao12 t209.length co12] (0,0) _ rfl (by (with_reducible repeat (first | refine y9 ?_ _ | refine y8 ?_ | refine y5 ?_ _)); refine y11 (cs := #[.int .i64 a0_0,.string a0_1,.slice none 0 0]) ?_ 2 _ rfl; (with_reducible repeat (first | refine y9 ?_ _ | refine y8 ?_ | refine y5 ?_ _)); refine y11 (cs := #[.int .i64 a0_0,.string (⟨#[]⟩ : ByteArray),.slice none 0 0]) ?_ 1 _ rfl; (with_reducible repeat (first | refine y9 ?_ _ | refine y8 ?_ | refine y5 ?_ _)); refine y11 (cs := #[.int .i64 0,.string (⟨#[]⟩ : ByteArray),.slice none 0 0]) ?_ 0 _ rfl; (with_reducible repeat (first | refine y9 ?_ _ | refine y8 ?_ | refine y5 ?_ _)); refine y10 ?_ NB207_208.out _; (with_reducible repeat (first | refine y9 ?_ _ | refine y8 ?_ | refine y5 ?_ _)); exact BK207.out) Try.underlying32 rfl (by kernel_rfl)) rfl ?_
 exact ⟨_,by first | rfl | (simp [y12,y13] <;> rfl) | (simp [*,y12,y13] <;> rfl),by (with_reducible repeat (first | apply Kd.R_alloc | apply Kd.R_drewN | apply Kd.R_drew)); exact Kd.R_mono (Kd.R_far (p := ⟨gb207,2,none⟩) (Kd.R_far (p := ⟨gb207,1,none⟩) (Kd.R_far (p := ⟨gb207,0,none⟩) (Kd.R_far (p := ⟨gb208,2,none⟩) (Kd.R_types (Kd.R_types HO211.out BK208.out (by decide)) BK207.out (by decide)) (fun _ hk => hk.1.2) (.slice Ao12 t209.length co12)) (fun _ hk => hk.2) (.int .i64 a0_0)) (fun _ hk => hk.2) (.string a0_1)) (fun _ hk => hk.2) (.slice Ao12 t209.length co12)) (fun _ hk => trivial),qb⟩
def laws_toLitS.l0 : Nat → List (S25) → List (S32) → Int → Option ((List (S32)))
 | 0,_,_,_ => none
 | k + 1,x0,x3,x4 => if x4 < (x0.length : Int) then (if 0 ≤ x4 then ((laws_toLit.f k ((rd_T25 x0 x4).f0) ((rd_T25 x0 x4).f1) ((rd_T25 x0 x4).f2)).bind fun bt216 => (if x4 < (x3.length : Int) then (laws_toLitS.l0 k x0 (x3.set (x4 : Int).toNat (⟨bt216.1,bt216.2.1,bt216.2.2⟩ : S32)) (wrap64 (x4 + 1))) else (none))) else (none)) else (some x3)
def laws_toLitS.f (k : Nat) (l0 : List (S25)) : Option ((List (S32))) := if 0 ≤ (l0.length : Int) then (if ((l0.length : Int) : Int).toNat ≤ 5864062014805 then (laws_toLitS.l0 k l0 (List.replicate ((l0.length : Int) : Int).toNat z32) 0) else (none)) else (none)
set_option maxHeartbeats 8000000 in
set_option maxRecDepth 100000 in
theorem laws_toLitS.calls (k : Nat) (A0 : Option Addr) (c0 : Nat) (l0 : List (S25)) (r : List (S32)) (w : World) (hr0 : Kd.C k25 w A0 l0.length l0) (hc0 : l0.length ≤ c0) (h : laws_toLitS.f k l0 = some r) :
  Calls Try.prog 29 #[.slice A0 l0.length c0] w fun e w' => ∃ v0_ : Value,e = .returned (v0_) ∧ Kd.S k32 32 w' w.heap.size (fun _ => True) v0_ r ∧ Below w.heap.size w w' := by
 have hu25 := Try.underlying25
 have hu32 := Try.underlying32
 have HR0 := y0.mk hr0
 have HC0 := y0.mk hc0
 clear hr0 hc0
 have HB := y0.mk (Below.refl w.heap.size w)
 have H : (if 0 ≤ (l0.length : Int) then (if ((l0.length : Int) : Int).toNat ≤ 5864062014805 then (laws_toLitS.l0 k l0 (List.replicate ((l0.length : Int) : Int).toNat z32) 0) else (none)) else (none)) = some r := h
 clear h
 obtain ⟨c2,H⟩ := qo H
 have c2b0 := eq_true c2
 have c2b1 := decide_eq_true c2
 clear c2
 obtain ⟨c3,H⟩ := qo H
 have c3b0 := eq_true c3
 have c3b1 := decide_eq_true c3
 clear c3
 obtain ⟨y212,hy212⟩ : ∃ y_ : List (S32),y_ = (List.replicate ((l0.length : Int) : Int).toNat z32) := ⟨_,rfl⟩
 replace H : (laws_toLitS.l0 k l0 y212 0) = some r := by first | (rw [hy212]; with_reducible exact H) | (have H2_ := (Option.bind_some _ _).symm.trans H; rw [hy212]; with_reducible exact H2_) | (have H2_ := (Option.bind_some _ _).symm.trans H; with_reducible exact H2_) | with_reducible exact H | (rw [hy212]; exact H) | exact H
 have Ny212 := y0.mk hy212
 clear hy212
 have H' := y0.mk H
 clear H
 go_enter Try.func29,Try.ntmps29
 go_wp2_with (first | ((with_reducible refine y16 (N := 7) rfl ?_); refine Kd.S_make k32 _ 32 rfl (N := 7) rfl 33 _ _ rfl (l0.length : Int) rfl rfl Try.underlying33 (.agg #[(.int .i64 0),(.string ⟨#[]⟩),(.slice none 0 0)]) 48 info32 rfl (by decide) (by omega) z32 (ok := fun _ => True) (okp := fun _ => True) (k32_mkM _ _ _ z32 (Kd.R_nil _ _ _ _ _)) (fun _ hk => hk) trivial (of_decide_eq_true qy1) (Nat.le_trans (Nat.mul_le_mul_right _ (of_decide_eq_true qy1 : (l0.length : Int).toNat ≤ 5864062014805)) (by omega)) (Below.refl _ _) (Nat.le_refl _) ?_; intro v213 w4 ho5 hb hg_ hnew_; clear hg_ hnew_; (first | rw [← Ny212.out] at ho5 | (simp only [Int.reduceToNat] at ho5; rw [← Ny212.out] at ho5)); have HO214 := y0.mk (Kd.S_lower ho5 (y3 qb)); replace HB := y0.mk (y4 qb hb); clear hb ho5))
 go_loopg [4] k (fun kq v4 w' => ∃ (x3_1 : List (S32)) (x4_1 : Int),v4 = .int .i64 x4_1 ∧ y0 (laws_toLitS.l0 kq l0 x3_1 x4_1 = some r) ∧ y0 (kq ≤ k) ∧ y0 (Kd.S k32 32 w' w.heap.size (fun _ => True) v213 x3_1) ∧ y0 (Below w.heap.size w w'))
 case atStart => exact ⟨(y212),(0),qy2,H',⟨Nat.le_refl _⟩,⟨qS HO214.out⟩,⟨qb⟩⟩
 case round =>
  clear H'
  (try clear c2b0 c2b1 c3b0 c3b1)
  obtain ⟨x3_1,x4_1,rfl,HA,HK1,HO_3,HB⟩ := hrel
  cases gk with
  | zero => exact absurd HA.out (by simp [laws_toLitS.l0])
  | succ k1 =>
   have H := HA.out
   clear HA
   simp only [laws_toLitS.l0] at H
   by_cases c6 : x4_1 < (l0.length : Int)
   ·rw [if_pos c6] at H
    have c6b0 := decide_eq_true c6
    clear c6
    obtain ⟨c7,H⟩ := qo H
    have c7b0 : decide (0 ≤ x4_1) = true := decide_eq_true c7
    clear c7
    obtain ⟨⟨t216,t217,t218⟩,A8,H⟩ := qB H
    replace H : (if x4_1 < (x3_1.length : Int) then (laws_toLitS.l0 k1 l0 (x3_1.set (x4_1 : Int).toNat (⟨t216,t217,t218⟩ : S32)) (wrap64 (x4_1 + 1))) else (none)) = some r := H
    obtain ⟨c9,H⟩ := qo H
    have c9b0 := decide_eq_true c9
    clear c9
    obtain ⟨y221,hy221⟩ : ∃ y_ : List (S32),y_ = (x3_1.set (x4_1 : Int).toNat (⟨t216,t217,t218⟩ : S32)) := ⟨_,rfl⟩
    replace H : (laws_toLitS.l0 k1 l0 y221 (wrap64 (x4_1 + 1))) = some r := by first | (rw [hy221]; with_reducible exact H) | (have H2_ := (Option.bind_some _ _).symm.trans H; rw [hy221]; with_reducible exact H2_) | (have H2_ := (Option.bind_some _ _).symm.trans H; with_reducible exact H2_) | with_reducible exact H | (rw [hy221]; exact H) | exact H
    have Ny221 := y0.mk hy221
    clear hy221
    have H' := y0.mk H
    clear H
    have p215 : 0 ≤ (x4_1 : Int) := of_decide_eq_true qy1
    have q215 : x4_1 < (l0.length : Int) := of_decide_eq_true qy1
    obtain ⟨ad215,A215_2,c215_2,e215,hx215_0,hx215_1,hx215_2,hl215_2,hi215_2⟩ := at_T25 HR0.out x4_1 p215 q215
    cases e215
    replace hx215_0 := (HB.out.cell (World.block_lt_of_cell? w _ hx215_0)).trans hx215_0
    replace hx215_1 := (HB.out.cell (World.block_lt_of_cell? w _ hx215_1)).trans hx215_1
    replace hx215_2 := (HB.out.cell (World.block_lt_of_cell? w _ hx215_2)).trans hx215_2
    have HR215_2 := y0.mk hi215_2
    have HC215_2 := y0.mk hl215_2
    clear hi215_2 hl215_2
    replace p215 := eq_true p215
    replace q215 := eq_true q215
    go_wp2_with (first | ((with_reducible refine y15 (f := 28) rfl ?_); refine y17 (some 20) rfl rfl Try.func28 (by kernel_rfl) rfl #[.agg #[.int .i64 ((rd_T25 l0 x4_1).f0),.string ((rd_T25 l0 x4_1).f1),.slice A215_2 ((rd_T25 l0 x4_1).f2).length c215_2]] rfl qy0 ?_; (with_reducible refine (laws_toLit.calls k1 ((rd_T25 l0 x4_1).f0) ((rd_T25 l0 x4_1).f1) _ _ ((rd_T25 l0 x4_1).f2) t216 t217 t218 _ (qc (Kd.C_below HR215_2.out HB.out)) HC215_2.out A8.out).mono ?_); rintro e w11 ⟨v219,rfl,ho0,hb⟩; refine ⟨_,rfl, ?_⟩; replace HO_3 := y0.mk (Kd.S_elder' (qS HO_3.out) (Kd.R_base ho0) hb); have HO220 := y0.mk (Kd.R_lower ho0 (y3 qb)); replace HB := y0.mk (y4 qb hb); (try clear hb); (try clear hb2); (try clear hk); (try clear hi); (try clear ho0); have p10 : 0 ≤ (x4_1 : Int) := of_decide_eq_true qy1; have q10 : (x4_1 : Int) < ((x3_1.length : Int) : Int) := of_decide_eq_true qy1; obtain ⟨go10,co10,eo10,gb10,gl10,cl10,HG10⟩ := Kd.S_form HO_3.out (by omega); (first | cases eo10 | (injection eo10 with ea_ en_ ec_; (first | subst ea_ | (injection ea_ with ea_; subst ea_)); subst ec_; clear en_)); have GB10 := y0.mk gb10; have GG10 := y0.mk HG10; clear gb10 gl10 HG10; obtain ⟨_,ce10,hcl10,hM10,hcc10,hfr10,_,_⟩ := Kd.S_elem HO_3.out z32 (x4_1 : Int) p10 q10; obtain ⟨ve10_2,rfl,ge10_2⟩ := k32_openM hM10; have hx10_0 : w11.cell? ⟨go10,(x4_1 : Int).toNat * 3,none⟩ = some (.int .i64 ((y19 x3_1 x4_1).f0)) := hcc10 0 _ rfl; have hx10_1 : w11.cell? ⟨go10,(x4_1 : Int).toNat * 3 + 1,none⟩ = some (.string ((y19 x3_1 x4_1).f1)) := hcc10 1 _ rfl; have hx10_2 : w11.cell? ⟨go10,(x4_1 : Int).toNat * 3 + 2,none⟩ = some (ve10_2) := hcc10 2 _ rfl; have hf10_0 : w11.frozen? ⟨go10,(x4_1 : Int).toNat * 3,none⟩ = false := hfr10 0; have hf10_1 : w11.frozen? ⟨go10,(x4_1 : Int).toNat * 3 + 1,none⟩ = false := hfr10 1; have hf10_2 : w11.frozen? ⟨go10,(x4_1 : Int).toNat * 3 + 2,none⟩ = false := hfr10 2; clear hcl10 hcc10 hfr10 hM10; replace p10 := eq_true p10; replace q10 := eq_true q10; have n_ := y0.mk (Kd.S_mono (ok' := (fun k_ => some k_ ≠ (v219 : Value).ownBlock)) HO_3.out (fun k_ hk => hk.2)); clear HO_3; have HO_3 := n_; clear n_; have HX12 := y0.mk (show Kd.S k32 32 w11 w.heap.size (fun k_ => ((fun _ => True)) k_ ∧ ¬ ((fun k_ => some k_ = (v219 : Value).ownBlock)) k_) (.slice (some ⟨go10,0,none⟩) x3_1.length co10) x3_1 from (qS (Kd.S_mono HO_3.out (fun k_ hk => ⟨trivial,fun e_ => hk e_⟩)))); obtain ⟨oki12,ce12,hcl12,hM12,hcc12,hfr12,hoki12,hH12⟩ := Kd.S_elem HX12.out z32 (x4_1 : Int) (of_decide_eq_true qy1) (by have h_ : (x4_1 : Int) < ((x3_1.length : Int) : Int) := of_decide_eq_true qy1; first | exact h_ | (have e_ := (Kd.S_reads' HO_3.out).1; omega) | simpa using h_); obtain ⟨ve12_2,rfl,ge12_2⟩ := k32_openM hM12; have HP12 := Kd.S_seg hH12 (of_decide_eq_true qy1) (by have h_ : (x4_1 : Int) < ((x3_1.length : Int) : Int) := of_decide_eq_true qy1; first | exact h_ | (have e_ := (Kd.S_reads' HO_3.out).1; omega) | simpa using h_) (seg := [.int .i64 t216,.string t217,v219]) (j := 0) (show 3 ≤ 3 from by decide) (x' := (⟨t216,t217,t218⟩ : S32)) (k32_mkM _ _ _ (⟨t216,t217,t218⟩ : S32) (Kd.R_mono (Kd.R_tight rfl (Kd.R_mono (ok' := fun k_ => ((fun _ => True)) k_ ∧ k_ ≠ go10) (Kd.R_apart' (HO220.out) (Kd.S_typed HO_3.out) (by decide)) (fun k_ hk => ⟨trivial,fun e_ => (hk.2) (by rw [e_]; rfl)⟩))) (fun _ h_ => Or.inr (h_)))) (fun _ hk => hk) (fun k_ hk_ => ((Kd.R_mono (ok' := fun k_ => ((fun _ => True)) k_ ∧ k_ ≠ go10) (Kd.R_apart' (HO220.out) (Kd.S_typed HO_3.out) (by decide)) (fun k_ hk => ⟨trivial,fun e_ => (hk.2) (by rw [e_]; rfl)⟩))).1 k_ hk_.symm); have hx12_0 := hcc12 0 _ rfl; (try simp only [show (k32).sz = 3 from rfl,Nat.mul_one,Nat.add_zero] at hx12_0); have hf12_0 := hfr12 0; (try simp only [show (k32).sz = 3 from rfl,Nat.mul_one,Nat.add_zero] at hf12_0); have hx12_1 := hcc12 1 _ rfl; (try simp only [show (k32).sz = 3 from rfl,Nat.mul_one,Nat.add_zero] at hx12_1); have hf12_1 := hfr12 1; (try simp only [show (k32).sz = 3 from rfl,Nat.mul_one,Nat.add_zero] at hf12_1); have hx12_2 := hcc12 2 _ rfl; (try simp only [show (k32).sz = 3 from rfl,Nat.mul_one,Nat.add_zero] at hx12_2); have hf12_2 := hfr12 2; (try simp only [show (k32).sz = 3 from rfl,Nat.mul_one,Nat.add_zero] at hf12_2); clear hcl12 hcc12 hfr12 hM12 hoki12 hH12) | ((with_reducible refine gate_store (t := 32) (p := 21) rfl ?_); refine store_event (t := 32) (p := 21) (v := ?vo_w13) (w1 := (((w11.setCell ⟨go10,(x4_1 : Int).toNat * 3,none⟩ (.int .i64 t216)).setCell ⟨go10,(x4_1 : Int).toNat * 3 + 1,none⟩ (.string t217)).setCell ⟨go10,(x4_1 : Int).toNat * 3 + 2,none⟩ (v219))) ?hg ?ho ?hn ?hr ?_; (case ho => rfl); (case hg => rfl); (case hn => rfl); (case hr => (first | (obtain ⟨_,_,eo_⟩ := Kd.R_slice HO220.out; subst eo_) | (obtain ⟨_,_,eo_⟩ := Kd.S_slice HO220.out; subst eo_) | (obtain ⟨_,_,eo_⟩ := Kd.N_slice HO220.out; subst eo_) | skip); first | (go_simp; done) | (go_simp; rfl)); intro w13 hw; have hg : w11.grownBy w13 (some go10) := (by rw [hw]; exact HP12.2); have hp_ : Kd.S k32 32 w13 w.heap.size (fun _ => True) (.slice (some ⟨go10,0,none⟩) x3_1.length co10) y221 := (by rw [hw,Ny221.out]; exact HP12.1); clear HP12; replace HO_3 := y0.mk (hp_); replace HB := y0.mk ((by rw [hw]; exact below_set (below_set (below_set (HB.out) GB10.out) GB10.out) GB10.out : Below w.heap.size w w13)); clear HO220; clear hg hw hp_))
    go_roundg k1
    case measure => have := HK1.out; omega
    exact ⟨(y221),(wrap64 (x4_1 + 1)),qy2,H',⟨by have := HK1.out; omega⟩,⟨qS HO_3.out⟩,⟨qb⟩⟩
   ·rw [if_neg c6] at H
    have c6b0 := decide_eq_false c6
    clear c6
    obtain rfl := Option.some.inj H
    go_wp2
    go_ret
    exact ⟨_,by first | rfl | (simp [y12,y13] <;> rfl) | (simp [*,y12,y13] <;> rfl),by (with_reducible repeat (first | apply Kd.S_alloc | apply Kd.S_drewN | apply Kd.S_drew)); exact HO_3.out,qb⟩
def laws_toRule.f (k : Nat) (l0_0 : List (S99)) (a0_1 : Int) (a0_2 : ByteArray) (l0_3 : List Int) (l0_4 : List (S25)) : Option ((List (S101)) × Int × ByteArray × List Int × (List (S32))) := (laws_toExpS.f k l0_0).bind fun t225 => ((laws_toLit.f k a0_1 a0_2 l0_3).bind fun bt228 => ((laws_toLitS.f k l0_4).bind fun t233 => (some (t225,bt228.1,bt228.2.1,bt228.2.2,t233))))
set_option maxHeartbeats 8000000 in
set_option maxRecDepth 100000 in
theorem laws_toRule.calls (k : Nat) (A0_0 : Option Addr) (c0_0 : Nat) (l0_0 : List (S99)) (a0_1 : Int) (a0_2 : ByteArray) (A0_3 : Option Addr) (c0_3 : Nat) (l0_3 : List Int) (A0_4 : Option Addr) (c0_4 : Nat) (l0_4 : List (S25)) (r1 : List (S101)) (r2 : Int) (r3 : ByteArray) (r4 : List Int) (r5 : List (S32)) (w : World) (hr0_0 : Kd.C k99 w A0_0 l0_0.length l0_0) (hc0_0 : l0_0.length ≤ c0_0) (hr0_3 : Kd.C (Kd.int .i64) w A0_3 l0_3.length l0_3) (hc0_3 : l0_3.length ≤ c0_3) (hr0_4 : Kd.C k25 w A0_4 l0_4.length l0_4) (hc0_4 : l0_4.length ≤ c0_4) (h : laws_toRule.f k l0_0 a0_1 a0_2 l0_3 l0_4 = some (r1,r2,r3,r4,r5)) :
  Calls Try.prog 8 #[.agg #[.slice A0_0 l0_0.length c0_0,.int .i64 a0_1,.string a0_2,.slice A0_3 l0_3.length c0_3,.slice A0_4 l0_4.length c0_4]] w fun e w' => ∃ v0_ v3_ v4_ : Value,e = .returned (.agg #[v0_,.int .i64 r2,.string r3,v3_,v4_]) ∧ Kd.S k101 101 w' w.heap.size (fun k_ => some k_ ≠ (v3_ : Value).ownBlock) v0_ r1 ∧ Kd.R (Kd.int .i64) 3 w' w.heap.size (fun _ => True) v3_ r4 ∧ Kd.S k32 32 w' w.heap.size (fun k_ => some k_ ≠ (v3_ : Value).ownBlock) v4_ r5 ∧ Below w.heap.size w w' := by
 have hu28 := Try.underlying28
 have hu35 := Try.underlying35
 have hu25 := Try.underlying25
 have hu32 := Try.underlying32
 have HR0_0 := y0.mk hr0_0
 have HC0_0 := y0.mk hc0_0
 clear hr0_0 hc0_0
 have HR0_3 := y0.mk hr0_3
 have HC0_3 := y0.mk hc0_3
 clear hr0_3 hc0_3
 have HR0_4 := y0.mk hr0_4
 have HC0_4 := y0.mk hc0_4
 clear hr0_4 hc0_4
 have HB := y0.mk (Below.refl w.heap.size w)
 have H : ((laws_toExpS.f k l0_0).bind fun t225 => ((laws_toLit.f k a0_1 a0_2 l0_3).bind fun bt228 => ((laws_toLitS.f k l0_4).bind fun t233 => (some (t225,bt228.1,bt228.2.1,bt228.2.2,t233))))) = some (r1,r2,r3,r4,r5) := h
 clear h
 obtain ⟨t225,A2,H⟩ := qB H
 obtain ⟨⟨t228,t229,t230⟩,A3,H⟩ := qB H
 replace H : ((laws_toLitS.f k l0_4).bind fun t233 => (some (t225,t228,t229,t230,t233))) = some (r1,r2,r3,r4,r5) := H
 obtain ⟨t233,A4,H⟩ := qB H
 simp only [Option.some.injEq,Prod.mk.injEq] at H
 obtain ⟨rfl,rfl,rfl,rfl,rfl⟩ := H
 go_enter Try.func8,Try.ntmps8
 go_wp2_with (first | ((with_reducible refine y16 (N := 1) rfl ?_); refine qe 1 #[.slice A0_0 l0_0.length c0_0,.int .i64 a0_1,.string a0_2,.slice A0_3 l0_3.length c0_3,.slice A0_4 l0_4.length c0_4] 28 ?_; intro gb222 hg w5 hbox hb; have BK222 := y0.mk (hbox); have GW222 := y0.mk (qg (w := w) hg); have GE222 := y0.mk (qg (w := w) hg); replace HB := y0.mk (y4 qb hb); clear hb hbox hg) | ((with_reducible refine y16 (N := 2) rfl ?_); refine qe 2 #[.slice none 0 0,.int .i64 0,.string (⟨#[]⟩ : ByteArray),.slice none 0 0,.slice none 0 0] 35 ?_; intro gb223 hg w6 hbox hb; have BK223 := y0.mk (hbox); have GW223 := y0.mk (qg (w := w) hg); have GE223 := y0.mk (qg (w := w) hg); replace HB := y0.mk (y4 qb hb); have NB222_223 := y0.mk (qn BK222.out hg); have NB223_222 := y0.mk (qm BK222.out hg); replace BK222 := y0.mk (qK BK222.out hb); clear hb hbox hg) | ((with_reducible refine y16 (N := 3) rfl ?_); refine qe 3 #[.slice none 0 0,.int .i64 0,.string (⟨#[]⟩ : ByteArray),.slice none 0 0,.slice none 0 0] 35 ?_; intro gb224 hg w7 hbox hb; have BK224 := y0.mk (hbox); have GW224 := y0.mk (qg (w := w) hg); have GE224 := y0.mk (qg (w := w) hg); replace HB := y0.mk (y4 qb hb); have NB222_224 := y0.mk (qn BK222.out hg); have NB224_222 := y0.mk (qm BK222.out hg); replace BK222 := y0.mk (qK BK222.out hb); have NB223_224 := y0.mk (qn BK223.out hg); have NB224_223 := y0.mk (qm BK223.out hg); replace BK223 := y0.mk (qK BK223.out hb); clear hb hbox hg; have hnb8 := NB222_223.out; have hnc8 := NB223_222.out; have hnb9 := NB222_224.out; have hnc9 := NB224_222.out; obtain ⟨hcz10_0,hcz10_1,hcz10_2,hcz10_3,hcz10_4,hfz10_0,hfz10_1,hfz10_2,hfz10_3,hfz10_4⟩ := qz5 BK222.out) | ((with_reducible refine y15 (f := 27) rfl ?_); refine y17 (some 6) rfl rfl Try.func27 (by kernel_rfl) rfl #[.slice A0_0 l0_0.length c0_0] rfl qy0 ?_; (with_reducible refine (laws_toExpS.calls k _ _ l0_0 t225 _ (qc (Kd.C_below HR0_0.out HB.out)) HC0_0.out A2.out).mono ?_); rintro e w11 ⟨v226,rfl,ho0,hb⟩; refine ⟨_,rfl, ?_⟩; have HO227 := y0.mk (Kd.S_lower ho0 (y3 qb)); replace BK222 := y0.mk (qK BK222.out hb); replace BK223 := y0.mk (qK BK223.out hb); replace BK224 := y0.mk (qK BK224.out hb); replace HB := y0.mk (y4 qb hb); (try clear hb); (try clear hb2); (try clear hk); (try clear hi); (try clear ho0); obtain ⟨Ao12,co12,eo12⟩ := Kd.S_slice HO227.out; subst eo12; have hnb13 := NB224_223.out; have hnc13 := NB223_224.out; obtain ⟨hcz14_0,hcz14_1,hcz14_2,hcz14_3,hcz14_4,hfz14_0,hfz14_1,hfz14_2,hfz14_3,hfz14_4⟩ := qz5 BK224.out; obtain ⟨hcz15_0,hcz15_1,hcz15_2,hcz15_3,hcz15_4,hfz15_0,hfz15_1,hfz15_2,hfz15_3,hfz15_4⟩ := qz5 BK222.out) | ((with_reducible refine y15 (f := 28) rfl ?_); refine y17 (some 10) rfl rfl Try.func28 (by kernel_rfl) rfl #[.agg #[.int .i64 a0_1,.string a0_2,.slice A0_3 l0_3.length c0_3]] rfl qy0 ?_; (with_reducible refine (laws_toLit.calls k a0_1 a0_2 _ _ l0_3 t228 t229 t230 _ (by exact Kd.C_below HR0_3.out qb) HC0_3.out A3.out).mono ?_); rintro e w16 ⟨v231,rfl,ho0,hb⟩; refine ⟨_,rfl, ?_⟩; replace HO227 := y0.mk (Kd.S_elder' (qS ((Kd.S_mono (Kd.S_far (p := ⟨gb224,0,none⟩) (Kd.S_types HO227.out BK224.out (by decide)) (fun _ hk => hk.2) (.slice Ao12 t225.length co12)) (fun _ h_ => h_.1)))) (Kd.R_base ho0) hb); have HO232 := y0.mk (Kd.R_lower ho0 (y3 qb)); replace BK222 := y0.mk (y6 (g := gb222) (o := .cells #[.slice A0_0 l0_0.length c0_0,.int .i64 a0_1,.string a0_2,.slice A0_3 l0_3.length c0_3,.slice A0_4 l0_4.length c0_4] 28 (0,0)) (by (with_reducible repeat (first | refine y9 ?_ _ | refine y8 ?_ | refine y5 ?_ _)); refine y10 ?_ NB222_224.out _; (with_reducible repeat (first | refine y9 ?_ _ | refine y8 ?_ | refine y5 ?_ _)); exact BK222.out) hb); replace BK223 := y0.mk (y6 (g := gb223) (o := .cells #[.slice none 0 0,.int .i64 0,.string (⟨#[]⟩ : ByteArray),.slice none 0 0,.slice none 0 0] 35 (0,0)) (by (with_reducible repeat (first | refine y9 ?_ _ | refine y8 ?_ | refine y5 ?_ _)); refine y10 ?_ NB223_224.out _; (with_reducible repeat (first | refine y9 ?_ _ | refine y8 ?_ | refine y5 ?_ _)); exact BK223.out) hb); replace BK224 := y0.mk (y6 (g := gb224) (o := .cells #[.slice Ao12 t225.length co12,.int .i64 0,.string (⟨#[]⟩ : ByteArray),.slice none 0 0,.slice none 0 0] 35 (0,0)) (by (with_reducible repeat (first | refine y9 ?_ _ | refine y8 ?_ | refine y5 ?_ _)); refine y11 (cs := #[.slice none 0 0,.int .i64 0,.string (⟨#[]⟩ : ByteArray),.slice none 0 0,.slice none 0 0]) ?_ 0 _ rfl; (with_reducible repeat (first | refine y9 ?_ _ | refine y8 ?_ | refine y5 ?_ _)); exact BK224.out) hb); replace HB := y0.mk (y4 qb hb); (try clear hb); (try clear hb2); (try clear hk); (try clear hi); (try clear ho0); obtain ⟨hcz17_0,hcz17_1,hcz17_2,hcz17_3,hcz17_4,hfz17_0,hfz17_1,hfz17_2,hfz17_3,hfz17_4⟩ := qz5 BK224.out; obtain ⟨Ao18,co18,eo18⟩ := Kd.R_slice HO232.out; subst eo18; obtain ⟨hcz19_0,hcz19_1,hcz19_2,hcz19_3,hcz19_4,hfz19_0,hfz19_1,hfz19_2,hfz19_3,hfz19_4⟩ := qz5 BK222.out) | ((with_reducible refine y15 (f := 29) rfl ?_); refine y17 (some 14) rfl rfl Try.func29 (by kernel_rfl) rfl #[.slice A0_4 l0_4.length c0_4] rfl qy0 ?_; (with_reducible refine (laws_toLitS.calls k _ _ l0_4 t233 _ (by exact Kd.C_below HR0_4.out qb) HC0_4.out A4.out).mono ?_); rintro e w20 ⟨v234,rfl,ho0,hb⟩; refine ⟨_,rfl, ?_⟩; replace HO227 := y0.mk (Kd.S_below (qS ((Kd.S_mono (Kd.S_far (p := ⟨gb224,3,none⟩) (Kd.S_far (p := ⟨gb224,2,none⟩) (Kd.S_far (p := ⟨gb224,1,none⟩) (Kd.S_types HO227.out BK224.out (by decide)) (fun _ hk => hk.2) (.int .i64 t228)) (fun _ hk => hk.2) (.string t229)) (fun _ hk => hk.2) (.slice Ao18 t230.length co18)) (fun _ h_ => h_.1)))) hb); have HO235 := y0.mk (Kd.S_lower (Kd.S_new' ho0 (Kd.R_lt (qR ((Kd.R_mono (Kd.R_far (p := ⟨gb224,3,none⟩) (Kd.R_far (p := ⟨gb224,2,none⟩) (Kd.R_far (p := ⟨gb224,1,none⟩) (Kd.R_types HO232.out BK224.out (by decide)) (fun _ hk => hk.2) (.int .i64 t228)) (fun _ hk => hk.2) (.string t229)) (fun _ hk => hk.2) (.slice Ao18 t230.length co18)) (fun _ h_ => h_.1)))))) (y3 qb)); replace HO232 := y0.mk (Kd.R_below (qR ((Kd.R_mono (Kd.R_far (p := ⟨gb224,3,none⟩) (Kd.R_far (p := ⟨gb224,2,none⟩) (Kd.R_far (p := ⟨gb224,1,none⟩) (Kd.R_types HO232.out BK224.out (by decide)) (fun _ hk => hk.2) (.int .i64 t228)) (fun _ hk => hk.2) (.string t229)) (fun _ hk => hk.2) (.slice Ao18 t230.length co18)) (fun _ h_ => h_.1)))) hb); replace BK222 := y0.mk (y6 (g := gb222) (o := .cells #[.slice A0_0 l0_0.length c0_0,.int .i64 a0_1,.string a0_2,.slice A0_3 l0_3.length c0_3,.slice A0_4 l0_4.length c0_4] 28 (0,0)) (by (with_reducible repeat (first | refine y9 ?_ _ | refine y8 ?_ | refine y5 ?_ _)); refine y10 ?_ NB222_224.out _; (with_reducible repeat (first | refine y9 ?_ _ | refine y8 ?_ | refine y5 ?_ _)); refine y10 ?_ NB222_224.out _; (with_reducible repeat (first | refine y9 ?_ _ | refine y8 ?_ | refine y5 ?_ _)); refine y10 ?_ NB222_224.out _; (with_reducible repeat (first | refine y9 ?_ _ | refine y8 ?_ | refine y5 ?_ _)); exact BK222.out) hb); replace BK223 := y0.mk (y6 (g := gb223) (o := .cells #[.slice none 0 0,.int .i64 0,.string (⟨#[]⟩ : ByteArray),.slice none 0 0,.slice none 0 0] 35 (0,0)) (by (with_reducible repeat (first | refine y9 ?_ _ | refine y8 ?_ | refine y5 ?_ _)); refine y10 ?_ NB223_224.out _; (with_reducible repeat (first | refine y9 ?_ _ | refine y8 ?_ | refine y5 ?_ _)); refine y10 ?_ NB223_224.out _; (with_reducible repeat (first | refine y9 ?_ _ | refine y8 ?_ | refine y5 ?_ _)); refine y10 ?_ NB223_224.out _; (with_reducible repeat (first | refine y9 ?_ _ | refine y8 ?_ | refine y5 ?_ _)); exact BK223.out) hb); replace BK224 := y0.mk (y6 (g := gb224) (o := .cells #[.slice Ao12 t225.length co12,.int .i64 t228,.string t229,.slice Ao18 t230.length co18,.slice none 0 0] 35 (0,0)) (by (with_reducible repeat (first | refine y9 ?_ _ | refine y8 ?_ | refine y5 ?_ _)); refine y11 (cs := #[.slice Ao12 t225.length co12,.int .i64 t228,.string t229,.slice none 0 0,.slice none 0 0]) ?_ 3 _ rfl; (with_reducible repeat (first | refine y9 ?_ _ | refine y8 ?_ | refine y5 ?_ _)); refine y11 (cs := #[.slice Ao12 t225.length co12,.int .i64 t228,.string (⟨#[]⟩ : ByteArray),.slice none 0 0,.slice none 0 0]) ?_ 2 _ rfl; (with_reducible repeat (first | refine y9 ?_ _ | refine y8 ?_ | refine y5 ?_ _)); refine y11 (cs := #[.slice Ao12 t225.length co12,.int .i64 0,.string (⟨#[]⟩ : ByteArray),.slice none 0 0,.slice none 0 0]) ?_ 1 _ rfl; (with_reducible repeat (first | refine y9 ?_ _ | refine y8 ?_ | refine y5 ?_ _)); exact BK224.out) hb); replace HB := y0.mk (y4 qb hb); (try clear hb); (try clear hb2); (try clear hk); (try clear hi); (try clear ho0); obtain ⟨Ao21,co21,eo21⟩ := Kd.S_slice HO235.out; subst eo21; obtain ⟨hcz22_0,hcz22_1,hcz22_2,hcz22_3,hcz22_4,hfz22_0,hfz22_1,hfz22_2,hfz22_3,hfz22_4⟩ := qz5 BK224.out; obtain ⟨hcz23_0,hcz23_1,hcz23_2,hcz23_3,hcz23_4,hfz23_0,hfz23_1,hfz23_2,hfz23_3,hfz23_4⟩ := qz5 BK223.out))
 refine bodyPost_ret (results_cell_row rfl _ _ gb223 35 #[.slice Ao12 t225.length co12,.int .i64 t228,.string t229,.slice Ao18 t230.length co18,.slice Ao21 t233.length co21] (0,0) _ rfl (by (with_reducible repeat (first | refine y9 ?_ _ | refine y8 ?_ | refine y5 ?_ _)); refine y11 (cs := #[.slice Ao12 t225.length co12,.int .i64 t228,.string t229,.slice Ao18 t230.length co18,.slice none 0 0]) ?_ 4 _ rfl; (with_reducible repeat (first | refine y9 ?_ _ | refine y8 ?_ | refine y5 ?_ _)); refine y11 (cs := #[.slice Ao12 t225.length co12,.int .i64 t228,.string t229,.slice none 0 0,.slice none 0 0]) ?_ 3 _ rfl; (with_reducible repeat (first | refine y9 ?_ _ | refine y8 ?_ | refine y5 ?_ _)); refine y11 (cs := #[.slice Ao12 t225.length co12,.int .i64 t228,.string (⟨#[]⟩ : ByteArray),.slice none 0 0,.slice none 0 0]) ?_ 2 _ rfl; (with_reducible repeat (first | refine y9 ?_ _ | refine y8 ?_ | refine y5 ?_ _)); refine y11 (cs := #[.slice Ao12 t225.length co12,.int .i64 0,.string (⟨#[]⟩ : ByteArray),.slice none 0 0,.slice none 0 0]) ?_ 1 _ rfl; (with_reducible repeat (first | refine y9 ?_ _ | refine y8 ?_ | refine y5 ?_ _)); refine y11 (cs := #[.slice none 0 0,.int .i64 0,.string (⟨#[]⟩ : ByteArray),.slice none 0 0,.slice none 0 0]) ?_ 0 _ rfl; (with_reducible repeat (first | refine y9 ?_ _ | refine y8 ?_ | refine y5 ?_ _)); refine y10 ?_ NB223_224.out _; (with_reducible repeat (first | refine y9 ?_ _ | refine y8 ?_ | refine y5 ?_ _)); exact BK223.out) Try.underlying35 rfl (by kernel_rfl)) rfl ?_
 exact ⟨_,_,_,by first | rfl | (simp [y12,y13] <;> rfl) | (simp [*,y12,y13] <;> rfl),by (with_reducible repeat (first | apply Kd.S_alloc | apply Kd.S_drewN | apply Kd.S_drew)); exact Kd.S_mono (Kd.S_far (p := ⟨gb223,4,none⟩) (Kd.S_far (p := ⟨gb223,3,none⟩) (Kd.S_far (p := ⟨gb223,2,none⟩) (Kd.S_far (p := ⟨gb223,1,none⟩) (Kd.S_far (p := ⟨gb223,0,none⟩) (Kd.S_far (p := ⟨gb224,4,none⟩) (Kd.S_types (Kd.S_types HO227.out BK224.out (by decide)) BK223.out (by decide)) (fun _ hk => hk.1.2) (.slice Ao21 t233.length co21)) (fun _ hk => hk.2) (.slice Ao12 t225.length co12)) (fun _ hk => hk.2) (.int .i64 t228)) (fun _ hk => hk.2) (.string t229)) (fun _ hk => hk.2) (.slice Ao18 t230.length co18)) (fun _ hk => hk.2) (.slice Ao21 t233.length co21)) (fun _ hk => hk.1.1.2),by (with_reducible repeat (first | apply Kd.R_alloc | apply Kd.R_drewN | apply Kd.R_drew)); exact Kd.R_mono (Kd.R_far (p := ⟨gb223,4,none⟩) (Kd.R_far (p := ⟨gb223,3,none⟩) (Kd.R_far (p := ⟨gb223,2,none⟩) (Kd.R_far (p := ⟨gb223,1,none⟩) (Kd.R_far (p := ⟨gb223,0,none⟩) (Kd.R_far (p := ⟨gb224,4,none⟩) (Kd.R_types (Kd.R_types HO232.out BK224.out (by decide)) BK223.out (by decide)) (fun _ hk => hk.1.2) (.slice Ao21 t233.length co21)) (fun _ hk => hk.2) (.slice Ao12 t225.length co12)) (fun _ hk => hk.2) (.int .i64 t228)) (fun _ hk => hk.2) (.string t229)) (fun _ hk => hk.2) (.slice Ao18 t230.length co18)) (fun _ hk => hk.2) (.slice Ao21 t233.length co21)) (fun _ hk => trivial),by (with_reducible repeat (first | apply Kd.S_alloc | apply Kd.S_drewN | apply Kd.S_drew)); exact Kd.S_mono (Kd.S_far (p := ⟨gb223,4,none⟩) (Kd.S_far (p := ⟨gb223,3,none⟩) (Kd.S_far (p := ⟨gb223,2,none⟩) (Kd.S_far (p := ⟨gb223,1,none⟩) (Kd.S_far (p := ⟨gb223,0,none⟩) (Kd.S_far (p := ⟨gb224,4,none⟩) (Kd.S_types (Kd.S_types HO235.out BK224.out (by decide)) BK223.out (by decide)) (fun _ hk => hk.1.2) (.slice Ao21 t233.length co21)) (fun _ hk => hk.2) (.slice Ao12 t225.length co12)) (fun _ hk => hk.2) (.int .i64 t228)) (fun _ hk => hk.2) (.string t229)) (fun _ hk => hk.2) (.slice Ao18 t230.length co18)) (fun _ hk => hk.2) (.slice Ao21 t233.length co21)) (fun _ hk => hk.1.1.2),qb⟩
def impl_in.f (a0 : Int) (a1 : Int) (a2 : Int) : Option (Bool) := if a0 ≥ a1 then (some (decide (a0 ≤ a2))) else (some false)
set_option maxHeartbeats 8000000 in
set_option maxRecDepth 100000 in
theorem impl_in.calls (a0 : Int) (a1 : Int) (a2 : Int) (r : Bool) (w : World) (h : impl_in.f a0 a1 a2 = some r) :
  Calls Try.prog 48 #[.int .i64 a0,.int .i64 a1,.int .i64 a2] w fun e w' => e = .returned (.bool r) ∧ y1 w w' := by
 have H : (if a0 ≥ a1 then (some (decide (a0 ≤ a2))) else (some false)) = some r := h
 clear h
 by_cases c4 : a0 ≥ a1
 ·rw [if_pos c4] at H
  have c4b0 : decide (a1 ≤ a0) = true := decide_eq_true c4
  clear c4
  obtain rfl := Option.some.inj H
  go_enter Try.func48,Try.ntmps48
  go_wp2
  go_ret
  exact ⟨by first | rfl | (simp; done) | (simp [*]; done),by repeat (first | exact y1.refl _ | apply y1.step)⟩
 ·rw [if_neg c4] at H
  have c4b0 : decide (a1 ≤ a0) = false := decide_eq_false c4
  clear c4
  obtain rfl := Option.some.inj H
  go_enter Try.func48,Try.ntmps48
  go_wp2
  go_ret
  exact ⟨by first | rfl | (simp; done) | (simp [*]; done),by repeat (first | exact y1.refl _ | apply y1.step)⟩
def impl_isSum.f (a0 : Int) : Option (Bool) := (impl_in.f a0 5 7).bind fun t236 => (some t236)
set_option maxHeartbeats 8000000 in
set_option maxRecDepth 100000 in
theorem impl_isSum.calls (a0 : Int) (r : Bool) (w : World) (h : impl_isSum.f a0 = some r) :
  Calls Try.prog 76 #[.int .i64 a0] w fun e w' => e = .returned (.bool r) ∧ y1 w w' := by
 have H : ((impl_in.f a0 5 7).bind fun t236 => (some t236)) = some r := h
 clear h
 obtain ⟨t236,A2,H⟩ := qB H
 obtain rfl := Option.some.inj H
 go_enter Try.func76,Try.ntmps76
 go_wp2_with (first | ((with_reducible refine y15 (f := 48) rfl ?_); refine y17 (some 4) rfl rfl Try.func48 (by kernel_rfl) rfl #[.int .i64 a0,.int .i64 5,.int .i64 7] rfl qy0 ?_; (with_reducible refine (impl_in.calls a0 5 7 t236 _ A2.out).mono ?_); rintro e w' ⟨rfl,⟨nd,rfl⟩⟩; refine ⟨_,rfl, ?_⟩))
 go_ret
 exact ⟨by first | rfl | (simp; done) | (simp [*]; done),by repeat (first | exact y1.refl _ | apply y1.step)⟩
def impl_Rule_lits.f (l0_0 : List (S101)) (a0_1 : Int) (a0_2 : ByteArray) (l0_3 : List Int) (l0_4 : List (S32)) : Option ((List (S32))) := (some (([(⟨a0_1,a0_2,l0_3⟩ : S32)] : List (S32)) : List (S32))).bind fun y238 => (if y238.length + l0_4.length < 2932031007402 then (some (y238 ++ l0_4)) else (none))
set_option maxHeartbeats 8000000 in
set_option maxRecDepth 100000 in
theorem impl_Rule_lits.calls (A0_0 : Option Addr) (c0_0 : Nat) (l0_0 : List (S101)) (a0_1 : Int) (a0_2 : ByteArray) (P0_3_ : Nat → Prop) (A0_3 : Option Addr) (c0_3 : Nat) (l0_3 : List Int) (P0_4_ : Nat → Prop) (A0_4 : Option Addr) (c0_4 : Nat) (l0_4 : List (S32)) (r : List (S32)) (w : World) (hr0_0 : Kd.C k101 w A0_0 l0_0.length l0_0) (hc0_0 : l0_0.length ≤ c0_0) (hs0_3 : Kd.V (Kd.int .i64) 3 w w.heap.size (fun k_ => P0_3_ k_) (.slice A0_3 l0_3.length c0_3) l0_3) (hs0_4 : Kd.V k32 32 w w.heap.size (fun k_ => P0_4_ k_) (.slice A0_4 l0_4.length c0_4) l0_4) (h : impl_Rule_lits.f l0_0 a0_1 a0_2 l0_3 l0_4 = some r) :
  Calls Try.prog 77 #[.agg #[.slice A0_0 l0_0.length c0_0,.int .i64 a0_1,.string a0_2,.slice A0_3 l0_3.length c0_3,.slice A0_4 l0_4.length c0_4]] w fun e w' => ∃ v0_ : Value,e = .returned (v0_) ∧ Kd.N k32 32 w' w.heap.size (fun k_ => ((P0_3_ k_ ∨ P0_4_ k_) ∨ w.heap.size ≤ k_)) v0_ r ∧ Below w.heap.size w w' := by
 have hu35 := Try.underlying35
 have hu32 := Try.underlying32
 have HR0_0 := y0.mk hr0_0
 have HC0_0 := y0.mk hc0_0
 clear hr0_0 hc0_0
 have HO0_3 := y0.mk (show Kd.V (Kd.int .i64) 3 w w.heap.size (fun k_ => ((P0_3_ k_ ∨ P0_4_ k_) ∨ w.heap.size ≤ k_)) (.slice A0_3 l0_3.length c0_3) l0_3 from Kd.V_mono hs0_3 (fun k_ hk => .inl (.inl hk)))
 have HO0_4 := y0.mk (show Kd.V k32 32 w w.heap.size (fun k_ => ((P0_3_ k_ ∨ P0_4_ k_) ∨ w.heap.size ≤ k_)) (.slice A0_4 l0_4.length c0_4) l0_4 from Kd.V_mono hs0_4 (fun k_ hk => .inl (.inr hk)))
 have HB := y0.mk (Below.refl w.heap.size w)
 have H : ((some (([(⟨a0_1,a0_2,l0_3⟩ : S32)] : List (S32)) : List (S32))).bind fun y238 => (if y238.length + l0_4.length < 2932031007402 then (some (y238 ++ l0_4)) else (none))) = some r := h
 clear h
 obtain ⟨y238,hy238⟩ : ∃ y_ : List (S32),y_ = (([(⟨a0_1,a0_2,l0_3⟩ : S32)] : List (S32))) := ⟨_,rfl⟩
 replace H : (if y238.length + l0_4.length < 2932031007402 then (some (y238 ++ l0_4)) else (none)) = some r := by first | (rw [hy238]; with_reducible exact H) | (have H2_ := (Option.bind_some _ _).symm.trans H; rw [hy238]; with_reducible exact H2_) | (have H2_ := (Option.bind_some _ _).symm.trans H; with_reducible exact H2_) | with_reducible exact H | (rw [hy238]; exact H) | exact H
 have Ny238 := y0.mk hy238
 clear hy238
 obtain ⟨c2,H⟩ := qo H
 have LMc2 := y0.mk c2
 clear c2
 obtain ⟨y241,hy241⟩ : ∃ y_ : List (S32),y_ = (y238 ++ l0_4) := ⟨_,rfl⟩
 replace H : (some y241) = some r := by first | (rw [hy241]; with_reducible exact H) | (have H2_ := (Option.bind_some _ _).symm.trans H; rw [hy241]; with_reducible exact H2_) | (have H2_ := (Option.bind_some _ _).symm.trans H; with_reducible exact H2_) | with_reducible exact H | (rw [hy241]; exact H) | exact H
 have Ny241 := y0.mk hy241
 clear hy241
 obtain rfl := Option.some.inj H
 go_enter Try.func77,Try.ntmps77
 go_wp2_with (first | ((with_reducible refine y16 (N := 1) rfl ?_); refine qe 1 #[.slice A0_0 l0_0.length c0_0,.int .i64 a0_1,.string a0_2,.slice A0_3 l0_3.length c0_3,.slice A0_4 l0_4.length c0_4] 35 ?_; intro gb237 hg w3 hbox hb; replace HO0_3 := y0.mk (Kd.V_below (Kd.V_elderB (qV HO0_3.out) gb237 (Nat.le_of_eq hg.symm)) hb); replace HO0_4 := y0.mk (Kd.V_below (Kd.V_elderB (qV HO0_4.out) gb237 (Nat.le_of_eq hg.symm)) hb); have BK237 := y0.mk (hbox); have GW237 := y0.mk (qg (w := w) hg); have GE237 := y0.mk (qg (w := w) hg); replace HB := y0.mk (y4 qb hb); clear hb hbox hg; obtain ⟨hcz4_0,hcz4_1,hcz4_2,hcz4_3,hcz4_4,hfz4_0,hfz4_1,hfz4_2,hfz4_3,hfz4_4⟩ := qz5 BK237.out) | ((with_reducible refine y16 (N := 5) rfl ?_); refine Kd.N_lit k32 _ 32 ?hg (N' := 5) ?hd (xs := ([(⟨a0_1,a0_2,l0_3⟩ : S32)] : List (S32))) (inner := [.int .i64 a0_1,.string a0_2,.slice A0_3 l0_3.length c0_3]) (ok := (fun k_ => ((P0_3_ k_ ∨ P0_4_ k_) ∨ w.heap.size ≤ k_) ∧ k_ ≠ gb237)) (okp := (fun k_ => ((P0_3_ k_ ∨ P0_4_ k_) ∨ w.heap.size ≤ k_) ∧ k_ ≠ gb237)) ?hr ?hp (fun _ hk => hk) ((show ∀ k_,w3.heap.size ≤ k_ → (fun k_ => ((P0_3_ k_ ∨ P0_4_ k_) ∨ w.heap.size ≤ k_) ∧ k_ ≠ gb237) k_ from fun k_ hk => ⟨(.inr (Nat.le_trans (y3 qb) hk)),Kd.freshB (g := gb237) (o := .cells #[.slice A0_0 l0_0.length c0_0,.int .i64 a0_1,.string a0_2,.slice A0_3 l0_3.length c0_3,.slice A0_4 l0_4.length c0_4] 35 (0,0)) (qk BK237.out) k_ hk⟩) _ (Nat.le_refl _)) (Below.refl _ _) (Nat.le_refl _) (by simp) ?_; (case hd => rfl); (case hg => rfl); (case hr => first | (go_simp; done) | (go_simp; rfl)); (case hp => exact (Reps.c3 (show Kd.FK k32 _ _ (⟨a0_1,a0_2,l0_3⟩ : S32) [.int .i64 a0_1,.string a0_2,.slice A0_3 l0_3.length c0_3] from (k32_mkF _ _ (⟨a0_1,a0_2,l0_3⟩ : S32) (Kd.V_reads' (Kd.V_mono (ok' := (fun k_ => ((P0_3_ k_ ∨ P0_4_ k_) ∨ w.heap.size ≤ k_) ∧ k_ ≠ gb237)) (HO0_3.out) (fun k_ hk => ⟨hk.1,hk.2⟩))).2.1 (Kd.V_F (Kd.V_mono (ok' := (fun k_ => ((P0_3_ k_ ∨ P0_4_ k_) ∨ w.heap.size ≤ k_) ∧ k_ ≠ gb237)) (HO0_3.out) (fun k_ hk => ⟨hk.1,hk.2⟩))))) (Reps.none _ _))); intro v239 w5 ho6 hb hg_ hnew_; clear hg_ hnew_; (first | rw [← Ny238.out] at ho6 | (simp only [Int.reduceToNat] at ho6; rw [← Ny238.out] at ho6)); replace HO0_3 := y0.mk (Kd.V_elder' (qV HO0_3.out) (Kd.N_base ho6) hb); replace HO0_4 := y0.mk (Kd.V_elder' (qV HO0_4.out) (Kd.N_base ho6) hb); have HO240 := y0.mk (Kd.N_lower ho6 (y3 qb)); replace BK237 := y0.mk (qK BK237.out hb); replace HB := y0.mk (y4 qb hb); clear hb ho6; obtain ⟨hcz7_0,hcz7_1,hcz7_2,hcz7_3,hcz7_4,hfz7_0,hfz7_1,hfz7_2,hfz7_3,hfz7_4⟩ := qz5 BK237.out) | ((with_reducible refine gate_builtin (b := .append) (xs := #[.tmp 5,.tmp 7]) rfl ?_); at_builtin; refine Kd.N_append_rows k32 (w0 := w) w.heap.size rfl (.tmp 5) (.tmp 7) 33 32 (.agg #[(.int .i64 0),(.string ⟨#[]⟩),(.slice none 0 0)]) 48 rfl Try.underlying33 info32 rfl (by decide) (by omega) v239 y238 l0_4 _ _ _ (fun k_ => ((P0_3_ k_ ∨ P0_4_ k_) ∨ w.heap.size ≤ k_) ∧ k_ ≠ gb237) (fun k_ => ((fun k_ => ((P0_3_ k_ ∨ P0_4_ k_) ∨ w.heap.size ≤ k_) ∧ k_ ≠ gb237)) k_ ∧ some k_ ≠ (v239 : Value).ownBlock) rfl rfl ?aO ?aR (fun _ hk => hk) ?aF ?aB ?aS ?aL ?_; (case aR => exact (by skip; exact Kd.V_F (Kd.V_mono (ok' := (fun k_ => ((fun k_ => ((P0_3_ k_ ∨ P0_4_ k_) ∨ w.heap.size ≤ k_) ∧ k_ ≠ gb237)) k_ ∧ some k_ ≠ (v239 : Value).ownBlock)) (HO0_4.out) (fun k_ hk => ⟨⟨hk.1.1,hk.1.2⟩,hk.2⟩)))); (case aB => exact qb); (case aF => exact (fun k_ hk => ⟨(.inr (Nat.le_trans (y3 qb) hk)),Kd.freshB (g := gb237) (o := .cells #[.slice A0_0 l0_0.length c0_0,.int .i64 a0_1,.string a0_2,.slice A0_3 l0_3.length c0_3,.slice A0_4 l0_4.length c0_4] 35 (0,0)) (qk BK237.out) k_ hk⟩)); (case aO => exact (qN HO240.out)); (case aS => exact (y3 qb)); (case aL => have := LMc2.out; omega); intro v242 w8 ho hb hg hat; rw [← Ny241.out] at ho; replace HO0_3 := y0.mk (Kd.V_afterv (ok := (fun k_ => ((P0_3_ k_ ∨ P0_4_ k_) ∨ w.heap.size ≤ k_) ∧ k_ ≠ gb237)) (qV HO0_3.out) hg hat); replace HO0_4 := y0.mk (Kd.V_afterv (ok := (fun k_ => ((P0_3_ k_ ∨ P0_4_ k_) ∨ w.heap.size ≤ k_) ∧ k_ ≠ gb237)) (qV HO0_4.out) hg hat); replace BK237 := y0.mk (blk_grown (qk BK237.out) hg (Kd.N_ne HO240.out BK237.out (by decide))); replace HB := y0.mk (hb); have HO243 := y0.mk (ho); clear HO240; clear ho hb hg hat))
 go_ret
 exact ⟨_,by first | rfl | (simp [y12,y13] <;> rfl) | (simp [*,y12,y13] <;> rfl),by (with_reducible repeat (first | apply Kd.N_alloc | apply Kd.N_drewN | apply Kd.N_drew)); exact Kd.N_mono HO243.out (fun _ hk => hk.1),qb⟩
def impl_isFormed_1.f (a0 : Int) : Option (Bool) := some (a0 != 1)
set_option maxHeartbeats 8000000 in
set_option maxRecDepth 100000 in
theorem impl_isFormed_1.calls (a0 : Int) (r : Bool) (w : World) (h : impl_isFormed_1.f a0 = some r) :
  Calls Try.prog 79 #[.int .i64 a0] w fun e w' => e = .returned (.bool r) ∧ y1 w w' := by
 have H : (some (a0 != 1)) = some r := h
 clear h
 obtain rfl := Option.some.inj H
 go_enter Try.func79,Try.ntmps79
 go_wp2
 go_ret
 exact ⟨by first | rfl | (simp; done) | (simp [*]; done),by repeat (first | exact y1.refl _ | apply y1.step)⟩
def z5_.l0 : Nat → List Int → Int → Int → Option (Int)
 | 0,_,_,_ => none
 | k + 1,x0,x7,x8 => if x8 < x7 then (if 0 ≤ x8 then (if x8 < (x0.length : Int) then ((impl_isFormed_1.f (rd x0 x8)).bind fun t245 => (if t245 = true then (some x8) else (z5_.l0 k x0 x7 (wrap64 (x8 + 1))))) else (none)) else (none)) else (some (-1))
def z5_.f (k : Nat) (l0 : List Int)  : Option (Int) := z5_.l0 k l0 (l0.length : Int) 0
set_option maxHeartbeats 8000000 in
set_option maxRecDepth 100000 in
theorem z5_.calls (k : Nat) (A0 : Option Addr) (c0 : Nat) (l0 : List Int)  (r : Int) (w : World) (hr0 : Kd.C (Kd.int .i64) w A0 l0.length l0) (hc0 : l0.length ≤ c0) (h : z5_.f k l0 = some r) :
  Calls Try.prog 92 #[.slice A0 l0.length c0,.func (.func 79) #[] #[]] w fun e w' => e = .returned (.int .i64 r) ∧ y1 w w' := by
 have HR0 := y0.mk hr0
 have HC0 := y0.mk hc0
 clear hr0 hc0
 have H : (z5_.l0 k l0 (l0.length : Int) 0) = some r := h
 clear h
 have H' := y0.mk H
 clear H
 go_enter Try.func92,Try.ntmps92
 go_wp2
 go_loopg [8] k (fun kq v8 w' => ∃ (x8_1 : Int),v8 = .int .i64 x8_1 ∧ y0 (z5_.l0 kq l0 (l0.length : Int) x8_1 = some r) ∧ y0 (kq ≤ k) ∧ y1 w w')
 case atStart => exact ⟨(0),qy2,H',⟨Nat.le_refl _⟩,by repeat (first | exact y1.refl _ | apply y1.step)⟩
 case round =>
  clear H'
  obtain ⟨x8_1,rfl,HA,HK1,⟨m1,rfl⟩⟩ := hrel
  cases gk with
  | zero => exact absurd HA.out (by simp [z5_.l0])
  | succ k1 =>
   have H := HA.out
   clear HA
   simp only [z5_.l0] at H
   by_cases c3 : x8_1 < (l0.length : Int)
   ·rw [if_pos c3] at H
    have c3b0 := decide_eq_true c3
    clear c3
    obtain ⟨c4,H⟩ := qo H
    have c4b0 : decide (0 ≤ x8_1) = true := decide_eq_true c4
    clear c4
    obtain ⟨c5,H⟩ := qo H
    have c5b0 : decide (x8_1 < (l0.length : Int)) = true := decide_eq_true c5
    clear c5
    obtain ⟨t245,A6,H⟩ := qB H
    have p244 : 0 ≤ (x8_1 : Int) := of_decide_eq_true qy1
    have q244 : x8_1 < (l0.length : Int) := of_decide_eq_true qy1
    obtain ⟨ad244,e244,hx244_0⟩ := Kd.at_int HR0.out x8_1 p244 q244
    cases e244
    replace p244 := eq_true p244
    replace q244 := eq_true q244
    by_cases c7 : t245 = true
    ·subst c7
     replace H := qT H
     obtain rfl := Option.some.inj H
     go_wp2_with (first | (go_at_call 79; (with_reducible refine (impl_isFormed_1.calls (rd l0 x8_1) true _ A6.out).mono ?_); rintro e w' ⟨rfl,⟨nd,rfl⟩⟩))
     go_ret
     exact ⟨by first | rfl | (simp; done) | (simp [*]; done),by repeat (first | exact y1.refl _ | apply y1.step)⟩
    ·replace c7 := Bool.eq_false_iff.mpr c7
     subst c7
     replace H := qF H
     have H' := y0.mk H
     clear H
     go_wp2_with (first | (go_at_call 79; (with_reducible refine (impl_isFormed_1.calls (rd l0 x8_1) false _ A6.out).mono ?_); rintro e w' ⟨rfl,⟨nd,rfl⟩⟩))
     go_roundg k1
     case measure => have := HK1.out; omega
     exact ⟨(wrap64 (x8_1 + 1)),qy2,H',⟨by have := HK1.out; omega⟩,by repeat (first | exact y1.refl _ | apply y1.step)⟩
   ·rw [if_neg c3] at H
    have c3b0 := decide_eq_false c3
    clear c3
    obtain rfl := Option.some.inj H
    go_wp2
    go_ret
    exact ⟨by first | rfl | (simp; done) | (simp [*]; done),by repeat (first | exact y1.refl _ | apply y1.step)⟩
def slices_ContainsFunc_int_int_impl_isFormed_1.f (k : Nat) (l0 : List Int)  : Option (Bool) := (z5_.f k l0).bind fun t246 => (some (decide (t246 ≥ 0)))
set_option maxHeartbeats 8000000 in
set_option maxRecDepth 100000 in
theorem slices_ContainsFunc_int_int_impl_isFormed_1.calls (k : Nat) (A0 : Option Addr) (c0 : Nat) (l0 : List Int)  (r : Bool) (w : World) (hr0 : Kd.C (Kd.int .i64) w A0 l0.length l0) (hc0 : l0.length ≤ c0) (h : slices_ContainsFunc_int_int_impl_isFormed_1.f k l0 = some r) :
  Calls Try.prog 78 #[.slice A0 l0.length c0,.func (.func 79) #[] #[]] w fun e w' => e = .returned (.bool r) ∧ y1 w w' := by
 have HR0 := y0.mk hr0
 have HC0 := y0.mk hc0
 clear hr0 hc0
 have H : ((z5_.f k l0).bind fun t246 => (some (decide (t246 ≥ 0)))) = some r := h
 clear h
 obtain ⟨t246,A3,H⟩ := qB H
 obtain rfl := Option.some.inj H
 go_enter Try.func78,Try.ntmps78
 go_wp2_with (first | ((with_reducible refine y15 (f := 92) rfl ?_); refine y17 (some 7) rfl rfl Try.func92 (by kernel_rfl) rfl #[.slice A0 l0.length c0,.func (.func 79) #[] #[]] rfl qy0 ?_; (with_reducible refine (z5_.calls k _ _ l0  t246 _ (qc HR0.out) HC0.out A3.out).mono ?_); rintro e w' ⟨rfl,⟨nd,rfl⟩⟩; refine ⟨_,rfl, ?_⟩))
 go_ret
 exact ⟨by first | rfl | (simp; done) | (simp [*]; done),by repeat (first | exact y1.refl _ | apply y1.step)⟩
end Go.Proofs.Ytamjmldfifofbaa.Pp
end

-- Cut by prune.py, a program of this session, out of the texts of this claim: Lean checks it.
import Derived.Test.YtamjmldfifofbaaVppPpx0
import Derived.Test.YtamjmldfifofbaaVppPpx3
import Derived.Test.YtamjmldfifofbaaVppPpx6
import Derived.Test.YtamjmldfifofbaaVppPpx9
import Derived.Test.YtamjmldfifofbaaVppPpx16
section
namespace Go.Proofs.Ytamjmldfifofbaa.Pp
open Go.RowKit Go.Proofs.YtamjmldfifofbaaW.PrintWords Go.Proofs.YtamjmldfifofbaaW.PrintLast Go.Proofs.YtamjmldfifofbaaW.PrintMore
attribute [local go_sem] max2_int min2_int max_two min_two max_three min_three max_four min_four   -- for this text's walks alone
set_option linter.unusedVariables false
set_option linter.unusedSimpArgs false
mutual
def z4_.l0 : Nat → ByteArray → List (S78) → Int → Int → List (S78) → List (S84) → List (S35) → Option (ByteArray)
 | 0,_,_,_,_,_,_,_ => none
 | k + 1,x3,x16,x17,x18,x504000,x504001,x504002 => if x18 < x17 then (if 0 ≤ x18 then (if x18 < (x16.length : Int) then (z4_.l1 k x3 (([] : List ByteArray)) x16 x17 x18 ((y21 x16 x18).f1) (((y21 x16 x18).f1).length : Int) 0 x504000 x504001 x504002 ((y21 x16 x18).f0) ((y21 x16 x18).f1)) else (none)) else (none)) else (z4_.l2 k x3 x504001 (x504001.length : Int) 0 x504000 x504001 x504002)
def z4_.l1 : Nat → ByteArray → List ByteArray → List (S78) → Int → Int → List (S80) → Int → Int → List (S78) → List (S84) → List (S35) → ByteArray → List (S80) → Option (ByteArray)
 | 0,_,_,_,_,_,_,_,_,_,_,_,_,_ => none
 | k + 1,x3,x6,x16,x17,x18,x24,x25,x26,x504000,x504001,x504002,x506000,x506001 => if x26 < x25 then (if 0 ≤ x26 then (if x26 < (x24.length : Int) then (if (((y22 x24 x26).f1).length : Int) > 0 then ((strings_Join.f ((y22 x24 x26).f1) (⟨#[44,32]⟩ : ByteArray)).bind fun t511 => (if 1 + t511.size ≤ 9223372036854775807 then (if ((⟨#[40]⟩ : ByteArray) ++ t511).size + 1 ≤ 9223372036854775807 then (if ((y22 x24 x26).f0).size + (((⟨#[40]⟩ : ByteArray) ++ t511) ++ (⟨#[41]⟩ : ByteArray)).size ≤ 9223372036854775807 then (if x6.length < 8796093022208 then (z4_.l1 k x3 (x6 ++ [((y22 x24 x26).f0) ++ (((⟨#[40]⟩ : ByteArray) ++ t511) ++ (⟨#[41]⟩ : ByteArray))]) x16 x17 x18 x24 x25 (wrap64 (x26 + 1)) x504000 x504001 x504002 x506000 x506001) else (none)) else (none)) else (none)) else (none))) else (if x6.length < 8796093022208 then (z4_.l1 k x3 (x6 ++ [(y22 x24 x26).f0]) x16 x17 x18 x24 x25 (wrap64 (x26 + 1)) x504000 x504001 x504002 x506000 x506001) else (none))) else (none)) else (none)) else (if 5 + x506000.size ≤ 9223372036854775807 then (if ((⟨#[116,121,112,101,32]⟩ : ByteArray) ++ x506000).size + 3 ≤ 9223372036854775807 then ((strings_Join.f x6 (⟨#[32,124,32]⟩ : ByteArray)).bind fun t518 => (if (((⟨#[116,121,112,101,32]⟩ : ByteArray) ++ x506000) ++ (⟨#[32,61,32]⟩ : ByteArray)).size + t518.size ≤ 9223372036854775807 then (if ((((⟨#[116,121,112,101,32]⟩ : ByteArray) ++ x506000) ++ (⟨#[32,61,32]⟩ : ByteArray)) ++ t518).size + 2 ≤ 9223372036854775807 then (if x3.size + (((((⟨#[116,121,112,101,32]⟩ : ByteArray) ++ x506000) ++ (⟨#[32,61,32]⟩ : ByteArray)) ++ t518) ++ (⟨#[46,10]⟩ : ByteArray)).size ≤ 9223372036854775807 then (z4_.l0 k (x3 ++ (((((⟨#[116,121,112,101,32]⟩ : ByteArray) ++ x506000) ++ (⟨#[32,61,32]⟩ : ByteArray)) ++ t518) ++ (⟨#[46,10]⟩ : ByteArray))) x16 x17 (wrap64 (x18 + 1)) x504000 x504001 x504002) else (none)) else (none)) else (none))) else (none)) else (none))
def z4_.l2 : Nat → ByteArray → List (S84) → Int → Int → List (S78) → List (S84) → List (S35) → Option (ByteArray)
 | 0,_,_,_,_,_,_,_ => none
 | k + 1,x3,x60,x61,x62,x504000,x504001,x504002 => if x62 < x61 then (if 0 ≤ x62 then (if x62 < (x60.length : Int) then ((impl_in.f ((y23 x60 x62).f2) 0 3).bind fun t521 => (if t521 = true then (if 4 + ((y23 x60 x62).f0).size ≤ 9223372036854775807 then (if ((⟨#[114,101,108,32]⟩ : ByteArray) ++ ((y23 x60 x62).f0)).size + 1 ≤ 9223372036854775807 then ((strings_Join.f ((y23 x60 x62).f1) (⟨#[44,32]⟩ : ByteArray)).bind fun t522 => (if (((⟨#[114,101,108,32]⟩ : ByteArray) ++ ((y23 x60 x62).f0)) ++ (⟨#[40]⟩ : ByteArray)).size + t522.size ≤ 9223372036854775807 then (if ((((⟨#[114,101,108,32]⟩ : ByteArray) ++ ((y23 x60 x62).f0)) ++ (⟨#[40]⟩ : ByteArray)) ++ t522).size + 1 ≤ 9223372036854775807 then (if x3.size + (((((⟨#[114,101,108,32]⟩ : ByteArray) ++ ((y23 x60 x62).f0)) ++ (⟨#[40]⟩ : ByteArray)) ++ t522) ++ (⟨#[41]⟩ : ByteArray)).size ≤ 9223372036854775807 then (if ((y23 x60 x62).f2) = 0 then (if (x3 ++ (((((⟨#[114,101,108,32]⟩ : ByteArray) ++ ((y23 x60 x62).f0)) ++ (⟨#[40]⟩ : ByteArray)) ++ t522) ++ (⟨#[41]⟩ : ByteArray))).size + 2 ≤ 9223372036854775807 then (z4_.l2 k ((x3 ++ (((((⟨#[114,101,108,32]⟩ : ByteArray) ++ ((y23 x60 x62).f0)) ++ (⟨#[40]⟩ : ByteArray)) ++ t522) ++ (⟨#[41]⟩ : ByteArray))) ++ (⟨#[46,10]⟩ : ByteArray)) x60 x61 (wrap64 (x62 + 1)) x504000 x504001 x504002) else (none)) else ((impl_modeWords.f).bind fun t523 => (if 0 ≤ ((y23 x60 x62).f2) then (if ((y23 x60 x62).f2) < (t523.length : Int) then (if 1 + (rdOf ByteArray.empty t523 ((y23 x60 x62).f2)).size ≤ 9223372036854775807 then (if (x3 ++ (((((⟨#[114,101,108,32]⟩ : ByteArray) ++ ((y23 x60 x62).f0)) ++ (⟨#[40]⟩ : ByteArray)) ++ t522) ++ (⟨#[41]⟩ : ByteArray))).size + ((⟨#[32]⟩ : ByteArray) ++ (rdOf ByteArray.empty t523 ((y23 x60 x62).f2))).size ≤ 9223372036854775807 then (if ((x3 ++ (((((⟨#[114,101,108,32]⟩ : ByteArray) ++ ((y23 x60 x62).f0)) ++ (⟨#[40]⟩ : ByteArray)) ++ t522) ++ (⟨#[41]⟩ : ByteArray))) ++ ((⟨#[32]⟩ : ByteArray) ++ (rdOf ByteArray.empty t523 ((y23 x60 x62).f2)))).size + 2 ≤ 9223372036854775807 then (z4_.l2 k (((x3 ++ (((((⟨#[114,101,108,32]⟩ : ByteArray) ++ ((y23 x60 x62).f0)) ++ (⟨#[40]⟩ : ByteArray)) ++ t522) ++ (⟨#[41]⟩ : ByteArray))) ++ ((⟨#[32]⟩ : ByteArray) ++ (rdOf ByteArray.empty t523 ((y23 x60 x62).f2)))) ++ (⟨#[46,10]⟩ : ByteArray)) x60 x61 (wrap64 (x62 + 1)) x504000 x504001 x504002) else (none)) else (none)) else (none)) else (none)) else (none)))) else (none)) else (none)) else (none))) else (none)) else (none)) else (some (⟨#[]⟩ : ByteArray)))) else (none)) else (none)) else (z4_.l3 k x3 x504002 (x504002.length : Int) 0)
def z4_.l3 : Nat → ByteArray → List (S35) → Int → Int → Option (ByteArray)
 | 0,_,_,_,_ => none
 | k + 1,x3,x96,x97,x98 => if x98 < x97 then (if 0 ≤ x98 then (if x98 < (x96.length : Int) then ((impl_ruleText.f k ((y20 x96 x98).f0) ((y20 x96 x98).f1.f0) ((y20 x96 x98).f1.f1) ((y20 x96 x98).f1.f2) ((y20 x96 x98).f2)).bind fun t529 => (if t529.toList = ([] : List UInt8) then (some (⟨#[]⟩ : ByteArray)) else (if (x3.size : Int) > 3000 then (some (⟨#[]⟩ : ByteArray)) else (if t529.size + 1 ≤ 9223372036854775807 then (if x3.size + (t529 ++ (⟨#[10]⟩ : ByteArray)).size ≤ 9223372036854775807 then (z4_.l3 k (x3 ++ (t529 ++ (⟨#[10]⟩ : ByteArray))) x96 x97 (wrap64 (x98 + 1))) else (none)) else (none))))) else (none)) else (none)) else (if (x3.size : Int) > 3000 then (some (⟨#[]⟩ : ByteArray)) else (some x3))
end
def z4_.f (k : Nat) (l0_0 : List (S78)) (l0_1 : List (S84)) (l0_2 : List (S35)) : Option (ByteArray) := z4_.l0 k (⟨#[]⟩ : ByteArray) l0_0 (l0_0.length : Int) 0 l0_0 l0_1 l0_2
def z4_.T14 : Bool × List (List Nat × List Nat) := (true,[([],[]),([],[]),([1],[1]),([2],[2]),([3],[3]),([],[]),([5],[5]),([4,6],[4,6]),([7],[7]),([0,8],[0,8]),([9,6,0,1,2,3,4,5,6,7,8,9],[0,9])])
def z4_.B14 : List Nat := [0,0,2,6,14,0,32,126,254,511,1023]
theorem z4_.tab14 : rtab .any (opsOf Try.f42 14) = z4_.T14 := by kernel_rfl
theorem z4_.bits14 : waitsOk z4_.T14.2 z4_.B14 = true := by kernel_rfl
def z4_.T21 : Bool × List (List Nat × List Nat) := (true,[([],[]),([],[]),([1],[1]),([2],[2]),([3],[3]),([],[]),([5],[5]),([6],[6]),([4,7],[4,7]),([8],[8]),([0,9],[0,9]),([10,7,0,1,2,3,4,5,6,7,8,9,10],[0,10])])
def z4_.B21 : List Nat := [0,0,2,6,14,0,32,96,254,510,1023,2047]
theorem z4_.tab21 : rtab .any (opsOf Try.f42 21) = z4_.T21 := by kernel_rfl
theorem z4_.bits21 : waitsOk z4_.T21.2 z4_.B21 = true := by kernel_rfl
def z4_.T23 : Bool × List (List Nat × List Nat) := (true,[([],[]),([],[]),([],[]),([2],[2]),([1,3],[1,3]),([4],[4]),([5],[5]),([0,6],[0,6]),([7,1,0,1,2,3,4,5,6,7],[0,7])])
def z4_.B23 : List Nat := [0,0,0,4,14,30,62,127,255]
theorem z4_.tab23 : rtab .any (opsOf Try.f42 23) = z4_.T23 := by kernel_rfl
theorem z4_.bits23 : waitsOk z4_.T23.2 z4_.B23 = true := by kernel_rfl
set_option maxHeartbeats 8000000 in
set_option maxRecDepth 100000 in
theorem z4_.calls (k : Nat) (A0_0 : Option Addr) (c0_0 : Nat) (l0_0 : List (S78)) (A0_1 : Option Addr) (c0_1 : Nat) (l0_1 : List (S84)) (A0_2 : Option Addr) (c0_2 : Nat) (l0_2 : List (S35)) (r : ByteArray) (w : World) (hr0_0 : Kd.C k78 w A0_0 l0_0.length l0_0) (hc0_0 : l0_0.length ≤ c0_0) (hr0_1 : Kd.C k84 w A0_1 l0_1.length l0_1) (hc0_1 : l0_1.length ≤ c0_1) (hr0_2 : Kd.C k35 w A0_2 l0_2.length l0_2) (hc0_2 : l0_2.length ≤ c0_2) (h : z4_.f k l0_0 l0_1 l0_2 = some r) :
  Calls Try.prog 42 #[.agg #[.slice A0_0 l0_0.length c0_0,.slice A0_1 l0_1.length c0_1,.slice A0_2 l0_2.length c0_2]] w fun e w' => e = .returned (.string r) ∧ Below w.heap.size w w' := by
 have hu50 := Try.underlying50
 have hu78 := Try.underlying78
 have hu80 := Try.underlying80
 have hu84 := Try.underlying84
 have hu35 := Try.underlying35
 have HR0_0 := y0.mk hr0_0
 have HC0_0 := y0.mk hc0_0
 clear hr0_0 hc0_0
 have HR0_1 := y0.mk hr0_1
 have HC0_1 := y0.mk hc0_1
 clear hr0_1 hc0_1
 have HR0_2 := y0.mk hr0_2
 have HC0_2 := y0.mk hc0_2
 clear hr0_2 hc0_2
 have HB := y0.mk (Below.refl w.heap.size w)
 have H : (z4_.l0 k (⟨#[]⟩ : ByteArray) l0_0 (l0_0.length : Int) 0 l0_0 l0_1 l0_2) = some r := h
 clear h
 have H' := y0.mk H
 clear H
 go_enter Try.func42,Try.ntmps42
 go_wp2_with (first | ((with_reducible refine y16 (N := 1) rfl ?_); (try (refine gate_guard (by rfl) ?_; dsimp only)); refine qe 1 #[.slice A0_0 l0_0.length c0_0,.slice A0_1 l0_1.length c0_1,.slice A0_2 l0_2.length c0_2] 50 ?_; intro gb503 hg w2 hbox hb; have BK503 := y0.mk (hbox); have GW503 := y0.mk (qg (w := w) hg); have GE503 := y0.mk (qg (w := w) hg); replace HB := y0.mk (y4 qb hb); clear hb hbox hg; obtain ⟨hcz3_0,hcz3_1,hcz3_2,hfz3_0,hfz3_1,hfz3_2⟩ := qz3 BK503.out))
 go_loopg [3,18] k (fun kq v3 v18 w' => ∃ (x3_1 : ByteArray) (x18_1 : Int),v3 = .string x3_1 ∧ v18 = .int .i64 x18_1 ∧ y0 (z4_.l0 kq x3_1 l0_0 (l0_0.length : Int) x18_1 l0_0 l0_1 l0_2 = some r) ∧ y0 (kq ≤ k) ∧ y0 (w'.heap[gb503]? = some (.cells #[(.slice A0_0 l0_0.length c0_0),(.slice A0_1 l0_1.length c0_1),(.slice A0_2 l0_2.length c0_2)] 50 (0,0))) ∧ y0 (Below w.heap.size w w'))
 case atStart => exact ⟨((⟨#[]⟩ : ByteArray)),(0),qy2,qy2,H',⟨Nat.le_refl _⟩,⟨qk BK503.out⟩,⟨qb⟩⟩
 case round =>
  clear H'
  (try clear hcz3_0 hcz3_1 hcz3_2 hfz3_0 hfz3_1 hfz3_2)
  obtain ⟨x3_1,x18_1,rfl,rfl,HA,HK1,BK503,HB⟩ := hrel
  cases gk with
  | zero => exact absurd HA.out (by simp [z4_.l0])
  | succ k1 =>
   have H := HA.out
   clear HA
   simp only [z4_.l0] at H
   by_cases c4 : x18_1 < (l0_0.length : Int)
   ·as_aux_lemma =>
    rw [if_pos c4] at H
    have c4b0 := decide_eq_true c4
    clear c4
    obtain ⟨c5,H⟩ := qo H
    have c5b0 : decide (0 ≤ x18_1) = true := decide_eq_true c5
    clear c5
    obtain ⟨c6,H⟩ := qo H
    have c6b0 : decide (x18_1 < (l0_0.length : Int)) = true := decide_eq_true c6
    clear c6
    obtain ⟨y506,hy506⟩ : ∃ y_ : List ByteArray,y_ = (([] : List ByteArray)) := ⟨_,rfl⟩
    replace H : (z4_.l1 k1 x3_1 y506 l0_0 (l0_0.length : Int) x18_1 ((y21 l0_0 x18_1).f1) (((y21 l0_0 x18_1).f1).length : Int) 0 l0_0 l0_1 l0_2 ((y21 l0_0 x18_1).f0) ((y21 l0_0 x18_1).f1)) = some r := by first | (rw [hy506]; with_reducible exact H) | (have H2_ := (Option.bind_some _ _).symm.trans H; rw [hy506]; with_reducible exact H2_) | (have H2_ := (Option.bind_some _ _).symm.trans H; with_reducible exact H2_) | with_reducible exact H | (rw [hy506]; exact H) | exact H
    have Ny506 := y0.mk hy506
    clear hy506
    have H' := y0.mk H
    clear H
    have p504 : 0 ≤ (x18_1 : Int) := of_decide_eq_true qy1
    have q504 : x18_1 < (l0_0.length : Int) := of_decide_eq_true qy1
    obtain ⟨ad504,A504_1,c504_1,e504,hx504_0,hx504_1,hl504_1,hi504_1⟩ := at_T78 HR0_0.out x18_1 p504 q504
    cases e504
    replace hx504_0 := (HB.out.cell (World.block_lt_of_cell? w _ hx504_0)).trans hx504_0
    replace hx504_1 := (HB.out.cell (World.block_lt_of_cell? w _ hx504_1)).trans hx504_1
    have HR504_1 := y0.mk hi504_1
    have HC504_1 := y0.mk hl504_1
    clear hi504_1 hl504_1
    replace p504 := eq_true p504
    replace q504 := eq_true q504
    go_wp2_with (first | ((with_reducible refine y16 (N := 5) rfl ?_); (try (refine gate_guard (by rfl) ?_; dsimp only)); refine qe 5 #[.string (⟨#[]⟩ : ByteArray),.slice none 0 0] 78 ?_; intro gb505 hg w7 hbox hb; have BK505 := y0.mk (hbox); have GW505 := y0.mk (qg (w := w) hg); have GE505 := y0.mk (qg (w := w) hg); replace HB := y0.mk (y4 qb hb); have NB503_505 := y0.mk (qn BK503.out hg); have NB505_503 := y0.mk (qm BK503.out hg); replace BK503 := y0.mk (qK BK503.out hb); clear hb hbox hg; have hnb8 := NB505_503.out; have hnc8 := NB503_505.out; obtain ⟨hcz9_0,hcz9_1,hfz9_0,hfz9_1⟩ := qz2 BK505.out) | ((with_reducible refine y16 (N := 22) rfl ?_); (try (refine gate_guard (by rfl) ?_; dsimp only)); refine Kd.R_lit Kd.string _ 9 ?hg (N := 22) ?hd (xs := ([] : List ByteArray)) (inner := []) (ok := fun _ => True) (okp := fun _ => True) ?hr ?hp (fun _ hk => hk) trivial (Below.refl _ _) (Nat.le_refl _) (by simp) ?_; (case hd => rfl); (case hg => rfl); (case hr => first | (go_simp; done) | (go_simp; rfl)); (case hp => exact (Reps.none _ _)); intro v507 w10 ho11 hb hg_ hnew_; clear hg_ hnew_; (first | rw [← Ny506.out] at ho11 | (simp only [Int.reduceToNat] at ho11; rw [← Ny506.out] at ho11)); have HO508 := y0.mk (Kd.R_lower ho11 (y3 qb)); replace BK503 := y0.mk (y6 (g := gb503) (o := .cells #[.slice (some ad504) l0_0.length c0_0,.slice A0_1 l0_1.length c0_1,.slice A0_2 l0_2.length c0_2] 50 (0,0)) (by (with_reducible repeat (first | refine y9 ?_ _ | refine y8 ?_ | refine y5 ?_ _)); refine y10 ?_ NB503_505.out _; (with_reducible repeat (first | refine y9 ?_ _ | refine y8 ?_ | refine y5 ?_ _)); refine y10 ?_ NB503_505.out _; (with_reducible repeat (first | refine y9 ?_ _ | refine y8 ?_ | refine y5 ?_ _)); exact BK503.out) hb); replace BK505 := y0.mk (y6 (g := gb505) (o := .cells #[.string ((y21 l0_0 x18_1).f0),.slice A504_1 ((y21 l0_0 x18_1).f1).length c504_1] 78 (0,0)) (by (with_reducible repeat (first | refine y9 ?_ _ | refine y8 ?_ | refine y5 ?_ _)); refine y11 (cs := #[.string ((y21 l0_0 x18_1).f0),.slice none 0 0]) ?_ 1 _ rfl; (with_reducible repeat (first | refine y9 ?_ _ | refine y8 ?_ | refine y5 ?_ _)); refine y11 (cs := #[.string (⟨#[]⟩ : ByteArray),.slice none 0 0]) ?_ 0 _ rfl; (with_reducible repeat (first | refine y9 ?_ _ | refine y8 ?_ | refine y5 ?_ _)); exact BK505.out) hb); replace HB := y0.mk (y4 qb hb); clear hb ho11; obtain ⟨hcz12_0,hcz12_1,hfz12_0,hfz12_1⟩ := qz2 BK505.out))
    go_loopg [6,26] k1 (fun kq v6 v26 w' => ∃ (x6_2 : List ByteArray) (x26_2 : Int),v26 = .int .i64 x26_2 ∧ y0 (z4_.l1 kq x3_1 x6_2 l0_0 (l0_0.length : Int) x18_1 ((y21 l0_0 x18_1).f1) (((y21 l0_0 x18_1).f1).length : Int) x26_2 l0_0 l0_1 l0_2 ((y21 l0_0 x18_1).f0) ((y21 l0_0 x18_1).f1) = some r) ∧ y0 (kq ≤ k1) ∧ y0 (Kd.R Kd.string 9 w' w.heap.size (fun _ => True) v6 x6_2) ∧ y0 (w'.heap[gb503]? = some (.cells #[(.slice (some ad504) l0_0.length c0_0),(.slice A0_1 l0_1.length c0_1),(.slice A0_2 l0_2.length c0_2)] 50 (0,0))) ∧ y0 (w'.heap[gb505]? = some (.cells #[.string ((y21 l0_0 x18_1).f0),(.slice A504_1 ((y21 l0_0 x18_1).f1).length c504_1)] 78 (0,0))) ∧ y0 (Below w.heap.size w w'))
    case atStart => exact ⟨(y506),(0),qy2,H',⟨Nat.le_refl _⟩,⟨qR HO508.out⟩,⟨qk BK503.out⟩,⟨qk BK505.out⟩,⟨qb⟩⟩
    case round =>
     clear H'
     (try clear c4b0 c5b0 c6b0 hcz12_0 hcz12_1 hcz9_0 hcz9_1 hfz12_0 hfz12_1 hfz9_0 hfz9_1 hx504_0 hx504_1 p504 q504)
     obtain ⟨x6_2,x26_2,rfl,HA,HK2,HO_6,BK503,BK505,HB⟩ := hrel
     cases gk with
     | zero => exact absurd HA.out (by simp [z4_.l1])
     | succ k2 =>
      have H := HA.out
      clear HA
      simp only [z4_.l1] at H
      by_cases c13 : x26_2 < (((y21 l0_0 x18_1).f1).length : Int)
      ·as_aux_lemma =>
       rw [if_pos c13] at H
       have c13b0 := decide_eq_true c13
       clear c13
       obtain ⟨c14,H⟩ := qo H
       have c14b0 : decide (0 ≤ x26_2) = true := decide_eq_true c14
       clear c14
       obtain ⟨c15,H⟩ := qo H
       have c15b0 : decide (x26_2 < (((y21 l0_0 x18_1).f1).length : Int)) = true := decide_eq_true c15
       clear c15
       by_cases c16 : (((y22 ((y21 l0_0 x18_1).f1) x26_2).f1).length : Int) > 0
       ·as_aux_lemma =>
        rw [if_pos c16] at H
        have c16b0 : decide (0 < (((y22 ((y21 l0_0 x18_1).f1) x26_2).f1).length : Int)) = true := decide_eq_true c16
        have c16b1 : decide (0 < ((y22 ((y21 l0_0 x18_1).f1) x26_2).f1).length) = true := decide_eq_true (by omega)
        clear c16
        obtain ⟨t511,A17,H⟩ := qB H
        obtain ⟨c18,H⟩ := qo H
        have c18b0 := eq_true c18
        have c18b1 := decide_eq_true c18
        have c18b2 := eq_false (Nat.not_lt.2 c18)
        obtain ⟨c19,H⟩ := qo H
        have c19b0 := eq_true c19
        have c19b1 := decide_eq_true c19
        have c19b2 := eq_false (Nat.not_lt.2 c19)
        have c19b3 : (9223372036854775807 < 1 + t511.size + 1) = False := qs c19b2
        obtain ⟨c20,H⟩ := qo H
        have c20b0 := eq_true c20
        have c20b1 := decide_eq_true c20
        have c20b2 := eq_false (Nat.not_lt.2 c20)
        have c20b3 : (9223372036854775807 < ((y22 ((y21 l0_0 x18_1).f1) x26_2).f0).size + 1 + t511.size + 1) = False := qs c20b2
        have c20b7 : (9223372036854775807 < ((y22 ((y21 l0_0 x18_1).f1) x26_2).f0).size + (1 + t511.size + 1)) = False := qs c20b2
        have c20b9 : (9223372036854775807 < ((y22 ((y21 l0_0 x18_1).f1) x26_2).f0).size + (1 + t511.size + 1)) = False := qs c20b2
        obtain ⟨c21,H⟩ := qo H
        have LMc21 := y0.mk c21
        clear c21
        obtain ⟨y512,hy512⟩ : ∃ y_ : List ByteArray,y_ = (x6_2 ++ [((y22 ((y21 l0_0 x18_1).f1) x26_2).f0) ++ (((⟨#[40]⟩ : ByteArray) ++ t511) ++ (⟨#[41]⟩ : ByteArray))]) := ⟨_,rfl⟩
        replace H : (z4_.l1 k2 x3_1 y512 l0_0 (l0_0.length : Int) x18_1 ((y21 l0_0 x18_1).f1) (((y21 l0_0 x18_1).f1).length : Int) (wrap64 (x26_2 + 1)) l0_0 l0_1 l0_2 ((y21 l0_0 x18_1).f0) ((y21 l0_0 x18_1).f1)) = some r := by first | (rw [hy512]; with_reducible exact H) | (have H2_ := (Option.bind_some _ _).symm.trans H; rw [hy512]; with_reducible exact H2_) | (have H2_ := (Option.bind_some _ _).symm.trans H; with_reducible exact H2_) | with_reducible exact H | (rw [hy512]; exact H) | exact H
        have Ny512 := y0.mk hy512
        clear hy512
        have H' := y0.mk H
        clear H
        have p509 : 0 ≤ (x26_2 : Int) := of_decide_eq_true qy1
        have q509 : x26_2 < (((y21 l0_0 x18_1).f1).length : Int) := of_decide_eq_true qy1
        obtain ⟨ad509,A509_1,c509_1,e509,hx509_0,hx509_1,hl509_1,hi509_1⟩ := at_T80 HR504_1.out x26_2 p509 q509
        cases e509
        replace hx509_0 := (HB.out.cell (World.block_lt_of_cell? w _ hx509_0)).trans hx509_0
        replace hx509_1 := (HB.out.cell (World.block_lt_of_cell? w _ hx509_1)).trans hx509_1
        have HR509_1 := y0.mk hi509_1
        have HC509_1 := y0.mk hl509_1
        clear hi509_1 hl509_1
        replace p509 := eq_true p509
        replace q509 := eq_true q509
        go_wp2_with (first | ((with_reducible refine y16 (N := 8) rfl ?_); (try (refine gate_guard (by rfl) ?_; dsimp only)); refine qe 8 #[.string (⟨#[]⟩ : ByteArray),.slice none 0 0] 80 ?_; intro gb510 hg w22 hbox hb; replace HO_6 := y0.mk (Kd.R_below (qR HO_6.out) hb); have BK510 := y0.mk (hbox); have GW510 := y0.mk (qg (w := w) hg); have GE510 := y0.mk (qg (w := w) hg); replace HB := y0.mk (y4 qb hb); have NB503_510 := y0.mk (qn BK503.out hg); have NB510_503 := y0.mk (qm BK503.out hg); replace BK503 := y0.mk (qK BK503.out hb); have NB505_510 := y0.mk (qn BK505.out hg); have NB510_505 := y0.mk (qm BK505.out hg); replace BK505 := y0.mk (qK BK505.out hb); clear hb hbox hg; have hnb23 := NB510_503.out; have hnc23 := NB503_510.out; have hnb24 := NB510_505.out; have hnc24 := NB505_510.out; obtain ⟨hcz25_0,hcz25_1,hfz25_0,hfz25_1⟩ := qz2 BK510.out) | ((with_reducible refine y15 (f := 61) rfl ?_); refine y17 (some 39) rfl rfl Try.func61 (by kernel_rfl) rfl #[.slice A509_1 ((y22 ((y21 l0_0 x18_1).f1) x26_2).f1).length c509_1,.string (⟨#[44,32]⟩ : ByteArray)] rfl qy0 ?_; (with_reducible refine (strings_Join.calls _ _ ((y22 ((y21 l0_0 x18_1).f1) x26_2).f1) (⟨#[44,32]⟩ : ByteArray) t511 _ (by exact Kd.C_below HR509_1.out qb) HC509_1.out A17.out).mono ?_); rintro e w26 ⟨rfl,hb⟩; refine ⟨_,rfl, ?_⟩; replace HO_6 := y0.mk (Kd.R_below (qR ((Kd.R_mono (Kd.R_far (p := ⟨gb510,1,none⟩) (Kd.R_far (p := ⟨gb510,0,none⟩) (Kd.R_types HO_6.out BK510.out (by decide)) (fun _ hk => hk.2) (.string ((y22 ((y21 l0_0 x18_1).f1) x26_2).f0))) (fun _ hk => hk.2) (.slice A509_1 ((y22 ((y21 l0_0 x18_1).f1) x26_2).f1).length c509_1)) (fun _ h_ => h_.1)))) hb); replace BK503 := y0.mk (y6 (g := gb503) (o := .cells #[.slice (some ad504) l0_0.length c0_0,.slice A0_1 l0_1.length c0_1,.slice A0_2 l0_2.length c0_2] 50 (0,0)) (by (with_reducible repeat (first | refine y9 ?_ _ | refine y8 ?_ | refine y5 ?_ _)); refine y10 ?_ NB503_510.out _; (with_reducible repeat (first | refine y9 ?_ _ | refine y8 ?_ | refine y5 ?_ _)); refine y10 ?_ NB503_510.out _; (with_reducible repeat (first | refine y9 ?_ _ | refine y8 ?_ | refine y5 ?_ _)); exact BK503.out) hb); replace BK505 := y0.mk (y6 (g := gb505) (o := .cells #[.string ((y21 l0_0 x18_1).f0),.slice (some ad509) ((y21 l0_0 x18_1).f1).length c504_1] 78 (0,0)) (by (with_reducible repeat (first | refine y9 ?_ _ | refine y8 ?_ | refine y5 ?_ _)); refine y10 ?_ NB505_510.out _; (with_reducible repeat (first | refine y9 ?_ _ | refine y8 ?_ | refine y5 ?_ _)); refine y10 ?_ NB505_510.out _; (with_reducible repeat (first | refine y9 ?_ _ | refine y8 ?_ | refine y5 ?_ _)); exact BK505.out) hb); replace BK510 := y0.mk (y6 (g := gb510) (o := .cells #[.string ((y22 ((y21 l0_0 x18_1).f1) x26_2).f0),.slice A509_1 ((y22 ((y21 l0_0 x18_1).f1) x26_2).f1).length c509_1] 80 (0,0)) (by (with_reducible repeat (first | refine y9 ?_ _ | refine y8 ?_ | refine y5 ?_ _)); refine y11 (cs := #[.string ((y22 ((y21 l0_0 x18_1).f1) x26_2).f0),.slice none 0 0]) ?_ 1 _ rfl; (with_reducible repeat (first | refine y9 ?_ _ | refine y8 ?_ | refine y5 ?_ _)); refine y11 (cs := #[.string (⟨#[]⟩ : ByteArray),.slice none 0 0]) ?_ 0 _ rfl; (with_reducible repeat (first | refine y9 ?_ _ | refine y8 ?_ | refine y5 ?_ _)); exact BK510.out) hb); replace HB := y0.mk (y4 qb hb); (try clear hb); (try clear hb2); (try clear hk); (try clear hi)) | ((with_reducible refine gate_builtin (b := .append) (xs := #[.tmp 43,.tmp 45]) rfl ?_); (try (refine gate_guard (by rfl) ?_; dsimp only)); at_builtin; refine Kd.R_append Kd.string (w0 := w) w.heap.size rfl (.tmp 43) (.tmp 45) 54 9 (.string ⟨#[]⟩) 16 rfl Try.underlying54 info9 rfl (by decide) (by omega) u6 x6_2 (((y22 ((y21 l0_0 x18_1).f1) x26_2).f0) ++ (((⟨#[40]⟩ : ByteArray) ++ t511) ++ (⟨#[41]⟩ : ByteArray))) [.string (((y22 ((y21 l0_0 x18_1).f1) x26_2).f0) ++ (((⟨#[40]⟩ : ByteArray) ++ t511) ++ (⟨#[41]⟩ : ByteArray)))] (fun _ => True) (fun _ => False) rfl rfl ?aP (fun _ hk => hk.elim) ?aF ?aO ?aB ?aS ?aL ?_; (case aP => exact rfl); (case aB => exact qb); (case aF => exact (fun _ _ => trivial)); (case aO => exact (qR HO_6.out)); (case aS => exact (y3 qb)); (case aL => have := LMc21.out; omega); intro v513 w27 ho hb hg hat; rw [← Ny512.out] at ho; replace BK503 := y0.mk (blk_grown (qk BK503.out) hg (Kd.R_ne HO_6.out BK503.out (by decide))); replace BK505 := y0.mk (blk_grown (qk BK505.out) hg (Kd.R_ne HO_6.out BK505.out (by decide))); replace BK510 := y0.mk (blk_grown (qk BK510.out) hg (Kd.R_ne HO_6.out BK510.out (by decide))); replace HB := y0.mk (hb); have HO514 := y0.mk (ho); clear HO_6; clear ho hb hg hat))
        go_roundg k2
        case measure => have := HK1.out; have := HK2.out; omega
        exact ⟨(y512),(wrap64 (x26_2 + 1)),qy2,H',⟨by have := HK1.out; have := HK2.out; omega⟩,⟨qR HO514.out⟩,⟨qk BK503.out⟩,⟨qk BK505.out⟩,⟨qb⟩⟩
       ·as_aux_lemma =>
        rw [if_neg c16] at H
        have c16b0 : decide (0 < (((y22 ((y21 l0_0 x18_1).f1) x26_2).f1).length : Int)) = false := decide_eq_false c16
        have c16b1 : decide (0 < ((y22 ((y21 l0_0 x18_1).f1) x26_2).f1).length) = false := decide_eq_false (by omega)
        clear c16
        obtain ⟨c28,H⟩ := qo H
        have LMc28 := y0.mk c28
        clear c28
        obtain ⟨y515,hy515⟩ : ∃ y_ : List ByteArray,y_ = (x6_2 ++ [(y22 ((y21 l0_0 x18_1).f1) x26_2).f0]) := ⟨_,rfl⟩
        replace H : (z4_.l1 k2 x3_1 y515 l0_0 (l0_0.length : Int) x18_1 ((y21 l0_0 x18_1).f1) (((y21 l0_0 x18_1).f1).length : Int) (wrap64 (x26_2 + 1)) l0_0 l0_1 l0_2 ((y21 l0_0 x18_1).f0) ((y21 l0_0 x18_1).f1)) = some r := by first | (rw [hy515]; with_reducible exact H) | (have H2_ := (Option.bind_some _ _).symm.trans H; rw [hy515]; with_reducible exact H2_) | (have H2_ := (Option.bind_some _ _).symm.trans H; with_reducible exact H2_) | with_reducible exact H | (rw [hy515]; exact H) | exact H
        have Ny515 := y0.mk hy515
        clear hy515
        have H' := y0.mk H
        clear H
        have p509 : 0 ≤ (x26_2 : Int) := of_decide_eq_true qy1
        have q509 : x26_2 < (((y21 l0_0 x18_1).f1).length : Int) := of_decide_eq_true qy1
        obtain ⟨ad509,A509_1,c509_1,e509,hx509_0,hx509_1,hl509_1,hi509_1⟩ := at_T80 HR504_1.out x26_2 p509 q509
        cases e509
        replace hx509_0 := (HB.out.cell (World.block_lt_of_cell? w _ hx509_0)).trans hx509_0
        replace hx509_1 := (HB.out.cell (World.block_lt_of_cell? w _ hx509_1)).trans hx509_1
        have HR509_1 := y0.mk hi509_1
        have HC509_1 := y0.mk hl509_1
        clear hi509_1 hl509_1
        replace p509 := eq_true p509
        replace q509 := eq_true q509
        go_wp2_with (first | ((with_reducible refine y16 (N := 8) rfl ?_); (try (refine gate_guard (by rfl) ?_; dsimp only)); refine qe 8 #[.string (⟨#[]⟩ : ByteArray),.slice none 0 0] 80 ?_; intro gb510 hg w29 hbox hb; replace HO_6 := y0.mk (Kd.R_below (qR HO_6.out) hb); have BK510 := y0.mk (hbox); have GW510 := y0.mk (qg (w := w) hg); have GE510 := y0.mk (qg (w := w) hg); replace HB := y0.mk (y4 qb hb); have NB503_510 := y0.mk (qn BK503.out hg); have NB510_503 := y0.mk (qm BK503.out hg); replace BK503 := y0.mk (qK BK503.out hb); have NB505_510 := y0.mk (qn BK505.out hg); have NB510_505 := y0.mk (qm BK505.out hg); replace BK505 := y0.mk (qK BK505.out hb); clear hb hbox hg; have hnb30 := NB510_503.out; have hnc30 := NB503_510.out; have hnb31 := NB510_505.out; have hnc31 := NB505_510.out; obtain ⟨hcz32_0,hcz32_1,hfz32_0,hfz32_1⟩ := qz2 BK510.out) | ((with_reducible refine gate_builtin (b := .append) (xs := #[.tmp 43,.tmp 45]) rfl ?_); (try (refine gate_guard (by rfl) ?_; dsimp only)); at_builtin; refine Kd.R_append Kd.string (w0 := w) w.heap.size rfl (.tmp 43) (.tmp 45) 54 9 (.string ⟨#[]⟩) 16 rfl Try.underlying54 info9 rfl (by decide) (by omega) u6 x6_2 ((y22 ((y21 l0_0 x18_1).f1) x26_2).f0) [.string ((y22 ((y21 l0_0 x18_1).f1) x26_2).f0)] (fun _ => True) (fun _ => False) rfl (by first | (go_simp; done) | (go_simp; rfl)) ?aP (fun _ hk => hk.elim) ?aF ?aO ?aB ?aS ?aL ?_; (case aP => exact rfl); (case aB => exact qb); (case aF => exact (fun _ _ => trivial)); (case aO => exact (qR (Kd.R_mono (Kd.R_far (p := ⟨gb510,1,none⟩) (Kd.R_far (p := ⟨gb510,0,none⟩) (Kd.R_types HO_6.out BK510.out (by decide)) (fun _ hk => hk.2) (.string ((y22 ((y21 l0_0 x18_1).f1) x26_2).f0))) (fun _ hk => hk.2) (.slice A509_1 ((y22 ((y21 l0_0 x18_1).f1) x26_2).f1).length c509_1)) (fun _ hk => trivial)))); (case aS => exact (y3 qb)); (case aL => have := LMc28.out; omega); intro v516 w33 ho hb hg hat; rw [← Ny515.out] at ho; replace BK503 := y0.mk (blk_grown (g := gb503) (o := .cells #[.slice (some ad504) l0_0.length c0_0,.slice A0_1 l0_1.length c0_1,.slice A0_2 l0_2.length c0_2] 50 (0,0)) (by (with_reducible repeat (first | refine y9 ?_ _ | refine y8 ?_ | refine y5 ?_ _)); refine y10 ?_ NB503_510.out _; (with_reducible repeat (first | refine y9 ?_ _ | refine y8 ?_ | refine y5 ?_ _)); refine y10 ?_ NB503_510.out _; (with_reducible repeat (first | refine y9 ?_ _ | refine y8 ?_ | refine y5 ?_ _)); exact BK503.out) hg (Kd.R_ne HO_6.out BK503.out (by decide))); replace BK505 := y0.mk (blk_grown (g := gb505) (o := .cells #[.string ((y21 l0_0 x18_1).f0),.slice (some ad509) ((y21 l0_0 x18_1).f1).length c504_1] 78 (0,0)) (by (with_reducible repeat (first | refine y9 ?_ _ | refine y8 ?_ | refine y5 ?_ _)); refine y10 ?_ NB505_510.out _; (with_reducible repeat (first | refine y9 ?_ _ | refine y8 ?_ | refine y5 ?_ _)); refine y10 ?_ NB505_510.out _; (with_reducible repeat (first | refine y9 ?_ _ | refine y8 ?_ | refine y5 ?_ _)); exact BK505.out) hg (Kd.R_ne HO_6.out BK505.out (by decide))); replace BK510 := y0.mk (blk_grown (g := gb510) (o := .cells #[.string ((y22 ((y21 l0_0 x18_1).f1) x26_2).f0),.slice A509_1 ((y22 ((y21 l0_0 x18_1).f1) x26_2).f1).length c509_1] 80 (0,0)) (by (with_reducible repeat (first | refine y9 ?_ _ | refine y8 ?_ | refine y5 ?_ _)); refine y11 (cs := #[.string ((y22 ((y21 l0_0 x18_1).f1) x26_2).f0),.slice none 0 0]) ?_ 1 _ rfl; (with_reducible repeat (first | refine y9 ?_ _ | refine y8 ?_ | refine y5 ?_ _)); refine y11 (cs := #[.string (⟨#[]⟩ : ByteArray),.slice none 0 0]) ?_ 0 _ rfl; (with_reducible repeat (first | refine y9 ?_ _ | refine y8 ?_ | refine y5 ?_ _)); exact BK510.out) hg (Kd.R_ne HO_6.out BK510.out (by decide))); replace HB := y0.mk (hb); have HO517 := y0.mk (ho); clear HO_6; clear ho hb hg hat))
        go_roundg k2
        case measure => have := HK1.out; have := HK2.out; omega
        exact ⟨(y515),(wrap64 (x26_2 + 1)),qy2,H',⟨by have := HK1.out; have := HK2.out; omega⟩,⟨qR HO517.out⟩,⟨qk BK503.out⟩,⟨qk BK505.out⟩,⟨qb⟩⟩
      ·as_aux_lemma =>
       rw [if_neg c13] at H
       have c13b0 := decide_eq_false c13
       clear c13
       obtain ⟨c34,H⟩ := qo H
       have c34b0 := eq_true c34
       have c34b1 := decide_eq_true c34
       have c34b2 := eq_false (Nat.not_lt.2 c34)
       obtain ⟨c35,H⟩ := qo H
       have c35b0 := eq_true c35
       have c35b1 := decide_eq_true c35
       have c35b2 := eq_false (Nat.not_lt.2 c35)
       have c35b3 : (9223372036854775807 < 5 + ((y21 l0_0 x18_1).f0).size + 3) = False := qs c35b2
       obtain ⟨t518,A36,H⟩ := qB H
       obtain ⟨c37,H⟩ := qo H
       have c37b0 := eq_true c37
       have c37b1 := decide_eq_true c37
       have c37b2 := eq_false (Nat.not_lt.2 c37)
       have c37b3 : (9223372036854775807 < 5 + ((y21 l0_0 x18_1).f0).size + 3 + t518.size) = False := qs c37b2
       obtain ⟨c38,H⟩ := qo H
       have c38b0 := eq_true c38
       have c38b1 := decide_eq_true c38
       have c38b2 := eq_false (Nat.not_lt.2 c38)
       have c38b3 : (9223372036854775807 < 5 + ((y21 l0_0 x18_1).f0).size + 3 + t518.size + 2) = False := qs c38b2
       obtain ⟨c39,H⟩ := qo H
       have c39b0 := eq_true c39
       have c39b1 := decide_eq_true c39
       have c39b2 := eq_false (Nat.not_lt.2 c39)
       have c39b3 : (9223372036854775807 < x3_1.size + 5 + ((y21 l0_0 x18_1).f0).size + 3 + t518.size + 2) = False := qs c39b2
       have c39b7 : (9223372036854775807 < x3_1.size + (5 + ((y21 l0_0 x18_1).f0).size + 3 + t518.size + 2)) = False := qs c39b2
       have c39b9 : (9223372036854775807 < x3_1.size + (5 + ((y21 l0_0 x18_1).f0).size + 3 + t518.size + 2)) = False := qs c39b2
       have H' := y0.mk H
       clear H
       try go_wp2
       replace HO_6 := y0.mk (Kd.R_drew HO_6.out)
       replace BK503 := y0.mk (y8 BK503.out)
       replace BK505 := y0.mk (y8 BK505.out)
       replace HB := y0.mk (below_drew1 HB.out)
       obtain ⟨Ao41,co41,eo41⟩ := Kd.R_slice HO_6.out
       (first | subst eo41 | (injection eo41 with f1_ f2_ f3_; have f4_ := f1_.symm; have f5_ := f3_.symm; clear f1_ f2_ f3_; subst f4_; subst f5_))
       refine start_ (n := 11) (S := fun w' => w'.cell? ⟨gb505,0,none⟩ = some (.string ((y21 l0_0 x18_1).f0)) ∧ w'.cell? ⟨gb505,1,none⟩ = some (.slice A504_1 ((y21 l0_0 x18_1).f1).length c504_1)) (ds := []) (fl_ 11 0) (by kernel_rfl) rfl rfl ⟨(y7 BK505.out 0).trans rfl,(y7 BK505.out 1).trans rfl⟩ (fun hHeld => ?_); refine with_tabW z4_.tab14 z4_.bits14 (fun HT_ HW_ => ?_)
       generalize wr.drew = w40 at HO_6 BK503 BK505 HB hHeld ⊢
       refine qp 0 48 (fl_ 11 1) ?_
       refine qp 1 49 (fl_ 11 3) ?_
       refine qp 5 53 (fl_ 11 35) ?_
       refine qt 2 50 (fl_ 11 39) hHeld ?_
       refine qp 3 51 (fl_ 11 47) ?_
       refine qp 4 52 (fl_ 11 63) ?_
       refine one_ (i := 6) (N := some 54) (fl_ 11 127) rfl rfl (one_of HT_.out (by kernel_rfl)) (by decide) (fun K hK => ?_)
       refine goes_ Try.func61 (by kernel_rfl) rfl #[.slice Ao41 x6_2.length co41,.string (⟨#[32,124,32]⟩ : ByteArray)] (by rfl) rfl rfl qy0 ?_
       with_reducible refine (strings_Join.calls _ _ x6_2 (⟨#[32,124,32]⟩ : ByteArray) t518 _ (qc ((Kd.R_reads' HO_6.out).2.2)) (by exact (Kd.R_reads' HO_6.out).2.1) A36.out).mono ?_
       rintro e w42 ⟨rfl,hb⟩
       refine ⟨_,rfl, ?_⟩
       replace HO_6 := y0.mk (Kd.R_below (qR HO_6.out) hb)
       replace BK503 := y0.mk (qK BK503.out hb)
       replace BK505 := y0.mk (qK BK505.out hb)
       replace HB := y0.mk (y4 qb hb)
       (try clear hb)
       (try clear hb2)
       (try clear hk)
       (try clear hi)
       refine hK.out _ _ ⟨(y7 BK505.out 0).trans rfl,(y7 BK505.out 1).trans rfl⟩ (fun hHeld => ?_)
       clear hK K
       refine norm_ (a' := ?_) ?_ ?_
       rotate_left
       ·show Act.put _ (some 54) _ = _
        simp only [Act.put,qS_,qZ_,qC_,i64_w,i32_w]
        rfl
       refine qp 7 55 (fl_ 11 255) ?_
       refine qp 8 56 (fl_ 11 511) ?_
       refine qp 9 57 (fl_ 11 1023) ?_
       refine qp 10 3 (fl_ 11 2047) ?_
       refine done_ (done_of HT_.out (by kernel_rfl)) ?_
       try go_wp2
       go_roundg k2
       case measure => have := HK1.out; have := HK2.out; omega
       exact ⟨(x3_1 ++ (((((⟨#[116,121,112,101,32]⟩ : ByteArray) ++ ((y21 l0_0 x18_1).f0)) ++ (⟨#[32,61,32]⟩ : ByteArray)) ++ t518) ++ (⟨#[46,10]⟩ : ByteArray))),(wrap64 (x18_1 + 1)),qy2,qy2,H',⟨by have := HK1.out; have := HK2.out; omega⟩,⟨qk BK503.out⟩,⟨qb⟩⟩
   ·as_aux_lemma =>
    rw [if_neg c4] at H
    have c4b0 := decide_eq_false c4
    clear c4
    have H' := y0.mk H
    clear H
    obtain ⟨hcz43_0,hcz43_1,hcz43_2,hfz43_0,hfz43_1,hfz43_2⟩ := qz3 BK503.out
    go_wp2
    go_loopg [3,62] k1 (fun kq v3 v62 w' => ∃ (x3_2 : ByteArray) (x62_2 : Int),v3 = .string x3_2 ∧ v62 = .int .i64 x62_2 ∧ y0 (z4_.l2 kq x3_2 l0_1 (l0_1.length : Int) x62_2 l0_0 l0_1 l0_2 = some r) ∧ y0 (kq ≤ k1) ∧ y0 (w'.heap[gb503]? = some (.cells #[(.slice A0_0 l0_0.length c0_0),(.slice A0_1 l0_1.length c0_1),(.slice A0_2 l0_2.length c0_2)] 50 (0,0))) ∧ y0 (Below w.heap.size w w'))
    case atStart => exact ⟨(x3_1),(0),qy2,qy2,H',⟨Nat.le_refl _⟩,⟨qk BK503.out⟩,⟨qb⟩⟩
    case round =>
     clear H'
     (try clear c4b0 hcz43_0 hcz43_1 hcz43_2 hfz43_0 hfz43_1 hfz43_2)
     obtain ⟨x3_2,x62_2,rfl,rfl,HA,HK2,BK503,HB⟩ := hrel
     cases gk with
     | zero => exact absurd HA.out (by simp [z4_.l2])
     | succ k2 =>
      have H := HA.out
      clear HA
      simp only [z4_.l2] at H
      by_cases c44 : x62_2 < (l0_1.length : Int)
      ·as_aux_lemma =>
       rw [if_pos c44] at H
       have c44b0 := decide_eq_true c44
       clear c44
       obtain ⟨c45,H⟩ := qo H
       have c45b0 : decide (0 ≤ x62_2) = true := decide_eq_true c45
       clear c45
       obtain ⟨c46,H⟩ := qo H
       have c46b0 : decide (x62_2 < (l0_1.length : Int)) = true := decide_eq_true c46
       clear c46
       obtain ⟨t521,A47,H⟩ := qB H
       by_cases c48 : t521 = true
       ·subst c48
        replace H := qT H
        obtain ⟨c49,H⟩ := qo H
        have c49b0 := eq_true c49
        have c49b1 := decide_eq_true c49
        have c49b2 := eq_false (Nat.not_lt.2 c49)
        obtain ⟨c50,H⟩ := qo H
        have c50b0 := eq_true c50
        have c50b1 := decide_eq_true c50
        have c50b2 := eq_false (Nat.not_lt.2 c50)
        have c50b3 : (9223372036854775807 < 4 + ((y23 l0_1 x62_2).f0).size + 1) = False := qs c50b2
        obtain ⟨t522,A51,H⟩ := qB H
        obtain ⟨c52,H⟩ := qo H
        have c52b0 := eq_true c52
        have c52b1 := decide_eq_true c52
        have c52b2 := eq_false (Nat.not_lt.2 c52)
        have c52b3 : (9223372036854775807 < 4 + ((y23 l0_1 x62_2).f0).size + 1 + t522.size) = False := qs c52b2
        obtain ⟨c53,H⟩ := qo H
        have c53b0 := eq_true c53
        have c53b1 := decide_eq_true c53
        have c53b2 := eq_false (Nat.not_lt.2 c53)
        have c53b3 : (9223372036854775807 < 4 + ((y23 l0_1 x62_2).f0).size + 1 + t522.size + 1) = False := qs c53b2
        obtain ⟨c54,H⟩ := qo H
        have c54b0 := eq_true c54
        have c54b1 := decide_eq_true c54
        have c54b2 := eq_false (Nat.not_lt.2 c54)
        have c54b3 : (9223372036854775807 < x3_2.size + 4 + ((y23 l0_1 x62_2).f0).size + 1 + t522.size + 1) = False := qs c54b2
        have c54b7 : (9223372036854775807 < x3_2.size + (4 + ((y23 l0_1 x62_2).f0).size + 1 + t522.size + 1)) = False := qs c54b2
        have c54b9 : (9223372036854775807 < x3_2.size + (4 + ((y23 l0_1 x62_2).f0).size + 1 + t522.size + 1)) = False := qs c54b2
        by_cases c55 : ((y23 l0_1 x62_2).f2) = 0
        ·as_aux_lemma =>
         rw [if_pos c55] at H
         have c55b0 : (((y23 l0_1 x62_2).f2) == 0) = true := beq_iff_eq.mpr c55
         have c55b1 : (((y23 l0_1 x62_2).f2) != 0) = false := bne_eq_false_iff_eq.mpr c55
         clear c55
         obtain ⟨c56,H⟩ := qo H
         have c56b0 := eq_true c56
         have c56b1 := decide_eq_true c56
         have c56b2 := eq_false (Nat.not_lt.2 c56)
         have c56b3 : (9223372036854775807 < x3_2.size + 4 + ((y23 l0_1 x62_2).f0).size + 1 + t522.size + 1 + 2) = False := qs c56b2
         have c56b9 : (9223372036854775807 < x3_2.size + (4 + ((y23 l0_1 x62_2).f0).size + 1 + t522.size + 1) + 2) = False := qs c56b2
         have H' := y0.mk H
         clear H
         have p519 : 0 ≤ (x62_2 : Int) := of_decide_eq_true qy1
         have q519 : x62_2 < (l0_1.length : Int) := of_decide_eq_true qy1
         obtain ⟨ad519,A519_1,c519_1,e519,hx519_0,hx519_1,hx519_2,hl519_1,hi519_1⟩ := at_T84 HR0_1.out x62_2 p519 q519
         cases e519
         replace hx519_0 := (HB.out.cell (World.block_lt_of_cell? w _ hx519_0)).trans hx519_0
         replace hx519_1 := (HB.out.cell (World.block_lt_of_cell? w _ hx519_1)).trans hx519_1
         replace hx519_2 := (HB.out.cell (World.block_lt_of_cell? w _ hx519_2)).trans hx519_2
         have HR519_1 := y0.mk hi519_1
         have HC519_1 := y0.mk hl519_1
         clear hi519_1 hl519_1
         replace p519 := eq_true p519
         replace q519 := eq_true q519
         try go_wp2_with (first | ((with_reducible refine y16 (N := 11) rfl ?_); (try (refine gate_guard (by rfl) ?_; dsimp only)); refine qe 11 #[.string (⟨#[]⟩ : ByteArray),.slice none 0 0,.int .i64 0] 84 ?_; intro gb520 hg w57 hbox hb; have BK520 := y0.mk (hbox); have GW520 := y0.mk (qg (w := w) hg); have GE520 := y0.mk (qg (w := w) hg); replace HB := y0.mk (y4 qb hb); have NB503_520 := y0.mk (qn BK503.out hg); have NB520_503 := y0.mk (qm BK503.out hg); replace BK503 := y0.mk (qK BK503.out hb); clear hb hbox hg; have hnb58 := NB520_503.out; have hnc58 := NB503_520.out; obtain ⟨hcz59_0,hcz59_1,hcz59_2,hfz59_0,hfz59_1,hfz59_2⟩ := qz3 BK520.out) | ((with_reducible refine y15 (f := 48) rfl ?_); refine y17 (some 68) rfl rfl Try.func48 (by kernel_rfl) rfl #[.int .i64 ((y23 l0_1 x62_2).f2),.int .i64 0,.int .i64 3] rfl qy0 ?_; (with_reducible refine (impl_in.calls ((y23 l0_1 x62_2).f2) 0 3 true _ A47.out).mono ?_); rintro e w' ⟨rfl,⟨nd,rfl⟩⟩; refine ⟨_,rfl, ?_⟩))
         have n0_ : y0 ((((w57.setCell ⟨gb520,0,none⟩ (.string ((y23 l0_1 x62_2).f0))).setCell ⟨gb520,1,none⟩ (.slice A519_1 ((y23 l0_1 x62_2).f1).length c519_1)).setCell ⟨gb520,2,none⟩ (.int .i64 ((y23 l0_1 x62_2).f2))).heap[gb503]? = some (.cells #[.slice A0_0 l0_0.length c0_0,.slice (some ad519) l0_1.length c0_1,.slice A0_2 l0_2.length c0_2] 50 (0,0))) := ⟨by (with_reducible repeat (first | refine y9 ?_ _ | refine y8 ?_ | refine y5 ?_ _)); refine y10 ?_ NB503_520.out _; (with_reducible repeat (first | refine y9 ?_ _ | refine y8 ?_ | refine y5 ?_ _)); refine y10 ?_ NB503_520.out _; (with_reducible repeat (first | refine y9 ?_ _ | refine y8 ?_ | refine y5 ?_ _)); refine y10 ?_ NB503_520.out _; (with_reducible repeat (first | refine y9 ?_ _ | refine y8 ?_ | refine y5 ?_ _)); exact BK503.out⟩
         have n1_ : y0 ((((w57.setCell ⟨gb520,0,none⟩ (.string ((y23 l0_1 x62_2).f0))).setCell ⟨gb520,1,none⟩ (.slice A519_1 ((y23 l0_1 x62_2).f1).length c519_1)).setCell ⟨gb520,2,none⟩ (.int .i64 ((y23 l0_1 x62_2).f2))).heap[gb520]? = some (.cells #[.string ((y23 l0_1 x62_2).f0),.slice A519_1 ((y23 l0_1 x62_2).f1).length c519_1,.int .i64 ((y23 l0_1 x62_2).f2)] 84 (0,0))) := ⟨by (with_reducible repeat (first | refine y9 ?_ _ | refine y8 ?_ | refine y5 ?_ _)); refine y11 (cs := #[.string ((y23 l0_1 x62_2).f0),.slice A519_1 ((y23 l0_1 x62_2).f1).length c519_1,.int .i64 0]) ?_ 2 _ rfl; (with_reducible repeat (first | refine y9 ?_ _ | refine y8 ?_ | refine y5 ?_ _)); refine y11 (cs := #[.string ((y23 l0_1 x62_2).f0),.slice none 0 0,.int .i64 0]) ?_ 1 _ rfl; (with_reducible repeat (first | refine y9 ?_ _ | refine y8 ?_ | refine y5 ?_ _)); refine y11 (cs := #[.string (⟨#[]⟩ : ByteArray),.slice none 0 0,.int .i64 0]) ?_ 0 _ rfl; (with_reducible repeat (first | refine y9 ?_ _ | refine y8 ?_ | refine y5 ?_ _)); exact BK520.out⟩
         have n2_ : y0 (Below w.heap.size w (((w57.setCell ⟨gb520,0,none⟩ (.string ((y23 l0_1 x62_2).f0))).setCell ⟨gb520,1,none⟩ (.slice A519_1 ((y23 l0_1 x62_2).f1).length c519_1)).setCell ⟨gb520,2,none⟩ (.int .i64 ((y23 l0_1 x62_2).f2)))) := ⟨qb⟩
         (try clear BK503)
         (try clear BK520)
         (try clear HB)
         generalize (((w57.setCell ⟨gb520,0,none⟩ (.string ((y23 l0_1 x62_2).f0))).setCell ⟨gb520,1,none⟩ (.slice A519_1 ((y23 l0_1 x62_2).f1).length c519_1)).setCell ⟨gb520,2,none⟩ (.int .i64 ((y23 l0_1 x62_2).f2))) = w60 at n0_ n1_ n2_ ⊢
         have BK503 := n0_
         have BK520 := n1_
         have HB := n2_
         clear n0_ n1_ n2_
         (try (rw [drewN_self w60]; have e1_ : ∀ (n_ : Nat) (a_ : Addr),World.cell? w60 a_ = World.cell? (World.drewN w60 n_) a_ := fun _ _ => rfl; have e2_ : ∀ (n_ : Nat) (a_ : Addr),World.frozen? w60 a_ = World.frozen? (World.drewN w60 n_) a_ := fun _ _ => rfl; generalize hq_ : World.drewN w60 _ = w60; have e3_ := (fun a_ => (e1_ _ a_).trans (congrArg (fun w_ => World.cell? w_ a_) hq_)); have e4_ := (fun a_ => (e2_ _ a_).trans (congrArg (fun w_ => World.frozen? w_ a_) hq_)); clear e1_ e2_; (try replace hx519_0 := (e3_ _).symm.trans hx519_0); (try replace hx519_1 := (e3_ _).symm.trans hx519_1); (try replace hx519_2 := (e3_ _).symm.trans hx519_2); skip; clear e3_ e4_; have n0_ : y0 (w60.heap[gb503]? = some (.cells #[.slice A0_0 l0_0.length c0_0,.slice (some ad519) l0_1.length c0_1,.slice A0_2 l0_2.length c0_2] 50 (0,0))) := ⟨by rw [← hq_]; exact (qk BK503.out)⟩; have n1_ : y0 (w60.heap[gb520]? = some (.cells #[.string ((y23 l0_1 x62_2).f0),.slice A519_1 ((y23 l0_1 x62_2).f1).length c519_1,.int .i64 ((y23 l0_1 x62_2).f2)] 84 (0,0))) := ⟨by rw [← hq_]; exact (qk BK520.out)⟩; have n2_ : y0 (Below w.heap.size w w60) := ⟨by rw [← hq_]; exact qb⟩; clear BK503 BK520 HB hq_; have BK503 := n0_; have BK520 := n1_; have HB := n2_; clear n0_ n1_ n2_))
         replace BK503 := y0.mk (y8 BK503.out)
         replace BK520 := y0.mk (y8 BK520.out)
         replace HB := y0.mk (below_drew1 HB.out)
         refine start_ (n := 12) (S := fun w' => w'.cell? ⟨gb520,0,none⟩ = some (.string ((y23 l0_1 x62_2).f0)) ∧ w'.cell? ⟨gb520,1,none⟩ = some (.slice A519_1 ((y23 l0_1 x62_2).f1).length c519_1) ∧ w'.cell? ⟨gb520,2,none⟩ = some (.int .i64 ((y23 l0_1 x62_2).f2))) (ds := []) (fl_ 12 0) (by kernel_rfl) rfl rfl ⟨(y7 BK520.out 0).trans rfl,(y7 BK520.out 1).trans rfl,(y7 BK520.out 2).trans rfl⟩ (fun hHeld => ?_); refine with_tabW z4_.tab21 z4_.bits21 (fun HT_ HW_ => ?_)
         generalize w60.drew = w61 at BK503 BK520 HB hx519_0 hx519_1 hx519_2 hHeld ⊢
         refine qp 0 70 (fl_ 12 1) ?_
         refine qp 1 71 (fl_ 12 3) ?_
         refine qp 5 75 (fl_ 12 35) ?_
         refine qt 2 72 (fl_ 12 39) hHeld ?_
         refine qp 3 73 (fl_ 12 47) ?_
         refine qp 4 74 (fl_ 12 63) ?_
         refine qt 6 76 (fl_ 12 127) hHeld ?_
         refine one_ (i := 7) (N := some 77) (fl_ 12 255) rfl rfl (one_of HT_.out (by kernel_rfl)) (by decide) (fun K hK => ?_)
         refine goes_ Try.func61 (by kernel_rfl) rfl #[.slice A519_1 ((y23 l0_1 x62_2).f1).length c519_1,.string (⟨#[44,32]⟩ : ByteArray)] (by rfl) rfl rfl qy0 ?_
         with_reducible refine (strings_Join.calls _ _ ((y23 l0_1 x62_2).f1) (⟨#[44,32]⟩ : ByteArray) t522 _ (qc (Kd.C_below HR519_1.out HB.out)) HC519_1.out A51.out).mono ?_
         rintro e w62 ⟨rfl,hb⟩
         refine ⟨_,rfl, ?_⟩
         replace BK503 := y0.mk (qK BK503.out hb)
         replace BK520 := y0.mk (qK BK520.out hb)
         replace HB := y0.mk (y4 qb hb)
         (try clear hb)
         (try clear hb2)
         (try clear hk)
         (try clear hi)
         refine hK.out _ _ ⟨(y7 BK520.out 0).trans rfl,(y7 BK520.out 1).trans rfl,(y7 BK520.out 2).trans rfl⟩ (fun hHeld => ?_)
         clear hK K
         refine norm_ (a' := ?_) ?_ ?_
         rotate_left
         ·show Act.put _ (some 77) _ = _
          simp only [Act.put,qS_,qZ_,qC_,i64_w,i32_w]
          rfl
         refine qp 8 78 (fl_ 12 511) ?_
         refine qp 9 79 (fl_ 12 1023) ?_
         refine qp 10 80 (fl_ 12 2047) ?_
         refine qp 11 3 (fl_ 12 4095) ?_
         refine done_ (done_of HT_.out (by kernel_rfl)) ?_
         obtain ⟨hcz63_0,hcz63_1,hcz63_2,hfz63_0,hfz63_1,hfz63_2⟩ := qz3 BK520.out
         try go_wp2
         go_roundg k2
         case measure => have := HK1.out; have := HK2.out; omega
         exact ⟨((x3_2 ++ (((((⟨#[114,101,108,32]⟩ : ByteArray) ++ ((y23 l0_1 x62_2).f0)) ++ (⟨#[40]⟩ : ByteArray)) ++ t522) ++ (⟨#[41]⟩ : ByteArray))) ++ (⟨#[46,10]⟩ : ByteArray)),(wrap64 (x62_2 + 1)),qy2,qy2,H',⟨by have := HK1.out; have := HK2.out; omega⟩,⟨qk BK503.out⟩,⟨qb⟩⟩
        ·as_aux_lemma =>
         rw [if_neg c55] at H
         have c55b0 : (((y23 l0_1 x62_2).f2) == 0) = false := beq_eq_false_iff_ne.mpr c55
         have c55b1 : (((y23 l0_1 x62_2).f2) != 0) = true := bne_iff_ne.mpr c55
         obtain ⟨t523,A64,H⟩ := qB H
         obtain ⟨c65,H⟩ := qo H
         have c65b0 : decide (0 ≤ ((y23 l0_1 x62_2).f2)) = true := decide_eq_true c65
         clear c65
         obtain ⟨c66,H⟩ := qo H
         have c66b0 : decide (((y23 l0_1 x62_2).f2) < (t523.length : Int)) = true := decide_eq_true c66
         clear c66
         obtain ⟨c67,H⟩ := qo H
         have c67b0 := eq_true c67
         have c67b1 := decide_eq_true c67
         have c67b2 := eq_false (Nat.not_lt.2 c67)
         obtain ⟨c68,H⟩ := qo H
         have c68b0 := eq_true c68
         have c68b1 := decide_eq_true c68
         have c68b2 := eq_false (Nat.not_lt.2 c68)
         have c68b3 : (9223372036854775807 < x3_2.size + 4 + ((y23 l0_1 x62_2).f0).size + 1 + t522.size + 1 + 1 + (rdOf ByteArray.empty t523 ((y23 l0_1 x62_2).f2)).size) = False := qs c68b2
         have c68b7 : (9223372036854775807 < x3_2.size + 4 + ((y23 l0_1 x62_2).f0).size + 1 + t522.size + 1 + (1 + (rdOf ByteArray.empty t523 ((y23 l0_1 x62_2).f2)).size)) = False := qs c68b2
         have c68b9 : (9223372036854775807 < x3_2.size + (4 + ((y23 l0_1 x62_2).f0).size + 1 + t522.size + 1) + (1 + (rdOf ByteArray.empty t523 ((y23 l0_1 x62_2).f2)).size)) = False := qs c68b2
         obtain ⟨c69,H⟩ := qo H
         have c69b0 := eq_true c69
         have c69b1 := decide_eq_true c69
         have c69b2 := eq_false (Nat.not_lt.2 c69)
         have c69b3 : (9223372036854775807 < x3_2.size + 4 + ((y23 l0_1 x62_2).f0).size + 1 + t522.size + 1 + 1 + (rdOf ByteArray.empty t523 ((y23 l0_1 x62_2).f2)).size + 2) = False := qs c69b2
         have c69b9 : (9223372036854775807 < x3_2.size + (4 + ((y23 l0_1 x62_2).f0).size + 1 + t522.size + 1) + (1 + (rdOf ByteArray.empty t523 ((y23 l0_1 x62_2).f2)).size) + 2) = False := qs c69b2
         have H' := y0.mk H
         clear H
         have p519 : 0 ≤ (x62_2 : Int) := of_decide_eq_true qy1
         have q519 : x62_2 < (l0_1.length : Int) := of_decide_eq_true qy1
         obtain ⟨ad519,A519_1,c519_1,e519,hx519_0,hx519_1,hx519_2,hl519_1,hi519_1⟩ := at_T84 HR0_1.out x62_2 p519 q519
         cases e519
         replace hx519_0 := (HB.out.cell (World.block_lt_of_cell? w _ hx519_0)).trans hx519_0
         replace hx519_1 := (HB.out.cell (World.block_lt_of_cell? w _ hx519_1)).trans hx519_1
         replace hx519_2 := (HB.out.cell (World.block_lt_of_cell? w _ hx519_2)).trans hx519_2
         have HR519_1 := y0.mk hi519_1
         have HC519_1 := y0.mk hl519_1
         clear hi519_1 hl519_1
         replace p519 := eq_true p519
         replace q519 := eq_true q519
         try go_wp2_with (first | ((with_reducible refine y16 (N := 11) rfl ?_); (try (refine gate_guard (by rfl) ?_; dsimp only)); refine qe 11 #[.string (⟨#[]⟩ : ByteArray),.slice none 0 0,.int .i64 0] 84 ?_; intro gb520 hg w70 hbox hb; have BK520 := y0.mk (hbox); have GW520 := y0.mk (qg (w := w) hg); have GE520 := y0.mk (qg (w := w) hg); replace HB := y0.mk (y4 qb hb); have NB503_520 := y0.mk (qn BK503.out hg); have NB520_503 := y0.mk (qm BK503.out hg); replace BK503 := y0.mk (qK BK503.out hb); clear hb hbox hg; have hnb71 := NB520_503.out; have hnc71 := NB503_520.out; obtain ⟨hcz72_0,hcz72_1,hcz72_2,hfz72_0,hfz72_1,hfz72_2⟩ := qz3 BK520.out) | ((with_reducible refine y15 (f := 48) rfl ?_); refine y17 (some 68) rfl rfl Try.func48 (by kernel_rfl) rfl #[.int .i64 ((y23 l0_1 x62_2).f2),.int .i64 0,.int .i64 3] rfl qy0 ?_; (with_reducible refine (impl_in.calls ((y23 l0_1 x62_2).f2) 0 3 true _ A47.out).mono ?_); rintro e w' ⟨rfl,⟨nd,rfl⟩⟩; refine ⟨_,rfl, ?_⟩))
         have n0_ : y0 ((((w70.setCell ⟨gb520,0,none⟩ (.string ((y23 l0_1 x62_2).f0))).setCell ⟨gb520,1,none⟩ (.slice A519_1 ((y23 l0_1 x62_2).f1).length c519_1)).setCell ⟨gb520,2,none⟩ (.int .i64 ((y23 l0_1 x62_2).f2))).heap[gb503]? = some (.cells #[.slice A0_0 l0_0.length c0_0,.slice (some ad519) l0_1.length c0_1,.slice A0_2 l0_2.length c0_2] 50 (0,0))) := ⟨by (with_reducible repeat (first | refine y9 ?_ _ | refine y8 ?_ | refine y5 ?_ _)); refine y10 ?_ NB503_520.out _; (with_reducible repeat (first | refine y9 ?_ _ | refine y8 ?_ | refine y5 ?_ _)); refine y10 ?_ NB503_520.out _; (with_reducible repeat (first | refine y9 ?_ _ | refine y8 ?_ | refine y5 ?_ _)); refine y10 ?_ NB503_520.out _; (with_reducible repeat (first | refine y9 ?_ _ | refine y8 ?_ | refine y5 ?_ _)); exact BK503.out⟩
         have n1_ : y0 ((((w70.setCell ⟨gb520,0,none⟩ (.string ((y23 l0_1 x62_2).f0))).setCell ⟨gb520,1,none⟩ (.slice A519_1 ((y23 l0_1 x62_2).f1).length c519_1)).setCell ⟨gb520,2,none⟩ (.int .i64 ((y23 l0_1 x62_2).f2))).heap[gb520]? = some (.cells #[.string ((y23 l0_1 x62_2).f0),.slice A519_1 ((y23 l0_1 x62_2).f1).length c519_1,.int .i64 ((y23 l0_1 x62_2).f2)] 84 (0,0))) := ⟨by (with_reducible repeat (first | refine y9 ?_ _ | refine y8 ?_ | refine y5 ?_ _)); refine y11 (cs := #[.string ((y23 l0_1 x62_2).f0),.slice A519_1 ((y23 l0_1 x62_2).f1).length c519_1,.int .i64 0]) ?_ 2 _ rfl; (with_reducible repeat (first | refine y9 ?_ _ | refine y8 ?_ | refine y5 ?_ _)); refine y11 (cs := #[.string ((y23 l0_1 x62_2).f0),.slice none 0 0,.int .i64 0]) ?_ 1 _ rfl; (with_reducible repeat (first | refine y9 ?_ _ | refine y8 ?_ | refine y5 ?_ _)); refine y11 (cs := #[.string (⟨#[]⟩ : ByteArray),.slice none 0 0,.int .i64 0]) ?_ 0 _ rfl; (with_reducible repeat (first | refine y9 ?_ _ | refine y8 ?_ | refine y5 ?_ _)); exact BK520.out⟩
         have n2_ : y0 (Below w.heap.size w (((w70.setCell ⟨gb520,0,none⟩ (.string ((y23 l0_1 x62_2).f0))).setCell ⟨gb520,1,none⟩ (.slice A519_1 ((y23 l0_1 x62_2).f1).length c519_1)).setCell ⟨gb520,2,none⟩ (.int .i64 ((y23 l0_1 x62_2).f2)))) := ⟨qb⟩
         (try clear BK503)
         (try clear BK520)
         (try clear HB)
         generalize (((w70.setCell ⟨gb520,0,none⟩ (.string ((y23 l0_1 x62_2).f0))).setCell ⟨gb520,1,none⟩ (.slice A519_1 ((y23 l0_1 x62_2).f1).length c519_1)).setCell ⟨gb520,2,none⟩ (.int .i64 ((y23 l0_1 x62_2).f2))) = w73 at n0_ n1_ n2_ ⊢
         have BK503 := n0_
         have BK520 := n1_
         have HB := n2_
         clear n0_ n1_ n2_
         (try (rw [drewN_self w73]; have e1_ : ∀ (n_ : Nat) (a_ : Addr),World.cell? w73 a_ = World.cell? (World.drewN w73 n_) a_ := fun _ _ => rfl; have e2_ : ∀ (n_ : Nat) (a_ : Addr),World.frozen? w73 a_ = World.frozen? (World.drewN w73 n_) a_ := fun _ _ => rfl; generalize hq_ : World.drewN w73 _ = w73; have e3_ := (fun a_ => (e1_ _ a_).trans (congrArg (fun w_ => World.cell? w_ a_) hq_)); have e4_ := (fun a_ => (e2_ _ a_).trans (congrArg (fun w_ => World.frozen? w_ a_) hq_)); clear e1_ e2_; (try replace hx519_0 := (e3_ _).symm.trans hx519_0); (try replace hx519_1 := (e3_ _).symm.trans hx519_1); (try replace hx519_2 := (e3_ _).symm.trans hx519_2); skip; clear e3_ e4_; have n0_ : y0 (w73.heap[gb503]? = some (.cells #[.slice A0_0 l0_0.length c0_0,.slice (some ad519) l0_1.length c0_1,.slice A0_2 l0_2.length c0_2] 50 (0,0))) := ⟨by rw [← hq_]; exact (qk BK503.out)⟩; have n1_ : y0 (w73.heap[gb520]? = some (.cells #[.string ((y23 l0_1 x62_2).f0),.slice A519_1 ((y23 l0_1 x62_2).f1).length c519_1,.int .i64 ((y23 l0_1 x62_2).f2)] 84 (0,0))) := ⟨by rw [← hq_]; exact (qk BK520.out)⟩; have n2_ : y0 (Below w.heap.size w w73) := ⟨by rw [← hq_]; exact qb⟩; clear BK503 BK520 HB hq_; have BK503 := n0_; have BK520 := n1_; have HB := n2_; clear n0_ n1_ n2_))
         replace BK503 := y0.mk (y8 BK503.out)
         replace BK520 := y0.mk (y8 BK520.out)
         replace HB := y0.mk (below_drew1 HB.out)
         refine start_ (n := 12) (S := fun w' => w'.cell? ⟨gb520,0,none⟩ = some (.string ((y23 l0_1 x62_2).f0)) ∧ w'.cell? ⟨gb520,1,none⟩ = some (.slice A519_1 ((y23 l0_1 x62_2).f1).length c519_1) ∧ w'.cell? ⟨gb520,2,none⟩ = some (.int .i64 ((y23 l0_1 x62_2).f2))) (ds := []) (fl_ 12 0) (by kernel_rfl) rfl rfl ⟨(y7 BK520.out 0).trans rfl,(y7 BK520.out 1).trans rfl,(y7 BK520.out 2).trans rfl⟩ (fun hHeld => ?_); refine with_tabW z4_.tab21 z4_.bits21 (fun HT_ HW_ => ?_)
         generalize w73.drew = w74 at BK503 BK520 HB hx519_0 hx519_1 hx519_2 hHeld ⊢
         refine qp 0 70 (fl_ 12 1) ?_
         refine qp 1 71 (fl_ 12 3) ?_
         refine qp 5 75 (fl_ 12 35) ?_
         refine qt 2 72 (fl_ 12 39) hHeld ?_
         refine qp 3 73 (fl_ 12 47) ?_
         refine qp 4 74 (fl_ 12 63) ?_
         refine qt 6 76 (fl_ 12 127) hHeld ?_
         refine one_ (i := 7) (N := some 77) (fl_ 12 255) rfl rfl (one_of HT_.out (by kernel_rfl)) (by decide) (fun K hK => ?_)
         refine goes_ Try.func61 (by kernel_rfl) rfl #[.slice A519_1 ((y23 l0_1 x62_2).f1).length c519_1,.string (⟨#[44,32]⟩ : ByteArray)] (by rfl) rfl rfl qy0 ?_
         with_reducible refine (strings_Join.calls _ _ ((y23 l0_1 x62_2).f1) (⟨#[44,32]⟩ : ByteArray) t522 _ (qc (Kd.C_below HR519_1.out HB.out)) HC519_1.out A51.out).mono ?_
         rintro e w75 ⟨rfl,hb⟩
         refine ⟨_,rfl, ?_⟩
         replace BK503 := y0.mk (qK BK503.out hb)
         replace BK520 := y0.mk (qK BK520.out hb)
         replace HB := y0.mk (y4 qb hb)
         (try clear hb)
         (try clear hb2)
         (try clear hk)
         (try clear hi)
         refine hK.out _ _ ⟨(y7 BK520.out 0).trans rfl,(y7 BK520.out 1).trans rfl,(y7 BK520.out 2).trans rfl⟩ (fun hHeld => ?_)
         clear hK K
         refine norm_ (a' := ?_) ?_ ?_
         rotate_left
         ·show Act.put _ (some 77) _ = _
          simp only [Act.put,qS_,qZ_,qC_,i64_w,i32_w]
          rfl
         refine qp 8 78 (fl_ 12 511) ?_
         refine qp 9 79 (fl_ 12 1023) ?_
         refine qp 10 80 (fl_ 12 2047) ?_
         refine qp 11 3 (fl_ 12 4095) ?_
         refine done_ (done_of HT_.out (by kernel_rfl)) ?_
         obtain ⟨hcz76_0,hcz76_1,hcz76_2,hfz76_0,hfz76_1,hfz76_2⟩ := qz3 BK520.out
         try go_wp2
         have pi526 : (0 ≤ (((y23 l0_1 x62_2).f2) : Int)) = True := eq_true (of_decide_eq_true qy1)
         have qi526 : (((y23 l0_1 x62_2).f2) < (t523.length : Int)) = True := eq_true (of_decide_eq_true qy1)
         replace BK503 := y0.mk (y8 BK503.out)
         replace BK520 := y0.mk (y8 BK520.out)
         replace HB := y0.mk (below_drew1 HB.out)
         refine start_ (n := 9) (S := fun w' => w'.cell? ⟨gb520,0,none⟩ = some (.string ((y23 l0_1 x62_2).f0)) ∧ w'.cell? ⟨gb520,1,none⟩ = some (.slice A519_1 ((y23 l0_1 x62_2).f1).length c519_1) ∧ w'.cell? ⟨gb520,2,none⟩ = some (.int .i64 ((y23 l0_1 x62_2).f2))) (ds := []) (fl_ 9 0) (by kernel_rfl) rfl rfl ⟨(y7 BK520.out 0).trans rfl,(y7 BK520.out 1).trans rfl,(y7 BK520.out 2).trans rfl⟩ (fun hHeld => ?_); refine with_tabW z4_.tab23 z4_.bits23 (fun HT_ HW_ => ?_)
         generalize w75.drew = w77 at BK503 BK520 HB hHeld ⊢
         refine qp 0 84 (fl_ 9 1) ?_
         refine qp 2 86 (fl_ 9 5) ?_
         refine qt 3 87 (fl_ 9 13) hHeld ?_
         refine one_ (i := 1) (N := some 85) (fl_ 9 15) rfl rfl (one_of HT_.out (by kernel_rfl)) (by decide) (fun K hK => ?_)
         refine goes_ Try.func68 (by kernel_rfl) rfl #[] (by rfl) rfl rfl qy0 ?_
         with_reducible refine (impl_modeWords.calls  t523 _ A64.out).mono ?_
         rintro e w78 ⟨v524,rfl,ho0,hb⟩
         refine ⟨_,rfl, ?_⟩
         have HO525 := y0.mk (Kd.R_lower ho0 (y3 qb))
         replace BK503 := y0.mk (qK BK503.out hb)
         replace BK520 := y0.mk (qK BK520.out hb)
         replace HB := y0.mk (y4 qb hb)
         (try clear hb)
         (try clear hb2)
         (try clear hk)
         (try clear hi)
         (try clear ho0)
         obtain ⟨Ao79,co79,eo79⟩ := Kd.R_slice HO525.out
         subst eo79
         obtain ⟨ado79,fo79,_⟩ := Kd.at_string (Kd.R_reads' HO525.out).2.2 ((y23 l0_1 x62_2).f2) (of_eq_true pi526) (of_eq_true qi526)
         cases fo79
         refine hK.out _ _ ⟨(y7 BK520.out 0).trans rfl,(y7 BK520.out 1).trans rfl,(y7 BK520.out 2).trans rfl⟩ (fun hHeld => ?_)
         clear hK K
         refine norm_ (a' := ?_) ?_ ?_
         rotate_left
         ·show Act.put _ (some 85) _ = _
          simp only [Act.put,qS_,qZ_,qC_,i64_w,i32_w]
          rfl
         refine qp 4 88 (fl_ 9 31) ?_
         refine one_ (i := 5) (N := some 89) (fl_ 9 63) rfl rfl (one_of HT_.out (by kernel_rfl)) (by decide) (fun K hK => ?_)
         (have p526 : 0 ≤ (((y23 l0_1 x62_2).f2) : Int) := of_decide_eq_true qy1; have q526 : ((y23 l0_1 x62_2).f2) < (t523.length : Int) := of_decide_eq_true qy1; obtain ⟨ad526,e526,hx526_0⟩ := Kd.at_string (Kd.R_reads' HO525.out).2.2 ((y23 l0_1 x62_2).f2) p526 q526; obtain rfl : ado79 = ad526 := (by injection e526))
         refine value_ (w1 := ?_) (v := ?_) (by rfl) rfl ?_ ?_
         rotate_left 2
         ·go_simp
          constructor
          ·rfl
          ·rfl
         clear hx526_0
         refine hK.out _ _ ⟨(y7 BK520.out 0).trans rfl,(y7 BK520.out 1).trans rfl,(y7 BK520.out 2).trans rfl⟩ (fun hHeld => ?_)
         clear hK K
         refine norm_ (a' := ?_) ?_ ?_
         rotate_left
         ·show Act.put _ (some 89) _ = _
          simp only [Act.put,qS_,qZ_,qC_,i64_w,i32_w]
          rfl
         refine qp 6 90 (fl_ 9 127) ?_
         refine qp 7 91 (fl_ 9 255) ?_
         refine qp 8 3 (fl_ 9 511) ?_
         refine done_ (done_of HT_.out (by kernel_rfl)) ?_
         try go_wp2
         go_roundg k2
         case measure => have := HK1.out; have := HK2.out; omega
         exact ⟨(((x3_2 ++ (((((⟨#[114,101,108,32]⟩ : ByteArray) ++ ((y23 l0_1 x62_2).f0)) ++ (⟨#[40]⟩ : ByteArray)) ++ t522) ++ (⟨#[41]⟩ : ByteArray))) ++ ((⟨#[32]⟩ : ByteArray) ++ (rdOf ByteArray.empty t523 ((y23 l0_1 x62_2).f2)))) ++ (⟨#[46,10]⟩ : ByteArray)),(wrap64 (x62_2 + 1)),qy2,qy2,H',⟨by have := HK1.out; have := HK2.out; omega⟩,⟨qk BK503.out⟩,⟨qb⟩⟩
       ·replace c48 := Bool.eq_false_iff.mpr c48
        subst c48
        replace H := qF H
        obtain rfl := Option.some.inj H
        have p519 : 0 ≤ (x62_2 : Int) := of_decide_eq_true qy1
        have q519 : x62_2 < (l0_1.length : Int) := of_decide_eq_true qy1
        obtain ⟨ad519,A519_1,c519_1,e519,hx519_0,hx519_1,hx519_2,hl519_1,hi519_1⟩ := at_T84 HR0_1.out x62_2 p519 q519
        cases e519
        replace hx519_0 := (HB.out.cell (World.block_lt_of_cell? w _ hx519_0)).trans hx519_0
        replace hx519_1 := (HB.out.cell (World.block_lt_of_cell? w _ hx519_1)).trans hx519_1
        replace hx519_2 := (HB.out.cell (World.block_lt_of_cell? w _ hx519_2)).trans hx519_2
        have HR519_1 := y0.mk hi519_1
        have HC519_1 := y0.mk hl519_1
        clear hi519_1 hl519_1
        replace p519 := eq_true p519
        replace q519 := eq_true q519
        go_wp2_with (first | ((with_reducible refine y16 (N := 11) rfl ?_); (try (refine gate_guard (by rfl) ?_; dsimp only)); refine qe 11 #[.string (⟨#[]⟩ : ByteArray),.slice none 0 0,.int .i64 0] 84 ?_; intro gb520 hg w80 hbox hb; have BK520 := y0.mk (hbox); have GW520 := y0.mk (qg (w := w) hg); have GE520 := y0.mk (qg (w := w) hg); replace HB := y0.mk (y4 qb hb); have NB503_520 := y0.mk (qn BK503.out hg); have NB520_503 := y0.mk (qm BK503.out hg); replace BK503 := y0.mk (qK BK503.out hb); clear hb hbox hg; have hnb81 := NB520_503.out; have hnc81 := NB503_520.out; obtain ⟨hcz82_0,hcz82_1,hcz82_2,hfz82_0,hfz82_1,hfz82_2⟩ := qz3 BK520.out) | ((with_reducible refine y15 (f := 48) rfl ?_); refine y17 (some 68) rfl rfl Try.func48 (by kernel_rfl) rfl #[.int .i64 ((y23 l0_1 x62_2).f2),.int .i64 0,.int .i64 3] rfl qy0 ?_; (with_reducible refine (impl_in.calls ((y23 l0_1 x62_2).f2) 0 3 false _ A47.out).mono ?_); rintro e w' ⟨rfl,⟨nd,rfl⟩⟩; refine ⟨_,rfl, ?_⟩))
        go_ret
        exact ⟨by first | rfl | (simp [y12,y13] <;> rfl) | (simp [*,y12,y13] <;> rfl),qb⟩
      ·as_aux_lemma =>
       rw [if_neg c44] at H
       have c44b0 := decide_eq_false c44
       clear c44
       have H' := y0.mk H
       clear H
       obtain ⟨hcz83_0,hcz83_1,hcz83_2,hfz83_0,hfz83_1,hfz83_2⟩ := qz3 BK503.out
       go_wp2
       go_loopg [3,98] k2 (fun kq v3 v98 w' => ∃ (x3_3 : ByteArray) (x98_3 : Int),v3 = .string x3_3 ∧ v98 = .int .i64 x98_3 ∧ y0 (z4_.l3 kq x3_3 l0_2 (l0_2.length : Int) x98_3 = some r) ∧ y0 (kq ≤ k2) ∧ y0 (w'.heap[gb503]? = some (.cells #[(.slice A0_0 l0_0.length c0_0),(.slice A0_1 l0_1.length c0_1),(.slice A0_2 l0_2.length c0_2)] 50 (0,0))) ∧ y0 (Below w.heap.size w w'))
       case atStart => exact ⟨(x3_2),(0),qy2,qy2,H',⟨Nat.le_refl _⟩,⟨qk BK503.out⟩,⟨qb⟩⟩
       case round =>
        clear H'
        (try clear c44b0 hcz83_0 hcz83_1 hcz83_2 hfz83_0 hfz83_1 hfz83_2)
        obtain ⟨x3_3,x98_3,rfl,rfl,HA,HK3,BK503,HB⟩ := hrel
        cases gk with
        | zero => exact absurd HA.out (by simp [z4_.l3])
        | succ k3 =>
         have H := HA.out
         clear HA
         simp only [z4_.l3] at H
         by_cases c84 : x98_3 < (l0_2.length : Int)
         ·as_aux_lemma =>
          rw [if_pos c84] at H
          have c84b0 := decide_eq_true c84
          clear c84
          obtain ⟨c85,H⟩ := qo H
          have c85b0 : decide (0 ≤ x98_3) = true := decide_eq_true c85
          clear c85
          obtain ⟨c86,H⟩ := qo H
          have c86b0 : decide (x98_3 < (l0_2.length : Int)) = true := decide_eq_true c86
          clear c86
          obtain ⟨t529,A87,H⟩ := qB H
          by_cases c88 : t529.toList = ([] : List UInt8)
          ·as_aux_lemma =>
           rw [if_pos c88] at H
           have c88b0 : (t529.toList == ([] : List UInt8)) = true := beq_iff_eq.mpr c88
           have c88b1 : (t529.toList != ([] : List UInt8)) = false := bne_eq_false_iff_eq.mpr c88
           clear c88
           obtain rfl := Option.some.inj H
           have p527 : 0 ≤ (x98_3 : Int) := of_decide_eq_true qy1
           have q527 : x98_3 < (l0_2.length : Int) := of_decide_eq_true qy1
           obtain ⟨ad527,A527_0,c527_0,A527_3,c527_3,A527_4,c527_4,e527,hx527_0,hx527_1,hx527_2,hx527_3,hx527_4,hl527_0,hi527_0,hl527_3,hi527_3,hl527_4,hi527_4⟩ := at_T35 HR0_2.out x98_3 p527 q527
           cases e527
           replace hx527_0 := (HB.out.cell (World.block_lt_of_cell? w _ hx527_0)).trans hx527_0
           replace hx527_1 := (HB.out.cell (World.block_lt_of_cell? w _ hx527_1)).trans hx527_1
           replace hx527_2 := (HB.out.cell (World.block_lt_of_cell? w _ hx527_2)).trans hx527_2
           replace hx527_3 := (HB.out.cell (World.block_lt_of_cell? w _ hx527_3)).trans hx527_3
           replace hx527_4 := (HB.out.cell (World.block_lt_of_cell? w _ hx527_4)).trans hx527_4
           have HR527_0 := y0.mk hi527_0
           have HC527_0 := y0.mk hl527_0
           clear hi527_0 hl527_0
           have HR527_3 := y0.mk hi527_3
           have HC527_3 := y0.mk hl527_3
           clear hi527_3 hl527_3
           have HR527_4 := y0.mk hi527_4
           have HC527_4 := y0.mk hl527_4
           clear hi527_4 hl527_4
           replace p527 := eq_true p527
           replace q527 := eq_true q527
           go_wp2_with (first | ((with_reducible refine y16 (N := 13) rfl ?_); (try (refine gate_guard (by rfl) ?_; dsimp only)); refine qe 13 #[.slice none 0 0,.int .i64 0,.string (⟨#[]⟩ : ByteArray),.slice none 0 0,.slice none 0 0] 35 ?_; intro gb528 hg w89 hbox hb; have BK528 := y0.mk (hbox); have GW528 := y0.mk (qg (w := w) hg); have GE528 := y0.mk (qg (w := w) hg); replace HB := y0.mk (y4 qb hb); have NB503_528 := y0.mk (qn BK503.out hg); have NB528_503 := y0.mk (qm BK503.out hg); replace BK503 := y0.mk (qK BK503.out hb); clear hb hbox hg; have hnb90 := NB528_503.out; have hnc90 := NB503_528.out; obtain ⟨hcz91_0,hcz91_1,hcz91_2,hcz91_3,hcz91_4,hfz91_0,hfz91_1,hfz91_2,hfz91_3,hfz91_4⟩ := qz5 BK528.out) | ((with_reducible refine y15 (f := 30) rfl ?_); refine y17 (some 103) rfl rfl Try.func30 (by kernel_rfl) rfl #[.agg #[.slice A527_0 ((y20 l0_2 x98_3).f0).length c527_0,.int .i64 ((y20 l0_2 x98_3).f1.f0),.string ((y20 l0_2 x98_3).f1.f1),.slice A527_3 ((y20 l0_2 x98_3).f1.f2).length c527_3,.slice A527_4 ((y20 l0_2 x98_3).f2).length c527_4]] rfl qy0 ?_; (with_reducible refine (impl_ruleText.calls k3 _ _ ((y20 l0_2 x98_3).f0) ((y20 l0_2 x98_3).f1.f0) ((y20 l0_2 x98_3).f1.f1) _ _ ((y20 l0_2 x98_3).f1.f2) _ _ ((y20 l0_2 x98_3).f2) t529 _ (by exact Kd.C_below HR527_0.out qb) HC527_0.out (by exact Kd.C_below HR527_3.out qb) HC527_3.out (by exact Kd.C_below HR527_4.out qb) HC527_4.out A87.out).mono ?_); rintro e w92 ⟨rfl,hb⟩; refine ⟨_,rfl, ?_⟩; replace BK503 := y0.mk (y6 (g := gb503) (o := .cells #[.slice A0_0 l0_0.length c0_0,.slice A0_1 l0_1.length c0_1,.slice (some ad527) l0_2.length c0_2] 50 (0,0)) (by (with_reducible repeat (first | refine y9 ?_ _ | refine y8 ?_ | refine y5 ?_ _)); refine y10 ?_ NB503_528.out _; (with_reducible repeat (first | refine y9 ?_ _ | refine y8 ?_ | refine y5 ?_ _)); refine y10 ?_ NB503_528.out _; (with_reducible repeat (first | refine y9 ?_ _ | refine y8 ?_ | refine y5 ?_ _)); refine y10 ?_ NB503_528.out _; (with_reducible repeat (first | refine y9 ?_ _ | refine y8 ?_ | refine y5 ?_ _)); refine y10 ?_ NB503_528.out _; (with_reducible repeat (first | refine y9 ?_ _ | refine y8 ?_ | refine y5 ?_ _)); refine y10 ?_ NB503_528.out _; (with_reducible repeat (first | refine y9 ?_ _ | refine y8 ?_ | refine y5 ?_ _)); exact BK503.out) hb); replace BK528 := y0.mk (y6 (g := gb528) (o := .cells #[.slice A527_0 ((y20 l0_2 x98_3).f0).length c527_0,.int .i64 ((y20 l0_2 x98_3).f1.f0),.string ((y20 l0_2 x98_3).f1.f1),.slice A527_3 ((y20 l0_2 x98_3).f1.f2).length c527_3,.slice A527_4 ((y20 l0_2 x98_3).f2).length c527_4] 35 (0,0)) (by (with_reducible repeat (first | refine y9 ?_ _ | refine y8 ?_ | refine y5 ?_ _)); refine y11 (cs := #[.slice A527_0 ((y20 l0_2 x98_3).f0).length c527_0,.int .i64 ((y20 l0_2 x98_3).f1.f0),.string ((y20 l0_2 x98_3).f1.f1),.slice A527_3 ((y20 l0_2 x98_3).f1.f2).length c527_3,.slice none 0 0]) ?_ 4 _ rfl; (with_reducible repeat (first | refine y9 ?_ _ | refine y8 ?_ | refine y5 ?_ _)); refine y11 (cs := #[.slice A527_0 ((y20 l0_2 x98_3).f0).length c527_0,.int .i64 ((y20 l0_2 x98_3).f1.f0),.string ((y20 l0_2 x98_3).f1.f1),.slice none 0 0,.slice none 0 0]) ?_ 3 _ rfl; (with_reducible repeat (first | refine y9 ?_ _ | refine y8 ?_ | refine y5 ?_ _)); refine y11 (cs := #[.slice A527_0 ((y20 l0_2 x98_3).f0).length c527_0,.int .i64 ((y20 l0_2 x98_3).f1.f0),.string (⟨#[]⟩ : ByteArray),.slice none 0 0,.slice none 0 0]) ?_ 2 _ rfl; (with_reducible repeat (first | refine y9 ?_ _ | refine y8 ?_ | refine y5 ?_ _)); refine y11 (cs := #[.slice A527_0 ((y20 l0_2 x98_3).f0).length c527_0,.int .i64 0,.string (⟨#[]⟩ : ByteArray),.slice none 0 0,.slice none 0 0]) ?_ 1 _ rfl; (with_reducible repeat (first | refine y9 ?_ _ | refine y8 ?_ | refine y5 ?_ _)); refine y11 (cs := #[.slice none 0 0,.int .i64 0,.string (⟨#[]⟩ : ByteArray),.slice none 0 0,.slice none 0 0]) ?_ 0 _ rfl; (with_reducible repeat (first | refine y9 ?_ _ | refine y8 ?_ | refine y5 ?_ _)); exact BK528.out) hb); replace HB := y0.mk (y4 qb hb); (try clear hb); (try clear hb2); (try clear hk); (try clear hi)))
           go_ret
           exact ⟨by first | rfl | (simp [y12,y13] <;> rfl) | (simp [*,y12,y13] <;> rfl),qb⟩
          ·as_aux_lemma =>
           rw [if_neg c88] at H
           have c88b0 : (t529.toList == ([] : List UInt8)) = false := beq_eq_false_iff_ne.mpr c88
           have c88b1 : (t529.toList != ([] : List UInt8)) = true := bne_iff_ne.mpr c88
           by_cases c93 : (x3_3.size : Int) > 3000
           ·as_aux_lemma =>
            rw [if_pos c93] at H
            have c93b0 : decide (3000 < (x3_3.size : Int)) = true := decide_eq_true c93
            have c93b1 : decide (3000 < x3_3.size) = true := decide_eq_true (by omega)
            clear c93
            obtain rfl := Option.some.inj H
            have p527 : 0 ≤ (x98_3 : Int) := of_decide_eq_true qy1
            have q527 : x98_3 < (l0_2.length : Int) := of_decide_eq_true qy1
            obtain ⟨ad527,A527_0,c527_0,A527_3,c527_3,A527_4,c527_4,e527,hx527_0,hx527_1,hx527_2,hx527_3,hx527_4,hl527_0,hi527_0,hl527_3,hi527_3,hl527_4,hi527_4⟩ := at_T35 HR0_2.out x98_3 p527 q527
            cases e527
            replace hx527_0 := (HB.out.cell (World.block_lt_of_cell? w _ hx527_0)).trans hx527_0
            replace hx527_1 := (HB.out.cell (World.block_lt_of_cell? w _ hx527_1)).trans hx527_1
            replace hx527_2 := (HB.out.cell (World.block_lt_of_cell? w _ hx527_2)).trans hx527_2
            replace hx527_3 := (HB.out.cell (World.block_lt_of_cell? w _ hx527_3)).trans hx527_3
            replace hx527_4 := (HB.out.cell (World.block_lt_of_cell? w _ hx527_4)).trans hx527_4
            have HR527_0 := y0.mk hi527_0
            have HC527_0 := y0.mk hl527_0
            clear hi527_0 hl527_0
            have HR527_3 := y0.mk hi527_3
            have HC527_3 := y0.mk hl527_3
            clear hi527_3 hl527_3
            have HR527_4 := y0.mk hi527_4
            have HC527_4 := y0.mk hl527_4
            clear hi527_4 hl527_4
            replace p527 := eq_true p527
            replace q527 := eq_true q527
            go_wp2_with (first | ((with_reducible refine y16 (N := 13) rfl ?_); (try (refine gate_guard (by rfl) ?_; dsimp only)); refine qe 13 #[.slice none 0 0,.int .i64 0,.string (⟨#[]⟩ : ByteArray),.slice none 0 0,.slice none 0 0] 35 ?_; intro gb528 hg w94 hbox hb; have BK528 := y0.mk (hbox); have GW528 := y0.mk (qg (w := w) hg); have GE528 := y0.mk (qg (w := w) hg); replace HB := y0.mk (y4 qb hb); have NB503_528 := y0.mk (qn BK503.out hg); have NB528_503 := y0.mk (qm BK503.out hg); replace BK503 := y0.mk (qK BK503.out hb); clear hb hbox hg; have hnb95 := NB528_503.out; have hnc95 := NB503_528.out; obtain ⟨hcz96_0,hcz96_1,hcz96_2,hcz96_3,hcz96_4,hfz96_0,hfz96_1,hfz96_2,hfz96_3,hfz96_4⟩ := qz5 BK528.out) | ((with_reducible refine y15 (f := 30) rfl ?_); refine y17 (some 103) rfl rfl Try.func30 (by kernel_rfl) rfl #[.agg #[.slice A527_0 ((y20 l0_2 x98_3).f0).length c527_0,.int .i64 ((y20 l0_2 x98_3).f1.f0),.string ((y20 l0_2 x98_3).f1.f1),.slice A527_3 ((y20 l0_2 x98_3).f1.f2).length c527_3,.slice A527_4 ((y20 l0_2 x98_3).f2).length c527_4]] rfl qy0 ?_; (with_reducible refine (impl_ruleText.calls k3 _ _ ((y20 l0_2 x98_3).f0) ((y20 l0_2 x98_3).f1.f0) ((y20 l0_2 x98_3).f1.f1) _ _ ((y20 l0_2 x98_3).f1.f2) _ _ ((y20 l0_2 x98_3).f2) t529 _ (by exact Kd.C_below HR527_0.out qb) HC527_0.out (by exact Kd.C_below HR527_3.out qb) HC527_3.out (by exact Kd.C_below HR527_4.out qb) HC527_4.out A87.out).mono ?_); rintro e w97 ⟨rfl,hb⟩; refine ⟨_,rfl, ?_⟩; replace BK503 := y0.mk (y6 (g := gb503) (o := .cells #[.slice A0_0 l0_0.length c0_0,.slice A0_1 l0_1.length c0_1,.slice (some ad527) l0_2.length c0_2] 50 (0,0)) (by (with_reducible repeat (first | refine y9 ?_ _ | refine y8 ?_ | refine y5 ?_ _)); refine y10 ?_ NB503_528.out _; (with_reducible repeat (first | refine y9 ?_ _ | refine y8 ?_ | refine y5 ?_ _)); refine y10 ?_ NB503_528.out _; (with_reducible repeat (first | refine y9 ?_ _ | refine y8 ?_ | refine y5 ?_ _)); refine y10 ?_ NB503_528.out _; (with_reducible repeat (first | refine y9 ?_ _ | refine y8 ?_ | refine y5 ?_ _)); refine y10 ?_ NB503_528.out _; (with_reducible repeat (first | refine y9 ?_ _ | refine y8 ?_ | refine y5 ?_ _)); refine y10 ?_ NB503_528.out _; (with_reducible repeat (first | refine y9 ?_ _ | refine y8 ?_ | refine y5 ?_ _)); exact BK503.out) hb); replace BK528 := y0.mk (y6 (g := gb528) (o := .cells #[.slice A527_0 ((y20 l0_2 x98_3).f0).length c527_0,.int .i64 ((y20 l0_2 x98_3).f1.f0),.string ((y20 l0_2 x98_3).f1.f1),.slice A527_3 ((y20 l0_2 x98_3).f1.f2).length c527_3,.slice A527_4 ((y20 l0_2 x98_3).f2).length c527_4] 35 (0,0)) (by (with_reducible repeat (first | refine y9 ?_ _ | refine y8 ?_ | refine y5 ?_ _)); refine y11 (cs := #[.slice A527_0 ((y20 l0_2 x98_3).f0).length c527_0,.int .i64 ((y20 l0_2 x98_3).f1.f0),.string ((y20 l0_2 x98_3).f1.f1),.slice A527_3 ((y20 l0_2 x98_3).f1.f2).length c527_3,.slice none 0 0]) ?_ 4 _ rfl; (with_reducible repeat (first | refine y9 ?_ _ | refine y8 ?_ | refine y5 ?_ _)); refine y11 (cs := #[.slice A527_0 ((y20 l0_2 x98_3).f0).length c527_0,.int .i64 ((y20 l0_2 x98_3).f1.f0),.string ((y20 l0_2 x98_3).f1.f1),.slice none 0 0,.slice none 0 0]) ?_ 3 _ rfl; (with_reducible repeat (first | refine y9 ?_ _ | refine y8 ?_ | refine y5 ?_ _)); refine y11 (cs := #[.slice A527_0 ((y20 l0_2 x98_3).f0).length c527_0,.int .i64 ((y20 l0_2 x98_3).f1.f0),.string (⟨#[]⟩ : ByteArray),.slice none 0 0,.slice none 0 0]) ?_ 2 _ rfl; (with_reducible repeat (first | refine y9 ?_ _ | refine y8 ?_ | refine y5 ?_ _)); refine y11 (cs := #[.slice A527_0 ((y20 l0_2 x98_3).f0).length c527_0,.int .i64 0,.string (⟨#[]⟩ : ByteArray),.slice none 0 0,.slice none 0 0]) ?_ 1 _ rfl; (with_reducible repeat (first | refine y9 ?_ _ | refine y8 ?_ | refine y5 ?_ _)); refine y11 (cs := #[.slice none 0 0,.int .i64 0,.string (⟨#[]⟩ : ByteArray),.slice none 0 0,.slice none 0 0]) ?_ 0 _ rfl; (with_reducible repeat (first | refine y9 ?_ _ | refine y8 ?_ | refine y5 ?_ _)); exact BK528.out) hb); replace HB := y0.mk (y4 qb hb); (try clear hb); (try clear hb2); (try clear hk); (try clear hi)))
            go_ret
            exact ⟨by first | rfl | (simp [y12,y13] <;> rfl) | (simp [*,y12,y13] <;> rfl),qb⟩
           ·as_aux_lemma =>
            rw [if_neg c93] at H
            have c93b0 : decide (3000 < (x3_3.size : Int)) = false := decide_eq_false c93
            have c93b1 : decide (3000 < x3_3.size) = false := decide_eq_false (by omega)
            clear c93
            obtain ⟨c98,H⟩ := qo H
            have c98b0 := eq_true c98
            have c98b1 := decide_eq_true c98
            have c98b2 := eq_false (Nat.not_lt.2 c98)
            obtain ⟨c99,H⟩ := qo H
            have c99b0 := eq_true c99
            have c99b1 := decide_eq_true c99
            have c99b2 := eq_false (Nat.not_lt.2 c99)
            have c99b3 : (9223372036854775807 < x3_3.size + t529.size + 1) = False := qs c99b2
            have c99b7 : (9223372036854775807 < x3_3.size + (t529.size + 1)) = False := qs c99b2
            have c99b9 : (9223372036854775807 < x3_3.size + (t529.size + 1)) = False := qs c99b2
            have H' := y0.mk H
            clear H
            have p527 : 0 ≤ (x98_3 : Int) := of_decide_eq_true qy1
            have q527 : x98_3 < (l0_2.length : Int) := of_decide_eq_true qy1
            obtain ⟨ad527,A527_0,c527_0,A527_3,c527_3,A527_4,c527_4,e527,hx527_0,hx527_1,hx527_2,hx527_3,hx527_4,hl527_0,hi527_0,hl527_3,hi527_3,hl527_4,hi527_4⟩ := at_T35 HR0_2.out x98_3 p527 q527
            cases e527
            replace hx527_0 := (HB.out.cell (World.block_lt_of_cell? w _ hx527_0)).trans hx527_0
            replace hx527_1 := (HB.out.cell (World.block_lt_of_cell? w _ hx527_1)).trans hx527_1
            replace hx527_2 := (HB.out.cell (World.block_lt_of_cell? w _ hx527_2)).trans hx527_2
            replace hx527_3 := (HB.out.cell (World.block_lt_of_cell? w _ hx527_3)).trans hx527_3
            replace hx527_4 := (HB.out.cell (World.block_lt_of_cell? w _ hx527_4)).trans hx527_4
            have HR527_0 := y0.mk hi527_0
            have HC527_0 := y0.mk hl527_0
            clear hi527_0 hl527_0
            have HR527_3 := y0.mk hi527_3
            have HC527_3 := y0.mk hl527_3
            clear hi527_3 hl527_3
            have HR527_4 := y0.mk hi527_4
            have HC527_4 := y0.mk hl527_4
            clear hi527_4 hl527_4
            replace p527 := eq_true p527
            replace q527 := eq_true q527
            go_wp2_with (first | ((with_reducible refine y16 (N := 13) rfl ?_); (try (refine gate_guard (by rfl) ?_; dsimp only)); refine qe 13 #[.slice none 0 0,.int .i64 0,.string (⟨#[]⟩ : ByteArray),.slice none 0 0,.slice none 0 0] 35 ?_; intro gb528 hg w100 hbox hb; have BK528 := y0.mk (hbox); have GW528 := y0.mk (qg (w := w) hg); have GE528 := y0.mk (qg (w := w) hg); replace HB := y0.mk (y4 qb hb); have NB503_528 := y0.mk (qn BK503.out hg); have NB528_503 := y0.mk (qm BK503.out hg); replace BK503 := y0.mk (qK BK503.out hb); clear hb hbox hg; have hnb101 := NB528_503.out; have hnc101 := NB503_528.out; obtain ⟨hcz102_0,hcz102_1,hcz102_2,hcz102_3,hcz102_4,hfz102_0,hfz102_1,hfz102_2,hfz102_3,hfz102_4⟩ := qz5 BK528.out) | ((with_reducible refine y15 (f := 30) rfl ?_); refine y17 (some 103) rfl rfl Try.func30 (by kernel_rfl) rfl #[.agg #[.slice A527_0 ((y20 l0_2 x98_3).f0).length c527_0,.int .i64 ((y20 l0_2 x98_3).f1.f0),.string ((y20 l0_2 x98_3).f1.f1),.slice A527_3 ((y20 l0_2 x98_3).f1.f2).length c527_3,.slice A527_4 ((y20 l0_2 x98_3).f2).length c527_4]] rfl qy0 ?_; (with_reducible refine (impl_ruleText.calls k3 _ _ ((y20 l0_2 x98_3).f0) ((y20 l0_2 x98_3).f1.f0) ((y20 l0_2 x98_3).f1.f1) _ _ ((y20 l0_2 x98_3).f1.f2) _ _ ((y20 l0_2 x98_3).f2) t529 _ (by exact Kd.C_below HR527_0.out qb) HC527_0.out (by exact Kd.C_below HR527_3.out qb) HC527_3.out (by exact Kd.C_below HR527_4.out qb) HC527_4.out A87.out).mono ?_); rintro e w103 ⟨rfl,hb⟩; refine ⟨_,rfl, ?_⟩; replace BK503 := y0.mk (y6 (g := gb503) (o := .cells #[.slice A0_0 l0_0.length c0_0,.slice A0_1 l0_1.length c0_1,.slice (some ad527) l0_2.length c0_2] 50 (0,0)) (by (with_reducible repeat (first | refine y9 ?_ _ | refine y8 ?_ | refine y5 ?_ _)); refine y10 ?_ NB503_528.out _; (with_reducible repeat (first | refine y9 ?_ _ | refine y8 ?_ | refine y5 ?_ _)); refine y10 ?_ NB503_528.out _; (with_reducible repeat (first | refine y9 ?_ _ | refine y8 ?_ | refine y5 ?_ _)); refine y10 ?_ NB503_528.out _; (with_reducible repeat (first | refine y9 ?_ _ | refine y8 ?_ | refine y5 ?_ _)); refine y10 ?_ NB503_528.out _; (with_reducible repeat (first | refine y9 ?_ _ | refine y8 ?_ | refine y5 ?_ _)); refine y10 ?_ NB503_528.out _; (with_reducible repeat (first | refine y9 ?_ _ | refine y8 ?_ | refine y5 ?_ _)); exact BK503.out) hb); replace BK528 := y0.mk (y6 (g := gb528) (o := .cells #[.slice A527_0 ((y20 l0_2 x98_3).f0).length c527_0,.int .i64 ((y20 l0_2 x98_3).f1.f0),.string ((y20 l0_2 x98_3).f1.f1),.slice A527_3 ((y20 l0_2 x98_3).f1.f2).length c527_3,.slice A527_4 ((y20 l0_2 x98_3).f2).length c527_4] 35 (0,0)) (by (with_reducible repeat (first | refine y9 ?_ _ | refine y8 ?_ | refine y5 ?_ _)); refine y11 (cs := #[.slice A527_0 ((y20 l0_2 x98_3).f0).length c527_0,.int .i64 ((y20 l0_2 x98_3).f1.f0),.string ((y20 l0_2 x98_3).f1.f1),.slice A527_3 ((y20 l0_2 x98_3).f1.f2).length c527_3,.slice none 0 0]) ?_ 4 _ rfl; (with_reducible repeat (first | refine y9 ?_ _ | refine y8 ?_ | refine y5 ?_ _)); refine y11 (cs := #[.slice A527_0 ((y20 l0_2 x98_3).f0).length c527_0,.int .i64 ((y20 l0_2 x98_3).f1.f0),.string ((y20 l0_2 x98_3).f1.f1),.slice none 0 0,.slice none 0 0]) ?_ 3 _ rfl; (with_reducible repeat (first | refine y9 ?_ _ | refine y8 ?_ | refine y5 ?_ _)); refine y11 (cs := #[.slice A527_0 ((y20 l0_2 x98_3).f0).length c527_0,.int .i64 ((y20 l0_2 x98_3).f1.f0),.string (⟨#[]⟩ : ByteArray),.slice none 0 0,.slice none 0 0]) ?_ 2 _ rfl; (with_reducible repeat (first | refine y9 ?_ _ | refine y8 ?_ | refine y5 ?_ _)); refine y11 (cs := #[.slice A527_0 ((y20 l0_2 x98_3).f0).length c527_0,.int .i64 0,.string (⟨#[]⟩ : ByteArray),.slice none 0 0,.slice none 0 0]) ?_ 1 _ rfl; (with_reducible repeat (first | refine y9 ?_ _ | refine y8 ?_ | refine y5 ?_ _)); refine y11 (cs := #[.slice none 0 0,.int .i64 0,.string (⟨#[]⟩ : ByteArray),.slice none 0 0,.slice none 0 0]) ?_ 0 _ rfl; (with_reducible repeat (first | refine y9 ?_ _ | refine y8 ?_ | refine y5 ?_ _)); exact BK528.out) hb); replace HB := y0.mk (y4 qb hb); (try clear hb); (try clear hb2); (try clear hk); (try clear hi)))
            go_roundg k3
            case measure => have := HK1.out; have := HK2.out; have := HK3.out; omega
            exact ⟨(x3_3 ++ (t529 ++ (⟨#[10]⟩ : ByteArray))),(wrap64 (x98_3 + 1)),qy2,qy2,H',⟨by have := HK1.out; have := HK2.out; have := HK3.out; omega⟩,⟨qk BK503.out⟩,⟨qb⟩⟩
         ·as_aux_lemma =>
          rw [if_neg c84] at H
          have c84b0 := decide_eq_false c84
          clear c84
          by_cases c104 : (x3_3.size : Int) > 3000
          ·as_aux_lemma =>
           rw [if_pos c104] at H
           have c104b0 : decide (3000 < (x3_3.size : Int)) = true := decide_eq_true c104
           have c104b1 : decide (3000 < x3_3.size) = true := decide_eq_true (by omega)
           clear c104
           obtain rfl := Option.some.inj H
           go_wp2
           go_ret
           exact ⟨by first | rfl | (simp [y12,y13] <;> rfl) | (simp [*,y12,y13] <;> rfl),qb⟩
          ·as_aux_lemma =>
           rw [if_neg c104] at H
           have c104b0 : decide (3000 < (x3_3.size : Int)) = false := decide_eq_false c104
           have c104b1 : decide (3000 < x3_3.size) = false := decide_eq_false (by omega)
           clear c104
           obtain rfl := Option.some.inj H
           go_wp2
           go_ret
           exact ⟨by first | rfl | (simp [y12,y13] <;> rfl) | (simp [*,y12,y13] <;> rfl),qb⟩
end Go.Proofs.Ytamjmldfifofbaa.Pp
end
section
namespace Go.Proofs.Ytamjmldfifofbaa.Pp
open Go.RowKit Go.Proofs.YtamjmldfifofbaaW.PrintWords Go.Proofs.YtamjmldfifofbaaW.PrintLast Go.Proofs.YtamjmldfifofbaaW.PrintMore
attribute [local go_sem] max2_int min2_int max_two min_two max_three min_three max_four min_four   -- for this text's walks alone
set_option linter.unusedVariables false
set_option linter.unusedSimpArgs false
def impl_ProgText.f (k : Nat) (l0_0 : List (S78)) (l0_1 : List (S84)) (l0_2 : List (S35)) : Option (ByteArray) := (z4_.f k l0_0 l0_1 l0_2).bind fun t531 => (some t531)
set_option maxHeartbeats 8000000 in
set_option maxRecDepth 100000 in
theorem impl_ProgText.calls (k : Nat) (A0_0 : Option Addr) (c0_0 : Nat) (l0_0 : List (S78)) (A0_1 : Option Addr) (c0_1 : Nat) (l0_1 : List (S84)) (A0_2 : Option Addr) (c0_2 : Nat) (l0_2 : List (S35)) (r : ByteArray) (w : World) (hr0_0 : Kd.C k78 w A0_0 l0_0.length l0_0) (hc0_0 : l0_0.length ≤ c0_0) (hr0_1 : Kd.C k84 w A0_1 l0_1.length l0_1) (hc0_1 : l0_1.length ≤ c0_1) (hr0_2 : Kd.C k35 w A0_2 l0_2.length l0_2) (hc0_2 : l0_2.length ≤ c0_2) (h : impl_ProgText.f k l0_0 l0_1 l0_2 = some r) :
  Calls Try.prog 14 #[.agg #[.slice A0_0 l0_0.length c0_0,.slice A0_1 l0_1.length c0_1,.slice A0_2 l0_2.length c0_2]] w fun e w' => e = .returned (.string r) ∧ Below w.heap.size w w' := by
 have hu50 := Try.underlying50
 have HR0_0 := y0.mk hr0_0
 have HC0_0 := y0.mk hc0_0
 clear hr0_0 hc0_0
 have HR0_1 := y0.mk hr0_1
 have HC0_1 := y0.mk hc0_1
 clear hr0_1 hc0_1
 have HR0_2 := y0.mk hr0_2
 have HC0_2 := y0.mk hc0_2
 clear hr0_2 hc0_2
 have HB := y0.mk (Below.refl w.heap.size w)
 have H : ((z4_.f k l0_0 l0_1 l0_2).bind fun t531 => (some t531)) = some r := h
 clear h
 obtain ⟨t531,A2,H⟩ := qB H
 obtain rfl := Option.some.inj H
 go_enter Try.func14,Try.ntmps14
 go_wp2_with (first | ((with_reducible refine y16 (N := 1) rfl ?_); refine qe 1 #[.slice A0_0 l0_0.length c0_0,.slice A0_1 l0_1.length c0_1,.slice A0_2 l0_2.length c0_2] 50 ?_; intro gb530 hg w3 hbox hb; have BK530 := y0.mk (hbox); have GW530 := y0.mk (qg (w := w) hg); have GE530 := y0.mk (qg (w := w) hg); replace HB := y0.mk (y4 qb hb); clear hb hbox hg; obtain ⟨hcz4_0,hcz4_1,hcz4_2,hfz4_0,hfz4_1,hfz4_2⟩ := qz3 BK530.out) | ((with_reducible refine y15 (f := 42) rfl ?_); refine y17 (some 4) rfl rfl Try.func42 (by kernel_rfl) rfl #[.agg #[.slice A0_0 l0_0.length c0_0,.slice A0_1 l0_1.length c0_1,.slice A0_2 l0_2.length c0_2]] rfl qy0 ?_; (with_reducible refine (z4_.calls k _ _ l0_0 _ _ l0_1 _ _ l0_2 t531 _ (qc (Kd.C_below HR0_0.out HB.out)) HC0_0.out (qc (Kd.C_below HR0_1.out HB.out)) HC0_1.out (qc (Kd.C_below HR0_2.out HB.out)) HC0_2.out A2.out).mono ?_); rintro e w5 ⟨rfl,hb⟩; refine ⟨_,rfl, ?_⟩; replace BK530 := y0.mk (qK BK530.out hb); replace HB := y0.mk (y4 qb hb); (try clear hb); (try clear hb2); (try clear hk); (try clear hi)))
 go_ret
 exact ⟨by first | rfl | (simp [y12,y13] <;> rfl) | (simp [*,y12,y13] <;> rfl),qb⟩
def laws_eqStringS.l0 : Nat → List ByteArray → List ByteArray → Int → Option (Bool)
 | 0,_,_,_ => none
 | k + 1,x0,x1,x5 => if x5 < (x0.length : Int) then (if 0 ≤ x5 then (if x5 < (x1.length : Int) then (if (rdOf ByteArray.empty x0 x5).toList = (rdOf ByteArray.empty x1 x5).toList then (laws_eqStringS.l0 k x0 x1 (wrap64 (x5 + 1))) else (some false)) else (none)) else (none)) else (some true)
def laws_eqStringS.f (k : Nat) (l0 : List ByteArray) (l1 : List ByteArray) : Option (Bool) := if (l0.length : Int) = (l1.length : Int) then (laws_eqStringS.l0 k l0 l1 0) else (some false)
set_option maxHeartbeats 8000000 in
set_option maxRecDepth 100000 in
theorem laws_eqStringS.calls (k : Nat) (A0 : Option Addr) (c0 : Nat) (l0 : List ByteArray) (A1 : Option Addr) (c1 : Nat) (l1 : List ByteArray) (r : Bool) (w : World) (hr0 : Kd.C Kd.string w A0 l0.length l0) (hc0 : l0.length ≤ c0) (hr1 : Kd.C Kd.string w A1 l1.length l1) (hc1 : l1.length ≤ c1) (h : laws_eqStringS.f k l0 l1 = some r) (htrue_ : r = true) :
  Calls Try.prog 18 #[.slice A0 l0.length c0,.slice A1 l1.length c1] w fun e w' => e = .returned (.bool r) ∧ y1 w w' := by
 have HR0 := y0.mk hr0
 have HC0 := y0.mk hc0
 clear hr0 hc0
 have HR1 := y0.mk hr1
 have HC1 := y0.mk hc1
 clear hr1 hc1
 have H : (if (l0.length : Int) = (l1.length : Int) then (laws_eqStringS.l0 k l0 l1 0) else (some false)) = some r := h
 clear h
 by_cases c3 : (l0.length : Int) = (l1.length : Int)
 ·rw [if_pos c3] at H
  have c3b0 : ((l0.length : Int) == (l1.length : Int)) = true := beq_iff_eq.mpr c3
  have c3b1 : ((l0.length : Int) != (l1.length : Int)) = false := bne_eq_false_iff_eq.mpr c3
  have c3b2 : (l0.length == l1.length) = true := by first | simpa using c3 | (simp at c3 ⊢; omega)
  clear c3
  have H' := y0.mk H
  clear H
  go_enter Try.func18,Try.ntmps18
  go_wp2
  repeat (go_quiet (fail); try go_wp2)
  go_loopg [5] k (fun kq v5 w' => ∃ (x5_1 : Int),v5 = .int .i64 x5_1 ∧ y0 (laws_eqStringS.l0 kq l0 l1 x5_1 = some r) ∧ y0 (kq ≤ k) ∧ y1 w w')
  case atStart => exact ⟨(0),qy2,H',⟨Nat.le_refl _⟩,by repeat (first | exact y1.refl _ | apply y1.step)⟩
  case round =>
   clear H'
   (try clear c3b0 c3b1 c3b2)
   obtain ⟨x5_1,rfl,HA,HK1,⟨m1,rfl⟩⟩ := hrel
   cases gk with
   | zero => exact absurd HA.out (by simp [laws_eqStringS.l0])
   | succ k1 =>
    have H := HA.out
    clear HA
    simp only [laws_eqStringS.l0] at H
    by_cases c4 : x5_1 < (l0.length : Int)
    ·rw [if_pos c4] at H
     have c4b0 := decide_eq_true c4
     clear c4
     obtain ⟨c5,H⟩ := qo H
     have c5b0 : decide (0 ≤ x5_1) = true := decide_eq_true c5
     clear c5
     obtain ⟨c6,H⟩ := qo H
     have c6b0 : decide (x5_1 < (l1.length : Int)) = true := decide_eq_true c6
     clear c6
     by_cases c7 : (rdOf ByteArray.empty l0 x5_1).toList = (rdOf ByteArray.empty l1 x5_1).toList
     ·rw [if_pos c7] at H
      have c7b0 : ((rdOf ByteArray.empty l0 x5_1).toList == (rdOf ByteArray.empty l1 x5_1).toList) = true := beq_iff_eq.mpr c7
      have c7b1 : ((rdOf ByteArray.empty l0 x5_1).toList != (rdOf ByteArray.empty l1 x5_1).toList) = false := bne_eq_false_iff_eq.mpr c7
      clear c7
      have H' := y0.mk H
      clear H
      have p532 : 0 ≤ (x5_1 : Int) := of_decide_eq_true qy1
      have q532 : x5_1 < (l0.length : Int) := of_decide_eq_true qy1
      obtain ⟨ad532,e532,hx532_0⟩ := Kd.at_string HR0.out x5_1 p532 q532
      cases e532
      replace p532 := eq_true p532
      replace q532 := eq_true q532
      have p533 : 0 ≤ (x5_1 : Int) := of_decide_eq_true qy1
      have q533 : x5_1 < (l1.length : Int) := of_decide_eq_true qy1
      obtain ⟨ad533,e533,hx533_0⟩ := Kd.at_string HR1.out x5_1 p533 q533
      cases e533
      replace p533 := eq_true p533
      replace q533 := eq_true q533
      go_wp2
      repeat (go_quiet (fail); try go_wp2)
      go_roundg k1
      case measure => have := HK1.out; omega
      exact ⟨(wrap64 (x5_1 + 1)),qy2,H',⟨by have := HK1.out; omega⟩,by repeat (first | exact y1.refl _ | apply y1.step)⟩
     ·rw [if_neg c7] at H
      have c7b0 : ((rdOf ByteArray.empty l0 x5_1).toList == (rdOf ByteArray.empty l1 x5_1).toList) = false := beq_eq_false_iff_ne.mpr c7
      have c7b1 : ((rdOf ByteArray.empty l0 x5_1).toList != (rdOf ByteArray.empty l1 x5_1).toList) = true := bne_iff_ne.mpr c7
      exact absurd ((Option.some.inj H).trans htrue_) (by decide)
    ·rw [if_neg c4] at H
     have c4b0 := decide_eq_false c4
     clear c4
     obtain rfl := Option.some.inj H
     go_wp2
     repeat (go_quiet (fail); try go_wp2)
     go_ret
     exact ⟨by first | rfl | (simp; done) | (simp [*]; done),by repeat (first | exact y1.refl _ | apply y1.step)⟩
 ·rw [if_neg c3] at H
  have c3b0 : ((l0.length : Int) == (l1.length : Int)) = false := beq_eq_false_iff_ne.mpr c3
  have c3b1 : ((l0.length : Int) != (l1.length : Int)) = true := bne_iff_ne.mpr c3
  have c3b2 : (l0.length == l1.length) = false := by first | simpa using c3 | (simp at c3 ⊢; omega)
  exact absurd ((Option.some.inj H).trans htrue_) (by decide)
def laws_eqCon.f (k : Nat) (a0_0 : ByteArray) (l0_1 : List ByteArray) (a1_0 : ByteArray) (l1_1 : List ByteArray) : Option (Bool) := if a0_0.toList = a1_0.toList then ((laws_eqStringS.f k l0_1 l1_1).bind fun t536 => (if t536 = true then (some true) else (some false))) else (some false)
set_option maxHeartbeats 8000000 in
set_option maxRecDepth 100000 in
theorem laws_eqCon.calls (k : Nat) (a0_0 : ByteArray) (A0_1 : Option Addr) (c0_1 : Nat) (l0_1 : List ByteArray) (a1_0 : ByteArray) (A1_1 : Option Addr) (c1_1 : Nat) (l1_1 : List ByteArray) (r : Bool) (w : World) (hr0_1 : Kd.C Kd.string w A0_1 l0_1.length l0_1) (hc0_1 : l0_1.length ≤ c0_1) (hr1_1 : Kd.C Kd.string w A1_1 l1_1.length l1_1) (hc1_1 : l1_1.length ≤ c1_1) (h : laws_eqCon.f k a0_0 l0_1 a1_0 l1_1 = some r) (htrue_ : r = true) :
  Calls Try.prog 98 #[.agg #[.string a0_0,.slice A0_1 l0_1.length c0_1],.agg #[.string a1_0,.slice A1_1 l1_1.length c1_1]] w fun e w' => e = .returned (.bool r) ∧ Below w.heap.size w w' := by
 have hu80 := Try.underlying80
 have HR0_1 := y0.mk hr0_1
 have HC0_1 := y0.mk hc0_1
 clear hr0_1 hc0_1
 have HR1_1 := y0.mk hr1_1
 have HC1_1 := y0.mk hc1_1
 clear hr1_1 hc1_1
 have HB := y0.mk (Below.refl w.heap.size w)
 have H : (if a0_0.toList = a1_0.toList then ((laws_eqStringS.f k l0_1 l1_1).bind fun t536 => (if t536 = true then (some true) else (some false))) else (some false)) = some r := h
 clear h
 by_cases c3 : a0_0.toList = a1_0.toList
 ·rw [if_pos c3] at H
  have c3b0 : (a0_0.toList == a1_0.toList) = true := beq_iff_eq.mpr c3
  have c3b1 : (a0_0.toList != a1_0.toList) = false := bne_eq_false_iff_eq.mpr c3
  clear c3
  obtain ⟨t536,A4,H⟩ := qB H
  by_cases c5 : t536 = true
  ·subst c5
   replace H := qT H
   obtain rfl := Option.some.inj H
   go_enter Try.func98,Try.ntmps98
   go_wp2_with (first | ((with_reducible refine y16 (N := 2) rfl ?_); refine qe 2 #[.string a0_0,.slice A0_1 l0_1.length c0_1] 80 ?_; intro gb534 hg w6 hbox hb; have BK534 := y0.mk (hbox); have GW534 := y0.mk (qg (w := w) hg); have GE534 := y0.mk (qg (w := w) hg); replace HB := y0.mk (y4 qb hb); clear hb hbox hg) | ((with_reducible refine y16 (N := 3) rfl ?_); refine qe 3 #[.string a1_0,.slice A1_1 l1_1.length c1_1] 80 ?_; intro gb535 hg w7 hbox hb; have BK535 := y0.mk (hbox); have GW535 := y0.mk (qg (w := w) hg); have GE535 := y0.mk (qg (w := w) hg); replace HB := y0.mk (y4 qb hb); have NB534_535 := y0.mk (qn BK534.out hg); have NB535_534 := y0.mk (qm BK534.out hg); replace BK534 := y0.mk (qK BK534.out hb); clear hb hbox hg; have hnb8 := NB534_535.out; have hnc8 := NB535_534.out; obtain ⟨hcz9_0,hcz9_1,hfz9_0,hfz9_1⟩ := qz2 BK534.out; obtain ⟨hcz10_0,hcz10_1,hfz10_0,hfz10_1⟩ := qz2 BK535.out) | ((with_reducible refine y15 (f := 18) rfl ?_); refine y17 (some 14) rfl rfl Try.func18 (by kernel_rfl) rfl #[.slice A0_1 l0_1.length c0_1,.slice A1_1 l1_1.length c1_1] rfl qy0 ?_; (with_reducible refine (laws_eqStringS.calls k _ _ l0_1 _ _ l1_1 true _ (qc (Kd.C_below HR0_1.out HB.out)) HC0_1.out (qc (Kd.C_below HR1_1.out HB.out)) HC1_1.out A4.out rfl).mono ?_); rintro e w' ⟨rfl,⟨nd,rfl⟩⟩; refine ⟨_,rfl, ?_⟩))
   go_ret
   exact ⟨by first | rfl | (simp [y12,y13] <;> rfl) | (simp [*,y12,y13] <;> rfl),qb⟩
  ·replace c5 := Bool.eq_false_iff.mpr c5
   subst c5
   replace H := qF H
   exact absurd ((Option.some.inj H).trans htrue_) (by decide)
 ·rw [if_neg c3] at H
  have c3b0 : (a0_0.toList == a1_0.toList) = false := beq_eq_false_iff_ne.mpr c3
  have c3b1 : (a0_0.toList != a1_0.toList) = true := bne_iff_ne.mpr c3
  exact absurd ((Option.some.inj H).trans htrue_) (by decide)
def laws_eqConS.l0 : Nat → List (S80) → List (S80) → Int → Option (Bool)
 | 0,_,_,_ => none
 | k + 1,x0,x1,x5 => if x5 < (x0.length : Int) then (if 0 ≤ x5 then (if x5 < (x1.length : Int) then ((laws_eqCon.f k ((y22 x0 x5).f0) ((y22 x0 x5).f1) ((y22 x1 x5).f0) ((y22 x1 x5).f1)).bind fun t539 => (if t539 = true then (laws_eqConS.l0 k x0 x1 (wrap64 (x5 + 1))) else (some false))) else (none)) else (none)) else (some true)
def laws_eqConS.f (k : Nat) (l0 : List (S80)) (l1 : List (S80)) : Option (Bool) := if (l0.length : Int) = (l1.length : Int) then (laws_eqConS.l0 k l0 l1 0) else (some false)
def laws_eqConS.T6 : Bool × List (List Nat × List Nat) := (true,[([],[]),([],[]),([0,1],[0,1]),([2],[2]),([],[]),([],[]),([4,5],[4,5]),([6],[6]),([3,7],[3,7]),([8],[8])])
def laws_eqConS.B6 : List Nat := [0,0,3,7,0,0,48,112,255,511]
theorem laws_eqConS.tab6 : rtab .any (opsOf Try.f89 6) = laws_eqConS.T6 := by kernel_rfl
theorem laws_eqConS.bits6 : waitsOk laws_eqConS.T6.2 laws_eqConS.B6 = true := by kernel_rfl
set_option maxHeartbeats 8000000 in
set_option maxRecDepth 100000 in
theorem laws_eqConS.calls (k : Nat) (A0 : Option Addr) (c0 : Nat) (l0 : List (S80)) (A1 : Option Addr) (c1 : Nat) (l1 : List (S80)) (r : Bool) (w : World) (hr0 : Kd.C k80 w A0 l0.length l0) (hc0 : l0.length ≤ c0) (hr1 : Kd.C k80 w A1 l1.length l1) (hc1 : l1.length ≤ c1) (h : laws_eqConS.f k l0 l1 = some r) (htrue_ : r = true) :
  Calls Try.prog 89 #[.slice A0 l0.length c0,.slice A1 l1.length c1] w fun e w' => e = .returned (.bool r) ∧ Below w.heap.size w w' := by
 have hu80 := Try.underlying80
 have HR0 := y0.mk hr0
 have HC0 := y0.mk hc0
 clear hr0 hc0
 have HR1 := y0.mk hr1
 have HC1 := y0.mk hc1
 clear hr1 hc1
 have HB := y0.mk (Below.refl w.heap.size w)
 have H : (if (l0.length : Int) = (l1.length : Int) then (laws_eqConS.l0 k l0 l1 0) else (some false)) = some r := h
 clear h
 by_cases c3 : (l0.length : Int) = (l1.length : Int)
 ·rw [if_pos c3] at H
  have c3b0 : ((l0.length : Int) == (l1.length : Int)) = true := beq_iff_eq.mpr c3
  have c3b1 : ((l0.length : Int) != (l1.length : Int)) = false := bne_eq_false_iff_eq.mpr c3
  have c3b2 : (l0.length == l1.length) = true := by first | simpa using c3 | (simp at c3 ⊢; omega)
  clear c3
  have H' := y0.mk H
  clear H
  go_enter Try.func89,Try.ntmps89
  go_wp2
  go_loopg [5] k (fun kq v5 w' => ∃ (x5_1 : Int),v5 = .int .i64 x5_1 ∧ y0 (laws_eqConS.l0 kq l0 l1 x5_1 = some r) ∧ y0 (kq ≤ k) ∧ y0 (Below w.heap.size w w'))
  case atStart => exact ⟨(0),qy2,H',⟨Nat.le_refl _⟩,⟨qb⟩⟩
  case round =>
   clear H'
   (try clear c3b0 c3b1 c3b2)
   obtain ⟨x5_1,rfl,HA,HK1,HB⟩ := hrel
   cases gk with
   | zero => exact absurd HA.out (by simp [laws_eqConS.l0])
   | succ k1 =>
    have H := HA.out
    clear HA
    simp only [laws_eqConS.l0] at H
    by_cases c4 : x5_1 < (l0.length : Int)
    ·rw [if_pos c4] at H
     have c4b0 := decide_eq_true c4
     clear c4
     obtain ⟨c5,H⟩ := qo H
     have c5b0 : decide (0 ≤ x5_1) = true := decide_eq_true c5
     clear c5
     obtain ⟨c6,H⟩ := qo H
     have c6b0 : decide (x5_1 < (l1.length : Int)) = true := decide_eq_true c6
     clear c6
     obtain ⟨t539,A7,H⟩ := qB H
     by_cases c8 : t539 = true
     ·subst c8
      replace H := qT H
      have H' := y0.mk H
      clear H
      try go_wp2
      replace HB := y0.mk (below_drew1 HB.out)
      have p537 : 0 ≤ (x5_1 : Int) := of_decide_eq_true qy1
      have q537 : x5_1 < (l0.length : Int) := of_decide_eq_true qy1
      obtain ⟨ad537,A537_1,c537_1,e537,hx537_0,hx537_1,hl537_1,hi537_1⟩ := at_T80 HR0.out x5_1 p537 q537
      have hw537_1 := hx537_1
      have hw537_0 := hx537_0
      cases e537
      replace hx537_0 := (HB.out.cell (World.block_lt_of_cell? w _ hx537_0)).trans hx537_0
      replace hx537_1 := (HB.out.cell (World.block_lt_of_cell? w _ hx537_1)).trans hx537_1
      have HR537_1 := y0.mk hi537_1
      have HC537_1 := y0.mk hl537_1
      clear hi537_1 hl537_1
      replace p537 := eq_true p537
      replace q537 := eq_true q537
      have p538 : 0 ≤ (x5_1 : Int) := of_decide_eq_true qy1
      have q538 : x5_1 < (l1.length : Int) := of_decide_eq_true qy1
      obtain ⟨ad538,A538_1,c538_1,e538,hx538_0,hx538_1,hl538_1,hi538_1⟩ := at_T80 HR1.out x5_1 p538 q538
      have hw538_1 := hx538_1
      have hw538_0 := hx538_0
      cases e538
      replace hx538_0 := (HB.out.cell (World.block_lt_of_cell? w _ hx538_0)).trans hx538_0
      replace hx538_1 := (HB.out.cell (World.block_lt_of_cell? w _ hx538_1)).trans hx538_1
      have HR538_1 := y0.mk hi538_1
      have HC538_1 := y0.mk hl538_1
      clear hi538_1 hl538_1
      replace p538 := eq_true p538
      replace q538 := eq_true q538
      refine start_ (n := 10) (S := fun w' => w'.cell? (ad537.add ((x5_1).toNat * 2)) = some (.string ((y22 l0 x5_1).f0)) ∧ w'.cell? ⟨(ad537.add ((x5_1).toNat * 2)).block,(ad537.add ((x5_1).toNat * 2)).off + 1,none⟩ = some (.slice A537_1 ((y22 l0 x5_1).f1).length c537_1) ∧ w'.cell? (ad538.add ((x5_1).toNat * 2)) = some (.string ((y22 l1 x5_1).f0)) ∧ w'.cell? ⟨(ad538.add ((x5_1).toNat * 2)).block,(ad538.add ((x5_1).toNat * 2)).off + 1,none⟩ = some (.slice A538_1 ((y22 l1 x5_1).f1).length c538_1)) (ds := []) (fl_ 10 0) (by kernel_rfl) rfl rfl ⟨((HB.out.cell (World.block_lt_of_cell? w _ hw537_0)).trans hw537_0),((HB.out.cell (World.block_lt_of_cell? w _ hw537_1)).trans hw537_1),((HB.out.cell (World.block_lt_of_cell? w _ hw538_0)).trans hw538_0),((HB.out.cell (World.block_lt_of_cell? w _ hw538_1)).trans hw538_1)⟩ (fun hHeld => ?_); refine with_tabW laws_eqConS.tab6 laws_eqConS.bits6 (fun HT_ HW_ => ?_)
      generalize wr.drew = w9 at HB HR537_1 HR538_1 hx537_0 hx537_1 hx538_0 hx538_1 hHeld ⊢
      refine qp 0 17 (fl_ 10 1) ?_
      refine qp 1 18 (fl_ 10 3) ?_
      refine qp 2 19 (fl_ 10 7) ?_
      refine qp 4 21 (fl_ 10 23) ?_
      refine qp 5 22 (fl_ 10 55) ?_
      refine qp 6 23 (fl_ 10 119) ?_
      refine qt 3 20 (fl_ 10 127) hHeld ?_
      refine qt 7 24 (fl_ 10 255) hHeld ?_
      refine one_ (i := 8) (N := some 25) (fl_ 10 511) rfl rfl (one_of HT_.out (by kernel_rfl)) (by decide) (fun K hK => ?_)
      refine goes_ Try.func98 (by kernel_rfl) rfl #[.agg #[.string ((y22 l0 x5_1).f0),.slice A537_1 ((y22 l0 x5_1).f1).length c537_1],.agg #[.string ((y22 l1 x5_1).f0),.slice A538_1 ((y22 l1 x5_1).f1).length c538_1]] (by rfl) rfl rfl qy0 ?_
      with_reducible refine (laws_eqCon.calls k1 ((y22 l0 x5_1).f0) _ _ ((y22 l0 x5_1).f1) ((y22 l1 x5_1).f0) _ _ ((y22 l1 x5_1).f1) true _ (qc (Kd.C_below HR537_1.out HB.out)) HC537_1.out (qc (Kd.C_below HR538_1.out HB.out)) HC538_1.out A7.out rfl).mono ?_
      rintro e w10 ⟨rfl,hb⟩
      refine ⟨_,rfl, ?_⟩
      replace HB := y0.mk (y4 qb hb)
      (try clear hb)
      (try clear hb2)
      (try clear hk)
      (try clear hi)
      refine hK.out _ _ ⟨((HB.out.cell (World.block_lt_of_cell? w _ hw537_0)).trans hw537_0),((HB.out.cell (World.block_lt_of_cell? w _ hw537_1)).trans hw537_1),((HB.out.cell (World.block_lt_of_cell? w _ hw538_0)).trans hw538_0),((HB.out.cell (World.block_lt_of_cell? w _ hw538_1)).trans hw538_1)⟩ (fun hHeld => ?_)
      clear hK K
      refine norm_ (a' := ?_) ?_ ?_
      rotate_left
      ·show Act.put _ (some 25) _ = _
       simp only [Act.put,qS_,qZ_,qC_,i64_w,i32_w]
       rfl
      refine qp 9 26 (fl_ 10 1023) ?_
      refine done_ (done_of HT_.out (by kernel_rfl)) ?_
      try go_wp2
      go_roundg k1
      case measure => have := HK1.out; omega
      exact ⟨(wrap64 (x5_1 + 1)),qy2,H',⟨by have := HK1.out; omega⟩,⟨qb⟩⟩
     ·replace c8 := Bool.eq_false_iff.mpr c8
      subst c8
      replace H := qF H
      exact absurd ((Option.some.inj H).trans htrue_) (by decide)
    ·rw [if_neg c4] at H
     have c4b0 := decide_eq_false c4
     clear c4
     obtain rfl := Option.some.inj H
     go_wp2
     go_ret
     exact ⟨by first | rfl | (simp [y12,y13] <;> rfl) | (simp [*,y12,y13] <;> rfl),qb⟩
 ·rw [if_neg c3] at H
  have c3b0 : ((l0.length : Int) == (l1.length : Int)) = false := beq_eq_false_iff_ne.mpr c3
  have c3b1 : ((l0.length : Int) != (l1.length : Int)) = true := bne_iff_ne.mpr c3
  have c3b2 : (l0.length == l1.length) = false := by first | simpa using c3 | (simp at c3 ⊢; omega)
  exact absurd ((Option.some.inj H).trans htrue_) (by decide)
def laws_eqTypeDecl.f (k : Nat) (a0_0 : ByteArray) (l0_1 : List (S80)) (a1_0 : ByteArray) (l1_1 : List (S80)) : Option (Bool) := if a0_0.toList = a1_0.toList then ((laws_eqConS.f k l0_1 l1_1).bind fun t542 => (if t542 = true then (some true) else (some false))) else (some false)
set_option maxHeartbeats 8000000 in
set_option maxRecDepth 100000 in
theorem laws_eqTypeDecl.calls (k : Nat) (a0_0 : ByteArray) (A0_1 : Option Addr) (c0_1 : Nat) (l0_1 : List (S80)) (a1_0 : ByteArray) (A1_1 : Option Addr) (c1_1 : Nat) (l1_1 : List (S80)) (r : Bool) (w : World) (hr0_1 : Kd.C k80 w A0_1 l0_1.length l0_1) (hc0_1 : l0_1.length ≤ c0_1) (hr1_1 : Kd.C k80 w A1_1 l1_1.length l1_1) (hc1_1 : l1_1.length ≤ c1_1) (h : laws_eqTypeDecl.f k a0_0 l0_1 a1_0 l1_1 = some r) (htrue_ : r = true) :
  Calls Try.prog 69 #[.agg #[.string a0_0,.slice A0_1 l0_1.length c0_1],.agg #[.string a1_0,.slice A1_1 l1_1.length c1_1]] w fun e w' => e = .returned (.bool r) ∧ Below w.heap.size w w' := by
 have hu78 := Try.underlying78
 have HR0_1 := y0.mk hr0_1
 have HC0_1 := y0.mk hc0_1
 clear hr0_1 hc0_1
 have HR1_1 := y0.mk hr1_1
 have HC1_1 := y0.mk hc1_1
 clear hr1_1 hc1_1
 have HB := y0.mk (Below.refl w.heap.size w)
 have H : (if a0_0.toList = a1_0.toList then ((laws_eqConS.f k l0_1 l1_1).bind fun t542 => (if t542 = true then (some true) else (some false))) else (some false)) = some r := h
 clear h
 by_cases c3 : a0_0.toList = a1_0.toList
 ·rw [if_pos c3] at H
  have c3b0 : (a0_0.toList == a1_0.toList) = true := beq_iff_eq.mpr c3
  have c3b1 : (a0_0.toList != a1_0.toList) = false := bne_eq_false_iff_eq.mpr c3
  clear c3
  obtain ⟨t542,A4,H⟩ := qB H
  by_cases c5 : t542 = true
  ·subst c5
   replace H := qT H
   obtain rfl := Option.some.inj H
   go_enter Try.func69,Try.ntmps69
   go_wp2_with (first | ((with_reducible refine y16 (N := 2) rfl ?_); refine qe 2 #[.string a0_0,.slice A0_1 l0_1.length c0_1] 78 ?_; intro gb540 hg w6 hbox hb; have BK540 := y0.mk (hbox); have GW540 := y0.mk (qg (w := w) hg); have GE540 := y0.mk (qg (w := w) hg); replace HB := y0.mk (y4 qb hb); clear hb hbox hg) | ((with_reducible refine y16 (N := 3) rfl ?_); refine qe 3 #[.string a1_0,.slice A1_1 l1_1.length c1_1] 78 ?_; intro gb541 hg w7 hbox hb; have BK541 := y0.mk (hbox); have GW541 := y0.mk (qg (w := w) hg); have GE541 := y0.mk (qg (w := w) hg); replace HB := y0.mk (y4 qb hb); have NB540_541 := y0.mk (qn BK540.out hg); have NB541_540 := y0.mk (qm BK540.out hg); replace BK540 := y0.mk (qK BK540.out hb); clear hb hbox hg; have hnb8 := NB540_541.out; have hnc8 := NB541_540.out; obtain ⟨hcz9_0,hcz9_1,hfz9_0,hfz9_1⟩ := qz2 BK540.out; obtain ⟨hcz10_0,hcz10_1,hfz10_0,hfz10_1⟩ := qz2 BK541.out) | ((with_reducible refine y15 (f := 89) rfl ?_); refine y17 (some 14) rfl rfl Try.func89 (by kernel_rfl) rfl #[.slice A0_1 l0_1.length c0_1,.slice A1_1 l1_1.length c1_1] rfl qy0 ?_; (with_reducible refine (laws_eqConS.calls k _ _ l0_1 _ _ l1_1 true _ (qc (Kd.C_below HR0_1.out HB.out)) HC0_1.out (qc (Kd.C_below HR1_1.out HB.out)) HC1_1.out A4.out rfl).mono ?_); rintro e w11 ⟨rfl,hb⟩; refine ⟨_,rfl, ?_⟩; replace BK540 := y0.mk (qK BK540.out hb); replace BK541 := y0.mk (qK BK541.out hb); replace HB := y0.mk (y4 qb hb); (try clear hb); (try clear hb2); (try clear hk); (try clear hi)))
   go_ret
   exact ⟨by first | rfl | (simp [y12,y13] <;> rfl) | (simp [*,y12,y13] <;> rfl),qb⟩
  ·replace c5 := Bool.eq_false_iff.mpr c5
   subst c5
   replace H := qF H
   exact absurd ((Option.some.inj H).trans htrue_) (by decide)
 ·rw [if_neg c3] at H
  have c3b0 : (a0_0.toList == a1_0.toList) = false := beq_eq_false_iff_ne.mpr c3
  have c3b1 : (a0_0.toList != a1_0.toList) = true := bne_iff_ne.mpr c3
  exact absurd ((Option.some.inj H).trans htrue_) (by decide)
end Go.Proofs.Ytamjmldfifofbaa.Pp
end

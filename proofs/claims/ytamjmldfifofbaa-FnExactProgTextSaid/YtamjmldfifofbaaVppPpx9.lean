-- Cut by prune.py, a program of this session, out of the texts of this claim: Lean checks it.
import Derived.Test.YtamjmldfifofbaaVppPpx0
import Derived.Test.YtamjmldfifofbaaVppPpx8
import Derived.Test.YtamjmldfifofbaaVppPpx6
import Derived.Test.YtamjmldfifofbaaVppPpx3
section
namespace Go.Proofs.Ytamjmldfifofbaa.Pp
open Go.RowKit Go.Proofs.YtamjmldfifofbaaW.PrintWords Go.Proofs.YtamjmldfifofbaaW.PrintLast Go.Proofs.YtamjmldfifofbaaW.PrintMore
attribute [local go_sem] max2_int min2_int max_two min_two max_three min_three max_four min_four   -- for this text's walks alone
set_option linter.unusedVariables false
set_option linter.unusedSimpArgs false
def z2_.f (k : Nat) (l0_0 : List (S101)) (a0_1 : Int) (a0_2 : ByteArray) (l0_3 : List Int) (l0_4 : List (S32)) (a1_0 : Int) (a1_1 : ByteArray) (l1_2 : List Int) : Option (ByteArray) := if a1_0 = 3 then (if 0 < (l1_2.length : Int) then ((z0_.f k l0_0 a0_1 a0_2 l0_3 l0_4 (rd l1_2 0)).bind fun t302 => (if t302.size + 1 ≤ 9223372036854775807 then (if (t302 ++ (⟨#[32]⟩ : ByteArray)).size + a1_1.size ≤ 9223372036854775807 then (if ((t302 ++ (⟨#[32]⟩ : ByteArray)) ++ a1_1).size + 1 ≤ 9223372036854775807 then (if 1 < (l1_2.length : Int) then ((z0_.f k l0_0 a0_1 a0_2 l0_3 l0_4 (rd l1_2 1)).bind fun t304 => (if (((t302 ++ (⟨#[32]⟩ : ByteArray)) ++ a1_1) ++ (⟨#[32]⟩ : ByteArray)).size + t304.size ≤ 9223372036854775807 then (some ((((t302 ++ (⟨#[32]⟩ : ByteArray)) ++ a1_1) ++ (⟨#[32]⟩ : ByteArray)) ++ t304)) else (none))) else (none)) else (none)) else (none)) else (none))) else (none)) else (if a1_0 = 2 then (if 1 + a1_1.size ≤ 9223372036854775807 then (if ((⟨#[33]⟩ : ByteArray) ++ a1_1).size + 1 ≤ 9223372036854775807 then ((z1_.f k l0_0 a0_1 a0_2 l0_3 l0_4 l1_2).bind fun t305 => (if (((⟨#[33]⟩ : ByteArray) ++ a1_1) ++ (⟨#[40]⟩ : ByteArray)).size + t305.size ≤ 9223372036854775807 then (if ((((⟨#[33]⟩ : ByteArray) ++ a1_1) ++ (⟨#[40]⟩ : ByteArray)) ++ t305).size + 1 ≤ 9223372036854775807 then (some (((((⟨#[33]⟩ : ByteArray) ++ a1_1) ++ (⟨#[40]⟩ : ByteArray)) ++ t305) ++ (⟨#[41]⟩ : ByteArray))) else (none)) else (none))) else (none)) else (none)) else (if a1_1.size + 1 ≤ 9223372036854775807 then ((z1_.f k l0_0 a0_1 a0_2 l0_3 l0_4 l1_2).bind fun t306 => (if (a1_1 ++ (⟨#[40]⟩ : ByteArray)).size + t306.size ≤ 9223372036854775807 then (if ((a1_1 ++ (⟨#[40]⟩ : ByteArray)) ++ t306).size + 1 ≤ 9223372036854775807 then (some (((a1_1 ++ (⟨#[40]⟩ : ByteArray)) ++ t306) ++ (⟨#[41]⟩ : ByteArray))) else (none)) else (none))) else (none)))
def z2_.T3 : Bool × List (List Nat × List Nat) := (true,[([],[]),([],[]),([1],[1]),([2],[2]),([3],[3]),([0,4],[0,4]),([5],[5]),([],[]),([7],[7]),([6,8],[6,8]),([9],[9]),([],[]),([],[]),([12],[12]),([13],[13]),([14],[14]),([11,15,5],[11,15]),([10,16],[10,16]),([17,16,0,1,2,3,4,5,6,7,8,9,10,11,12,13,14,15,16,17],[17])])
def z2_.B3 : List Nat := [0,0,2,6,14,31,63,0,128,511,1023,0,0,4096,12288,28672,63551,131071,262143]
theorem z2_.tab3 : rtab .any (opsOf Try.f60 3) = z2_.T3 := by kernel_rfl
theorem z2_.bits3 : waitsOk z2_.T3.2 z2_.B3 = true := by kernel_rfl
def z2_.T5 : Bool × List (List Nat × List Nat) := (true,[([],[]),([0],[0]),([1],[1]),([2],[2]),([],[]),([],[]),([5],[5]),([4,6],[4,6]),([3,7],[3,7]),([8],[8]),([9,7,0,1,2,3,4,5,6,7,8,9],[9])])
def z2_.B5 : List Nat := [0,1,3,7,0,0,32,112,255,511,1023]
theorem z2_.tab5 : rtab .any (opsOf Try.f60 5) = z2_.T5 := by kernel_rfl
theorem z2_.bits5 : waitsOk z2_.T5.2 z2_.B5 = true := by kernel_rfl
def z2_.T6 : Bool × List (List Nat × List Nat) := (true,[([],[]),([0],[0]),([1],[1]),([],[]),([],[]),([4],[4]),([3,5],[3,5]),([2,6],[2,6]),([7],[7]),([8,6,0,1,2,3,4,5,6,7,8],[8])])
def z2_.B6 : List Nat := [0,1,3,0,0,16,56,127,255,511]
theorem z2_.tab6 : rtab .any (opsOf Try.f60 6) = z2_.T6 := by kernel_rfl
theorem z2_.bits6 : waitsOk z2_.T6.2 z2_.B6 = true := by kernel_rfl
set_option maxHeartbeats 8000000 in
set_option maxRecDepth 100000 in
theorem z2_.calls (k : Nat) (A0_0 : Option Addr) (c0_0 : Nat) (l0_0 : List (S101)) (a0_1 : Int) (a0_2 : ByteArray) (A0_3 : Option Addr) (c0_3 : Nat) (l0_3 : List Int) (A0_4 : Option Addr) (c0_4 : Nat) (l0_4 : List (S32)) (a1_0 : Int) (a1_1 : ByteArray) (A1_2 : Option Addr) (c1_2 : Nat) (l1_2 : List Int) (r : ByteArray) (w : World) (hr0_0 : Kd.C k101 w A0_0 l0_0.length l0_0) (hc0_0 : l0_0.length ≤ c0_0) (hr0_3 : Kd.C (Kd.int .i64) w A0_3 l0_3.length l0_3) (hc0_3 : l0_3.length ≤ c0_3) (hr0_4 : Kd.C k32 w A0_4 l0_4.length l0_4) (hc0_4 : l0_4.length ≤ c0_4) (hr1_2 : Kd.C (Kd.int .i64) w A1_2 l1_2.length l1_2) (hc1_2 : l1_2.length ≤ c1_2) (h : z2_.f k l0_0 a0_1 a0_2 l0_3 l0_4 a1_0 a1_1 l1_2 = some r) :
  Calls Try.prog 60 #[.agg #[.slice A0_0 l0_0.length c0_0,.int .i64 a0_1,.string a0_2,.slice A0_3 l0_3.length c0_3,.slice A0_4 l0_4.length c0_4],.agg #[.int .i64 a1_0,.string a1_1,.slice A1_2 l1_2.length c1_2]] w fun e w' => e = .returned (.string r) ∧ Below w.heap.size w w' := by
 have hu35 := Try.underlying35
 have hu32 := Try.underlying32
 have HR0_0 := y0.mk hr0_0
 have HC0_0 := y0.mk hc0_0
 clear hr0_0 hc0_0
 have HR0_3 := y0.mk hr0_3
 have HC0_3 := y0.mk hc0_3
 clear hr0_3 hc0_3
 have HR0_4 := y0.mk hr0_4
 have HC0_4 := y0.mk hc0_4
 clear hr0_4 hc0_4
 have HR1_2 := y0.mk hr1_2
 have HC1_2 := y0.mk hc1_2
 clear hr1_2 hc1_2
 have HB := y0.mk (Below.refl w.heap.size w)
 have H : (if a1_0 = 3 then (if 0 < (l1_2.length : Int) then ((z0_.f k l0_0 a0_1 a0_2 l0_3 l0_4 (rd l1_2 0)).bind fun t302 => (if t302.size + 1 ≤ 9223372036854775807 then (if (t302 ++ (⟨#[32]⟩ : ByteArray)).size + a1_1.size ≤ 9223372036854775807 then (if ((t302 ++ (⟨#[32]⟩ : ByteArray)) ++ a1_1).size + 1 ≤ 9223372036854775807 then (if 1 < (l1_2.length : Int) then ((z0_.f k l0_0 a0_1 a0_2 l0_3 l0_4 (rd l1_2 1)).bind fun t304 => (if (((t302 ++ (⟨#[32]⟩ : ByteArray)) ++ a1_1) ++ (⟨#[32]⟩ : ByteArray)).size + t304.size ≤ 9223372036854775807 then (some ((((t302 ++ (⟨#[32]⟩ : ByteArray)) ++ a1_1) ++ (⟨#[32]⟩ : ByteArray)) ++ t304)) else (none))) else (none)) else (none)) else (none)) else (none))) else (none)) else (if a1_0 = 2 then (if 1 + a1_1.size ≤ 9223372036854775807 then (if ((⟨#[33]⟩ : ByteArray) ++ a1_1).size + 1 ≤ 9223372036854775807 then ((z1_.f k l0_0 a0_1 a0_2 l0_3 l0_4 l1_2).bind fun t305 => (if (((⟨#[33]⟩ : ByteArray) ++ a1_1) ++ (⟨#[40]⟩ : ByteArray)).size + t305.size ≤ 9223372036854775807 then (if ((((⟨#[33]⟩ : ByteArray) ++ a1_1) ++ (⟨#[40]⟩ : ByteArray)) ++ t305).size + 1 ≤ 9223372036854775807 then (some (((((⟨#[33]⟩ : ByteArray) ++ a1_1) ++ (⟨#[40]⟩ : ByteArray)) ++ t305) ++ (⟨#[41]⟩ : ByteArray))) else (none)) else (none))) else (none)) else (none)) else (if a1_1.size + 1 ≤ 9223372036854775807 then ((z1_.f k l0_0 a0_1 a0_2 l0_3 l0_4 l1_2).bind fun t306 => (if (a1_1 ++ (⟨#[40]⟩ : ByteArray)).size + t306.size ≤ 9223372036854775807 then (if ((a1_1 ++ (⟨#[40]⟩ : ByteArray)) ++ t306).size + 1 ≤ 9223372036854775807 then (some (((a1_1 ++ (⟨#[40]⟩ : ByteArray)) ++ t306) ++ (⟨#[41]⟩ : ByteArray))) else (none)) else (none))) else (none)))) = some r := h
 clear h
 by_cases c3 : a1_0 = 3
 ·rw [if_pos c3] at H
  have c3b0 : (a1_0 == 3) = true := beq_iff_eq.mpr c3
  have c3b1 : (a1_0 != 3) = false := bne_eq_false_iff_eq.mpr c3
  clear c3
  obtain ⟨c4,H⟩ := qo H
  have c4b0 : decide (0 < (l1_2.length : Int)) = true := decide_eq_true c4
  have c4b1 : decide (0 < l1_2.length) = true := decide_eq_true (by omega)
  clear c4
  obtain ⟨t302,A5,H⟩ := qB H
  obtain ⟨c6,H⟩ := qo H
  have c6b0 := eq_true c6
  have c6b1 := decide_eq_true c6
  have c6b2 := eq_false (Nat.not_lt.2 c6)
  obtain ⟨c7,H⟩ := qo H
  have c7b0 := eq_true c7
  have c7b1 := decide_eq_true c7
  have c7b2 := eq_false (Nat.not_lt.2 c7)
  have c7b3 : (9223372036854775807 < t302.size + 1 + a1_1.size) = False := qs c7b2
  obtain ⟨c8,H⟩ := qo H
  have c8b0 := eq_true c8
  have c8b1 := decide_eq_true c8
  have c8b2 := eq_false (Nat.not_lt.2 c8)
  have c8b3 : (9223372036854775807 < t302.size + 1 + a1_1.size + 1) = False := qs c8b2
  obtain ⟨c9,H⟩ := qo H
  have c9b0 : decide (1 < (l1_2.length : Int)) = true := decide_eq_true c9
  have c9b1 : decide (1 < l1_2.length) = true := decide_eq_true (by omega)
  clear c9
  obtain ⟨t304,A10,H⟩ := qB H
  obtain ⟨c11,H⟩ := qo H
  have c11b0 := eq_true c11
  have c11b1 := decide_eq_true c11
  have c11b2 := eq_false (Nat.not_lt.2 c11)
  have c11b3 : (9223372036854775807 < t302.size + 1 + a1_1.size + 1 + t304.size) = False := qs c11b2
  obtain rfl := Option.some.inj H
  go_enter Try.func60,Try.ntmps60
  try go_wp2_with (first | ((with_reducible refine y16 (N := 2) rfl ?_); refine qe 2 #[.slice A0_0 l0_0.length c0_0,.int .i64 a0_1,.string a0_2,.slice A0_3 l0_3.length c0_3,.slice A0_4 l0_4.length c0_4] 35 ?_; intro gb299 hg w12 hbox hb; have BK299 := y0.mk (hbox); have GW299 := y0.mk (qg (w := w) hg); have GE299 := y0.mk (qg (w := w) hg); replace HB := y0.mk (y4 qb hb); clear hb hbox hg) | ((with_reducible refine y16 (N := 3) rfl ?_); refine qe 3 #[.int .i64 a1_0,.string a1_1,.slice A1_2 l1_2.length c1_2] 32 ?_; intro gb300 hg w13 hbox hb; have BK300 := y0.mk (hbox); have GW300 := y0.mk (qg (w := w) hg); have GE300 := y0.mk (qg (w := w) hg); replace HB := y0.mk (y4 qb hb); have NB299_300 := y0.mk (qn BK299.out hg); have NB300_299 := y0.mk (qm BK299.out hg); replace BK299 := y0.mk (qK BK299.out hb); clear hb hbox hg; have hnb14 := NB300_299.out; have hnc14 := NB299_300.out; obtain ⟨hcz15_0,hcz15_1,hcz15_2,hfz15_0,hfz15_1,hfz15_2⟩ := qz3 BK300.out))
  replace BK299 := y0.mk (y8 BK299.out)
  replace BK300 := y0.mk (y8 BK300.out)
  replace HB := y0.mk (below_drew1 HB.out)
  have p301 : 0 ≤ (0 : Int) := (by omega)
  have q301 : 0 < (l1_2.length : Int) := of_decide_eq_true qy1
  obtain ⟨ad301,e301,hx301_0⟩ := Kd.at_int HR1_2.out 0 p301 q301
  have hw301_0 := hx301_0
  (try rw [show ((0 : Int)).toNat = 0 from rfl] at hw301_0)
  (try rw [show 0 * 1 = 0 from rfl] at hw301_0)
  (try rw [Addr.add_zero'] at hw301_0)
  cases e301
  have qi301 : (0 < l1_2.length) = True := eq_true (by omega)
  (try rw [show ((0 : Int)).toNat = 0 from rfl] at hx301_0)
  (try rw [Addr.add_zero'] at hx301_0)
  replace hx301_0 := (HB.out.cell (World.block_lt_of_cell? w _ hx301_0)).trans hx301_0
  replace p301 := eq_true p301
  replace q301 := eq_true q301
  have p303 : 0 ≤ (1 : Int) := (by omega)
  have q303 : 1 < (l1_2.length : Int) := of_decide_eq_true qy1
  obtain ⟨ad303,e303,hx303_0⟩ := Kd.at_int HR1_2.out 1 p303 q303
  have hw303_0 := hx303_0
  (try rw [show ((1 : Int)).toNat = 1 from rfl] at hw303_0)
  (try rw [show 1 * 1 = 1 from rfl] at hw303_0)
  (try simp only [Nat.reduceMul,Nat.reduceEqDiff,Go.Addr.add,↓reduceIte] at hw303_0)
  obtain rfl : ad301 = ad303 := (by injection e303)
  (try simp only [show (1 : Int).toNat = 1 from rfl,Nat.reduceMul,Nat.reduceEqDiff,Go.Addr.add,↓reduceIte] at hx303_0)
  have qi303 : (1 < l1_2.length) = True := eq_true (by omega)
  (try rw [show ((1 : Int)).toNat = 1 from rfl] at hx303_0)
  replace hx303_0 := (HB.out.cell (World.block_lt_of_cell? w _ hx303_0)).trans hx303_0
  replace p303 := eq_true p303
  replace q303 := eq_true q303
  refine start_ (n := 19) (S := fun w' => w'.cell? ⟨gb299,0,none⟩ = some (.slice A0_0 l0_0.length c0_0) ∧ w'.cell? ⟨gb299,1,none⟩ = some (.int .i64 a0_1) ∧ w'.cell? ⟨gb299,2,none⟩ = some (.string a0_2) ∧ w'.cell? ⟨gb299,3,none⟩ = some (.slice A0_3 l0_3.length c0_3) ∧ w'.cell? ⟨gb299,4,none⟩ = some (.slice A0_4 l0_4.length c0_4) ∧ w'.cell? ⟨gb300,0,none⟩ = some (.int .i64 a1_0) ∧ w'.cell? ⟨gb300,1,none⟩ = some (.string a1_1) ∧ w'.cell? ⟨gb300,2,none⟩ = some (.slice (some ad301) l1_2.length c1_2) ∧ w'.cell? ad301 = some (.int .i64 (rd l1_2 0)) ∧ w'.cell? ⟨ad301.block,ad301.off + 1,none⟩ = some (.int .i64 (rd l1_2 1))) (ds := []) (fl_ 19 0) (by kernel_rfl) rfl rfl ⟨(y7 BK299.out 0).trans rfl,(y7 BK299.out 1).trans rfl,(y7 BK299.out 2).trans rfl,(y7 BK299.out 3).trans rfl,(y7 BK299.out 4).trans rfl,(y7 BK300.out 0).trans rfl,(y7 BK300.out 1).trans rfl,(y7 BK300.out 2).trans rfl,((HB.out.cell (World.block_lt_of_cell? w _ hw301_0)).trans hw301_0),((HB.out.cell (World.block_lt_of_cell? w _ hw303_0)).trans hw303_0)⟩ (fun hHeld => ?_); refine with_tabW z2_.tab3 z2_.bits3 (fun HT_ HW_ => ?_)
  generalize w13.drew = w16 at BK299 BK300 HB hx301_0 hx303_0 hHeld ⊢
  refine qp 1 10 (fl_ 19 2) ?_
  refine qp 7 16 (fl_ 19 130) ?_
  refine qp 12 21 (fl_ 19 4226) ?_
  refine qt 0 9 (fl_ 19 4227) hHeld ?_
  refine qt 2 11 (fl_ 19 4231) hHeld ?_
  refine qp 3 12 (fl_ 19 4239) ?_
  refine qt 4 13 (fl_ 19 4255) hHeld ?_
  refine qt 8 17 (fl_ 19 4511) hHeld ?_
  refine qt 11 20 (fl_ 19 6559) hHeld ?_
  refine qt 13 22 (fl_ 19 14751) hHeld ?_
  refine qp 14 23 (fl_ 19 31135) ?_
  refine qt 15 24 (fl_ 19 63903) hHeld ?_
  refine one_ (i := 5) (N := some 14) (fl_ 19 63935) rfl rfl (one_of HT_.out (by kernel_rfl)) (by decide) (fun K hK => ?_)
  refine goes_ Try.func80 (by kernel_rfl) rfl #[.agg #[.slice A0_0 l0_0.length c0_0,.int .i64 a0_1,.string a0_2,.slice A0_3 l0_3.length c0_3,.slice A0_4 l0_4.length c0_4],.int .i64 (rd l1_2 0)] (by rfl) rfl rfl qy0 ?_
  with_reducible refine (z0_.calls k _ _ l0_0 a0_1 a0_2 _ _ l0_3 _ _ l0_4 (rd l1_2 0) t302 _ (qc (Kd.C_below HR0_0.out HB.out)) HC0_0.out (qc (Kd.C_below HR0_3.out HB.out)) HC0_3.out (qc (Kd.C_below HR0_4.out HB.out)) HC0_4.out A5.out).mono ?_
  rintro e w17 ⟨rfl,hb⟩
  refine ⟨_,rfl, ?_⟩
  replace BK299 := y0.mk (qK BK299.out hb)
  replace BK300 := y0.mk (qK BK300.out hb)
  replace HB := y0.mk (y4 qb hb)
  (try clear hb)
  (try clear hb2)
  (try clear hk)
  (try clear hi)
  refine hK.out _ _ ⟨(y7 BK299.out 0).trans rfl,(y7 BK299.out 1).trans rfl,(y7 BK299.out 2).trans rfl,(y7 BK299.out 3).trans rfl,(y7 BK299.out 4).trans rfl,(y7 BK300.out 0).trans rfl,(y7 BK300.out 1).trans rfl,(y7 BK300.out 2).trans rfl,((HB.out.cell (World.block_lt_of_cell? w _ hw301_0)).trans hw301_0),((HB.out.cell (World.block_lt_of_cell? w _ hw303_0)).trans hw303_0)⟩ (fun hHeld => ?_)
  clear hK K
  refine norm_ (a' := ?_) ?_ ?_
  rotate_left
  ·show Act.put _ (some 14) _ = _
   simp only [Act.put,qS_,qZ_,qC_,i64_w,i32_w]
   rfl
  refine qp 6 15 (fl_ 19 63999) ?_
  refine qp 9 18 (fl_ 19 64511) ?_
  refine qp 10 19 (fl_ 19 65535) ?_
  refine one_ (i := 16) (N := some 25) (fl_ 19 131071) rfl rfl (one_of HT_.out (by kernel_rfl)) (by decide) (fun K hK => ?_)
  refine goes_ Try.func80 (by kernel_rfl) rfl #[.agg #[.slice A0_0 l0_0.length c0_0,.int .i64 a0_1,.string a0_2,.slice A0_3 l0_3.length c0_3,.slice A0_4 l0_4.length c0_4],.int .i64 (rd l1_2 1)] (by rfl) rfl rfl qy0 ?_
  with_reducible refine (z0_.calls k _ _ l0_0 a0_1 a0_2 _ _ l0_3 _ _ l0_4 (rd l1_2 1) t304 _ (qc (Kd.C_below HR0_0.out HB.out)) HC0_0.out (qc (Kd.C_below HR0_3.out HB.out)) HC0_3.out (qc (Kd.C_below HR0_4.out HB.out)) HC0_4.out A10.out).mono ?_
  rintro e w18 ⟨rfl,hb⟩
  refine ⟨_,rfl, ?_⟩
  replace BK299 := y0.mk (qK BK299.out hb)
  replace BK300 := y0.mk (qK BK300.out hb)
  replace HB := y0.mk (y4 qb hb)
  (try clear hb)
  (try clear hb2)
  (try clear hk)
  (try clear hi)
  refine hK.out _ _ ⟨(y7 BK299.out 0).trans rfl,(y7 BK299.out 1).trans rfl,(y7 BK299.out 2).trans rfl,(y7 BK299.out 3).trans rfl,(y7 BK299.out 4).trans rfl,(y7 BK300.out 0).trans rfl,(y7 BK300.out 1).trans rfl,(y7 BK300.out 2).trans rfl,((HB.out.cell (World.block_lt_of_cell? w _ hw301_0)).trans hw301_0),((HB.out.cell (World.block_lt_of_cell? w _ hw303_0)).trans hw303_0)⟩ (fun hHeld => ?_)
  clear hK K
  refine norm_ (a' := ?_) ?_ ?_
  rotate_left
  ·show Act.put _ (some 25) _ = _
   simp only [Act.put,qS_,qZ_,qC_,i64_w,i32_w]
   rfl
  refine qp 17 26 (fl_ 19 262143) ?_
  refine qp 18 4 (fl_ 19 524287) ?_
  refine done_ (done_of HT_.out (by kernel_rfl)) ?_
  try go_wp2
  go_ret
  exact ⟨by first | rfl | (simp [y12,y13] <;> rfl) | (simp [*,y12,y13] <;> rfl),qb⟩
 ·rw [if_neg c3] at H
  have c3b0 : (a1_0 == 3) = false := beq_eq_false_iff_ne.mpr c3
  have c3b1 : (a1_0 != 3) = true := bne_iff_ne.mpr c3
  by_cases c19 : a1_0 = 2
  ·rw [if_pos c19] at H
   have c19b0 : (a1_0 == 2) = true := beq_iff_eq.mpr c19
   have c19b1 : (a1_0 != 2) = false := bne_eq_false_iff_eq.mpr c19
   clear c19
   obtain ⟨c20,H⟩ := qo H
   have c20b0 := eq_true c20
   have c20b1 := decide_eq_true c20
   have c20b2 := eq_false (Nat.not_lt.2 c20)
   obtain ⟨c21,H⟩ := qo H
   have c21b0 := eq_true c21
   have c21b1 := decide_eq_true c21
   have c21b2 := eq_false (Nat.not_lt.2 c21)
   have c21b3 : (9223372036854775807 < 1 + a1_1.size + 1) = False := qs c21b2
   obtain ⟨t305,A22,H⟩ := qB H
   obtain ⟨c23,H⟩ := qo H
   have c23b0 := eq_true c23
   have c23b1 := decide_eq_true c23
   have c23b2 := eq_false (Nat.not_lt.2 c23)
   have c23b3 : (9223372036854775807 < 1 + a1_1.size + 1 + t305.size) = False := qs c23b2
   obtain ⟨c24,H⟩ := qo H
   have c24b0 := eq_true c24
   have c24b1 := decide_eq_true c24
   have c24b2 := eq_false (Nat.not_lt.2 c24)
   have c24b3 : (9223372036854775807 < 1 + a1_1.size + 1 + t305.size + 1) = False := qs c24b2
   obtain rfl := Option.some.inj H
   go_enter Try.func60,Try.ntmps60
   try go_wp2_with (first | ((with_reducible refine y16 (N := 2) rfl ?_); refine qe 2 #[.slice A0_0 l0_0.length c0_0,.int .i64 a0_1,.string a0_2,.slice A0_3 l0_3.length c0_3,.slice A0_4 l0_4.length c0_4] 35 ?_; intro gb299 hg w25 hbox hb; have BK299 := y0.mk (hbox); have GW299 := y0.mk (qg (w := w) hg); have GE299 := y0.mk (qg (w := w) hg); replace HB := y0.mk (y4 qb hb); clear hb hbox hg) | ((with_reducible refine y16 (N := 3) rfl ?_); refine qe 3 #[.int .i64 a1_0,.string a1_1,.slice A1_2 l1_2.length c1_2] 32 ?_; intro gb300 hg w26 hbox hb; have BK300 := y0.mk (hbox); have GW300 := y0.mk (qg (w := w) hg); have GE300 := y0.mk (qg (w := w) hg); replace HB := y0.mk (y4 qb hb); have NB299_300 := y0.mk (qn BK299.out hg); have NB300_299 := y0.mk (qm BK299.out hg); replace BK299 := y0.mk (qK BK299.out hb); clear hb hbox hg; have hnb27 := NB300_299.out; have hnc27 := NB299_300.out; obtain ⟨hcz28_0,hcz28_1,hcz28_2,hfz28_0,hfz28_1,hfz28_2⟩ := qz3 BK300.out))
   replace BK299 := y0.mk (y8 BK299.out)
   replace BK300 := y0.mk (y8 BK300.out)
   replace HB := y0.mk (below_drew1 HB.out)
   refine start_ (n := 11) (S := fun w' => w'.cell? ⟨gb300,0,none⟩ = some (.int .i64 a1_0) ∧ w'.cell? ⟨gb300,1,none⟩ = some (.string a1_1) ∧ w'.cell? ⟨gb300,2,none⟩ = some (.slice A1_2 l1_2.length c1_2) ∧ w'.cell? ⟨gb299,0,none⟩ = some (.slice A0_0 l0_0.length c0_0) ∧ w'.cell? ⟨gb299,1,none⟩ = some (.int .i64 a0_1) ∧ w'.cell? ⟨gb299,2,none⟩ = some (.string a0_2) ∧ w'.cell? ⟨gb299,3,none⟩ = some (.slice A0_3 l0_3.length c0_3) ∧ w'.cell? ⟨gb299,4,none⟩ = some (.slice A0_4 l0_4.length c0_4)) (ds := []) (fl_ 11 0) (by kernel_rfl) rfl rfl ⟨(y7 BK300.out 0).trans rfl,(y7 BK300.out 1).trans rfl,(y7 BK300.out 2).trans rfl,(y7 BK299.out 0).trans rfl,(y7 BK299.out 1).trans rfl,(y7 BK299.out 2).trans rfl,(y7 BK299.out 3).trans rfl,(y7 BK299.out 4).trans rfl⟩ (fun hHeld => ?_); refine with_tabW z2_.tab5 z2_.bits5 (fun HT_ HW_ => ?_)
   generalize w26.drew = w29 at BK299 BK300 HB hHeld ⊢
   refine qp 0 29 (fl_ 11 1) ?_
   refine qp 5 34 (fl_ 11 33) ?_
   refine qt 1 30 (fl_ 11 35) hHeld ?_
   refine qp 2 31 (fl_ 11 39) ?_
   refine qp 3 32 (fl_ 11 47) ?_
   refine qt 4 33 (fl_ 11 63) hHeld ?_
   refine qt 6 35 (fl_ 11 127) hHeld ?_
   refine one_ (i := 7) (N := some 36) (fl_ 11 255) rfl rfl (one_of HT_.out (by kernel_rfl)) (by decide) (fun K hK => ?_)
   refine goes_ Try.func81 (by kernel_rfl) rfl #[.agg #[.slice A0_0 l0_0.length c0_0,.int .i64 a0_1,.string a0_2,.slice A0_3 l0_3.length c0_3,.slice A0_4 l0_4.length c0_4],.slice A1_2 l1_2.length c1_2] (by rfl) rfl rfl qy0 ?_
   with_reducible refine (z1_.calls k _ _ l0_0 a0_1 a0_2 _ _ l0_3 _ _ l0_4 _ _ l1_2 t305 _ (qc (Kd.C_below HR0_0.out HB.out)) HC0_0.out (qc (Kd.C_below HR0_3.out HB.out)) HC0_3.out (qc (Kd.C_below HR0_4.out HB.out)) HC0_4.out (qc (Kd.C_below HR1_2.out HB.out)) HC1_2.out A22.out).mono ?_
   rintro e w30 ⟨rfl,hb⟩
   refine ⟨_,rfl, ?_⟩
   replace BK299 := y0.mk (qK BK299.out hb)
   replace BK300 := y0.mk (qK BK300.out hb)
   replace HB := y0.mk (y4 qb hb)
   (try clear hb)
   (try clear hb2)
   (try clear hk)
   (try clear hi)
   refine hK.out _ _ ⟨(y7 BK300.out 0).trans rfl,(y7 BK300.out 1).trans rfl,(y7 BK300.out 2).trans rfl,(y7 BK299.out 0).trans rfl,(y7 BK299.out 1).trans rfl,(y7 BK299.out 2).trans rfl,(y7 BK299.out 3).trans rfl,(y7 BK299.out 4).trans rfl⟩ (fun hHeld => ?_)
   clear hK K
   refine norm_ (a' := ?_) ?_ ?_
   rotate_left
   ·show Act.put _ (some 36) _ = _
    simp only [Act.put,qS_,qZ_,qC_,i64_w,i32_w]
    rfl
   refine qp 8 37 (fl_ 11 511) ?_
   refine qp 9 38 (fl_ 11 1023) ?_
   refine qp 10 4 (fl_ 11 2047) ?_
   refine done_ (done_of HT_.out (by kernel_rfl)) ?_
   try go_wp2
   go_ret
   exact ⟨by first | rfl | (simp [y12,y13] <;> rfl) | (simp [*,y12,y13] <;> rfl),qb⟩
  ·rw [if_neg c19] at H
   have c19b0 : (a1_0 == 2) = false := beq_eq_false_iff_ne.mpr c19
   have c19b1 : (a1_0 != 2) = true := bne_iff_ne.mpr c19
   obtain ⟨c31,H⟩ := qo H
   have c31b0 := eq_true c31
   have c31b1 := decide_eq_true c31
   have c31b2 := eq_false (Nat.not_lt.2 c31)
   obtain ⟨t306,A32,H⟩ := qB H
   obtain ⟨c33,H⟩ := qo H
   have c33b0 := eq_true c33
   have c33b1 := decide_eq_true c33
   have c33b2 := eq_false (Nat.not_lt.2 c33)
   have c33b3 : (9223372036854775807 < a1_1.size + 1 + t306.size) = False := qs c33b2
   obtain ⟨c34,H⟩ := qo H
   have c34b0 := eq_true c34
   have c34b1 := decide_eq_true c34
   have c34b2 := eq_false (Nat.not_lt.2 c34)
   have c34b3 : (9223372036854775807 < a1_1.size + 1 + t306.size + 1) = False := qs c34b2
   obtain rfl := Option.some.inj H
   go_enter Try.func60,Try.ntmps60
   try go_wp2_with (first | ((with_reducible refine y16 (N := 2) rfl ?_); refine qe 2 #[.slice A0_0 l0_0.length c0_0,.int .i64 a0_1,.string a0_2,.slice A0_3 l0_3.length c0_3,.slice A0_4 l0_4.length c0_4] 35 ?_; intro gb299 hg w35 hbox hb; have BK299 := y0.mk (hbox); have GW299 := y0.mk (qg (w := w) hg); have GE299 := y0.mk (qg (w := w) hg); replace HB := y0.mk (y4 qb hb); clear hb hbox hg) | ((with_reducible refine y16 (N := 3) rfl ?_); refine qe 3 #[.int .i64 a1_0,.string a1_1,.slice A1_2 l1_2.length c1_2] 32 ?_; intro gb300 hg w36 hbox hb; have BK300 := y0.mk (hbox); have GW300 := y0.mk (qg (w := w) hg); have GE300 := y0.mk (qg (w := w) hg); replace HB := y0.mk (y4 qb hb); have NB299_300 := y0.mk (qn BK299.out hg); have NB300_299 := y0.mk (qm BK299.out hg); replace BK299 := y0.mk (qK BK299.out hb); clear hb hbox hg; have hnb37 := NB300_299.out; have hnc37 := NB299_300.out; obtain ⟨hcz38_0,hcz38_1,hcz38_2,hfz38_0,hfz38_1,hfz38_2⟩ := qz3 BK300.out))
   replace BK299 := y0.mk (y8 BK299.out)
   replace BK300 := y0.mk (y8 BK300.out)
   replace HB := y0.mk (below_drew1 HB.out)
   refine start_ (n := 10) (S := fun w' => w'.cell? ⟨gb300,0,none⟩ = some (.int .i64 a1_0) ∧ w'.cell? ⟨gb300,1,none⟩ = some (.string a1_1) ∧ w'.cell? ⟨gb300,2,none⟩ = some (.slice A1_2 l1_2.length c1_2) ∧ w'.cell? ⟨gb299,0,none⟩ = some (.slice A0_0 l0_0.length c0_0) ∧ w'.cell? ⟨gb299,1,none⟩ = some (.int .i64 a0_1) ∧ w'.cell? ⟨gb299,2,none⟩ = some (.string a0_2) ∧ w'.cell? ⟨gb299,3,none⟩ = some (.slice A0_3 l0_3.length c0_3) ∧ w'.cell? ⟨gb299,4,none⟩ = some (.slice A0_4 l0_4.length c0_4)) (ds := []) (fl_ 10 0) (by kernel_rfl) rfl rfl ⟨(y7 BK300.out 0).trans rfl,(y7 BK300.out 1).trans rfl,(y7 BK300.out 2).trans rfl,(y7 BK299.out 0).trans rfl,(y7 BK299.out 1).trans rfl,(y7 BK299.out 2).trans rfl,(y7 BK299.out 3).trans rfl,(y7 BK299.out 4).trans rfl⟩ (fun hHeld => ?_); refine with_tabW z2_.tab6 z2_.bits6 (fun HT_ HW_ => ?_)
   generalize w36.drew = w39 at BK299 BK300 HB hHeld ⊢
   refine qp 0 39 (fl_ 10 1) ?_
   refine qp 4 43 (fl_ 10 17) ?_
   refine qt 1 40 (fl_ 10 19) hHeld ?_
   refine qp 2 41 (fl_ 10 23) ?_
   refine qt 3 42 (fl_ 10 31) hHeld ?_
   refine qt 5 44 (fl_ 10 63) hHeld ?_
   refine one_ (i := 6) (N := some 45) (fl_ 10 127) rfl rfl (one_of HT_.out (by kernel_rfl)) (by decide) (fun K hK => ?_)
   refine goes_ Try.func81 (by kernel_rfl) rfl #[.agg #[.slice A0_0 l0_0.length c0_0,.int .i64 a0_1,.string a0_2,.slice A0_3 l0_3.length c0_3,.slice A0_4 l0_4.length c0_4],.slice A1_2 l1_2.length c1_2] (by rfl) rfl rfl qy0 ?_
   with_reducible refine (z1_.calls k _ _ l0_0 a0_1 a0_2 _ _ l0_3 _ _ l0_4 _ _ l1_2 t306 _ (qc (Kd.C_below HR0_0.out HB.out)) HC0_0.out (qc (Kd.C_below HR0_3.out HB.out)) HC0_3.out (qc (Kd.C_below HR0_4.out HB.out)) HC0_4.out (qc (Kd.C_below HR1_2.out HB.out)) HC1_2.out A32.out).mono ?_
   rintro e w40 ⟨rfl,hb⟩
   refine ⟨_,rfl, ?_⟩
   replace BK299 := y0.mk (qK BK299.out hb)
   replace BK300 := y0.mk (qK BK300.out hb)
   replace HB := y0.mk (y4 qb hb)
   (try clear hb)
   (try clear hb2)
   (try clear hk)
   (try clear hi)
   refine hK.out _ _ ⟨(y7 BK300.out 0).trans rfl,(y7 BK300.out 1).trans rfl,(y7 BK300.out 2).trans rfl,(y7 BK299.out 0).trans rfl,(y7 BK299.out 1).trans rfl,(y7 BK299.out 2).trans rfl,(y7 BK299.out 3).trans rfl,(y7 BK299.out 4).trans rfl⟩ (fun hHeld => ?_)
   clear hK K
   refine norm_ (a' := ?_) ?_ ?_
   rotate_left
   ·show Act.put _ (some 45) _ = _
    simp only [Act.put,qS_,qZ_,qC_,i64_w,i32_w]
    rfl
   refine qp 7 46 (fl_ 10 255) ?_
   refine qp 8 47 (fl_ 10 511) ?_
   refine qp 9 4 (fl_ 10 1023) ?_
   refine done_ (done_of HT_.out (by kernel_rfl)) ?_
   try go_wp2
   go_ret
   exact ⟨by first | rfl | (simp [y12,y13] <;> rfl) | (simp [*,y12,y13] <;> rfl),qb⟩
end Go.Proofs.Ytamjmldfifofbaa.Pp
end
section
namespace Go.Proofs.Ytamjmldfifofbaa.Pp
open Go.RowKit Go.Proofs.YtamjmldfifofbaaW.PrintWords Go.Proofs.YtamjmldfifofbaaW.PrintLast Go.Proofs.YtamjmldfifofbaaW.PrintMore
attribute [local go_sem] max2_int min2_int max_two min_two max_three min_three max_four min_four   -- for this text's walks alone
set_option linter.unusedVariables false
set_option linter.unusedSimpArgs false
def impl_ruleText.l0 : Nat → ByteArray → List ByteArray → List (S32) → Int → Int → List (S101) → Int → ByteArray → List Int → List (S32) → Option (ByteArray)
 | 0,_,_,_,_,_,_,_,_,_,_ => none
 | k + 1,x3,x4,x16,x17,x18,x308000,x308001,x308002,x308003,x308004 => if x18 < x17 then (if 0 ≤ x18 then (if x18 < (x16.length : Int) then ((z2_.f k x308000 x308001 x308002 x308003 x308004 ((y19 x16 x18).f0) ((y19 x16 x18).f1) ((y19 x16 x18).f2)).bind fun t315 => (if x4.length < 8796093022208 then (impl_ruleText.l0 k x3 (x4 ++ [t315]) x16 x17 (wrap64 (x18 + 1)) x308000 x308001 x308002 x308003 x308004) else (none))) else (none)) else (none)) else (if (x4.length : Int) > 0 then ((strings_Join.f x4 (⟨#[44,32]⟩ : ByteArray)).bind fun t319 => (if 4 + t319.size ≤ 9223372036854775807 then (if x3.size + ((⟨#[32,58,45,32]⟩ : ByteArray) ++ t319).size ≤ 9223372036854775807 then (if (x3 ++ ((⟨#[32,58,45,32]⟩ : ByteArray) ++ t319)).size + 1 ≤ 9223372036854775807 then (if (((x3 ++ ((⟨#[32,58,45,32]⟩ : ByteArray) ++ t319)) ++ (⟨#[46]⟩ : ByteArray)).size : Int) > 3000 then (some (⟨#[]⟩ : ByteArray)) else (some ((x3 ++ ((⟨#[32,58,45,32]⟩ : ByteArray) ++ t319)) ++ (⟨#[46]⟩ : ByteArray)))) else (none)) else (none)) else (none))) else (if x3.size + 1 ≤ 9223372036854775807 then (if ((x3 ++ (⟨#[46]⟩ : ByteArray)).size : Int) > 3000 then (some (⟨#[]⟩ : ByteArray)) else (some (x3 ++ (⟨#[46]⟩ : ByteArray)))) else (none)))
def impl_ruleText.f (k : Nat) (l0_0 : List (S101)) (a0_1 : Int) (a0_2 : ByteArray) (l0_3 : List Int) (l0_4 : List (S32)) : Option (ByteArray) := (z3_.f k l0_0 a0_1 a0_2 l0_3 l0_4).bind fun t308 => (if t308 = true then ((z2_.f k l0_0 a0_1 a0_2 l0_3 l0_4 a0_1 a0_2 l0_3).bind fun t309 => (impl_ruleText.l0 k t309 (([] : List ByteArray)) l0_4 (l0_4.length : Int) 0 l0_0 a0_1 a0_2 l0_3 l0_4)) else (some (⟨#[]⟩ : ByteArray)))
set_option maxHeartbeats 8000000 in
set_option maxRecDepth 100000 in
theorem impl_ruleText.calls (k : Nat) (A0_0 : Option Addr) (c0_0 : Nat) (l0_0 : List (S101)) (a0_1 : Int) (a0_2 : ByteArray) (A0_3 : Option Addr) (c0_3 : Nat) (l0_3 : List Int) (A0_4 : Option Addr) (c0_4 : Nat) (l0_4 : List (S32)) (r : ByteArray) (w : World) (hr0_0 : Kd.C k101 w A0_0 l0_0.length l0_0) (hc0_0 : l0_0.length ≤ c0_0) (hr0_3 : Kd.C (Kd.int .i64) w A0_3 l0_3.length l0_3) (hc0_3 : l0_3.length ≤ c0_3) (hr0_4 : Kd.C k32 w A0_4 l0_4.length l0_4) (hc0_4 : l0_4.length ≤ c0_4) (h : impl_ruleText.f k l0_0 a0_1 a0_2 l0_3 l0_4 = some r) :
  Calls Try.prog 30 #[.agg #[.slice A0_0 l0_0.length c0_0,.int .i64 a0_1,.string a0_2,.slice A0_3 l0_3.length c0_3,.slice A0_4 l0_4.length c0_4]] w fun e w' => e = .returned (.string r) ∧ Below w.heap.size w w' := by
 have hu35 := Try.underlying35
 have hu32 := Try.underlying32
 have HR0_0 := y0.mk hr0_0
 have HC0_0 := y0.mk hc0_0
 clear hr0_0 hc0_0
 have HR0_3 := y0.mk hr0_3
 have HC0_3 := y0.mk hc0_3
 clear hr0_3 hc0_3
 have HR0_4 := y0.mk hr0_4
 have HC0_4 := y0.mk hc0_4
 clear hr0_4 hc0_4
 have HB := y0.mk (Below.refl w.heap.size w)
 have H : ((z3_.f k l0_0 a0_1 a0_2 l0_3 l0_4).bind fun t308 => (if t308 = true then ((z2_.f k l0_0 a0_1 a0_2 l0_3 l0_4 a0_1 a0_2 l0_3).bind fun t309 => (impl_ruleText.l0 k t309 (([] : List ByteArray)) l0_4 (l0_4.length : Int) 0 l0_0 a0_1 a0_2 l0_3 l0_4)) else (some (⟨#[]⟩ : ByteArray)))) = some r := h
 clear h
 obtain ⟨t308,A2,H⟩ := qB H
 by_cases c3 : t308 = true
 ·subst c3
  replace H := qT H
  obtain ⟨t309,A4,H⟩ := qB H
  obtain ⟨y310,hy310⟩ : ∃ y_ : List ByteArray,y_ = (([] : List ByteArray)) := ⟨_,rfl⟩
  replace H : (impl_ruleText.l0 k t309 y310 l0_4 (l0_4.length : Int) 0 l0_0 a0_1 a0_2 l0_3 l0_4) = some r := by first | (rw [hy310]; with_reducible exact H) | (have H2_ := (Option.bind_some _ _).symm.trans H; rw [hy310]; with_reducible exact H2_) | (have H2_ := (Option.bind_some _ _).symm.trans H; with_reducible exact H2_) | with_reducible exact H | (rw [hy310]; exact H) | exact H
  have Ny310 := y0.mk hy310
  clear hy310
  have H' := y0.mk H
  clear H
  go_enter Try.func30,Try.ntmps30
  go_wp2_with (first | ((with_reducible refine y16 (N := 1) rfl ?_); refine qe 1 #[.slice A0_0 l0_0.length c0_0,.int .i64 a0_1,.string a0_2,.slice A0_3 l0_3.length c0_3,.slice A0_4 l0_4.length c0_4] 35 ?_; intro gb307 hg w5 hbox hb; have BK307 := y0.mk (hbox); have GW307 := y0.mk (qg (w := w) hg); have GE307 := y0.mk (qg (w := w) hg); replace HB := y0.mk (y4 qb hb); clear hb hbox hg; obtain ⟨hcz6_0,hcz6_1,hcz6_2,hcz6_3,hcz6_4,hfz6_0,hfz6_1,hfz6_2,hfz6_3,hfz6_4⟩ := qz5 BK307.out) | ((with_reducible refine y15 (f := 59) rfl ?_); refine y17 (some 8) rfl rfl Try.func59 (by kernel_rfl) rfl #[.agg #[.slice A0_0 l0_0.length c0_0,.int .i64 a0_1,.string a0_2,.slice A0_3 l0_3.length c0_3,.slice A0_4 l0_4.length c0_4]] rfl qy0 ?_; (with_reducible refine (z3_.calls k _ _ l0_0 a0_1 a0_2 _ _ l0_3 _ _ l0_4 true _ (qc (Kd.C_below HR0_0.out HB.out)) HC0_0.out (qc (Kd.C_below HR0_3.out HB.out)) HC0_3.out (qc (Kd.C_below HR0_4.out HB.out)) HC0_4.out A2.out).mono ?_); rintro e w7 ⟨rfl,hb⟩; refine ⟨_,rfl, ?_⟩; replace BK307 := y0.mk (qK BK307.out hb); replace HB := y0.mk (y4 qb hb); (try clear hb); (try clear hb2); (try clear hk); (try clear hi); obtain ⟨hcz8_0,hcz8_1,hcz8_2,hcz8_3,hcz8_4,hfz8_0,hfz8_1,hfz8_2,hfz8_3,hfz8_4⟩ := qz5 BK307.out) | ((with_reducible refine y15 (f := 60) rfl ?_); refine y17 (some 13) rfl rfl Try.func60 (by kernel_rfl) rfl #[.agg #[.slice A0_0 l0_0.length c0_0,.int .i64 a0_1,.string a0_2,.slice A0_3 l0_3.length c0_3,.slice A0_4 l0_4.length c0_4],.agg #[.int .i64 a0_1,.string a0_2,.slice A0_3 l0_3.length c0_3]] rfl qy0 ?_; (with_reducible refine (z2_.calls k _ _ l0_0 a0_1 a0_2 _ _ l0_3 _ _ l0_4 a0_1 a0_2 _ _ l0_3 t309 _ (qc (Kd.C_below HR0_0.out HB.out)) HC0_0.out (qc (Kd.C_below HR0_3.out HB.out)) HC0_3.out (qc (Kd.C_below HR0_4.out HB.out)) HC0_4.out (qc (Kd.C_below HR0_3.out HB.out)) HC0_3.out A4.out).mono ?_); rintro e w9 ⟨rfl,hb⟩; refine ⟨_,rfl, ?_⟩; replace BK307 := y0.mk (qK BK307.out hb); replace HB := y0.mk (y4 qb hb); (try clear hb); (try clear hb2); (try clear hk); (try clear hi)) | ((with_reducible refine y16 (N := 14) rfl ?_); refine Kd.R_lit Kd.string _ 9 ?hg (N := 14) ?hd (xs := ([] : List ByteArray)) (inner := []) (ok := fun _ => True) (okp := fun _ => True) ?hr ?hp (fun _ hk => hk) trivial (Below.refl _ _) (Nat.le_refl _) (by simp) ?_; (case hd => rfl); (case hg => rfl); (case hr => first | (go_simp; done) | (go_simp; rfl)); (case hp => exact (Reps.none _ _)); intro v311 w10 ho11 hb hg_ hnew_; clear hg_ hnew_; (first | rw [← Ny310.out] at ho11 | (simp only [Int.reduceToNat] at ho11; rw [← Ny310.out] at ho11)); have HO312 := y0.mk (Kd.R_lower ho11 (y3 qb)); replace BK307 := y0.mk (qK BK307.out hb); replace HB := y0.mk (y4 qb hb); clear hb ho11; obtain ⟨hcz12_0,hcz12_1,hcz12_2,hcz12_3,hcz12_4,hfz12_0,hfz12_1,hfz12_2,hfz12_3,hfz12_4⟩ := qz5 BK307.out))
  go_loopg [4,18] k (fun kq v4 v18 w' => ∃ (x4_1 : List ByteArray) (x18_1 : Int),v18 = .int .i64 x18_1 ∧ y0 (impl_ruleText.l0 kq t309 x4_1 l0_4 (l0_4.length : Int) x18_1 l0_0 a0_1 a0_2 l0_3 l0_4 = some r) ∧ y0 (kq ≤ k) ∧ y0 (Kd.R Kd.string 9 w' w.heap.size (fun _ => True) v4 x4_1) ∧ y0 (w'.heap[gb307]? = some (.cells #[(.slice A0_0 l0_0.length c0_0),.int .i64 a0_1,.string a0_2,(.slice A0_3 l0_3.length c0_3),(.slice A0_4 l0_4.length c0_4)] 35 (0,0))) ∧ y0 (Below w.heap.size w w'))
  case atStart => exact ⟨(y310),(0),qy2,H',⟨Nat.le_refl _⟩,⟨qR HO312.out⟩,⟨qk BK307.out⟩,⟨qb⟩⟩
  case round =>
   clear H'
   (try clear c3 hcz12_0 hcz12_1 hcz12_2 hcz12_3 hcz12_4 hcz6_0 hcz6_1 hcz6_2 hcz6_3 hcz6_4 hcz8_0 hcz8_1 hcz8_2 hcz8_3 hcz8_4 hfz12_0 hfz12_1 hfz12_2 hfz12_3 hfz12_4 hfz6_0 hfz6_1 hfz6_2 hfz6_3 hfz6_4 hfz8_0 hfz8_1 hfz8_2 hfz8_3 hfz8_4)
   obtain ⟨x4_1,x18_1,rfl,HA,HK1,HO_4,BK307,HB⟩ := hrel
   cases gk with
   | zero => exact absurd HA.out (by simp [impl_ruleText.l0])
   | succ k1 =>
    have H := HA.out
    clear HA
    simp only [impl_ruleText.l0] at H
    by_cases c13 : x18_1 < (l0_4.length : Int)
    ·rw [if_pos c13] at H
     have c13b0 := decide_eq_true c13
     clear c13
     obtain ⟨c14,H⟩ := qo H
     have c14b0 : decide (0 ≤ x18_1) = true := decide_eq_true c14
     clear c14
     obtain ⟨c15,H⟩ := qo H
     have c15b0 : decide (x18_1 < (l0_4.length : Int)) = true := decide_eq_true c15
     clear c15
     obtain ⟨t315,A16,H⟩ := qB H
     obtain ⟨c17,H⟩ := qo H
     have LMc17 := y0.mk c17
     clear c17
     obtain ⟨y316,hy316⟩ : ∃ y_ : List ByteArray,y_ = (x4_1 ++ [t315]) := ⟨_,rfl⟩
     replace H : (impl_ruleText.l0 k1 t309 y316 l0_4 (l0_4.length : Int) (wrap64 (x18_1 + 1)) l0_0 a0_1 a0_2 l0_3 l0_4) = some r := by first | (rw [hy316]; with_reducible exact H) | (have H2_ := (Option.bind_some _ _).symm.trans H; rw [hy316]; with_reducible exact H2_) | (have H2_ := (Option.bind_some _ _).symm.trans H; with_reducible exact H2_) | with_reducible exact H | (rw [hy316]; exact H) | exact H
     have Ny316 := y0.mk hy316
     clear hy316
     have H' := y0.mk H
     clear H
     have p313 : 0 ≤ (x18_1 : Int) := of_decide_eq_true qy1
     have q313 : x18_1 < (l0_4.length : Int) := of_decide_eq_true qy1
     obtain ⟨ad313,A313_2,c313_2,e313,hx313_0,hx313_1,hx313_2,hl313_2,hi313_2⟩ := at_T32 HR0_4.out x18_1 p313 q313
     cases e313
     replace hx313_0 := (HB.out.cell (World.block_lt_of_cell? w _ hx313_0)).trans hx313_0
     replace hx313_1 := (HB.out.cell (World.block_lt_of_cell? w _ hx313_1)).trans hx313_1
     replace hx313_2 := (HB.out.cell (World.block_lt_of_cell? w _ hx313_2)).trans hx313_2
     have HR313_2 := y0.mk hi313_2
     have HC313_2 := y0.mk hl313_2
     clear hi313_2 hl313_2
     replace p313 := eq_true p313
     replace q313 := eq_true q313
     go_wp2_with (first | ((with_reducible refine y16 (N := 6) rfl ?_); refine qe 6 #[.int .i64 0,.string (⟨#[]⟩ : ByteArray),.slice none 0 0] 32 ?_; intro gb314 hg w18 hbox hb; replace HO_4 := y0.mk (Kd.R_below (qR HO_4.out) hb); have BK314 := y0.mk (hbox); have GW314 := y0.mk (qg (w := w) hg); have GE314 := y0.mk (qg (w := w) hg); replace HB := y0.mk (y4 qb hb); have NB307_314 := y0.mk (qn BK307.out hg); have NB314_307 := y0.mk (qm BK307.out hg); replace BK307 := y0.mk (qK BK307.out hb); clear hb hbox hg; have hnb19 := NB314_307.out; have hnc19 := NB307_314.out; obtain ⟨hcz20_0,hcz20_1,hcz20_2,hfz20_0,hfz20_1,hfz20_2⟩ := qz3 BK314.out; obtain ⟨hcz21_0,hcz21_1,hcz21_2,hcz21_3,hcz21_4,hfz21_0,hfz21_1,hfz21_2,hfz21_3,hfz21_4⟩ := qz5 BK307.out) | ((with_reducible refine y15 (f := 60) rfl ?_); refine y17 (some 25) rfl rfl Try.func60 (by kernel_rfl) rfl #[.agg #[.slice A0_0 l0_0.length c0_0,.int .i64 a0_1,.string a0_2,.slice A0_3 l0_3.length c0_3,.slice (some ad313) l0_4.length c0_4],.agg #[.int .i64 ((y19 l0_4 x18_1).f0),.string ((y19 l0_4 x18_1).f1),.slice A313_2 ((y19 l0_4 x18_1).f2).length c313_2]] rfl qy0 ?_; (with_reducible refine (z2_.calls k1 _ _ l0_0 a0_1 a0_2 _ _ l0_3 _ _ l0_4 ((y19 l0_4 x18_1).f0) ((y19 l0_4 x18_1).f1) _ _ ((y19 l0_4 x18_1).f2) t315 _ (by exact Kd.C_below HR0_0.out qb) HC0_0.out (by exact Kd.C_below HR0_3.out qb) HC0_3.out (by exact Kd.C_below HR0_4.out qb) HC0_4.out (by exact Kd.C_below HR313_2.out qb) HC313_2.out A16.out).mono ?_); rintro e w22 ⟨rfl,hb⟩; refine ⟨_,rfl, ?_⟩; replace HO_4 := y0.mk (Kd.R_below (qR ((Kd.R_mono (Kd.R_far (p := ⟨gb314,2,none⟩) (Kd.R_far (p := ⟨gb314,1,none⟩) (Kd.R_far (p := ⟨gb314,0,none⟩) (Kd.R_types HO_4.out BK314.out (by decide)) (fun _ hk => hk.2) (.int .i64 ((y19 l0_4 x18_1).f0))) (fun _ hk => hk.2) (.string ((y19 l0_4 x18_1).f1))) (fun _ hk => hk.2) (.slice A313_2 ((y19 l0_4 x18_1).f2).length c313_2)) (fun _ h_ => h_.1)))) hb); replace BK307 := y0.mk (y6 (g := gb307) (o := .cells #[.slice A0_0 l0_0.length c0_0,.int .i64 a0_1,.string a0_2,.slice A0_3 l0_3.length c0_3,.slice (some ad313) l0_4.length c0_4] 35 (0,0)) (by (with_reducible repeat (first | refine y9 ?_ _ | refine y8 ?_ | refine y5 ?_ _)); refine y10 ?_ NB307_314.out _; (with_reducible repeat (first | refine y9 ?_ _ | refine y8 ?_ | refine y5 ?_ _)); refine y10 ?_ NB307_314.out _; (with_reducible repeat (first | refine y9 ?_ _ | refine y8 ?_ | refine y5 ?_ _)); refine y10 ?_ NB307_314.out _; (with_reducible repeat (first | refine y9 ?_ _ | refine y8 ?_ | refine y5 ?_ _)); exact BK307.out) hb); replace BK314 := y0.mk (y6 (g := gb314) (o := .cells #[.int .i64 ((y19 l0_4 x18_1).f0),.string ((y19 l0_4 x18_1).f1),.slice A313_2 ((y19 l0_4 x18_1).f2).length c313_2] 32 (0,0)) (by (with_reducible repeat (first | refine y9 ?_ _ | refine y8 ?_ | refine y5 ?_ _)); refine y11 (cs := #[.int .i64 ((y19 l0_4 x18_1).f0),.string ((y19 l0_4 x18_1).f1),.slice none 0 0]) ?_ 2 _ rfl; (with_reducible repeat (first | refine y9 ?_ _ | refine y8 ?_ | refine y5 ?_ _)); refine y11 (cs := #[.int .i64 ((y19 l0_4 x18_1).f0),.string (⟨#[]⟩ : ByteArray),.slice none 0 0]) ?_ 1 _ rfl; (with_reducible repeat (first | refine y9 ?_ _ | refine y8 ?_ | refine y5 ?_ _)); refine y11 (cs := #[.int .i64 0,.string (⟨#[]⟩ : ByteArray),.slice none 0 0]) ?_ 0 _ rfl; (with_reducible repeat (first | refine y9 ?_ _ | refine y8 ?_ | refine y5 ?_ _)); exact BK314.out) hb); replace HB := y0.mk (y4 qb hb); (try clear hb); (try clear hb2); (try clear hk); (try clear hi)) | ((with_reducible refine gate_builtin (b := .append) (xs := #[.tmp 22,.tmp 26]) rfl ?_); at_builtin; refine Kd.R_append Kd.string (w0 := w) w.heap.size rfl (.tmp 22) (.tmp 26) 54 9 (.string ⟨#[]⟩) 16 rfl Try.underlying54 info9 rfl (by decide) (by omega) u4 x4_1 t315 [.string t315] (fun _ => True) (fun _ => False) rfl rfl ?aP (fun _ hk => hk.elim) ?aF ?aO ?aB ?aS ?aL ?_; (case aP => exact rfl); (case aB => exact qb); (case aF => exact (fun _ _ => trivial)); (case aO => exact (qR HO_4.out)); (case aS => exact (y3 qb)); (case aL => have := LMc17.out; omega); intro v317 w23 ho hb hg hat; rw [← Ny316.out] at ho; replace BK307 := y0.mk (blk_grown (qk BK307.out) hg (Kd.R_ne HO_4.out BK307.out (by decide))); replace BK314 := y0.mk (blk_grown (qk BK314.out) hg (Kd.R_ne HO_4.out BK314.out (by decide))); replace HB := y0.mk (hb); have HO318 := y0.mk (ho); clear HO_4; clear ho hb hg hat))
     go_roundg k1
     case measure => have := HK1.out; omega
     exact ⟨(y316),(wrap64 (x18_1 + 1)),qy2,H',⟨by have := HK1.out; omega⟩,⟨qR HO318.out⟩,⟨qk BK307.out⟩,⟨qb⟩⟩
    ·rw [if_neg c13] at H
     have c13b0 := decide_eq_false c13
     clear c13
     by_cases c24 : (x4_1.length : Int) > 0
     ·rw [if_pos c24] at H
      have c24b0 : decide (0 < (x4_1.length : Int)) = true := decide_eq_true c24
      have c24b1 : decide (0 < x4_1.length) = true := decide_eq_true (by omega)
      clear c24
      obtain ⟨t319,A25,H⟩ := qB H
      obtain ⟨c26,H⟩ := qo H
      have c26b0 := eq_true c26
      have c26b1 := decide_eq_true c26
      have c26b2 := eq_false (Nat.not_lt.2 c26)
      obtain ⟨c27,H⟩ := qo H
      have c27b0 := eq_true c27
      have c27b1 := decide_eq_true c27
      have c27b2 := eq_false (Nat.not_lt.2 c27)
      have c27b3 : (9223372036854775807 < t309.size + 4 + t319.size) = False := qs c27b2
      have c27b7 : (9223372036854775807 < t309.size + (4 + t319.size)) = False := qs c27b2
      have c27b9 : (9223372036854775807 < t309.size + (4 + t319.size)) = False := qs c27b2
      obtain ⟨c28,H⟩ := qo H
      have c28b0 := eq_true c28
      have c28b1 := decide_eq_true c28
      have c28b2 := eq_false (Nat.not_lt.2 c28)
      have c28b3 : (9223372036854775807 < t309.size + 4 + t319.size + 1) = False := qs c28b2
      have c28b9 : (9223372036854775807 < t309.size + (4 + t319.size) + 1) = False := qs c28b2
      by_cases c29 : (((t309 ++ ((⟨#[32,58,45,32]⟩ : ByteArray) ++ t319)) ++ (⟨#[46]⟩ : ByteArray)).size : Int) > 3000
      ·rw [if_pos c29] at H
       have c29b8 : (3000 < (t309.size : Int) + (4 + (t319.size : Int)) + 1) = True := eq_true (by have h_ := c29; rw [show ((t309 ++ ((⟨#[32,58,45,32]⟩ : ByteArray) ++ t319)) ++ (⟨#[46]⟩ : ByteArray)).size = t309.size + (4 + t319.size) + 1 from by (simp only [ByteArray.size_append]; rfl)] at h_; omega)
       have c29b0 : decide (3000 < (((t309 ++ ((⟨#[32,58,45,32]⟩ : ByteArray) ++ t319)) ++ (⟨#[46]⟩ : ByteArray)).size : Int)) = true := decide_eq_true c29
       have c29b1 : decide (3000 < ((t309 ++ ((⟨#[32,58,45,32]⟩ : ByteArray) ++ t319)) ++ (⟨#[46]⟩ : ByteArray)).size) = true := decide_eq_true (by omega)
       clear c29
       obtain rfl := Option.some.inj H
       obtain ⟨Ao30,co30,eo30⟩ := Kd.R_slice HO_4.out
       subst eo30
       go_wp2_with (first | ((with_reducible refine y15 (f := 61) rfl ?_); refine y17 (some 34) rfl rfl Try.func61 (by kernel_rfl) rfl #[.slice Ao30 x4_1.length co30,.string (⟨#[44,32]⟩ : ByteArray)] rfl qy0 ?_; (with_reducible refine (strings_Join.calls _ _ x4_1 (⟨#[44,32]⟩ : ByteArray) t319 _ (qc ((Kd.R_reads' HO_4.out).2.2)) (by exact (Kd.R_reads' HO_4.out).2.1) A25.out).mono ?_); rintro e w31 ⟨rfl,hb⟩; refine ⟨_,rfl, ?_⟩; replace HO_4 := y0.mk (Kd.R_below (qR HO_4.out) hb); replace BK307 := y0.mk (qK BK307.out hb); replace HB := y0.mk (y4 qb hb); (try clear hb); (try clear hb2); (try clear hk); (try clear hi)))
       go_ret
       exact ⟨by first | rfl | (simp [y12,y13] <;> rfl) | (simp [*,y12,y13] <;> rfl),qb⟩
      ·rw [if_neg c29] at H
       have c29b8 : (3000 < (t309.size : Int) + (4 + (t319.size : Int)) + 1) = False := eq_false (by have h_ := c29; rw [show ((t309 ++ ((⟨#[32,58,45,32]⟩ : ByteArray) ++ t319)) ++ (⟨#[46]⟩ : ByteArray)).size = t309.size + (4 + t319.size) + 1 from by (simp only [ByteArray.size_append]; rfl)] at h_; omega)
       have c29b0 : decide (3000 < (((t309 ++ ((⟨#[32,58,45,32]⟩ : ByteArray) ++ t319)) ++ (⟨#[46]⟩ : ByteArray)).size : Int)) = false := decide_eq_false c29
       have c29b1 : decide (3000 < ((t309 ++ ((⟨#[32,58,45,32]⟩ : ByteArray) ++ t319)) ++ (⟨#[46]⟩ : ByteArray)).size) = false := decide_eq_false (by omega)
       clear c29
       obtain rfl := Option.some.inj H
       obtain ⟨Ao32,co32,eo32⟩ := Kd.R_slice HO_4.out
       subst eo32
       go_wp2_with (first | ((with_reducible refine y15 (f := 61) rfl ?_); refine y17 (some 34) rfl rfl Try.func61 (by kernel_rfl) rfl #[.slice Ao32 x4_1.length co32,.string (⟨#[44,32]⟩ : ByteArray)] rfl qy0 ?_; (with_reducible refine (strings_Join.calls _ _ x4_1 (⟨#[44,32]⟩ : ByteArray) t319 _ (qc ((Kd.R_reads' HO_4.out).2.2)) (by exact (Kd.R_reads' HO_4.out).2.1) A25.out).mono ?_); rintro e w33 ⟨rfl,hb⟩; refine ⟨_,rfl, ?_⟩; replace HO_4 := y0.mk (Kd.R_below (qR HO_4.out) hb); replace BK307 := y0.mk (qK BK307.out hb); replace HB := y0.mk (y4 qb hb); (try clear hb); (try clear hb2); (try clear hk); (try clear hi)))
       go_ret
       exact ⟨by first | rfl | (simp [y12,y13] <;> rfl) | (simp [*,y12,y13] <;> rfl),qb⟩
     ·rw [if_neg c24] at H
      have c24b0 : decide (0 < (x4_1.length : Int)) = false := decide_eq_false c24
      have c24b1 : decide (0 < x4_1.length) = false := decide_eq_false (by omega)
      clear c24
      obtain ⟨c34,H⟩ := qo H
      have c34b0 := eq_true c34
      have c34b1 := decide_eq_true c34
      have c34b2 := eq_false (Nat.not_lt.2 c34)
      by_cases c35 : ((t309 ++ (⟨#[46]⟩ : ByteArray)).size : Int) > 3000
      ·rw [if_pos c35] at H
       have c35b8 : (3000 < (t309.size : Int) + 1) = True := eq_true (by have h_ := c35; rw [show (t309 ++ (⟨#[46]⟩ : ByteArray)).size = t309.size + 1 from by (simp only [ByteArray.size_append]; rfl)] at h_; omega)
       have c35b0 : decide (3000 < ((t309 ++ (⟨#[46]⟩ : ByteArray)).size : Int)) = true := decide_eq_true c35
       have c35b1 : decide (3000 < (t309 ++ (⟨#[46]⟩ : ByteArray)).size) = true := decide_eq_true (by omega)
       clear c35
       obtain rfl := Option.some.inj H
       obtain ⟨Ao36,co36,eo36⟩ := Kd.R_slice HO_4.out
       subst eo36
       go_wp2
       go_ret
       exact ⟨by first | rfl | (simp [y12,y13] <;> rfl) | (simp [*,y12,y13] <;> rfl),qb⟩
      ·rw [if_neg c35] at H
       have c35b8 : (3000 < (t309.size : Int) + 1) = False := eq_false (by have h_ := c35; rw [show (t309 ++ (⟨#[46]⟩ : ByteArray)).size = t309.size + 1 from by (simp only [ByteArray.size_append]; rfl)] at h_; omega)
       have c35b0 : decide (3000 < ((t309 ++ (⟨#[46]⟩ : ByteArray)).size : Int)) = false := decide_eq_false c35
       have c35b1 : decide (3000 < (t309 ++ (⟨#[46]⟩ : ByteArray)).size) = false := decide_eq_false (by omega)
       clear c35
       obtain rfl := Option.some.inj H
       obtain ⟨Ao37,co37,eo37⟩ := Kd.R_slice HO_4.out
       subst eo37
       go_wp2
       go_ret
       exact ⟨by first | rfl | (simp [y12,y13] <;> rfl) | (simp [*,y12,y13] <;> rfl),qb⟩
 ·replace c3 := Bool.eq_false_iff.mpr c3
  subst c3
  replace H := qF H
  obtain rfl := Option.some.inj H
  go_enter Try.func30,Try.ntmps30
  go_wp2_with (first | ((with_reducible refine y16 (N := 1) rfl ?_); refine qe 1 #[.slice A0_0 l0_0.length c0_0,.int .i64 a0_1,.string a0_2,.slice A0_3 l0_3.length c0_3,.slice A0_4 l0_4.length c0_4] 35 ?_; intro gb307 hg w38 hbox hb; have BK307 := y0.mk (hbox); have GW307 := y0.mk (qg (w := w) hg); have GE307 := y0.mk (qg (w := w) hg); replace HB := y0.mk (y4 qb hb); clear hb hbox hg; obtain ⟨hcz39_0,hcz39_1,hcz39_2,hcz39_3,hcz39_4,hfz39_0,hfz39_1,hfz39_2,hfz39_3,hfz39_4⟩ := qz5 BK307.out) | ((with_reducible refine y15 (f := 59) rfl ?_); refine y17 (some 8) rfl rfl Try.func59 (by kernel_rfl) rfl #[.agg #[.slice A0_0 l0_0.length c0_0,.int .i64 a0_1,.string a0_2,.slice A0_3 l0_3.length c0_3,.slice A0_4 l0_4.length c0_4]] rfl qy0 ?_; (with_reducible refine (z3_.calls k _ _ l0_0 a0_1 a0_2 _ _ l0_3 _ _ l0_4 false _ (qc (Kd.C_below HR0_0.out HB.out)) HC0_0.out (qc (Kd.C_below HR0_3.out HB.out)) HC0_3.out (qc (Kd.C_below HR0_4.out HB.out)) HC0_4.out A2.out).mono ?_); rintro e w40 ⟨rfl,hb⟩; refine ⟨_,rfl, ?_⟩; replace BK307 := y0.mk (qK BK307.out hb); replace HB := y0.mk (y4 qb hb); (try clear hb); (try clear hb2); (try clear hk); (try clear hi)))
  go_ret
  exact ⟨by first | rfl | (simp [y12,y13] <;> rfl) | (simp [*,y12,y13] <;> rfl),qb⟩
def laws_eqIntS.l0 : Nat → List Int → List Int → Int → Option (Bool)
 | 0,_,_,_ => none
 | k + 1,x0,x1,x5 => if x5 < (x0.length : Int) then (if 0 ≤ x5 then (if x5 < (x1.length : Int) then (if (rd x0 x5) = (rd x1 x5) then (laws_eqIntS.l0 k x0 x1 (wrap64 (x5 + 1))) else (some false)) else (none)) else (none)) else (some true)
def laws_eqIntS.f (k : Nat) (l0 : List Int) (l1 : List Int) : Option (Bool) := if (l0.length : Int) = (l1.length : Int) then (laws_eqIntS.l0 k l0 l1 0) else (some false)
set_option maxHeartbeats 8000000 in
set_option maxRecDepth 100000 in
theorem laws_eqIntS.calls (k : Nat) (A0 : Option Addr) (c0 : Nat) (l0 : List Int) (A1 : Option Addr) (c1 : Nat) (l1 : List Int) (r : Bool) (w : World) (hr0 : Kd.C (Kd.int .i64) w A0 l0.length l0) (hc0 : l0.length ≤ c0) (hr1 : Kd.C (Kd.int .i64) w A1 l1.length l1) (hc1 : l1.length ≤ c1) (h : laws_eqIntS.f k l0 l1 = some r) (htrue_ : r = true) :
  Calls Try.prog 63 #[.slice A0 l0.length c0,.slice A1 l1.length c1] w fun e w' => e = .returned (.bool r) ∧ y1 w w' := by
 have HR0 := y0.mk hr0
 have HC0 := y0.mk hc0
 clear hr0 hc0
 have HR1 := y0.mk hr1
 have HC1 := y0.mk hc1
 clear hr1 hc1
 have H : (if (l0.length : Int) = (l1.length : Int) then (laws_eqIntS.l0 k l0 l1 0) else (some false)) = some r := h
 clear h
 by_cases c3 : (l0.length : Int) = (l1.length : Int)
 ·rw [if_pos c3] at H
  have c3b0 : ((l0.length : Int) == (l1.length : Int)) = true := beq_iff_eq.mpr c3
  have c3b1 : ((l0.length : Int) != (l1.length : Int)) = false := bne_eq_false_iff_eq.mpr c3
  have c3b2 : (l0.length == l1.length) = true := by first | simpa using c3 | (simp at c3 ⊢; omega)
  clear c3
  have H' := y0.mk H
  clear H
  go_enter Try.func63,Try.ntmps63
  go_wp2
  repeat (go_quiet (fail); try go_wp2)
  go_loopg [5] k (fun kq v5 w' => ∃ (x5_1 : Int),v5 = .int .i64 x5_1 ∧ y0 (laws_eqIntS.l0 kq l0 l1 x5_1 = some r) ∧ y0 (kq ≤ k) ∧ y1 w w')
  case atStart => exact ⟨(0),qy2,H',⟨Nat.le_refl _⟩,by repeat (first | exact y1.refl _ | apply y1.step)⟩
  case round =>
   clear H'
   (try clear c3b0 c3b1 c3b2)
   obtain ⟨x5_1,rfl,HA,HK1,⟨m1,rfl⟩⟩ := hrel
   cases gk with
   | zero => exact absurd HA.out (by simp [laws_eqIntS.l0])
   | succ k1 =>
    have H := HA.out
    clear HA
    simp only [laws_eqIntS.l0] at H
    by_cases c4 : x5_1 < (l0.length : Int)
    ·rw [if_pos c4] at H
     have c4b0 := decide_eq_true c4
     clear c4
     obtain ⟨c5,H⟩ := qo H
     have c5b0 : decide (0 ≤ x5_1) = true := decide_eq_true c5
     clear c5
     obtain ⟨c6,H⟩ := qo H
     have c6b0 := decide_eq_true c6
     clear c6
     by_cases c7 : (rd l0 x5_1) = (rd l1 x5_1)
     ·rw [if_pos c7] at H
      have c7b0 : ((rd l0 x5_1) == (rd l1 x5_1)) = true := beq_iff_eq.mpr c7
      have c7b1 : ((rd l0 x5_1) != (rd l1 x5_1)) = false := bne_eq_false_iff_eq.mpr c7
      clear c7
      have H' := y0.mk H
      clear H
      have p322 : 0 ≤ (x5_1 : Int) := of_decide_eq_true qy1
      have q322 : x5_1 < (l0.length : Int) := of_decide_eq_true qy1
      obtain ⟨ad322,e322,hx322_0⟩ := Kd.at_int HR0.out x5_1 p322 q322
      cases e322
      replace p322 := eq_true p322
      replace q322 := eq_true q322
      have p323 : 0 ≤ (x5_1 : Int) := of_decide_eq_true qy1
      have q323 : x5_1 < (l1.length : Int) := of_decide_eq_true qy1
      obtain ⟨ad323,e323,hx323_0⟩ := Kd.at_int HR1.out x5_1 p323 q323
      cases e323
      replace p323 := eq_true p323
      replace q323 := eq_true q323
      go_wp2
      repeat (go_quiet (fail); try go_wp2)
      go_roundg k1
      case measure => have := HK1.out; omega
      exact ⟨(wrap64 (x5_1 + 1)),qy2,H',⟨by have := HK1.out; omega⟩,by repeat (first | exact y1.refl _ | apply y1.step)⟩
     ·rw [if_neg c7] at H
      have c7b0 : ((rd l0 x5_1) == (rd l1 x5_1)) = false := beq_eq_false_iff_ne.mpr c7
      have c7b1 : ((rd l0 x5_1) != (rd l1 x5_1)) = true := bne_iff_ne.mpr c7
      exact absurd ((Option.some.inj H).trans htrue_) (by decide)
    ·rw [if_neg c4] at H
     have c4b0 := decide_eq_false c4
     clear c4
     obtain rfl := Option.some.inj H
     go_wp2
     repeat (go_quiet (fail); try go_wp2)
     go_ret
     exact ⟨by first | rfl | (simp; done) | (simp [*]; done),by repeat (first | exact y1.refl _ | apply y1.step)⟩
 ·rw [if_neg c3] at H
  have c3b0 : ((l0.length : Int) == (l1.length : Int)) = false := beq_eq_false_iff_ne.mpr c3
  have c3b1 : ((l0.length : Int) != (l1.length : Int)) = true := bne_iff_ne.mpr c3
  have c3b2 : (l0.length == l1.length) = false := by first | simpa using c3 | (simp at c3 ⊢; omega)
  exact absurd ((Option.some.inj H).trans htrue_) (by decide)
def laws_eqExp.f (k : Nat) (a0_0 : Int) (a0_1 : ByteArray) (l0_2 : List Int) (a1_0 : Int) (a1_1 : ByteArray) (l1_2 : List Int) : Option (Bool) := if a0_0 = a1_0 then (if a0_1.toList = a1_1.toList then ((laws_eqIntS.f k l0_2 l1_2).bind fun t326 => (if t326 = true then (some true) else (some false))) else (some false)) else (some false)
set_option maxHeartbeats 8000000 in
set_option maxRecDepth 100000 in
theorem laws_eqExp.calls (k : Nat) (a0_0 : Int) (a0_1 : ByteArray) (A0_2 : Option Addr) (c0_2 : Nat) (l0_2 : List Int) (a1_0 : Int) (a1_1 : ByteArray) (A1_2 : Option Addr) (c1_2 : Nat) (l1_2 : List Int) (r : Bool) (w : World) (hr0_2 : Kd.C (Kd.int .i64) w A0_2 l0_2.length l0_2) (hc0_2 : l0_2.length ≤ c0_2) (hr1_2 : Kd.C (Kd.int .i64) w A1_2 l1_2.length l1_2) (hc1_2 : l1_2.length ≤ c1_2) (h : laws_eqExp.f k a0_0 a0_1 l0_2 a1_0 a1_1 l1_2 = some r) (htrue_ : r = true) :
  Calls Try.prog 62 #[.agg #[.int .i64 a0_0,.string a0_1,.slice A0_2 l0_2.length c0_2],.agg #[.int .i64 a1_0,.string a1_1,.slice A1_2 l1_2.length c1_2]] w fun e w' => e = .returned (.bool r) ∧ Below w.heap.size w w' := by
 have hu101 := Try.underlying101
 have HR0_2 := y0.mk hr0_2
 have HC0_2 := y0.mk hc0_2
 clear hr0_2 hc0_2
 have HR1_2 := y0.mk hr1_2
 have HC1_2 := y0.mk hc1_2
 clear hr1_2 hc1_2
 have HB := y0.mk (Below.refl w.heap.size w)
 have H : (if a0_0 = a1_0 then (if a0_1.toList = a1_1.toList then ((laws_eqIntS.f k l0_2 l1_2).bind fun t326 => (if t326 = true then (some true) else (some false))) else (some false)) else (some false)) = some r := h
 clear h
 by_cases c3 : a0_0 = a1_0
 ·rw [if_pos c3] at H
  have c3b0 : (a0_0 == a1_0) = true := beq_iff_eq.mpr c3
  have c3b1 : (a0_0 != a1_0) = false := bne_eq_false_iff_eq.mpr c3
  clear c3
  by_cases c4 : a0_1.toList = a1_1.toList
  ·rw [if_pos c4] at H
   have c4b0 : (a0_1.toList == a1_1.toList) = true := beq_iff_eq.mpr c4
   have c4b1 : (a0_1.toList != a1_1.toList) = false := bne_eq_false_iff_eq.mpr c4
   clear c4
   obtain ⟨t326,A5,H⟩ := qB H
   by_cases c6 : t326 = true
   ·subst c6
    replace H := qT H
    obtain rfl := Option.some.inj H
    go_enter Try.func62,Try.ntmps62
    go_wp2_with (first | ((with_reducible refine y16 (N := 2) rfl ?_); refine qe 2 #[.int .i64 a0_0,.string a0_1,.slice A0_2 l0_2.length c0_2] 101 ?_; intro gb324 hg w7 hbox hb; have BK324 := y0.mk (hbox); have GW324 := y0.mk (qg (w := w) hg); have GE324 := y0.mk (qg (w := w) hg); replace HB := y0.mk (y4 qb hb); clear hb hbox hg) | ((with_reducible refine y16 (N := 3) rfl ?_); refine qe 3 #[.int .i64 a1_0,.string a1_1,.slice A1_2 l1_2.length c1_2] 101 ?_; intro gb325 hg w8 hbox hb; have BK325 := y0.mk (hbox); have GW325 := y0.mk (qg (w := w) hg); have GE325 := y0.mk (qg (w := w) hg); replace HB := y0.mk (y4 qb hb); have NB324_325 := y0.mk (qn BK324.out hg); have NB325_324 := y0.mk (qm BK324.out hg); replace BK324 := y0.mk (qK BK324.out hb); clear hb hbox hg; have hnb9 := NB324_325.out; have hnc9 := NB325_324.out; obtain ⟨hcz10_0,hcz10_1,hcz10_2,hfz10_0,hfz10_1,hfz10_2⟩ := qz3 BK324.out; obtain ⟨hcz11_0,hcz11_1,hcz11_2,hfz11_0,hfz11_1,hfz11_2⟩ := qz3 BK325.out) | ((with_reducible refine y15 (f := 63) rfl ?_); refine y17 (some 19) rfl rfl Try.func63 (by kernel_rfl) rfl #[.slice A0_2 l0_2.length c0_2,.slice A1_2 l1_2.length c1_2] rfl qy0 ?_; (with_reducible refine (laws_eqIntS.calls k _ _ l0_2 _ _ l1_2 true _ (qc (Kd.C_below HR0_2.out HB.out)) HC0_2.out (qc (Kd.C_below HR1_2.out HB.out)) HC1_2.out A5.out rfl).mono ?_); rintro e w' ⟨rfl,⟨nd,rfl⟩⟩; refine ⟨_,rfl, ?_⟩))
    go_ret
    exact ⟨by first | rfl | (simp [y12,y13] <;> rfl) | (simp [*,y12,y13] <;> rfl),qb⟩
   ·replace c6 := Bool.eq_false_iff.mpr c6
    subst c6
    replace H := qF H
    exact absurd ((Option.some.inj H).trans htrue_) (by decide)
  ·rw [if_neg c4] at H
   have c4b0 : (a0_1.toList == a1_1.toList) = false := beq_eq_false_iff_ne.mpr c4
   have c4b1 : (a0_1.toList != a1_1.toList) = true := bne_iff_ne.mpr c4
   exact absurd ((Option.some.inj H).trans htrue_) (by decide)
 ·rw [if_neg c3] at H
  have c3b0 : (a0_0 == a1_0) = false := beq_eq_false_iff_ne.mpr c3
  have c3b1 : (a0_0 != a1_0) = true := bne_iff_ne.mpr c3
  exact absurd ((Option.some.inj H).trans htrue_) (by decide)
end Go.Proofs.Ytamjmldfifofbaa.Pp
end
section
namespace Go.Proofs.Ytamjmldfifofbaa.Pp
open Go.RowKit Go.Proofs.YtamjmldfifofbaaW.PrintWords Go.Proofs.YtamjmldfifofbaaW.PrintLast Go.Proofs.YtamjmldfifofbaaW.PrintMore
attribute [local go_sem] max2_int min2_int max_two min_two max_three min_three max_four min_four   -- for this text's walks alone
set_option linter.unusedVariables false
set_option linter.unusedSimpArgs false
def laws_eqExpS.l0 : Nat → List (S101) → List (S101) → Int → Option (Bool)
 | 0,_,_,_ => none
 | k + 1,x0,x1,x5 => if x5 < (x0.length : Int) then (if 0 ≤ x5 then (if x5 < (x1.length : Int) then ((laws_eqExp.f k ((y18 x0 x5).f0) ((y18 x0 x5).f1) ((y18 x0 x5).f2) ((y18 x1 x5).f0) ((y18 x1 x5).f1) ((y18 x1 x5).f2)).bind fun t329 => (if t329 = true then (laws_eqExpS.l0 k x0 x1 (wrap64 (x5 + 1))) else (some false))) else (none)) else (none)) else (some true)
def laws_eqExpS.f (k : Nat) (l0 : List (S101)) (l1 : List (S101)) : Option (Bool) := if (l0.length : Int) = (l1.length : Int) then (laws_eqExpS.l0 k l0 l1 0) else (some false)
def laws_eqExpS.T6 : Bool × List (List Nat × List Nat) := (true,[([],[]),([],[]),([0,1],[0,1]),([2],[2]),([],[]),([],[]),([4,5],[4,5]),([6],[6]),([3,7],[3,7]),([8],[8])])
def laws_eqExpS.B6 : List Nat := [0,0,3,7,0,0,48,112,255,511]
theorem laws_eqExpS.tab6 : rtab .any (opsOf Try.f31 6) = laws_eqExpS.T6 := by kernel_rfl
theorem laws_eqExpS.bits6 : waitsOk laws_eqExpS.T6.2 laws_eqExpS.B6 = true := by kernel_rfl
set_option maxHeartbeats 8000000 in
set_option maxRecDepth 100000 in
theorem laws_eqExpS.calls (k : Nat) (A0 : Option Addr) (c0 : Nat) (l0 : List (S101)) (A1 : Option Addr) (c1 : Nat) (l1 : List (S101)) (r : Bool) (w : World) (hr0 : Kd.C k101 w A0 l0.length l0) (hc0 : l0.length ≤ c0) (hr1 : Kd.C k101 w A1 l1.length l1) (hc1 : l1.length ≤ c1) (h : laws_eqExpS.f k l0 l1 = some r) (htrue_ : r = true) :
  Calls Try.prog 31 #[.slice A0 l0.length c0,.slice A1 l1.length c1] w fun e w' => e = .returned (.bool r) ∧ Below w.heap.size w w' := by
 have hu101 := Try.underlying101
 have HR0 := y0.mk hr0
 have HC0 := y0.mk hc0
 clear hr0 hc0
 have HR1 := y0.mk hr1
 have HC1 := y0.mk hc1
 clear hr1 hc1
 have HB := y0.mk (Below.refl w.heap.size w)
 have H : (if (l0.length : Int) = (l1.length : Int) then (laws_eqExpS.l0 k l0 l1 0) else (some false)) = some r := h
 clear h
 by_cases c3 : (l0.length : Int) = (l1.length : Int)
 ·rw [if_pos c3] at H
  have c3b0 : ((l0.length : Int) == (l1.length : Int)) = true := beq_iff_eq.mpr c3
  have c3b1 : ((l0.length : Int) != (l1.length : Int)) = false := bne_eq_false_iff_eq.mpr c3
  have c3b2 : (l0.length == l1.length) = true := by first | simpa using c3 | (simp at c3 ⊢; omega)
  clear c3
  have H' := y0.mk H
  clear H
  go_enter Try.func31,Try.ntmps31
  go_wp2
  go_loopg [5] k (fun kq v5 w' => ∃ (x5_1 : Int),v5 = .int .i64 x5_1 ∧ y0 (laws_eqExpS.l0 kq l0 l1 x5_1 = some r) ∧ y0 (kq ≤ k) ∧ y0 (Below w.heap.size w w'))
  case atStart => exact ⟨(0),qy2,H',⟨Nat.le_refl _⟩,⟨qb⟩⟩
  case round =>
   clear H'
   (try clear c3b0 c3b1 c3b2)
   obtain ⟨x5_1,rfl,HA,HK1,HB⟩ := hrel
   cases gk with
   | zero => exact absurd HA.out (by simp [laws_eqExpS.l0])
   | succ k1 =>
    have H := HA.out
    clear HA
    simp only [laws_eqExpS.l0] at H
    by_cases c4 : x5_1 < (l0.length : Int)
    ·rw [if_pos c4] at H
     have c4b0 := decide_eq_true c4
     clear c4
     obtain ⟨c5,H⟩ := qo H
     have c5b0 : decide (0 ≤ x5_1) = true := decide_eq_true c5
     clear c5
     obtain ⟨c6,H⟩ := qo H
     have c6b0 : decide (x5_1 < (l1.length : Int)) = true := decide_eq_true c6
     clear c6
     obtain ⟨t329,A7,H⟩ := qB H
     by_cases c8 : t329 = true
     ·subst c8
      replace H := qT H
      have H' := y0.mk H
      clear H
      try go_wp2
      replace HB := y0.mk (below_drew1 HB.out)
      have p327 : 0 ≤ (x5_1 : Int) := of_decide_eq_true qy1
      have q327 : x5_1 < (l0.length : Int) := of_decide_eq_true qy1
      obtain ⟨ad327,A327_2,c327_2,e327,hx327_0,hx327_1,hx327_2,hl327_2,hi327_2⟩ := at_T101 HR0.out x5_1 p327 q327
      have hw327_2 := hx327_2
      have hw327_1 := hx327_1
      have hw327_0 := hx327_0
      cases e327
      replace hx327_0 := (HB.out.cell (World.block_lt_of_cell? w _ hx327_0)).trans hx327_0
      replace hx327_1 := (HB.out.cell (World.block_lt_of_cell? w _ hx327_1)).trans hx327_1
      replace hx327_2 := (HB.out.cell (World.block_lt_of_cell? w _ hx327_2)).trans hx327_2
      have HR327_2 := y0.mk hi327_2
      have HC327_2 := y0.mk hl327_2
      clear hi327_2 hl327_2
      replace p327 := eq_true p327
      replace q327 := eq_true q327
      have p328 : 0 ≤ (x5_1 : Int) := of_decide_eq_true qy1
      have q328 : x5_1 < (l1.length : Int) := of_decide_eq_true qy1
      obtain ⟨ad328,A328_2,c328_2,e328,hx328_0,hx328_1,hx328_2,hl328_2,hi328_2⟩ := at_T101 HR1.out x5_1 p328 q328
      have hw328_2 := hx328_2
      have hw328_1 := hx328_1
      have hw328_0 := hx328_0
      cases e328
      replace hx328_0 := (HB.out.cell (World.block_lt_of_cell? w _ hx328_0)).trans hx328_0
      replace hx328_1 := (HB.out.cell (World.block_lt_of_cell? w _ hx328_1)).trans hx328_1
      replace hx328_2 := (HB.out.cell (World.block_lt_of_cell? w _ hx328_2)).trans hx328_2
      have HR328_2 := y0.mk hi328_2
      have HC328_2 := y0.mk hl328_2
      clear hi328_2 hl328_2
      replace p328 := eq_true p328
      replace q328 := eq_true q328
      refine start_ (n := 10) (S := fun w' => w'.cell? (ad327.add ((x5_1).toNat * 3)) = some (.int .i64 ((y18 l0 x5_1).f0)) ∧ w'.cell? ⟨(ad327.add ((x5_1).toNat * 3)).block,(ad327.add ((x5_1).toNat * 3)).off + 1,none⟩ = some (.string ((y18 l0 x5_1).f1)) ∧ w'.cell? ⟨(ad327.add ((x5_1).toNat * 3)).block,(ad327.add ((x5_1).toNat * 3)).off + 2,none⟩ = some (.slice A327_2 ((y18 l0 x5_1).f2).length c327_2) ∧ w'.cell? (ad328.add ((x5_1).toNat * 3)) = some (.int .i64 ((y18 l1 x5_1).f0)) ∧ w'.cell? ⟨(ad328.add ((x5_1).toNat * 3)).block,(ad328.add ((x5_1).toNat * 3)).off + 1,none⟩ = some (.string ((y18 l1 x5_1).f1)) ∧ w'.cell? ⟨(ad328.add ((x5_1).toNat * 3)).block,(ad328.add ((x5_1).toNat * 3)).off + 2,none⟩ = some (.slice A328_2 ((y18 l1 x5_1).f2).length c328_2)) (ds := []) (fl_ 10 0) (by kernel_rfl) rfl rfl ⟨((HB.out.cell (World.block_lt_of_cell? w _ hw327_0)).trans hw327_0),((HB.out.cell (World.block_lt_of_cell? w _ hw327_1)).trans hw327_1),((HB.out.cell (World.block_lt_of_cell? w _ hw327_2)).trans hw327_2),((HB.out.cell (World.block_lt_of_cell? w _ hw328_0)).trans hw328_0),((HB.out.cell (World.block_lt_of_cell? w _ hw328_1)).trans hw328_1),((HB.out.cell (World.block_lt_of_cell? w _ hw328_2)).trans hw328_2)⟩ (fun hHeld => ?_); refine with_tabW laws_eqExpS.tab6 laws_eqExpS.bits6 (fun HT_ HW_ => ?_)
      generalize wr.drew = w9 at HB HR327_2 HR328_2 hx327_0 hx327_1 hx327_2 hx328_0 hx328_1 hx328_2 hHeld ⊢
      refine qp 0 17 (fl_ 10 1) ?_
      refine qp 1 18 (fl_ 10 3) ?_
      refine qp 2 19 (fl_ 10 7) ?_
      refine qp 4 21 (fl_ 10 23) ?_
      refine qp 5 22 (fl_ 10 55) ?_
      refine qp 6 23 (fl_ 10 119) ?_
      refine qt 3 20 (fl_ 10 127) hHeld ?_
      refine qt 7 24 (fl_ 10 255) hHeld ?_
      refine one_ (i := 8) (N := some 25) (fl_ 10 511) rfl rfl (one_of HT_.out (by kernel_rfl)) (by decide) (fun K hK => ?_)
      refine goes_ Try.func62 (by kernel_rfl) rfl #[.agg #[.int .i64 ((y18 l0 x5_1).f0),.string ((y18 l0 x5_1).f1),.slice A327_2 ((y18 l0 x5_1).f2).length c327_2],.agg #[.int .i64 ((y18 l1 x5_1).f0),.string ((y18 l1 x5_1).f1),.slice A328_2 ((y18 l1 x5_1).f2).length c328_2]] (by rfl) rfl rfl qy0 ?_
      with_reducible refine (laws_eqExp.calls k1 ((y18 l0 x5_1).f0) ((y18 l0 x5_1).f1) _ _ ((y18 l0 x5_1).f2) ((y18 l1 x5_1).f0) ((y18 l1 x5_1).f1) _ _ ((y18 l1 x5_1).f2) true _ (qc (Kd.C_below HR327_2.out HB.out)) HC327_2.out (qc (Kd.C_below HR328_2.out HB.out)) HC328_2.out A7.out rfl).mono ?_
      rintro e w10 ⟨rfl,hb⟩
      refine ⟨_,rfl, ?_⟩
      replace HB := y0.mk (y4 qb hb)
      (try clear hb)
      (try clear hb2)
      (try clear hk)
      (try clear hi)
      refine hK.out _ _ ⟨((HB.out.cell (World.block_lt_of_cell? w _ hw327_0)).trans hw327_0),((HB.out.cell (World.block_lt_of_cell? w _ hw327_1)).trans hw327_1),((HB.out.cell (World.block_lt_of_cell? w _ hw327_2)).trans hw327_2),((HB.out.cell (World.block_lt_of_cell? w _ hw328_0)).trans hw328_0),((HB.out.cell (World.block_lt_of_cell? w _ hw328_1)).trans hw328_1),((HB.out.cell (World.block_lt_of_cell? w _ hw328_2)).trans hw328_2)⟩ (fun hHeld => ?_)
      clear hK K
      refine norm_ (a' := ?_) ?_ ?_
      rotate_left
      ·show Act.put _ (some 25) _ = _
       simp only [Act.put,qS_,qZ_,qC_,i64_w,i32_w]
       rfl
      refine qp 9 26 (fl_ 10 1023) ?_
      refine done_ (done_of HT_.out (by kernel_rfl)) ?_
      try go_wp2
      go_roundg k1
      case measure => have := HK1.out; omega
      exact ⟨(wrap64 (x5_1 + 1)),qy2,H',⟨by have := HK1.out; omega⟩,⟨qb⟩⟩
     ·replace c8 := Bool.eq_false_iff.mpr c8
      subst c8
      replace H := qF H
      exact absurd ((Option.some.inj H).trans htrue_) (by decide)
    ·rw [if_neg c4] at H
     have c4b0 := decide_eq_false c4
     clear c4
     obtain rfl := Option.some.inj H
     go_wp2
     go_ret
     exact ⟨by first | rfl | (simp [y12,y13] <;> rfl) | (simp [*,y12,y13] <;> rfl),qb⟩
 ·rw [if_neg c3] at H
  have c3b0 : ((l0.length : Int) == (l1.length : Int)) = false := beq_eq_false_iff_ne.mpr c3
  have c3b1 : ((l0.length : Int) != (l1.length : Int)) = true := bne_iff_ne.mpr c3
  have c3b2 : (l0.length == l1.length) = false := by first | simpa using c3 | (simp at c3 ⊢; omega)
  exact absurd ((Option.some.inj H).trans htrue_) (by decide)
def laws_eqLit.f (k : Nat) (a0_0 : Int) (a0_1 : ByteArray) (l0_2 : List Int) (a1_0 : Int) (a1_1 : ByteArray) (l1_2 : List Int) : Option (Bool) := if a0_0 = a1_0 then (if a0_1.toList = a1_1.toList then ((laws_eqIntS.f k l0_2 l1_2).bind fun t332 => (if t332 = true then (some true) else (some false))) else (some false)) else (some false)
set_option maxHeartbeats 8000000 in
set_option maxRecDepth 100000 in
theorem laws_eqLit.calls (k : Nat) (a0_0 : Int) (a0_1 : ByteArray) (A0_2 : Option Addr) (c0_2 : Nat) (l0_2 : List Int) (a1_0 : Int) (a1_1 : ByteArray) (A1_2 : Option Addr) (c1_2 : Nat) (l1_2 : List Int) (r : Bool) (w : World) (hr0_2 : Kd.C (Kd.int .i64) w A0_2 l0_2.length l0_2) (hc0_2 : l0_2.length ≤ c0_2) (hr1_2 : Kd.C (Kd.int .i64) w A1_2 l1_2.length l1_2) (hc1_2 : l1_2.length ≤ c1_2) (h : laws_eqLit.f k a0_0 a0_1 l0_2 a1_0 a1_1 l1_2 = some r) (htrue_ : r = true) :
  Calls Try.prog 32 #[.agg #[.int .i64 a0_0,.string a0_1,.slice A0_2 l0_2.length c0_2],.agg #[.int .i64 a1_0,.string a1_1,.slice A1_2 l1_2.length c1_2]] w fun e w' => e = .returned (.bool r) ∧ Below w.heap.size w w' := by
 have hu32 := Try.underlying32
 have HR0_2 := y0.mk hr0_2
 have HC0_2 := y0.mk hc0_2
 clear hr0_2 hc0_2
 have HR1_2 := y0.mk hr1_2
 have HC1_2 := y0.mk hc1_2
 clear hr1_2 hc1_2
 have HB := y0.mk (Below.refl w.heap.size w)
 have H : (if a0_0 = a1_0 then (if a0_1.toList = a1_1.toList then ((laws_eqIntS.f k l0_2 l1_2).bind fun t332 => (if t332 = true then (some true) else (some false))) else (some false)) else (some false)) = some r := h
 clear h
 by_cases c3 : a0_0 = a1_0
 ·rw [if_pos c3] at H
  have c3b0 : (a0_0 == a1_0) = true := beq_iff_eq.mpr c3
  have c3b1 : (a0_0 != a1_0) = false := bne_eq_false_iff_eq.mpr c3
  clear c3
  by_cases c4 : a0_1.toList = a1_1.toList
  ·rw [if_pos c4] at H
   have c4b0 : (a0_1.toList == a1_1.toList) = true := beq_iff_eq.mpr c4
   have c4b1 : (a0_1.toList != a1_1.toList) = false := bne_eq_false_iff_eq.mpr c4
   clear c4
   obtain ⟨t332,A5,H⟩ := qB H
   by_cases c6 : t332 = true
   ·subst c6
    replace H := qT H
    obtain rfl := Option.some.inj H
    go_enter Try.func32,Try.ntmps32
    go_wp2_with (first | ((with_reducible refine y16 (N := 2) rfl ?_); refine qe 2 #[.int .i64 a0_0,.string a0_1,.slice A0_2 l0_2.length c0_2] 32 ?_; intro gb330 hg w7 hbox hb; have BK330 := y0.mk (hbox); have GW330 := y0.mk (qg (w := w) hg); have GE330 := y0.mk (qg (w := w) hg); replace HB := y0.mk (y4 qb hb); clear hb hbox hg) | ((with_reducible refine y16 (N := 3) rfl ?_); refine qe 3 #[.int .i64 a1_0,.string a1_1,.slice A1_2 l1_2.length c1_2] 32 ?_; intro gb331 hg w8 hbox hb; have BK331 := y0.mk (hbox); have GW331 := y0.mk (qg (w := w) hg); have GE331 := y0.mk (qg (w := w) hg); replace HB := y0.mk (y4 qb hb); have NB330_331 := y0.mk (qn BK330.out hg); have NB331_330 := y0.mk (qm BK330.out hg); replace BK330 := y0.mk (qK BK330.out hb); clear hb hbox hg; have hnb9 := NB330_331.out; have hnc9 := NB331_330.out; obtain ⟨hcz10_0,hcz10_1,hcz10_2,hfz10_0,hfz10_1,hfz10_2⟩ := qz3 BK330.out; obtain ⟨hcz11_0,hcz11_1,hcz11_2,hfz11_0,hfz11_1,hfz11_2⟩ := qz3 BK331.out) | ((with_reducible refine y15 (f := 63) rfl ?_); refine y17 (some 19) rfl rfl Try.func63 (by kernel_rfl) rfl #[.slice A0_2 l0_2.length c0_2,.slice A1_2 l1_2.length c1_2] rfl qy0 ?_; (with_reducible refine (laws_eqIntS.calls k _ _ l0_2 _ _ l1_2 true _ (qc (Kd.C_below HR0_2.out HB.out)) HC0_2.out (qc (Kd.C_below HR1_2.out HB.out)) HC1_2.out A5.out rfl).mono ?_); rintro e w' ⟨rfl,⟨nd,rfl⟩⟩; refine ⟨_,rfl, ?_⟩))
    go_ret
    exact ⟨by first | rfl | (simp [y12,y13] <;> rfl) | (simp [*,y12,y13] <;> rfl),qb⟩
   ·replace c6 := Bool.eq_false_iff.mpr c6
    subst c6
    replace H := qF H
    exact absurd ((Option.some.inj H).trans htrue_) (by decide)
  ·rw [if_neg c4] at H
   have c4b0 : (a0_1.toList == a1_1.toList) = false := beq_eq_false_iff_ne.mpr c4
   have c4b1 : (a0_1.toList != a1_1.toList) = true := bne_iff_ne.mpr c4
   exact absurd ((Option.some.inj H).trans htrue_) (by decide)
 ·rw [if_neg c3] at H
  have c3b0 : (a0_0 == a1_0) = false := beq_eq_false_iff_ne.mpr c3
  have c3b1 : (a0_0 != a1_0) = true := bne_iff_ne.mpr c3
  exact absurd ((Option.some.inj H).trans htrue_) (by decide)
end Go.Proofs.Ytamjmldfifofbaa.Pp
end
section
namespace Go.Proofs.Ytamjmldfifofbaa.Pp
open Go.RowKit Go.Proofs.YtamjmldfifofbaaW.PrintWords Go.Proofs.YtamjmldfifofbaaW.PrintLast Go.Proofs.YtamjmldfifofbaaW.PrintMore
attribute [local go_sem] max2_int min2_int max_two min_two max_three min_three max_four min_four   -- for this text's walks alone
set_option linter.unusedVariables false
set_option linter.unusedSimpArgs false
def laws_eqLitS.l0 : Nat → List (S32) → List (S32) → Int → Option (Bool)
 | 0,_,_,_ => none
 | k + 1,x0,x1,x5 => if x5 < (x0.length : Int) then (if 0 ≤ x5 then (if x5 < (x1.length : Int) then ((laws_eqLit.f k ((y19 x0 x5).f0) ((y19 x0 x5).f1) ((y19 x0 x5).f2) ((y19 x1 x5).f0) ((y19 x1 x5).f1) ((y19 x1 x5).f2)).bind fun t335 => (if t335 = true then (laws_eqLitS.l0 k x0 x1 (wrap64 (x5 + 1))) else (some false))) else (none)) else (none)) else (some true)
def laws_eqLitS.f (k : Nat) (l0 : List (S32)) (l1 : List (S32)) : Option (Bool) := if (l0.length : Int) = (l1.length : Int) then (laws_eqLitS.l0 k l0 l1 0) else (some false)
def laws_eqLitS.T6 : Bool × List (List Nat × List Nat) := (true,[([],[]),([],[]),([0,1],[0,1]),([2],[2]),([],[]),([],[]),([4,5],[4,5]),([6],[6]),([3,7],[3,7]),([8],[8])])
def laws_eqLitS.B6 : List Nat := [0,0,3,7,0,0,48,112,255,511]
theorem laws_eqLitS.tab6 : rtab .any (opsOf Try.f33 6) = laws_eqLitS.T6 := by kernel_rfl
theorem laws_eqLitS.bits6 : waitsOk laws_eqLitS.T6.2 laws_eqLitS.B6 = true := by kernel_rfl
set_option maxHeartbeats 8000000 in
set_option maxRecDepth 100000 in
theorem laws_eqLitS.calls (k : Nat) (A0 : Option Addr) (c0 : Nat) (l0 : List (S32)) (A1 : Option Addr) (c1 : Nat) (l1 : List (S32)) (r : Bool) (w : World) (hr0 : Kd.C k32 w A0 l0.length l0) (hc0 : l0.length ≤ c0) (hr1 : Kd.C k32 w A1 l1.length l1) (hc1 : l1.length ≤ c1) (h : laws_eqLitS.f k l0 l1 = some r) (htrue_ : r = true) :
  Calls Try.prog 33 #[.slice A0 l0.length c0,.slice A1 l1.length c1] w fun e w' => e = .returned (.bool r) ∧ Below w.heap.size w w' := by
 have hu32 := Try.underlying32
 have HR0 := y0.mk hr0
 have HC0 := y0.mk hc0
 clear hr0 hc0
 have HR1 := y0.mk hr1
 have HC1 := y0.mk hc1
 clear hr1 hc1
 have HB := y0.mk (Below.refl w.heap.size w)
 have H : (if (l0.length : Int) = (l1.length : Int) then (laws_eqLitS.l0 k l0 l1 0) else (some false)) = some r := h
 clear h
 by_cases c3 : (l0.length : Int) = (l1.length : Int)
 ·rw [if_pos c3] at H
  have c3b0 : ((l0.length : Int) == (l1.length : Int)) = true := beq_iff_eq.mpr c3
  have c3b1 : ((l0.length : Int) != (l1.length : Int)) = false := bne_eq_false_iff_eq.mpr c3
  have c3b2 : (l0.length == l1.length) = true := by first | simpa using c3 | (simp at c3 ⊢; omega)
  clear c3
  have H' := y0.mk H
  clear H
  go_enter Try.func33,Try.ntmps33
  go_wp2
  go_loopg [5] k (fun kq v5 w' => ∃ (x5_1 : Int),v5 = .int .i64 x5_1 ∧ y0 (laws_eqLitS.l0 kq l0 l1 x5_1 = some r) ∧ y0 (kq ≤ k) ∧ y0 (Below w.heap.size w w'))
  case atStart => exact ⟨(0),qy2,H',⟨Nat.le_refl _⟩,⟨qb⟩⟩
  case round =>
   clear H'
   (try clear c3b0 c3b1 c3b2)
   obtain ⟨x5_1,rfl,HA,HK1,HB⟩ := hrel
   cases gk with
   | zero => exact absurd HA.out (by simp [laws_eqLitS.l0])
   | succ k1 =>
    have H := HA.out
    clear HA
    simp only [laws_eqLitS.l0] at H
    by_cases c4 : x5_1 < (l0.length : Int)
    ·rw [if_pos c4] at H
     have c4b0 := decide_eq_true c4
     clear c4
     obtain ⟨c5,H⟩ := qo H
     have c5b0 : decide (0 ≤ x5_1) = true := decide_eq_true c5
     clear c5
     obtain ⟨c6,H⟩ := qo H
     have c6b0 : decide (x5_1 < (l1.length : Int)) = true := decide_eq_true c6
     clear c6
     obtain ⟨t335,A7,H⟩ := qB H
     by_cases c8 : t335 = true
     ·subst c8
      replace H := qT H
      have H' := y0.mk H
      clear H
      try go_wp2
      replace HB := y0.mk (below_drew1 HB.out)
      have p333 : 0 ≤ (x5_1 : Int) := of_decide_eq_true qy1
      have q333 : x5_1 < (l0.length : Int) := of_decide_eq_true qy1
      obtain ⟨ad333,A333_2,c333_2,e333,hx333_0,hx333_1,hx333_2,hl333_2,hi333_2⟩ := at_T32 HR0.out x5_1 p333 q333
      have hw333_2 := hx333_2
      have hw333_1 := hx333_1
      have hw333_0 := hx333_0
      cases e333
      replace hx333_0 := (HB.out.cell (World.block_lt_of_cell? w _ hx333_0)).trans hx333_0
      replace hx333_1 := (HB.out.cell (World.block_lt_of_cell? w _ hx333_1)).trans hx333_1
      replace hx333_2 := (HB.out.cell (World.block_lt_of_cell? w _ hx333_2)).trans hx333_2
      have HR333_2 := y0.mk hi333_2
      have HC333_2 := y0.mk hl333_2
      clear hi333_2 hl333_2
      replace p333 := eq_true p333
      replace q333 := eq_true q333
      have p334 : 0 ≤ (x5_1 : Int) := of_decide_eq_true qy1
      have q334 : x5_1 < (l1.length : Int) := of_decide_eq_true qy1
      obtain ⟨ad334,A334_2,c334_2,e334,hx334_0,hx334_1,hx334_2,hl334_2,hi334_2⟩ := at_T32 HR1.out x5_1 p334 q334
      have hw334_2 := hx334_2
      have hw334_1 := hx334_1
      have hw334_0 := hx334_0
      cases e334
      replace hx334_0 := (HB.out.cell (World.block_lt_of_cell? w _ hx334_0)).trans hx334_0
      replace hx334_1 := (HB.out.cell (World.block_lt_of_cell? w _ hx334_1)).trans hx334_1
      replace hx334_2 := (HB.out.cell (World.block_lt_of_cell? w _ hx334_2)).trans hx334_2
      have HR334_2 := y0.mk hi334_2
      have HC334_2 := y0.mk hl334_2
      clear hi334_2 hl334_2
      replace p334 := eq_true p334
      replace q334 := eq_true q334
      refine start_ (n := 10) (S := fun w' => w'.cell? (ad333.add ((x5_1).toNat * 3)) = some (.int .i64 ((y19 l0 x5_1).f0)) ∧ w'.cell? ⟨(ad333.add ((x5_1).toNat * 3)).block,(ad333.add ((x5_1).toNat * 3)).off + 1,none⟩ = some (.string ((y19 l0 x5_1).f1)) ∧ w'.cell? ⟨(ad333.add ((x5_1).toNat * 3)).block,(ad333.add ((x5_1).toNat * 3)).off + 2,none⟩ = some (.slice A333_2 ((y19 l0 x5_1).f2).length c333_2) ∧ w'.cell? (ad334.add ((x5_1).toNat * 3)) = some (.int .i64 ((y19 l1 x5_1).f0)) ∧ w'.cell? ⟨(ad334.add ((x5_1).toNat * 3)).block,(ad334.add ((x5_1).toNat * 3)).off + 1,none⟩ = some (.string ((y19 l1 x5_1).f1)) ∧ w'.cell? ⟨(ad334.add ((x5_1).toNat * 3)).block,(ad334.add ((x5_1).toNat * 3)).off + 2,none⟩ = some (.slice A334_2 ((y19 l1 x5_1).f2).length c334_2)) (ds := []) (fl_ 10 0) (by kernel_rfl) rfl rfl ⟨((HB.out.cell (World.block_lt_of_cell? w _ hw333_0)).trans hw333_0),((HB.out.cell (World.block_lt_of_cell? w _ hw333_1)).trans hw333_1),((HB.out.cell (World.block_lt_of_cell? w _ hw333_2)).trans hw333_2),((HB.out.cell (World.block_lt_of_cell? w _ hw334_0)).trans hw334_0),((HB.out.cell (World.block_lt_of_cell? w _ hw334_1)).trans hw334_1),((HB.out.cell (World.block_lt_of_cell? w _ hw334_2)).trans hw334_2)⟩ (fun hHeld => ?_); refine with_tabW laws_eqLitS.tab6 laws_eqLitS.bits6 (fun HT_ HW_ => ?_)
      generalize wr.drew = w9 at HB HR333_2 HR334_2 hx333_0 hx333_1 hx333_2 hx334_0 hx334_1 hx334_2 hHeld ⊢
      refine qp 0 17 (fl_ 10 1) ?_
      refine qp 1 18 (fl_ 10 3) ?_
      refine qp 2 19 (fl_ 10 7) ?_
      refine qp 4 21 (fl_ 10 23) ?_
      refine qp 5 22 (fl_ 10 55) ?_
      refine qp 6 23 (fl_ 10 119) ?_
      refine qt 3 20 (fl_ 10 127) hHeld ?_
      refine qt 7 24 (fl_ 10 255) hHeld ?_
      refine one_ (i := 8) (N := some 25) (fl_ 10 511) rfl rfl (one_of HT_.out (by kernel_rfl)) (by decide) (fun K hK => ?_)
      refine goes_ Try.func32 (by kernel_rfl) rfl #[.agg #[.int .i64 ((y19 l0 x5_1).f0),.string ((y19 l0 x5_1).f1),.slice A333_2 ((y19 l0 x5_1).f2).length c333_2],.agg #[.int .i64 ((y19 l1 x5_1).f0),.string ((y19 l1 x5_1).f1),.slice A334_2 ((y19 l1 x5_1).f2).length c334_2]] (by rfl) rfl rfl qy0 ?_
      with_reducible refine (laws_eqLit.calls k1 ((y19 l0 x5_1).f0) ((y19 l0 x5_1).f1) _ _ ((y19 l0 x5_1).f2) ((y19 l1 x5_1).f0) ((y19 l1 x5_1).f1) _ _ ((y19 l1 x5_1).f2) true _ (qc (Kd.C_below HR333_2.out HB.out)) HC333_2.out (qc (Kd.C_below HR334_2.out HB.out)) HC334_2.out A7.out rfl).mono ?_
      rintro e w10 ⟨rfl,hb⟩
      refine ⟨_,rfl, ?_⟩
      replace HB := y0.mk (y4 qb hb)
      (try clear hb)
      (try clear hb2)
      (try clear hk)
      (try clear hi)
      refine hK.out _ _ ⟨((HB.out.cell (World.block_lt_of_cell? w _ hw333_0)).trans hw333_0),((HB.out.cell (World.block_lt_of_cell? w _ hw333_1)).trans hw333_1),((HB.out.cell (World.block_lt_of_cell? w _ hw333_2)).trans hw333_2),((HB.out.cell (World.block_lt_of_cell? w _ hw334_0)).trans hw334_0),((HB.out.cell (World.block_lt_of_cell? w _ hw334_1)).trans hw334_1),((HB.out.cell (World.block_lt_of_cell? w _ hw334_2)).trans hw334_2)⟩ (fun hHeld => ?_)
      clear hK K
      refine norm_ (a' := ?_) ?_ ?_
      rotate_left
      ·show Act.put _ (some 25) _ = _
       simp only [Act.put,qS_,qZ_,qC_,i64_w,i32_w]
       rfl
      refine qp 9 26 (fl_ 10 1023) ?_
      refine done_ (done_of HT_.out (by kernel_rfl)) ?_
      try go_wp2
      go_roundg k1
      case measure => have := HK1.out; omega
      exact ⟨(wrap64 (x5_1 + 1)),qy2,H',⟨by have := HK1.out; omega⟩,⟨qb⟩⟩
     ·replace c8 := Bool.eq_false_iff.mpr c8
      subst c8
      replace H := qF H
      exact absurd ((Option.some.inj H).trans htrue_) (by decide)
    ·rw [if_neg c4] at H
     have c4b0 := decide_eq_false c4
     clear c4
     obtain rfl := Option.some.inj H
     go_wp2
     go_ret
     exact ⟨by first | rfl | (simp [y12,y13] <;> rfl) | (simp [*,y12,y13] <;> rfl),qb⟩
 ·rw [if_neg c3] at H
  have c3b0 : ((l0.length : Int) == (l1.length : Int)) = false := beq_eq_false_iff_ne.mpr c3
  have c3b1 : ((l0.length : Int) != (l1.length : Int)) = true := bne_iff_ne.mpr c3
  have c3b2 : (l0.length == l1.length) = false := by first | simpa using c3 | (simp at c3 ⊢; omega)
  exact absurd ((Option.some.inj H).trans htrue_) (by decide)
def laws_eqRule.f (k : Nat) (l0_0 : List (S101)) (a0_1 : Int) (a0_2 : ByteArray) (l0_3 : List Int) (l0_4 : List (S32)) (l1_0 : List (S101)) (a1_1 : Int) (a1_2 : ByteArray) (l1_3 : List Int) (l1_4 : List (S32)) : Option (Bool) := (laws_eqExpS.f k l0_0 l1_0).bind fun t338 => (if t338 = true then ((laws_eqLit.f k a0_1 a0_2 l0_3 a1_1 a1_2 l1_3).bind fun t339 => (if t339 = true then ((laws_eqLitS.f k l0_4 l1_4).bind fun t340 => (if t340 = true then (some true) else (some false))) else (some false))) else (some false))
set_option maxHeartbeats 8000000 in
set_option maxRecDepth 100000 in
theorem laws_eqRule.calls (k : Nat) (A0_0 : Option Addr) (c0_0 : Nat) (l0_0 : List (S101)) (a0_1 : Int) (a0_2 : ByteArray) (A0_3 : Option Addr) (c0_3 : Nat) (l0_3 : List Int) (A0_4 : Option Addr) (c0_4 : Nat) (l0_4 : List (S32)) (A1_0 : Option Addr) (c1_0 : Nat) (l1_0 : List (S101)) (a1_1 : Int) (a1_2 : ByteArray) (A1_3 : Option Addr) (c1_3 : Nat) (l1_3 : List Int) (A1_4 : Option Addr) (c1_4 : Nat) (l1_4 : List (S32)) (r : Bool) (w : World) (hr0_0 : Kd.C k101 w A0_0 l0_0.length l0_0) (hc0_0 : l0_0.length ≤ c0_0) (hr0_3 : Kd.C (Kd.int .i64) w A0_3 l0_3.length l0_3) (hc0_3 : l0_3.length ≤ c0_3) (hr0_4 : Kd.C k32 w A0_4 l0_4.length l0_4) (hc0_4 : l0_4.length ≤ c0_4) (hr1_0 : Kd.C k101 w A1_0 l1_0.length l1_0) (hc1_0 : l1_0.length ≤ c1_0) (hr1_3 : Kd.C (Kd.int .i64) w A1_3 l1_3.length l1_3) (hc1_3 : l1_3.length ≤ c1_3) (hr1_4 : Kd.C k32 w A1_4 l1_4.length l1_4) (hc1_4 : l1_4.length ≤ c1_4) (h : laws_eqRule.f k l0_0 a0_1 a0_2 l0_3 l0_4 l1_0 a1_1 a1_2 l1_3 l1_4 = some r) (htrue_ : r = true) :
  Calls Try.prog 10 #[.agg #[.slice A0_0 l0_0.length c0_0,.int .i64 a0_1,.string a0_2,.slice A0_3 l0_3.length c0_3,.slice A0_4 l0_4.length c0_4],.agg #[.slice A1_0 l1_0.length c1_0,.int .i64 a1_1,.string a1_2,.slice A1_3 l1_3.length c1_3,.slice A1_4 l1_4.length c1_4]] w fun e w' => e = .returned (.bool r) ∧ Below w.heap.size w w' := by
 have hu35 := Try.underlying35
 have hu32 := Try.underlying32
 have HR0_0 := y0.mk hr0_0
 have HC0_0 := y0.mk hc0_0
 clear hr0_0 hc0_0
 have HR0_3 := y0.mk hr0_3
 have HC0_3 := y0.mk hc0_3
 clear hr0_3 hc0_3
 have HR0_4 := y0.mk hr0_4
 have HC0_4 := y0.mk hc0_4
 clear hr0_4 hc0_4
 have HR1_0 := y0.mk hr1_0
 have HC1_0 := y0.mk hc1_0
 clear hr1_0 hc1_0
 have HR1_3 := y0.mk hr1_3
 have HC1_3 := y0.mk hc1_3
 clear hr1_3 hc1_3
 have HR1_4 := y0.mk hr1_4
 have HC1_4 := y0.mk hc1_4
 clear hr1_4 hc1_4
 have HB := y0.mk (Below.refl w.heap.size w)
 have H : ((laws_eqExpS.f k l0_0 l1_0).bind fun t338 => (if t338 = true then ((laws_eqLit.f k a0_1 a0_2 l0_3 a1_1 a1_2 l1_3).bind fun t339 => (if t339 = true then ((laws_eqLitS.f k l0_4 l1_4).bind fun t340 => (if t340 = true then (some true) else (some false))) else (some false))) else (some false))) = some r := h
 clear h
 obtain ⟨t338,A3,H⟩ := qB H
 by_cases c4 : t338 = true
 ·subst c4
  replace H := qT H
  obtain ⟨t339,A5,H⟩ := qB H
  by_cases c6 : t339 = true
  ·subst c6
   replace H := qT H
   obtain ⟨t340,A7,H⟩ := qB H
   by_cases c8 : t340 = true
   ·subst c8
    replace H := qT H
    obtain rfl := Option.some.inj H
    go_enter Try.func10,Try.ntmps10
    go_wp2_with (first | ((with_reducible refine y16 (N := 2) rfl ?_); refine qe 2 #[.slice A0_0 l0_0.length c0_0,.int .i64 a0_1,.string a0_2,.slice A0_3 l0_3.length c0_3,.slice A0_4 l0_4.length c0_4] 35 ?_; intro gb336 hg w9 hbox hb; have BK336 := y0.mk (hbox); have GW336 := y0.mk (qg (w := w) hg); have GE336 := y0.mk (qg (w := w) hg); replace HB := y0.mk (y4 qb hb); clear hb hbox hg) | ((with_reducible refine y16 (N := 3) rfl ?_); refine qe 3 #[.slice A1_0 l1_0.length c1_0,.int .i64 a1_1,.string a1_2,.slice A1_3 l1_3.length c1_3,.slice A1_4 l1_4.length c1_4] 35 ?_; intro gb337 hg w10 hbox hb; have BK337 := y0.mk (hbox); have GW337 := y0.mk (qg (w := w) hg); have GE337 := y0.mk (qg (w := w) hg); replace HB := y0.mk (y4 qb hb); have NB336_337 := y0.mk (qn BK336.out hg); have NB337_336 := y0.mk (qm BK336.out hg); replace BK336 := y0.mk (qK BK336.out hb); clear hb hbox hg; have hnb11 := NB336_337.out; have hnc11 := NB337_336.out; obtain ⟨hcz12_0,hcz12_1,hcz12_2,hcz12_3,hcz12_4,hfz12_0,hfz12_1,hfz12_2,hfz12_3,hfz12_4⟩ := qz5 BK336.out; obtain ⟨hcz13_0,hcz13_1,hcz13_2,hcz13_3,hcz13_4,hfz13_0,hfz13_1,hfz13_2,hfz13_3,hfz13_4⟩ := qz5 BK337.out) | ((with_reducible refine y15 (f := 31) rfl ?_); refine y17 (some 9) rfl rfl Try.func31 (by kernel_rfl) rfl #[.slice A0_0 l0_0.length c0_0,.slice A1_0 l1_0.length c1_0] rfl qy0 ?_; (with_reducible refine (laws_eqExpS.calls k _ _ l0_0 _ _ l1_0 true _ (qc (Kd.C_below HR0_0.out HB.out)) HC0_0.out (qc (Kd.C_below HR1_0.out HB.out)) HC1_0.out A3.out rfl).mono ?_); rintro e w14 ⟨rfl,hb⟩; refine ⟨_,rfl, ?_⟩; replace BK336 := y0.mk (qK BK336.out hb); replace BK337 := y0.mk (qK BK337.out hb); replace HB := y0.mk (y4 qb hb); (try clear hb); (try clear hb2); (try clear hk); (try clear hi); obtain ⟨hcz15_0,hcz15_1,hcz15_2,hcz15_3,hcz15_4,hfz15_0,hfz15_1,hfz15_2,hfz15_3,hfz15_4⟩ := qz5 BK336.out; obtain ⟨hcz16_0,hcz16_1,hcz16_2,hcz16_3,hcz16_4,hfz16_0,hfz16_1,hfz16_2,hfz16_3,hfz16_4⟩ := qz5 BK337.out) | ((with_reducible refine y15 (f := 32) rfl ?_); refine y17 (some 15) rfl rfl Try.func32 (by kernel_rfl) rfl #[.agg #[.int .i64 a0_1,.string a0_2,.slice A0_3 l0_3.length c0_3],.agg #[.int .i64 a1_1,.string a1_2,.slice A1_3 l1_3.length c1_3]] rfl qy0 ?_; (with_reducible refine (laws_eqLit.calls k a0_1 a0_2 _ _ l0_3 a1_1 a1_2 _ _ l1_3 true _ (qc (Kd.C_below HR0_3.out HB.out)) HC0_3.out (qc (Kd.C_below HR1_3.out HB.out)) HC1_3.out A5.out rfl).mono ?_); rintro e w17 ⟨rfl,hb⟩; refine ⟨_,rfl, ?_⟩; replace BK336 := y0.mk (qK BK336.out hb); replace BK337 := y0.mk (qK BK337.out hb); replace HB := y0.mk (y4 qb hb); (try clear hb); (try clear hb2); (try clear hk); (try clear hi); obtain ⟨hcz18_0,hcz18_1,hcz18_2,hcz18_3,hcz18_4,hfz18_0,hfz18_1,hfz18_2,hfz18_3,hfz18_4⟩ := qz5 BK336.out; obtain ⟨hcz19_0,hcz19_1,hcz19_2,hcz19_3,hcz19_4,hfz19_0,hfz19_1,hfz19_2,hfz19_3,hfz19_4⟩ := qz5 BK337.out) | ((with_reducible refine y15 (f := 33) rfl ?_); refine y17 (some 21) rfl rfl Try.func33 (by kernel_rfl) rfl #[.slice A0_4 l0_4.length c0_4,.slice A1_4 l1_4.length c1_4] rfl qy0 ?_; (with_reducible refine (laws_eqLitS.calls k _ _ l0_4 _ _ l1_4 true _ (qc (Kd.C_below HR0_4.out HB.out)) HC0_4.out (qc (Kd.C_below HR1_4.out HB.out)) HC1_4.out A7.out rfl).mono ?_); rintro e w20 ⟨rfl,hb⟩; refine ⟨_,rfl, ?_⟩; replace BK336 := y0.mk (qK BK336.out hb); replace BK337 := y0.mk (qK BK337.out hb); replace HB := y0.mk (y4 qb hb); (try clear hb); (try clear hb2); (try clear hk); (try clear hi)))
    go_ret
    exact ⟨by first | rfl | (simp [y12,y13] <;> rfl) | (simp [*,y12,y13] <;> rfl),qb⟩
   ·replace c8 := Bool.eq_false_iff.mpr c8
    subst c8
    replace H := qF H
    exact absurd ((Option.some.inj H).trans htrue_) (by decide)
  ·replace c6 := Bool.eq_false_iff.mpr c6
   subst c6
   replace H := qF H
   exact absurd ((Option.some.inj H).trans htrue_) (by decide)
 ·replace c4 := Bool.eq_false_iff.mpr c4
  subst c4
  replace H := qF H
  exact absurd ((Option.some.inj H).trans htrue_) (by decide)
end Go.Proofs.Ytamjmldfifofbaa.Pp
end
section
namespace Go.Proofs.Ytamjmldfifofbaa.Pp
open Go.RowKit Go.Proofs.YtamjmldfifofbaaW.PrintWords Go.Proofs.YtamjmldfifofbaaW.PrintLast Go.Proofs.YtamjmldfifofbaaW.PrintMore
attribute [local go_sem] max2_int min2_int max_two min_two max_three min_three max_four min_four   -- for this text's walks alone
set_option linter.unusedVariables false
set_option linter.unusedSimpArgs false
def laws_szStringS.l0 : Nat → List ByteArray → Int → Int → Option (Int)
 | 0,_,_,_ => none
 | k + 1,x0,x1,x5 => if x5 < (x0.length : Int) then (if 0 ≤ x5 then (if (wrap64 (x1 - ((rdOf ByteArray.empty x0 x5).size : Int))) < 0 then (some (-1)) else (laws_szStringS.l0 k x0 (wrap64 (x1 - ((rdOf ByteArray.empty x0 x5).size : Int))) (wrap64 (x5 + 1)))) else (none)) else (some x1)
def laws_szStringS.f (k : Nat) (l0 : List ByteArray) (a1 : Int) : Option (Int) := if (wrap64 (a1 - (l0.length : Int))) < 0 then (some (-1)) else (laws_szStringS.l0 k l0 (wrap64 (a1 - (l0.length : Int))) 0)
set_option maxHeartbeats 8000000 in
set_option maxRecDepth 100000 in
theorem laws_szStringS.calls (k : Nat) (A0 : Option Addr) (c0 : Nat) (l0 : List ByteArray) (a1 : Int) (r : Int) (w : World) (hr0 : Kd.C Kd.string w A0 l0.length l0) (hc0 : l0.length ≤ c0) (h : laws_szStringS.f k l0 a1 = some r) :
  Calls Try.prog 86 #[.slice A0 l0.length c0,.int .i64 a1] w fun e w' => e = .returned (.int .i64 r) ∧ y1 w w' := by
 have HR0 := y0.mk hr0
 have HC0 := y0.mk hc0
 clear hr0 hc0
 have H : (if (wrap64 (a1 - (l0.length : Int))) < 0 then (some (-1)) else (laws_szStringS.l0 k l0 (wrap64 (a1 - (l0.length : Int))) 0)) = some r := h
 clear h
 by_cases c3 : (wrap64 (a1 - (l0.length : Int))) < 0
 ·rw [if_pos c3] at H
  have c3b0 := decide_eq_true c3
  clear c3
  obtain rfl := Option.some.inj H
  go_enter Try.func86,Try.ntmps86
  go_wp2
  go_ret
  exact ⟨by first | rfl | (simp; done) | (simp [*]; done),by repeat (first | exact y1.refl _ | apply y1.step)⟩
 ·rw [if_neg c3] at H
  have c3b0 := decide_eq_false c3
  clear c3
  have H' := y0.mk H
  clear H
  go_enter Try.func86,Try.ntmps86
  go_wp2
  go_loopg [1,5] k (fun kq v1 v5 w' => ∃ (x1_1 : Int) (x5_1 : Int),v1 = .int .i64 x1_1 ∧ v5 = .int .i64 x5_1 ∧ y0 (laws_szStringS.l0 kq l0 x1_1 x5_1 = some r) ∧ y0 (kq ≤ k) ∧ y1 w w')
  case atStart => exact ⟨(wrap64 (a1 - (l0.length : Int))),(0),qy2,qy2,H',⟨Nat.le_refl _⟩,by repeat (first | exact y1.refl _ | apply y1.step)⟩
  case round =>
   clear H'
   (try clear c3b0)
   obtain ⟨x1_1,x5_1,rfl,rfl,HA,HK1,⟨m1,rfl⟩⟩ := hrel
   cases gk with
   | zero => exact absurd HA.out (by simp [laws_szStringS.l0])
   | succ k1 =>
    have H := HA.out
    clear HA
    simp only [laws_szStringS.l0] at H
    by_cases c4 : x5_1 < (l0.length : Int)
    ·rw [if_pos c4] at H
     have c4b0 := decide_eq_true c4
     clear c4
     obtain ⟨c5,H⟩ := qo H
     have c5b0 : decide (0 ≤ x5_1) = true := decide_eq_true c5
     clear c5
     have p380 : 0 ≤ (x5_1 : Int) := of_decide_eq_true qy1
     have q380 : x5_1 < (l0.length : Int) := of_decide_eq_true qy1
     obtain ⟨ad380,e380,hx380_0⟩ := Kd.at_string HR0.out x5_1 p380 q380
     cases e380
     replace p380 := eq_true p380
     replace q380 := eq_true q380
     by_cases c6 : (wrap64 (x1_1 - ((rdOf ByteArray.empty l0 x5_1).size : Int))) < 0
     ·rw [if_pos c6] at H
      have c6b0 := decide_eq_true c6
      clear c6
      obtain rfl := Option.some.inj H
      go_wp2
      go_ret
      exact ⟨by first | rfl | (simp; done) | (simp [*]; done),by repeat (first | exact y1.refl _ | apply y1.step)⟩
     ·rw [if_neg c6] at H
      have c6b0 := decide_eq_false c6
      clear c6
      have H' := y0.mk H
      clear H
      go_wp2
      go_roundg k1
      case measure => have := HK1.out; omega
      exact ⟨(wrap64 (x1_1 - ((rdOf ByteArray.empty l0 x5_1).size : Int))),(wrap64 (x5_1 + 1)),qy2,qy2,H',⟨by have := HK1.out; omega⟩,by repeat (first | exact y1.refl _ | apply y1.step)⟩
    ·rw [if_neg c4] at H
     have c4b0 := decide_eq_false c4
     clear c4
     obtain rfl := Option.some.inj H
     go_wp2
     go_ret
     exact ⟨by first | rfl | (simp; done) | (simp [*]; done),by repeat (first | exact y1.refl _ | apply y1.step)⟩
def laws_szCon.f (k : Nat) (a0_0 : ByteArray) (l0_1 : List ByteArray) (a1 : Int) : Option (Int) := if (wrap64 (a1 - (a0_0.size : Int))) < 0 then (some (-1)) else ((laws_szStringS.f k l0_1 (wrap64 (a1 - (a0_0.size : Int)))).bind fun t382 => (if t382 < 0 then (some (-1)) else (some t382)))
set_option maxHeartbeats 8000000 in
set_option maxRecDepth 100000 in
theorem laws_szCon.calls (k : Nat) (a0_0 : ByteArray) (A0_1 : Option Addr) (c0_1 : Nat) (l0_1 : List ByteArray) (a1 : Int) (r : Int) (w : World) (hr0_1 : Kd.C Kd.string w A0_1 l0_1.length l0_1) (hc0_1 : l0_1.length ≤ c0_1) (h : laws_szCon.f k a0_0 l0_1 a1 = some r) :
  Calls Try.prog 96 #[.agg #[.string a0_0,.slice A0_1 l0_1.length c0_1],.int .i64 a1] w fun e w' => e = .returned (.int .i64 r) ∧ Below w.heap.size w w' := by
 have hu147 := Try.underlying147
 have HR0_1 := y0.mk hr0_1
 have HC0_1 := y0.mk hc0_1
 clear hr0_1 hc0_1
 have HB := y0.mk (Below.refl w.heap.size w)
 have H : (if (wrap64 (a1 - (a0_0.size : Int))) < 0 then (some (-1)) else ((laws_szStringS.f k l0_1 (wrap64 (a1 - (a0_0.size : Int)))).bind fun t382 => (if t382 < 0 then (some (-1)) else (some t382)))) = some r := h
 clear h
 by_cases c3 : (wrap64 (a1 - (a0_0.size : Int))) < 0
 ·rw [if_pos c3] at H
  have c3b0 := decide_eq_true c3
  clear c3
  obtain rfl := Option.some.inj H
  go_enter Try.func96,Try.ntmps96
  go_wp2_with (first | ((with_reducible refine y16 (N := 2) rfl ?_); refine qe 2 #[.string a0_0,.slice A0_1 l0_1.length c0_1] 147 ?_; intro gb381 hg w4 hbox hb; have BK381 := y0.mk (hbox); have GW381 := y0.mk (qg (w := w) hg); have GE381 := y0.mk (qg (w := w) hg); replace HB := y0.mk (y4 qb hb); clear hb hbox hg; obtain ⟨hcz5_0,hcz5_1,hfz5_0,hfz5_1⟩ := qz2 BK381.out))
  go_ret
  exact ⟨by first | rfl | (simp [y12,y13] <;> rfl) | (simp [*,y12,y13] <;> rfl),qb⟩
 ·rw [if_neg c3] at H
  have c3b0 := decide_eq_false c3
  clear c3
  obtain ⟨t382,A6,H⟩ := qB H
  by_cases c7 : t382 < 0
  ·rw [if_pos c7] at H
   have c7b0 := decide_eq_true c7
   clear c7
   obtain rfl := Option.some.inj H
   go_enter Try.func96,Try.ntmps96
   go_wp2_with (first | ((with_reducible refine y16 (N := 2) rfl ?_); refine qe 2 #[.string a0_0,.slice A0_1 l0_1.length c0_1] 147 ?_; intro gb381 hg w8 hbox hb; have BK381 := y0.mk (hbox); have GW381 := y0.mk (qg (w := w) hg); have GE381 := y0.mk (qg (w := w) hg); replace HB := y0.mk (y4 qb hb); clear hb hbox hg; obtain ⟨hcz9_0,hcz9_1,hfz9_0,hfz9_1⟩ := qz2 BK381.out) | ((with_reducible refine y15 (f := 86) rfl ?_); refine y17 (some 15) rfl rfl Try.func86 (by kernel_rfl) rfl #[.slice A0_1 l0_1.length c0_1,.int .i64 (wrap64 (a1 - (a0_0.size : Int)))] rfl qy0 ?_; (with_reducible refine (laws_szStringS.calls k _ _ l0_1 (wrap64 (a1 - (a0_0.size : Int))) t382 _ (qc (Kd.C_below HR0_1.out HB.out)) HC0_1.out A6.out).mono ?_); rintro e w' ⟨rfl,⟨nd,rfl⟩⟩; refine ⟨_,rfl, ?_⟩))
   go_ret
   exact ⟨by first | rfl | (simp [y12,y13] <;> rfl) | (simp [*,y12,y13] <;> rfl),qb⟩
  ·rw [if_neg c7] at H
   have c7b0 := decide_eq_false c7
   clear c7
   obtain rfl := Option.some.inj H
   go_enter Try.func96,Try.ntmps96
   go_wp2_with (first | ((with_reducible refine y16 (N := 2) rfl ?_); refine qe 2 #[.string a0_0,.slice A0_1 l0_1.length c0_1] 147 ?_; intro gb381 hg w10 hbox hb; have BK381 := y0.mk (hbox); have GW381 := y0.mk (qg (w := w) hg); have GE381 := y0.mk (qg (w := w) hg); replace HB := y0.mk (y4 qb hb); clear hb hbox hg; obtain ⟨hcz11_0,hcz11_1,hfz11_0,hfz11_1⟩ := qz2 BK381.out) | ((with_reducible refine y15 (f := 86) rfl ?_); refine y17 (some 15) rfl rfl Try.func86 (by kernel_rfl) rfl #[.slice A0_1 l0_1.length c0_1,.int .i64 (wrap64 (a1 - (a0_0.size : Int)))] rfl qy0 ?_; (with_reducible refine (laws_szStringS.calls k _ _ l0_1 (wrap64 (a1 - (a0_0.size : Int))) t382 _ (qc (Kd.C_below HR0_1.out HB.out)) HC0_1.out A6.out).mono ?_); rintro e w' ⟨rfl,⟨nd,rfl⟩⟩; refine ⟨_,rfl, ?_⟩))
   go_ret
   exact ⟨by first | rfl | (simp [y12,y13] <;> rfl) | (simp [*,y12,y13] <;> rfl),qb⟩
def laws_szConS.l0 : Nat → List (S147) → Int → Int → Option (Int)
 | 0,_,_,_ => none
 | k + 1,x0,x1,x5 => if x5 < (x0.length : Int) then (if 0 ≤ x5 then ((laws_szCon.f k ((rd_T147 x0 x5).f0) ((rd_T147 x0 x5).f1) x1).bind fun t384 => (if t384 < 0 then (some (-1)) else (laws_szConS.l0 k x0 t384 (wrap64 (x5 + 1))))) else (none)) else (some x1)
def laws_szConS.f (k : Nat) (l0 : List (S147)) (a1 : Int) : Option (Int) := if (wrap64 (a1 - (l0.length : Int))) < 0 then (some (-1)) else (laws_szConS.l0 k l0 (wrap64 (a1 - (l0.length : Int))) 0)
set_option maxHeartbeats 8000000 in
set_option maxRecDepth 100000 in
theorem laws_szConS.calls (k : Nat) (A0 : Option Addr) (c0 : Nat) (l0 : List (S147)) (a1 : Int) (r : Int) (w : World) (hr0 : Kd.C k147 w A0 l0.length l0) (hc0 : l0.length ≤ c0) (h : laws_szConS.f k l0 a1 = some r) :
  Calls Try.prog 85 #[.slice A0 l0.length c0,.int .i64 a1] w fun e w' => e = .returned (.int .i64 r) ∧ Below w.heap.size w w' := by
 have hu147 := Try.underlying147
 have HR0 := y0.mk hr0
 have HC0 := y0.mk hc0
 clear hr0 hc0
 have HB := y0.mk (Below.refl w.heap.size w)
 have H : (if (wrap64 (a1 - (l0.length : Int))) < 0 then (some (-1)) else (laws_szConS.l0 k l0 (wrap64 (a1 - (l0.length : Int))) 0)) = some r := h
 clear h
 by_cases c3 : (wrap64 (a1 - (l0.length : Int))) < 0
 ·rw [if_pos c3] at H
  have c3b0 := decide_eq_true c3
  clear c3
  obtain rfl := Option.some.inj H
  go_enter Try.func85,Try.ntmps85
  go_wp2
  go_ret
  exact ⟨by first | rfl | (simp [y12,y13] <;> rfl) | (simp [*,y12,y13] <;> rfl),qb⟩
 ·rw [if_neg c3] at H
  have c3b0 := decide_eq_false c3
  clear c3
  have H' := y0.mk H
  clear H
  go_enter Try.func85,Try.ntmps85
  go_wp2
  go_loopg [1,5] k (fun kq v1 v5 w' => ∃ (x1_1 : Int) (x5_1 : Int),v1 = .int .i64 x1_1 ∧ v5 = .int .i64 x5_1 ∧ y0 (laws_szConS.l0 kq l0 x1_1 x5_1 = some r) ∧ y0 (kq ≤ k) ∧ y0 (Below w.heap.size w w'))
  case atStart => exact ⟨(wrap64 (a1 - (l0.length : Int))),(0),qy2,qy2,H',⟨Nat.le_refl _⟩,⟨qb⟩⟩
  case round =>
   clear H'
   (try clear c3b0)
   obtain ⟨x1_1,x5_1,rfl,rfl,HA,HK1,HB⟩ := hrel
   cases gk with
   | zero => exact absurd HA.out (by simp [laws_szConS.l0])
   | succ k1 =>
    have H := HA.out
    clear HA
    simp only [laws_szConS.l0] at H
    by_cases c4 : x5_1 < (l0.length : Int)
    ·rw [if_pos c4] at H
     have c4b0 := decide_eq_true c4
     clear c4
     obtain ⟨c5,H⟩ := qo H
     have c5b0 : decide (0 ≤ x5_1) = true := decide_eq_true c5
     clear c5
     obtain ⟨t384,A6,H⟩ := qB H
     have p383 : 0 ≤ (x5_1 : Int) := of_decide_eq_true qy1
     have q383 : x5_1 < (l0.length : Int) := of_decide_eq_true qy1
     obtain ⟨ad383,A383_1,c383_1,e383,hx383_0,hx383_1,hl383_1,hi383_1⟩ := at_T147 HR0.out x5_1 p383 q383
     cases e383
     replace hx383_0 := (HB.out.cell (World.block_lt_of_cell? w _ hx383_0)).trans hx383_0
     replace hx383_1 := (HB.out.cell (World.block_lt_of_cell? w _ hx383_1)).trans hx383_1
     have HR383_1 := y0.mk hi383_1
     have HC383_1 := y0.mk hl383_1
     clear hi383_1 hl383_1
     replace p383 := eq_true p383
     replace q383 := eq_true q383
     by_cases c7 : t384 < 0
     ·rw [if_pos c7] at H
      have c7b0 := decide_eq_true c7
      clear c7
      obtain rfl := Option.some.inj H
      go_wp2_with (first | ((with_reducible refine y15 (f := 96) rfl ?_); refine y17 (some 23) rfl rfl Try.func96 (by kernel_rfl) rfl #[.agg #[.string ((rd_T147 l0 x5_1).f0),.slice A383_1 ((rd_T147 l0 x5_1).f1).length c383_1],.int .i64 x1_1] rfl qy0 ?_; (with_reducible refine (laws_szCon.calls k1 ((rd_T147 l0 x5_1).f0) _ _ ((rd_T147 l0 x5_1).f1) x1_1 t384 _ (qc (Kd.C_below HR383_1.out HB.out)) HC383_1.out A6.out).mono ?_); rintro e w8 ⟨rfl,hb⟩; refine ⟨_,rfl, ?_⟩; replace HB := y0.mk (y4 qb hb); (try clear hb); (try clear hb2); (try clear hk); (try clear hi)))
      go_ret
      exact ⟨by first | rfl | (simp [y12,y13] <;> rfl) | (simp [*,y12,y13] <;> rfl),qb⟩
     ·rw [if_neg c7] at H
      have c7b0 := decide_eq_false c7
      clear c7
      have H' := y0.mk H
      clear H
      go_wp2_with (first | ((with_reducible refine y15 (f := 96) rfl ?_); refine y17 (some 23) rfl rfl Try.func96 (by kernel_rfl) rfl #[.agg #[.string ((rd_T147 l0 x5_1).f0),.slice A383_1 ((rd_T147 l0 x5_1).f1).length c383_1],.int .i64 x1_1] rfl qy0 ?_; (with_reducible refine (laws_szCon.calls k1 ((rd_T147 l0 x5_1).f0) _ _ ((rd_T147 l0 x5_1).f1) x1_1 t384 _ (qc (Kd.C_below HR383_1.out HB.out)) HC383_1.out A6.out).mono ?_); rintro e w9 ⟨rfl,hb⟩; refine ⟨_,rfl, ?_⟩; replace HB := y0.mk (y4 qb hb); (try clear hb); (try clear hb2); (try clear hk); (try clear hi)))
      go_roundg k1
      case measure => have := HK1.out; omega
      exact ⟨(t384),(wrap64 (x5_1 + 1)),qy2,qy2,H',⟨by have := HK1.out; omega⟩,⟨qb⟩⟩
    ·rw [if_neg c4] at H
     have c4b0 := decide_eq_false c4
     clear c4
     obtain rfl := Option.some.inj H
     go_wp2
     go_ret
     exact ⟨by first | rfl | (simp [y12,y13] <;> rfl) | (simp [*,y12,y13] <;> rfl),qb⟩
def laws_szTypeDecl.f (k : Nat) (a0_0 : ByteArray) (l0_1 : List (S147)) (a1 : Int) : Option (Int) := if (wrap64 (a1 - (a0_0.size : Int))) < 0 then (some (-1)) else ((laws_szConS.f k l0_1 (wrap64 (a1 - (a0_0.size : Int)))).bind fun t386 => (if t386 < 0 then (some (-1)) else (some t386)))
set_option maxHeartbeats 8000000 in
set_option maxRecDepth 100000 in
theorem laws_szTypeDecl.calls (k : Nat) (a0_0 : ByteArray) (A0_1 : Option Addr) (c0_1 : Nat) (l0_1 : List (S147)) (a1 : Int) (r : Int) (w : World) (hr0_1 : Kd.C k147 w A0_1 l0_1.length l0_1) (hc0_1 : l0_1.length ≤ c0_1) (h : laws_szTypeDecl.f k a0_0 l0_1 a1 = some r) :
  Calls Try.prog 64 #[.agg #[.string a0_0,.slice A0_1 l0_1.length c0_1],.int .i64 a1] w fun e w' => e = .returned (.int .i64 r) ∧ Below w.heap.size w w' := by
 have hu112 := Try.underlying112
 have HR0_1 := y0.mk hr0_1
 have HC0_1 := y0.mk hc0_1
 clear hr0_1 hc0_1
 have HB := y0.mk (Below.refl w.heap.size w)
 have H : (if (wrap64 (a1 - (a0_0.size : Int))) < 0 then (some (-1)) else ((laws_szConS.f k l0_1 (wrap64 (a1 - (a0_0.size : Int)))).bind fun t386 => (if t386 < 0 then (some (-1)) else (some t386)))) = some r := h
 clear h
 by_cases c3 : (wrap64 (a1 - (a0_0.size : Int))) < 0
 ·rw [if_pos c3] at H
  have c3b0 := decide_eq_true c3
  clear c3
  obtain rfl := Option.some.inj H
  go_enter Try.func64,Try.ntmps64
  go_wp2_with (first | ((with_reducible refine y16 (N := 2) rfl ?_); refine qe 2 #[.string a0_0,.slice A0_1 l0_1.length c0_1] 112 ?_; intro gb385 hg w4 hbox hb; have BK385 := y0.mk (hbox); have GW385 := y0.mk (qg (w := w) hg); have GE385 := y0.mk (qg (w := w) hg); replace HB := y0.mk (y4 qb hb); clear hb hbox hg; obtain ⟨hcz5_0,hcz5_1,hfz5_0,hfz5_1⟩ := qz2 BK385.out))
  go_ret
  exact ⟨by first | rfl | (simp [y12,y13] <;> rfl) | (simp [*,y12,y13] <;> rfl),qb⟩
 ·rw [if_neg c3] at H
  have c3b0 := decide_eq_false c3
  clear c3
  obtain ⟨t386,A6,H⟩ := qB H
  by_cases c7 : t386 < 0
  ·rw [if_pos c7] at H
   have c7b0 := decide_eq_true c7
   clear c7
   obtain rfl := Option.some.inj H
   go_enter Try.func64,Try.ntmps64
   go_wp2_with (first | ((with_reducible refine y16 (N := 2) rfl ?_); refine qe 2 #[.string a0_0,.slice A0_1 l0_1.length c0_1] 112 ?_; intro gb385 hg w8 hbox hb; have BK385 := y0.mk (hbox); have GW385 := y0.mk (qg (w := w) hg); have GE385 := y0.mk (qg (w := w) hg); replace HB := y0.mk (y4 qb hb); clear hb hbox hg; obtain ⟨hcz9_0,hcz9_1,hfz9_0,hfz9_1⟩ := qz2 BK385.out) | ((with_reducible refine y15 (f := 85) rfl ?_); refine y17 (some 15) rfl rfl Try.func85 (by kernel_rfl) rfl #[.slice A0_1 l0_1.length c0_1,.int .i64 (wrap64 (a1 - (a0_0.size : Int)))] rfl qy0 ?_; (with_reducible refine (laws_szConS.calls k _ _ l0_1 (wrap64 (a1 - (a0_0.size : Int))) t386 _ (qc (Kd.C_below HR0_1.out HB.out)) HC0_1.out A6.out).mono ?_); rintro e w10 ⟨rfl,hb⟩; refine ⟨_,rfl, ?_⟩; replace BK385 := y0.mk (qK BK385.out hb); replace HB := y0.mk (y4 qb hb); (try clear hb); (try clear hb2); (try clear hk); (try clear hi)))
   go_ret
   exact ⟨by first | rfl | (simp [y12,y13] <;> rfl) | (simp [*,y12,y13] <;> rfl),qb⟩
  ·rw [if_neg c7] at H
   have c7b0 := decide_eq_false c7
   clear c7
   obtain rfl := Option.some.inj H
   go_enter Try.func64,Try.ntmps64
   go_wp2_with (first | ((with_reducible refine y16 (N := 2) rfl ?_); refine qe 2 #[.string a0_0,.slice A0_1 l0_1.length c0_1] 112 ?_; intro gb385 hg w11 hbox hb; have BK385 := y0.mk (hbox); have GW385 := y0.mk (qg (w := w) hg); have GE385 := y0.mk (qg (w := w) hg); replace HB := y0.mk (y4 qb hb); clear hb hbox hg; obtain ⟨hcz12_0,hcz12_1,hfz12_0,hfz12_1⟩ := qz2 BK385.out) | ((with_reducible refine y15 (f := 85) rfl ?_); refine y17 (some 15) rfl rfl Try.func85 (by kernel_rfl) rfl #[.slice A0_1 l0_1.length c0_1,.int .i64 (wrap64 (a1 - (a0_0.size : Int)))] rfl qy0 ?_; (with_reducible refine (laws_szConS.calls k _ _ l0_1 (wrap64 (a1 - (a0_0.size : Int))) t386 _ (qc (Kd.C_below HR0_1.out HB.out)) HC0_1.out A6.out).mono ?_); rintro e w13 ⟨rfl,hb⟩; refine ⟨_,rfl, ?_⟩; replace BK385 := y0.mk (qK BK385.out hb); replace HB := y0.mk (y4 qb hb); (try clear hb); (try clear hb2); (try clear hk); (try clear hi)))
   go_ret
   exact ⟨by first | rfl | (simp [y12,y13] <;> rfl) | (simp [*,y12,y13] <;> rfl),qb⟩
end Go.Proofs.Ytamjmldfifofbaa.Pp
end

-- Cut by prune.py, a program of this session, out of the texts of this claim: Lean checks it.
import Derived.Test.YtamjmldfifofbaaVppPpx0
namespace Go.Proofs.Ytamjmldfifofbaa.Pp
open Go.RowKit Go.Proofs.YtamjmldfifofbaaW.PrintWords Go.Proofs.YtamjmldfifofbaaW.PrintLast Go.Proofs.YtamjmldfifofbaaW.PrintMore
attribute [local go_sem] max2_int min2_int max_two min_two max_three min_three max_four min_four   -- for this text's walks alone
set_option linter.unusedVariables false
set_option linter.unusedSimpArgs false
mutual
def z8_.l0 : Nat → List Int → List ByteArray → Int → List (S101) → Int → ByteArray → List Int → List (S32) → Option (List ByteArray × Bool)
 | 0,_,_,_,_,_,_,_,_ => none
 | k + 1,x4,x5,x6,x119000,x119001,x119002,x119003,x119004 => if x6 < (x119000.length : Int) then (if 0 ≤ x6 then (z8_.l1 k x4 x5 x6 0 x119000 x119001 x119002 x119003 x119004 ((y18 x119000 x6).f0) ((y18 x119000 x6).f1) ((y18 x119000 x6).f2)) else (none)) else ((some (([(⟨x119001,x119002,x119003⟩ : S32)] : List (S32)) : List (S32))).bind fun y148 => (if y148.length + x119004.length < 2932031007402 then (z8_.l3 k x4 x5 (y148 ++ x119004) 0) else (none)))
def z8_.l1 : Nat → List Int → List ByteArray → Int → Int → List (S101) → Int → ByteArray → List Int → List (S32) → Int → ByteArray → List Int → Option (List ByteArray × Bool)
 | 0,_,_,_,_,_,_,_,_,_,_,_,_ => none
 | k + 1,x4,x5,x6,x8,x119000,x119001,x119002,x119003,x119004,x130000,x130001,x130002 => if x8 < (x130002.length : Int) then (if 0 ≤ x8 then ((spec_l01Between.f (rd x130002 x8) 0 (wrap64 (x6 - 1))).bind fun t131 => (if t131 = true then (if 0 ≤ (rd x130002 x8) then (if (rd x130002 x8) < (x4.length : Int) then (z8_.l1 k (x4.set ((rd x130002 x8) : Int).toNat (wrap64 ((rd x4 (rd x130002 x8)) + 1))) x5 x6 (wrap64 (x8 + 1)) x119000 x119001 x119002 x119003 x119004 x130000 x130001 x130002) else (none)) else (none)) else (some (x5,false)))) else (none)) else (if x130000 = 1 then (z8_.j2 k x4 x5 x6 x130000 (x130000 == 1) x119000 x119001 x119002 x119003 x119004 x130000 x130001 x130002) else (z8_.j2 k x4 x5 x6 x130000 (x130000 == 3) x119000 x119001 x119002 x119003 x119004 x130000 x130001 x130002))
def z8_.j5 : Nat → List Int → List ByteArray → Int → ByteArray → List (S101) → Int → ByteArray → List Int → List (S32) → Int → ByteArray → List Int → Option (List ByteArray × Bool)
 | 0,_,_,_,_,_,_,_,_,_,_,_,_ => none
 | k + 1,x4,x5,x6,x9,x119000,x119001,x119002,x119003,x119004,x130000,x130001,x130002 => if x130000 ≤ 3 then (if (x130002.length : Int) > 0 then (z8_.j6 k x4 x5 x6 x9 true x119000 x119001 x119002 x119003 x119004) else (z8_.j6 k x4 x5 x6 x9 (decide ((x9.size : Int) > 3000)) x119000 x119001 x119002 x119003 x119004)) else (z8_.j6 k x4 x5 x6 x9 (decide ((x9.size : Int) > 3000)) x119000 x119001 x119002 x119003 x119004)
def z8_.j6 : Nat → List Int → List ByteArray → Int → ByteArray → Bool → List (S101) → Int → ByteArray → List Int → List (S32) → Option (List ByteArray × Bool)
 | 0,_,_,_,_,_,_,_,_,_,_ => none
 | k + 1,x4,x5,x6,x9,x156,x119000,x119001,x119002,x119003,x119004 => if x156 = true then (some (x5,false)) else (if 0 ≤ x6 then (if x6 < (x5.length : Int) then (z8_.l0 k x4 (x5.set (x6 : Int).toNat x9) (wrap64 (x6 + 1)) x119000 x119001 x119002 x119003 x119004) else (none)) else (none))
def z8_.j2 : Nat → List Int → List ByteArray → Int → Int → Bool → List (S101) → Int → ByteArray → List Int → List (S32) → Int → ByteArray → List Int → Option (List ByteArray × Bool)
 | 0,_,_,_,_,_,_,_,_,_,_,_,_,_ => none
 | k + 1,x4,x5,x6,x69,x71,x119000,x119001,x119002,x119003,x119004,x130000,x130001,x130002 => if x71 = true then (z8_.j5 k x4 x5 x6 x130001 x119000 x119001 x119002 x119003 x119004 x130000 x130001 x130002) else (if x69 = 2 then (z8_.j5 k x4 x5 x6 (⟨#[95]⟩ : ByteArray) x119000 x119001 x119002 x119003 x119004 x130000 x130001 x130002) else (if x69 = 4 then (z8_.l2 k x4 x5 x6 x130001 0 x119000 x119001 x119002 x119003 x119004 x130000 x130001 x130002) else (if x69 = 5 then (z8_.j4 k x4 x5 x6 (x69 == 5) x119000 x119001 x119002 x119003 x119004 x130000 x130001 x130002) else (if x69 = 6 then (z8_.j4 k x4 x5 x6 (x69 == 6) x119000 x119001 x119002 x119003 x119004 x130000 x130001 x130002) else (z8_.j4 k x4 x5 x6 (x69 == 7) x119000 x119001 x119002 x119003 x119004 x130000 x130001 x130002)))))
def z8_.l2 : Nat → List Int → List ByteArray → Int → ByteArray → Int → List (S101) → Int → ByteArray → List Int → List (S32) → Int → ByteArray → List Int → Option (List ByteArray × Bool)
 | 0,_,_,_,_,_,_,_,_,_,_,_,_,_ => none
 | k + 1,x4,x5,x6,x9,x10,x119000,x119001,x119002,x119003,x119004,x130000,x130001,x130002 => if x10 < (x130002.length : Int) then (if x10 = 0 then (if x9.size + 1 ≤ 9223372036854775807 then (if 0 ≤ x10 then (if 0 ≤ (rd x130002 x10) then (if (rd x130002 x10) < (x5.length : Int) then (if (x9 ++ (⟨#[40]⟩ : ByteArray)).size + (rdOf ByteArray.empty x5 (rd x130002 x10)).size ≤ 9223372036854775807 then (z8_.l2 k x4 x5 x6 ((x9 ++ (⟨#[40]⟩ : ByteArray)) ++ (rdOf ByteArray.empty x5 (rd x130002 x10))) (wrap64 (x10 + 1)) x119000 x119001 x119002 x119003 x119004 x130000 x130001 x130002) else (none)) else (none)) else (none)) else (none)) else (none)) else (if x9.size + 2 ≤ 9223372036854775807 then (if 0 ≤ x10 then (if 0 ≤ (rd x130002 x10) then (if (rd x130002 x10) < (x5.length : Int) then (if (x9 ++ (⟨#[44,32]⟩ : ByteArray)).size + (rdOf ByteArray.empty x5 (rd x130002 x10)).size ≤ 9223372036854775807 then (z8_.l2 k x4 x5 x6 ((x9 ++ (⟨#[44,32]⟩ : ByteArray)) ++ (rdOf ByteArray.empty x5 (rd x130002 x10))) (wrap64 (x10 + 1)) x119000 x119001 x119002 x119003 x119004 x130000 x130001 x130002) else (none)) else (none)) else (none)) else (none)) else (none))) else (if (x130002.length : Int) > 0 then (if x9.size + 1 ≤ 9223372036854775807 then (z8_.j5 k x4 x5 x6 (x9 ++ (⟨#[41]⟩ : ByteArray)) x119000 x119001 x119002 x119003 x119004 x130000 x130001 x130002) else (none)) else (z8_.j5 k x4 x5 x6 x9 x119000 x119001 x119002 x119003 x119004 x130000 x130001 x130002))
def z8_.j4 : Nat → List Int → List ByteArray → Int → Bool → List (S101) → Int → ByteArray → List Int → List (S32) → Int → ByteArray → List Int → Option (List ByteArray × Bool)
 | 0,_,_,_,_,_,_,_,_,_,_,_,_ => none
 | k + 1,x4,x5,x6,x111,x119000,x119001,x119002,x119003,x119004,x130000,x130001,x130002 => if x111 = true then (if (x130002.length : Int) = 2 then ((some (([(⟨#[32,43,32]⟩ : ByteArray),(⟨#[32,45,32]⟩ : ByteArray),(⟨#[32,42,32]⟩ : ByteArray)] : List ByteArray) : List ByteArray)).bind fun y139 => (if 0 ≤ (wrap64 (x130000 - 5)) then (if (wrap64 (x130000 - 5)) < (y139.length : Int) then (if 0 < (x130002.length : Int) then ((spec_l04Side.f x119000 x119001 x119002 x119003 x119004 x5 (rd x130002 0)).bind fun t144 => (if t144.size + (rdOf ByteArray.empty y139 (wrap64 (x130000 - 5))).size ≤ 9223372036854775807 then (if 1 < (x130002.length : Int) then ((spec_l04Side.f x119000 x119001 x119002 x119003 x119004 x5 (rd x130002 1)).bind fun t146 => (if (t144 ++ (rdOf ByteArray.empty y139 (wrap64 (x130000 - 5)))).size + t146.size ≤ 9223372036854775807 then (z8_.j5 k x4 x5 x6 ((t144 ++ (rdOf ByteArray.empty y139 (wrap64 (x130000 - 5)))) ++ t146) x119000 x119001 x119002 x119003 x119004 x130000 x130001 x130002) else (none))) else (none)) else (none))) else (none)) else (none)) else (none))) else (some (x5,false))) else (some (x5,false))
def z8_.l3 : Nat → List Int → List ByteArray → List (S32) → Int → Option (List ByteArray × Bool)
 | 0,_,_,_,_ => none
 | k + 1,x4,x5,x12,x13 => if x13 < (x12.length : Int) then (z8_.l4 k x4 x5 x12 x13 0) else (z8_.l5 k x4 x5 0)
def z8_.l4 : Nat → List Int → List ByteArray → List (S32) → Int → Int → Option (List ByteArray × Bool)
 | 0,_,_,_,_,_ => none
 | k + 1,x4,x5,x12,x13,x14 => if 0 ≤ x13 then (if x13 < (x12.length : Int) then (if x14 < (((y19 x12 x13).f2).length : Int) then (if 0 ≤ x14 then ((spec_l01Between.f (rd ((y19 x12 x13).f2) x14) 0 (wrap64 ((x4.length : Int) - 1))).bind fun t157 => (if t157 = true then (if 0 ≤ (rd ((y19 x12 x13).f2) x14) then (if (rd ((y19 x12 x13).f2) x14) < (x4.length : Int) then (z8_.l4 k (x4.set ((rd ((y19 x12 x13).f2) x14) : Int).toNat (wrap64 ((rd x4 (rd ((y19 x12 x13).f2) x14)) + 1))) x5 x12 x13 (wrap64 (x14 + 1))) else (none)) else (none)) else (some (x5,false)))) else (none)) else (z8_.l3 k x4 x5 x12 (wrap64 (x13 + 1)))) else (none)) else (none)
def z8_.l5 : Nat → List Int → List ByteArray → Int → Option (List ByteArray × Bool)
 | 0,_,_,_ => none
 | k + 1,x4,x5,x15 => if x15 < (x4.length : Int) then (if 0 ≤ x15 then (if (rd x4 x15) = 1 then (z8_.l5 k x4 x5 (wrap64 (x15 + 1))) else (some (x5,false))) else (none)) else (some (x5,true))
end
def z8_.f (k : Nat) (l0_0 : List (S101)) (a0_1 : Int) (a0_2 : ByteArray) (l0_3 : List Int) (l0_4 : List (S32)) : Option (List ByteArray × Bool) := if (l0_0.length : Int) > 60 then (some ((([] : List ByteArray)),false)) else (if 0 ≤ (l0_0.length : Int) then (if ((l0_0.length : Int) : Int).toNat ≤ 35184372088832 then (if ((l0_0.length : Int) : Int).toNat ≤ 17592186044416 then (z8_.l0 k (List.replicate ((l0_0.length : Int) : Int).toNat 0) (List.replicate ((l0_0.length : Int) : Int).toNat (⟨#[]⟩ : ByteArray)) 0 l0_0 a0_1 a0_2 l0_3 l0_4) else (none)) else (none)) else (none))
def z8_.T40 : Bool × List (List Nat × List Nat) := (true,[([],[]),([],[]),([],[]),([2],[2]),([3],[3]),([4],[4]),([0,1,5],[0,1,5]),([],[]),([6,7],[6,7]),([],[]),([],[]),([],[]),([11],[11]),([12],[12]),([13],[13]),([9,10,14,6],[9,10,14]),([8,15],[8,15]),([16,15,0,1,2,3,4,5,6,7,8,9,10,11,12,13,14,15,16],[16])])
def z8_.B40 : List Nat := [0,0,0,4,12,28,63,0,255,0,0,0,2048,6144,14336,32383,65535,131071]
theorem z8_.tab40 : rtab .any (opsOf Try.f25 40) = z8_.T40 := by kernel_rfl
theorem z8_.bits40 : waitsOk z8_.T40.2 z8_.B40 = true := by kernel_rfl
set_option maxHeartbeats 8000000 in
set_option maxRecDepth 100000 in
theorem z8_.calls (k : Nat) (A0_0 : Option Addr) (c0_0 : Nat) (l0_0 : List (S101)) (a0_1 : Int) (a0_2 : ByteArray) (P0_3_ : Nat → Prop) (A0_3 : Option Addr) (c0_3 : Nat) (l0_3 : List Int) (P0_4_ : Nat → Prop) (A0_4 : Option Addr) (c0_4 : Nat) (l0_4 : List (S32)) (r1 : List ByteArray) (r2 : Bool) (w : World) (hr0_0 : Kd.C k101 w A0_0 l0_0.length l0_0) (hc0_0 : l0_0.length ≤ c0_0) (hs0_3 : Kd.V (Kd.int .i64) 3 w w.heap.size (fun k_ => P0_3_ k_) (.slice A0_3 l0_3.length c0_3) l0_3) (hs0_4 : Kd.V k32 32 w w.heap.size (fun k_ => P0_4_ k_) (.slice A0_4 l0_4.length c0_4) l0_4) (h : z8_.f k l0_0 a0_1 a0_2 l0_3 l0_4 = some (r1,r2)) :
  Calls Try.prog 25 #[.agg #[.slice A0_0 l0_0.length c0_0,.int .i64 a0_1,.string a0_2,.slice A0_3 l0_3.length c0_3,.slice A0_4 l0_4.length c0_4]] w fun e w' => ∃ v0_ : Value,e = .returned (.tuple #[v0_,.bool r2]) ∧ Kd.R Kd.string 9 w' w.heap.size (fun k_ => (w.heap.size ≤ k_)) v0_ r1 ∧ Below w.heap.size w w' := by
 have hu35 := Try.underlying35
 have hu101 := Try.underlying101
 have hu32 := Try.underlying32
 have HR0_0 := y0.mk hr0_0
 have HC0_0 := y0.mk hc0_0
 clear hr0_0 hc0_0
 have HO0_3 := y0.mk (show Kd.V (Kd.int .i64) 3 w w.heap.size (fun k_ => ((P0_3_ k_ ∨ P0_4_ k_) ∨ w.heap.size ≤ k_)) (.slice A0_3 l0_3.length c0_3) l0_3 from Kd.V_mono hs0_3 (fun k_ hk => .inl (.inl hk)))
 have HO0_4 := y0.mk (show Kd.V k32 32 w w.heap.size (fun k_ => ((P0_3_ k_ ∨ P0_4_ k_) ∨ w.heap.size ≤ k_)) (.slice A0_4 l0_4.length c0_4) l0_4 from Kd.V_mono hs0_4 (fun k_ hk => .inl (.inr hk)))
 have HB := y0.mk (Below.refl w.heap.size w)
 have H : (if (l0_0.length : Int) > 60 then (some ((([] : List ByteArray)),false)) else (if 0 ≤ (l0_0.length : Int) then (if ((l0_0.length : Int) : Int).toNat ≤ 35184372088832 then (if ((l0_0.length : Int) : Int).toNat ≤ 17592186044416 then (z8_.l0 k (List.replicate ((l0_0.length : Int) : Int).toNat 0) (List.replicate ((l0_0.length : Int) : Int).toNat (⟨#[]⟩ : ByteArray)) 0 l0_0 a0_1 a0_2 l0_3 l0_4) else (none)) else (none)) else (none))) = some (r1,r2) := h
 clear h
 by_cases c2 : (l0_0.length : Int) > 60
 ·as_aux_lemma =>
  rw [if_pos c2] at H
  have c2b0 : decide (60 < (l0_0.length : Int)) = true := decide_eq_true c2
  have c2b1 : decide (60 < l0_0.length) = true := decide_eq_true (by omega)
  clear c2
  obtain ⟨y119,hy119⟩ : ∃ y_ : List ByteArray,y_ = (([] : List ByteArray)) := ⟨_,rfl⟩
  replace H : (some (y119,false)) = some (r1,r2) := by first | (rw [hy119]; with_reducible exact H) | (have H2_ := (Option.bind_some _ _).symm.trans H; rw [hy119]; with_reducible exact H2_) | (have H2_ := (Option.bind_some _ _).symm.trans H; with_reducible exact H2_) | with_reducible exact H | (rw [hy119]; exact H) | exact H
  have Ny119 := y0.mk hy119
  clear hy119
  simp only [Option.some.injEq,Prod.mk.injEq] at H
  obtain ⟨rfl,rfl⟩ := H
  go_enter Try.func25,Try.ntmps25
  go_wp2_with (first | ((with_reducible refine y16 (N := 1) rfl ?_); (try (refine gate_guard (by rfl) ?_; dsimp only)); refine qe 1 #[.slice A0_0 l0_0.length c0_0,.int .i64 a0_1,.string a0_2,.slice A0_3 l0_3.length c0_3,.slice A0_4 l0_4.length c0_4] 35 ?_; intro gb118 hg w3 hbox hb; replace HO0_3 := y0.mk (Kd.V_below (Kd.V_elderB (qV HO0_3.out) gb118 (Nat.le_of_eq hg.symm)) hb); replace HO0_4 := y0.mk (Kd.V_below (Kd.V_elderB (qV HO0_4.out) gb118 (Nat.le_of_eq hg.symm)) hb); have BK118 := y0.mk (hbox); have GW118 := y0.mk (qg (w := w) hg); have GE118 := y0.mk (qg (w := w) hg); replace HB := y0.mk (y4 qb hb); clear hb hbox hg; obtain ⟨hcz4_0,hcz4_1,hcz4_2,hcz4_3,hcz4_4,hfz4_0,hfz4_1,hfz4_2,hfz4_3,hfz4_4⟩ := qz5 BK118.out) | ((with_reducible refine y16 (N := 20) rfl ?_); (try (refine gate_guard (by rfl) ?_; dsimp only)); refine Kd.R_lit Kd.string _ 9 ?hg (N := 20) ?hd (xs := ([] : List ByteArray)) (inner := []) (ok := fun _ => True) (okp := fun _ => True) ?hr ?hp (fun _ hk => hk) trivial (Below.refl _ _) (Nat.le_refl _) (by simp) ?_; (case hd => rfl); (case hg => rfl); (case hr => first | (go_simp; done) | (go_simp; rfl)); (case hp => exact (Reps.none _ _)); intro v120 w5 ho6 hb hg_ hnew_; clear hg_ hnew_; (first | rw [← Ny119.out] at ho6 | (simp only [Int.reduceToNat] at ho6; rw [← Ny119.out] at ho6)); replace HO0_3 := y0.mk (Kd.V_elder' (qV HO0_3.out) (Kd.R_base ho6) hb); replace HO0_4 := y0.mk (Kd.V_elder' (qV HO0_4.out) (Kd.R_base ho6) hb); have HO121 := y0.mk (Kd.R_lower (Kd.R_newM (M := fun k_ => (w.heap.size ≤ k_)) ho6 (y3 qb) (fun k_ h_ => h_)) (y3 qb)); replace BK118 := y0.mk (qK BK118.out hb); replace HB := y0.mk (y4 qb hb); clear hb ho6))
  go_ret2
  exact ⟨_,by first | rfl | (simp [y12,y13] <;> rfl) | (simp [*,y12,y13] <;> rfl),by (with_reducible repeat (first | apply Kd.R_alloc | apply Kd.R_drewN | apply Kd.R_drew)); exact Kd.R_mono HO121.out (fun _ hk => hk.1),qb⟩
 ·as_aux_lemma =>
  rw [if_neg c2] at H
  have c2b0 : decide (60 < (l0_0.length : Int)) = false := decide_eq_false c2
  have c2b1 : decide (60 < l0_0.length) = false := decide_eq_false (by omega)
  clear c2
  obtain ⟨c7,H⟩ := qo H
  have c7b0 := eq_true c7
  have c7b1 := decide_eq_true c7
  clear c7
  obtain ⟨c8,H⟩ := qo H
  have c8b0 := eq_true c8
  have c8b1 := decide_eq_true c8
  clear c8
  obtain ⟨y122,hy122⟩ : ∃ y_ : List Int,y_ = (List.replicate ((l0_0.length : Int) : Int).toNat 0) := ⟨_,rfl⟩
  replace H : (if ((l0_0.length : Int) : Int).toNat ≤ 17592186044416 then (z8_.l0 k y122 (List.replicate ((l0_0.length : Int) : Int).toNat (⟨#[]⟩ : ByteArray)) 0 l0_0 a0_1 a0_2 l0_3 l0_4) else (none)) = some (r1,r2) := by first | (rw [hy122]; with_reducible exact H) | (have H2_ := (Option.bind_some _ _).symm.trans H; rw [hy122]; with_reducible exact H2_) | (have H2_ := (Option.bind_some _ _).symm.trans H; with_reducible exact H2_) | with_reducible exact H | (rw [hy122]; exact H) | exact H
  have Ny122 := y0.mk hy122
  clear hy122
  obtain ⟨c9,H⟩ := qo H
  have c9b0 := eq_true c9
  have c9b1 := decide_eq_true c9
  clear c9
  obtain ⟨y125,hy125⟩ : ∃ y_ : List ByteArray,y_ = (List.replicate ((l0_0.length : Int) : Int).toNat (⟨#[]⟩ : ByteArray)) := ⟨_,rfl⟩
  replace H : (z8_.l0 k y122 y125 0 l0_0 a0_1 a0_2 l0_3 l0_4) = some (r1,r2) := by first | (rw [hy125]; with_reducible exact H) | (have H2_ := (Option.bind_some _ _).symm.trans H; rw [hy125]; with_reducible exact H2_) | (have H2_ := (Option.bind_some _ _).symm.trans H; with_reducible exact H2_) | with_reducible exact H | (rw [hy125]; exact H) | exact H
  have Ny125 := y0.mk hy125
  clear hy125
  have H' := y0.mk H
  clear H
  go_enter Try.func25,Try.ntmps25
  go_wp2_with (first | ((with_reducible refine y16 (N := 1) rfl ?_); (try (refine gate_guard (by rfl) ?_; dsimp only)); refine qe 1 #[.slice A0_0 l0_0.length c0_0,.int .i64 a0_1,.string a0_2,.slice A0_3 l0_3.length c0_3,.slice A0_4 l0_4.length c0_4] 35 ?_; intro gb118 hg w10 hbox hb; replace HO0_3 := y0.mk (Kd.V_below (Kd.V_elderB (qV HO0_3.out) gb118 (Nat.le_of_eq hg.symm)) hb); replace HO0_4 := y0.mk (Kd.V_below (Kd.V_elderB (qV HO0_4.out) gb118 (Nat.le_of_eq hg.symm)) hb); have BK118 := y0.mk (hbox); have GW118 := y0.mk (qg (w := w) hg); have GE118 := y0.mk (qg (w := w) hg); replace HB := y0.mk (y4 qb hb); clear hb hbox hg; obtain ⟨hcz11_0,hcz11_1,hcz11_2,hcz11_3,hcz11_4,hfz11_0,hfz11_1,hfz11_2,hfz11_3,hfz11_4⟩ := qz5 BK118.out) | ((with_reducible refine y16 (N := 24) rfl ?_); (try (refine gate_guard (by rfl) ?_; dsimp only)); refine Kd.R_make (Kd.int .i64) _ 3 rfl (N := 24) rfl 23 _ _ rfl (l0_0.length : Int) rfl rfl Try.underlying23 (.int .i64 0) 8 info3 rfl (by decide) (by omega) 0 (ok := fun _ => True) (okp := fun _ => True) rfl (fun _ hk => hk) trivial (of_decide_eq_true qy1) (Nat.le_trans (Nat.mul_le_mul_right _ (of_decide_eq_true qy1 : (l0_0.length : Int).toNat ≤ 35184372088832)) (by omega)) (Below.refl _ _) (Nat.le_refl _) ?_; intro v123 w12 ho13 hb hg_ hnew_; clear hg_ hnew_; (first | rw [← Ny122.out] at ho13 | (simp only [Int.reduceToNat] at ho13; rw [← Ny122.out] at ho13)); replace HO0_3 := y0.mk (Kd.V_elder' (qV HO0_3.out) (Kd.R_base ho13) hb); replace HO0_4 := y0.mk (Kd.V_elder' (qV HO0_4.out) (Kd.R_base ho13) hb); have HO124 := y0.mk (Kd.R_lower (Kd.R_newM (M := fun k_ => (w.heap.size ≤ k_)) ho13 (y3 qb) (fun k_ h_ => h_)) (y3 qb)); replace BK118 := y0.mk (qK BK118.out hb); replace HB := y0.mk (y4 qb hb); clear hb ho13; obtain ⟨hcz14_0,hcz14_1,hcz14_2,hcz14_3,hcz14_4,hfz14_0,hfz14_1,hfz14_2,hfz14_3,hfz14_4⟩ := qz5 BK118.out) | ((with_reducible refine y16 (N := 28) rfl ?_); (try (refine gate_guard (by rfl) ?_; dsimp only)); refine Kd.R_make Kd.string _ 9 rfl (N := 28) rfl 54 _ _ rfl (l0_0.length : Int) rfl rfl Try.underlying54 (.string ⟨#[]⟩) 16 info9 rfl (by decide) (by omega) (⟨#[]⟩ : ByteArray) (ok := fun _ => True) (okp := fun _ => True) rfl (fun _ hk => hk) trivial (of_decide_eq_true qy1) (Nat.le_trans (Nat.mul_le_mul_right _ (of_decide_eq_true qy1 : (l0_0.length : Int).toNat ≤ 17592186044416)) (by omega)) (Below.refl _ _) (Nat.le_refl _) ?_; intro v126 w15 ho16 hb hg_ hnew_; clear hg_ hnew_; (first | rw [← Ny125.out] at ho16 | (simp only [Int.reduceToNat] at ho16; rw [← Ny125.out] at ho16)); replace HO0_3 := y0.mk (Kd.V_elder' (qV HO0_3.out) (Kd.R_base ho16) hb); replace HO0_4 := y0.mk (Kd.V_elder' (qV HO0_4.out) (Kd.R_base ho16) hb); replace HO124 := y0.mk (Kd.R_below (qR HO124.out) hb); have HO127 := y0.mk (Kd.R_lower (Kd.R_newM (M := fun k_ => (w.heap.size ≤ k_)) ho16 (y3 qb) (fun k_ h_ => h_)) (y3 qb)); replace BK118 := y0.mk (qK BK118.out hb); replace HB := y0.mk (y4 qb hb); clear hb ho16))
  go_loopg [6] k (fun kq v6 w' => ∃ (x4_1 : List Int) (x5_1 : List ByteArray) (x6_1 : Int),v6 = .int .i64 x6_1 ∧ y0 (z8_.l0 kq x4_1 x5_1 x6_1 l0_0 a0_1 a0_2 l0_3 l0_4 = some (r1,r2)) ∧ y0 (kq ≤ k) ∧ y0 (Kd.R (Kd.int .i64) 3 w' w.heap.size (fun k_ => (w.heap.size ≤ k_)) v123 x4_1) ∧ y0 (Kd.R Kd.string 9 w' w.heap.size (fun k_ => (w.heap.size ≤ k_)) v126 x5_1) ∧ y0 (Kd.V (Kd.int .i64) 3 w' w.heap.size (fun k_ => ((P0_3_ k_ ∨ P0_4_ k_) ∨ w.heap.size ≤ k_) ∧ some k_ ≠ (v123 : Value).ownBlock ∧ some k_ ≠ (v126 : Value).ownBlock ∧ k_ ≠ gb118) (.slice A0_3 l0_3.length c0_3) l0_3) ∧ y0 (Kd.V k32 32 w' w.heap.size (fun k_ => ((P0_3_ k_ ∨ P0_4_ k_) ∨ w.heap.size ≤ k_) ∧ some k_ ≠ (v123 : Value).ownBlock ∧ some k_ ≠ (v126 : Value).ownBlock ∧ k_ ≠ gb118) (.slice A0_4 l0_4.length c0_4) l0_4) ∧ y0 (w'.heap[gb118]? = some (.cells #[(.slice A0_0 l0_0.length c0_0),.int .i64 a0_1,.string a0_2,(.slice A0_3 l0_3.length c0_3),(.slice A0_4 l0_4.length c0_4)] 35 (0,0))) ∧ y0 (Below w.heap.size w w'))
  case atStart => exact ⟨(y122),(y125),(0),qy2,H',⟨Nat.le_refl _⟩,⟨qR (Kd.R_mono HO124.out (fun _ hk => hk.1))⟩,⟨qR (Kd.R_mono HO127.out (fun _ hk => hk.1))⟩,⟨qV (Kd.V_mono HO0_3.out (fun _ hk => ⟨hk.1.1.1,⟨hk.1.2,⟨hk.2,hk.1.1.2⟩⟩⟩))⟩,⟨qV (Kd.V_mono HO0_4.out (fun _ hk => ⟨hk.1.1.1,⟨hk.1.2,⟨hk.2,hk.1.1.2⟩⟩⟩))⟩,⟨qk BK118.out⟩,⟨qb⟩⟩
  case round =>
   clear H'
   (try clear c2b0 c2b1 c7b0 c7b1 c8b0 c8b1 c9b0 c9b1 hcz11_0 hcz11_1 hcz11_2 hcz11_3 hcz11_4 hcz14_0 hcz14_1 hcz14_2 hcz14_3 hcz14_4 hfz11_0 hfz11_1 hfz11_2 hfz11_3 hfz11_4 hfz14_0 hfz14_1 hfz14_2 hfz14_3 hfz14_4)
   obtain ⟨x4_1,x5_1,x6_1,rfl,HA,HK1,HO_4,HO_5,HO_119003,HO_119004,BK118,HB⟩ := hrel
   cases gk with
   | zero => exact absurd HA.out (by simp [z8_.l0])
   | succ k1 =>
    have H := HA.out
    clear HA
    simp only [z8_.l0] at H
    by_cases c17 : x6_1 < (l0_0.length : Int)
    ·as_aux_lemma =>
     rw [if_pos c17] at H
     have c17b0 := decide_eq_true c17
     clear c17
     obtain ⟨c18,H⟩ := qo H
     have c18b0 : decide (0 ≤ x6_1) = true := decide_eq_true c18
     clear c18
     have H' := y0.mk H
     clear H
     obtain ⟨hcz19_0,hcz19_1,hcz19_2,hcz19_3,hcz19_4,hfz19_0,hfz19_1,hfz19_2,hfz19_3,hfz19_4⟩ := qz5 BK118.out
     have p128 : 0 ≤ (x6_1 : Int) := of_decide_eq_true qy1
     have q128 : x6_1 < (l0_0.length : Int) := of_decide_eq_true qy1
     obtain ⟨ad128,A128_2,c128_2,e128,hx128_0,hx128_1,hx128_2,hl128_2,hi128_2⟩ := at_T101 HR0_0.out x6_1 p128 q128
     cases e128
     replace hx128_0 := (HB.out.cell (World.block_lt_of_cell? w _ hx128_0)).trans hx128_0
     replace hx128_1 := (HB.out.cell (World.block_lt_of_cell? w _ hx128_1)).trans hx128_1
     replace hx128_2 := (HB.out.cell (World.block_lt_of_cell? w _ hx128_2)).trans hx128_2
     have HR128_2 := y0.mk hi128_2
     have HC128_2 := y0.mk hl128_2
     clear hi128_2 hl128_2
     replace p128 := eq_true p128
     replace q128 := eq_true q128
     go_wp2_with (first | ((with_reducible refine y16 (N := 7) rfl ?_); (try (refine gate_guard (by rfl) ?_; dsimp only)); refine qe 7 #[.int .i64 0,.string (⟨#[]⟩ : ByteArray),.slice none 0 0] 101 ?_; intro gb129 hg w20 hbox hb; replace HO_4 := y0.mk (Kd.R_below (qR HO_4.out) hb); replace HO_5 := y0.mk (Kd.R_below (qR HO_5.out) hb); replace HO_119003 := y0.mk (Kd.V_below (Kd.V_elderB (qV HO_119003.out) gb129 (Nat.le_of_eq hg.symm)) hb); replace HO_119004 := y0.mk (Kd.V_below (Kd.V_elderB (qV HO_119004.out) gb129 (Nat.le_of_eq hg.symm)) hb); have BK129 := y0.mk (hbox); have GW129 := y0.mk (qg (w := w) hg); have GE129 := y0.mk (qg (w := w) hg); replace HB := y0.mk (y4 qb hb); have NB118_129 := y0.mk (qn BK118.out hg); have NB129_118 := y0.mk (qm BK118.out hg); replace BK118 := y0.mk (qK BK118.out hb); clear hb hbox hg; have hnb21 := NB129_118.out; have hnc21 := NB118_129.out; obtain ⟨hcz22_0,hcz22_1,hcz22_2,hfz22_0,hfz22_1,hfz22_2⟩ := qz3 BK129.out))
     go_loopg [8] k1 (fun kq v8 w' => ∃ (x4_2 : List Int) (x8_2 : Int),v8 = .int .i64 x8_2 ∧ y0 (z8_.l1 kq x4_2 x5_1 x6_1 x8_2 l0_0 a0_1 a0_2 l0_3 l0_4 ((y18 l0_0 x6_1).f0) ((y18 l0_0 x6_1).f1) ((y18 l0_0 x6_1).f2) = some (r1,r2)) ∧ y0 (kq ≤ k1) ∧ y0 (Kd.R (Kd.int .i64) 3 w' w.heap.size (fun k_ => (w.heap.size ≤ k_)) v123 x4_2) ∧ y0 (Kd.R Kd.string 9 w' w.heap.size (fun k_ => (w.heap.size ≤ k_)) v126 x5_1) ∧ y0 (Kd.V (Kd.int .i64) 3 w' w.heap.size (fun k_ => ((P0_3_ k_ ∨ P0_4_ k_) ∨ w.heap.size ≤ k_) ∧ some k_ ≠ (v123 : Value).ownBlock ∧ some k_ ≠ (v126 : Value).ownBlock ∧ k_ ≠ gb118 ∧ k_ ≠ gb129) (.slice A0_3 l0_3.length c0_3) l0_3) ∧ y0 (Kd.V k32 32 w' w.heap.size (fun k_ => ((P0_3_ k_ ∨ P0_4_ k_) ∨ w.heap.size ≤ k_) ∧ some k_ ≠ (v123 : Value).ownBlock ∧ some k_ ≠ (v126 : Value).ownBlock ∧ k_ ≠ gb118 ∧ k_ ≠ gb129) (.slice A0_4 l0_4.length c0_4) l0_4) ∧ y0 (w'.heap[gb118]? = some (.cells #[(.slice (some ad128) l0_0.length c0_0),.int .i64 a0_1,.string a0_2,(.slice A0_3 l0_3.length c0_3),(.slice A0_4 l0_4.length c0_4)] 35 (0,0))) ∧ y0 (w'.heap[gb129]? = some (.cells #[.int .i64 ((y18 l0_0 x6_1).f0),.string ((y18 l0_0 x6_1).f1),(.slice A128_2 ((y18 l0_0 x6_1).f2).length c128_2)] 101 (0,0))) ∧ y0 (Below w.heap.size w w'))
     case atStart => exact ⟨(x4_1),(0),qy2,H',⟨Nat.le_refl _⟩,⟨qR (Kd.R_mono (Kd.R_far (p := ⟨gb129,2,none⟩) (Kd.R_far (p := ⟨gb129,1,none⟩) (Kd.R_far (p := ⟨gb129,0,none⟩) (Kd.R_types HO_4.out BK129.out (by decide)) (fun _ hk => hk.2) (.int .i64 ((y18 l0_0 x6_1).f0))) (fun _ hk => hk.2) (.string ((y18 l0_0 x6_1).f1))) (fun _ hk => hk.2) (.slice A128_2 ((y18 l0_0 x6_1).f2).length c128_2)) (fun _ hk => hk.1))⟩,⟨qR (Kd.R_mono (Kd.R_far (p := ⟨gb129,2,none⟩) (Kd.R_far (p := ⟨gb129,1,none⟩) (Kd.R_far (p := ⟨gb129,0,none⟩) (Kd.R_types HO_5.out BK129.out (by decide)) (fun _ hk => hk.2) (.int .i64 ((y18 l0_0 x6_1).f0))) (fun _ hk => hk.2) (.string ((y18 l0_0 x6_1).f1))) (fun _ hk => hk.2) (.slice A128_2 ((y18 l0_0 x6_1).f2).length c128_2)) (fun _ hk => hk.1))⟩,⟨qV (Kd.V_mono (Kd.V_far (p := ⟨gb129,2,none⟩) (Kd.V_far (p := ⟨gb129,1,none⟩) (Kd.V_far (p := ⟨gb129,0,none⟩) (Kd.V_mono HO_119003.out (fun k_ hk => (⟨hk,hk.2⟩ : _ ∧ k_ ≠ gb129))) (fun _ hk => hk.2) (.int .i64 ((y18 l0_0 x6_1).f0))) (fun _ hk => hk.2) (.string ((y18 l0_0 x6_1).f1))) (fun _ hk => hk.2) (.slice A128_2 ((y18 l0_0 x6_1).f2).length c128_2)) (fun _ hk => ⟨hk.1.1.1,⟨hk.1.1.2.1,⟨hk.1.1.2.2.1,⟨hk.1.1.2.2.2,hk.1.2⟩⟩⟩⟩))⟩,⟨qV (Kd.V_mono (Kd.V_far (p := ⟨gb129,2,none⟩) (Kd.V_far (p := ⟨gb129,1,none⟩) (Kd.V_far (p := ⟨gb129,0,none⟩) (Kd.V_mono HO_119004.out (fun k_ hk => (⟨hk,hk.2⟩ : _ ∧ k_ ≠ gb129))) (fun _ hk => hk.2) (.int .i64 ((y18 l0_0 x6_1).f0))) (fun _ hk => hk.2) (.string ((y18 l0_0 x6_1).f1))) (fun _ hk => hk.2) (.slice A128_2 ((y18 l0_0 x6_1).f2).length c128_2)) (fun _ hk => ⟨hk.1.1.1,⟨hk.1.1.2.1,⟨hk.1.1.2.2.1,⟨hk.1.1.2.2.2,hk.1.2⟩⟩⟩⟩))⟩,⟨by (with_reducible repeat (first | refine y9 ?_ _ | refine y8 ?_ | refine y5 ?_ _)); refine y10 ?_ NB118_129.out _; (with_reducible repeat (first | refine y9 ?_ _ | refine y8 ?_ | refine y5 ?_ _)); refine y10 ?_ NB118_129.out _; (with_reducible repeat (first | refine y9 ?_ _ | refine y8 ?_ | refine y5 ?_ _)); refine y10 ?_ NB118_129.out _; (with_reducible repeat (first | refine y9 ?_ _ | refine y8 ?_ | refine y5 ?_ _)); exact BK118.out⟩,⟨by (with_reducible repeat (first | refine y9 ?_ _ | refine y8 ?_ | refine y5 ?_ _)); refine y11 (cs := #[.int .i64 ((y18 l0_0 x6_1).f0),.string ((y18 l0_0 x6_1).f1),.slice none 0 0]) ?_ 2 _ rfl; (with_reducible repeat (first | refine y9 ?_ _ | refine y8 ?_ | refine y5 ?_ _)); refine y11 (cs := #[.int .i64 ((y18 l0_0 x6_1).f0),.string (⟨#[]⟩ : ByteArray),.slice none 0 0]) ?_ 1 _ rfl; (with_reducible repeat (first | refine y9 ?_ _ | refine y8 ?_ | refine y5 ?_ _)); refine y11 (cs := #[.int .i64 0,.string (⟨#[]⟩ : ByteArray),.slice none 0 0]) ?_ 0 _ rfl; (with_reducible repeat (first | refine y9 ?_ _ | refine y8 ?_ | refine y5 ?_ _)); exact BK129.out⟩,⟨qb⟩⟩
     case round =>
      clear H'
      (try clear c17b0 c18b0 hcz19_0 hcz19_1 hcz19_2 hcz19_3 hcz19_4 hcz22_0 hcz22_1 hcz22_2 hfz19_0 hfz19_1 hfz19_2 hfz19_3 hfz19_4 hfz22_0 hfz22_1 hfz22_2 hx128_0 hx128_1 hx128_2 p128 q128)
      obtain ⟨x4_2,x8_2,rfl,HA,HK2,HO_4,HO_5,HO_119003,HO_119004,BK118,BK129,HB⟩ := hrel
      cases gk with
      | zero => exact absurd HA.out (by simp [z8_.l1])
      | succ k2 =>
       have H := HA.out
       clear HA
       simp only [z8_.l1] at H
       by_cases c23 : x8_2 < (((y18 l0_0 x6_1).f2).length : Int)
       ·as_aux_lemma =>
        rw [if_pos c23] at H
        have c23b0 := decide_eq_true c23
        clear c23
        obtain ⟨c24,H⟩ := qo H
        have c24b0 : decide (0 ≤ x8_2) = true := decide_eq_true c24
        clear c24
        obtain ⟨t131,A25,H⟩ := qB H
        by_cases c26 : t131 = true
        ·subst c26
         replace H := qT H
         obtain ⟨c27,H⟩ := qo H
         have c27b0 : decide (0 ≤ (rd ((y18 l0_0 x6_1).f2) x8_2)) = true := decide_eq_true c27
         clear c27
         obtain ⟨c28,H⟩ := qo H
         have c28b0 : decide ((rd ((y18 l0_0 x6_1).f2) x8_2) < (x4_2.length : Int)) = true := decide_eq_true c28
         clear c28
         obtain ⟨y134,hy134⟩ : ∃ y_ : List Int,y_ = (x4_2.set ((rd ((y18 l0_0 x6_1).f2) x8_2) : Int).toNat (wrap64 ((rd x4_2 (rd ((y18 l0_0 x6_1).f2) x8_2)) + 1))) := ⟨_,rfl⟩
         replace H : (z8_.l1 k2 y134 x5_1 x6_1 (wrap64 (x8_2 + 1)) l0_0 a0_1 a0_2 l0_3 l0_4 ((y18 l0_0 x6_1).f0) ((y18 l0_0 x6_1).f1) ((y18 l0_0 x6_1).f2)) = some (r1,r2) := by first | (rw [hy134]; with_reducible exact H) | (have H2_ := (Option.bind_some _ _).symm.trans H; rw [hy134]; with_reducible exact H2_) | (have H2_ := (Option.bind_some _ _).symm.trans H; with_reducible exact H2_) | with_reducible exact H | (rw [hy134]; exact H) | exact H
         have Ny134 := y0.mk hy134
         clear hy134
         have H' := y0.mk H
         clear H
         have hnb30 := NB129_118.out
         have hnc30 := NB118_129.out
         obtain ⟨hcz31_0,hcz31_1,hcz31_2,hfz31_0,hfz31_1,hfz31_2⟩ := qz3 BK129.out
         have p130 : 0 ≤ (x8_2 : Int) := of_decide_eq_true qy1
         have q130 : x8_2 < (((y18 l0_0 x6_1).f2).length : Int) := of_decide_eq_true qy1
         obtain ⟨ad130,e130,hx130_0⟩ := Kd.at_int HR128_2.out x8_2 p130 q130
         cases e130
         replace hx130_0 := (HB.out.cell (World.block_lt_of_cell? w _ hx130_0)).trans hx130_0
         replace p130 := eq_true p130
         replace q130 := eq_true q130
         go_wp2_with (first | ((with_reducible refine y15 (f := 38) rfl ?_); refine y17 (some 55) rfl rfl Try.func38 (by kernel_rfl) rfl #[.int .i64 (rd ((y18 l0_0 x6_1).f2) x8_2),.int .i64 0,.int .i64 (wrap64 (x6_1 - 1))] rfl qy0 ?_; (with_reducible refine (spec_l01Between.calls (rd ((y18 l0_0 x6_1).f2) x8_2) 0 (wrap64 (x6_1 - 1)) true _ A25.out).mono ?_); rintro e w' ⟨rfl,⟨nd,rfl⟩⟩; refine ⟨_,rfl, ?_⟩; (try (rw [drewN_self wr]; have e1_ : ∀ (n_ : Nat) (a_ : Addr),World.cell? wr a_ = World.cell? (World.drewN wr n_) a_ := fun _ _ => rfl; have e2_ : ∀ (n_ : Nat) (a_ : Addr),World.frozen? wr a_ = World.frozen? (World.drewN wr n_) a_ := fun _ _ => rfl; generalize hq_ : World.drewN wr _ = wr; have e3_ := (fun a_ => (e1_ _ a_).trans (congrArg (fun w_ => World.cell? w_ a_) hq_)); have e4_ := (fun a_ => (e2_ _ a_).trans (congrArg (fun w_ => World.frozen? w_ a_) hq_)); clear e1_ e2_; (try replace hx130_0 := (e3_ _).symm.trans hx130_0); (try replace hcz31_0 := (e3_ _).symm.trans hcz31_0); (try replace hfz31_0 := (e4_ _).symm.trans hfz31_0); (try replace hcz31_1 := (e3_ _).symm.trans hcz31_1); (try replace hfz31_1 := (e4_ _).symm.trans hfz31_1); (try replace hcz31_2 := (e3_ _).symm.trans hcz31_2); (try replace hfz31_2 := (e4_ _).symm.trans hfz31_2); skip; clear e3_ e4_; have n0_ : y0 (Kd.V (Kd.int .i64) 3 wr w.heap.size (fun k_ => ((P0_3_ k_ ∨ P0_4_ k_) ∨ w.heap.size ≤ k_) ∧ some k_ ≠ (v123 : Value).ownBlock ∧ some k_ ≠ (v126 : Value).ownBlock ∧ k_ ≠ gb118 ∧ k_ ≠ gb129) (.slice A0_3 l0_3.length c0_3) l0_3) := ⟨by rw [← hq_]; exact (qV HO_119003.out)⟩; have n1_ : y0 (Kd.V k32 32 wr w.heap.size (fun k_ => ((P0_3_ k_ ∨ P0_4_ k_) ∨ w.heap.size ≤ k_) ∧ some k_ ≠ (v123 : Value).ownBlock ∧ some k_ ≠ (v126 : Value).ownBlock ∧ k_ ≠ gb118 ∧ k_ ≠ gb129) (.slice A0_4 l0_4.length c0_4) l0_4) := ⟨by rw [← hq_]; exact (qV HO_119004.out)⟩; have n2_ : y0 (Kd.R (Kd.int .i64) 3 wr w.heap.size (fun k_ => (w.heap.size ≤ k_)) v123 x4_2) := ⟨by rw [← hq_]; exact (qR HO_4.out)⟩; have n3_ : y0 (Kd.R Kd.string 9 wr w.heap.size (fun k_ => (w.heap.size ≤ k_)) v126 x5_1) := ⟨by rw [← hq_]; exact (qR HO_5.out)⟩; have n4_ : y0 (wr.heap[gb118]? = some (.cells #[.slice (some ad128) l0_0.length c0_0,.int .i64 a0_1,.string a0_2,.slice A0_3 l0_3.length c0_3,.slice A0_4 l0_4.length c0_4] 35 (0,0))) := ⟨by rw [← hq_]; exact (qk BK118.out)⟩; have n5_ : y0 (wr.heap[gb129]? = some (.cells #[.int .i64 ((y18 l0_0 x6_1).f0),.string ((y18 l0_0 x6_1).f1),.slice (some ad130) ((y18 l0_0 x6_1).f2).length c128_2] 101 (0,0))) := ⟨by rw [← hq_]; exact (qk BK129.out)⟩; have n6_ : y0 (Below w.heap.size w wr) := ⟨by rw [← hq_]; exact qb⟩; clear HO_119003 HO_119004 HO_4 HO_5 BK118 BK129 HB hq_; have HO_119003 := n0_; have HO_119004 := n1_; have HO_4 := n2_; have HO_5 := n3_; have BK118 := n4_; have BK129 := n5_; have HB := n6_; clear n0_ n1_ n2_ n3_ n4_ n5_ n6_)); have p132 : 0 ≤ (x8_2 : Int) := of_decide_eq_true qy1; have q132 : x8_2 < (((y18 l0_0 x6_1).f2).length : Int) := of_decide_eq_true qy1; obtain ⟨ad132,e132,hx132_0⟩ := Kd.at_int HR128_2.out x8_2 p132 q132; obtain rfl : ad130 = ad132 := (by injection e132); replace hx132_0 := (HB.out.cell (World.block_lt_of_cell? w _ hx132_0)).trans hx132_0; replace p132 := eq_true p132; replace q132 := eq_true q132; obtain ⟨Ao32,co32,eo32⟩ := Kd.R_slice HO_4.out; subst eo32; have p133 : 0 ≤ ((rd ((y18 l0_0 x6_1).f2) x8_2) : Int) := of_decide_eq_true qy1; have q133 : (rd ((y18 l0_0 x6_1).f2) x8_2) < (x4_2.length : Int) := of_decide_eq_true qy1; obtain ⟨ad133,e133,hx133_0⟩ := Kd.at_int (Kd.R_reads' HO_4.out).2.2 (rd ((y18 l0_0 x6_1).f2) x8_2) p133 q133; cases e133; replace p133 := eq_true p133; replace q133 := eq_true q133; have p29 : 0 ≤ ((rd ((y18 l0_0 x6_1).f2) x8_2) : Int) := of_decide_eq_true qy1; have q29 : ((rd ((y18 l0_0 x6_1).f2) x8_2) : Int) < ((x4_2.length : Int) : Int) := of_decide_eq_true qy1; obtain ⟨go29,co29,eo29,gb29,gl29,cl29,HG29⟩ := Kd.R_form HO_4.out (by omega); (first | cases eo29 | (injection eo29 with ea_ en_ ec_; (first | subst ea_ | (injection ea_ with ea_; subst ea_)); subst ec_; clear en_)); have GB29 := y0.mk gb29; have GG29 := y0.mk HG29; clear gb29 gl29 HG29; (first | simp only [add_plain] at hx133_0 | skip); obtain ⟨hx29_0,hf29_0⟩ := Kd.R_celln 0 HO_4.out ((rd ((y18 l0_0 x6_1).f2) x8_2) : Int) p29 q29; replace p29 := eq_true p29; replace q29 := eq_true q29; obtain ⟨hy33_,hz33_⟩ := Kd.R_celln 0 HO_4.out ((rd ((y18 l0_0 x6_1).f2) x8_2) : Int) (of_decide_eq_true qy1) (of_decide_eq_true qy1); have HP33 := Kd.R_putg HO_4.out ((rd ((y18 l0_0 x6_1).f2) x8_2) : Int) (wrap64 ((rd x4_2 (rd ((y18 l0_0 x6_1).f2) x8_2)) + 1))) | ((with_reducible refine gate_store (t := 3) (p := 67) rfl ?_); refine store_event (t := 3) (p := 67) (v := ?vo_w34) (w1 := (wr.setCell ⟨go29,((rd ((y18 l0_0 x6_1).f2) x8_2) : Int).toNat,none⟩ (.int .i64 (wrap64 ((rd x4_2 (rd ((y18 l0_0 x6_1).f2) x8_2)) + 1))))) ?hg ?ho ?hn ?hr ?_; (case ho => rfl); (case hg => rfl); (case hn => rfl); (case hr => first | (go_simp; done) | (go_simp; rfl)); intro w34 hw; have hg : wr.grownBy w34 (some go29) := (by rw [hw]; exact HP33.2); have hp_ : Kd.R (Kd.int .i64) 3 w34 w.heap.size (fun k_ => (w.heap.size ≤ k_)) (.slice (some ⟨go29,0,none⟩) x4_2.length co32) y134 := (by rw [hw,Ny134.out]; exact HP33.1); clear HP33; replace HO_5 := y0.mk (Kd.R_over' (v := (.slice (some ⟨go29,0,none⟩) x4_2.length co32)) (qR HO_5.out) (Kd.R_typed HO_4.out) (by decide) hg); replace HO_119003 := y0.mk (Kd.V_afterv (v := (.slice (some ⟨go29,0,none⟩) x4_2.length co32)) (v1 := (.slice (some ⟨go29,0,none⟩) x4_2.length co32)) (ok := (fun k_ => ((P0_3_ k_ ∨ P0_4_ k_) ∨ w.heap.size ≤ k_) ∧ some k_ ≠ (v126 : Value).ownBlock ∧ k_ ≠ gb118 ∧ k_ ≠ gb129)) (qV (Kd.V_mono HO_119003.out (fun _ hk => ⟨⟨hk.1,⟨hk.2.2.1,⟨hk.2.2.2.1,hk.2.2.2.2⟩⟩⟩,hk.2.1⟩))) hg (.inl rfl)); replace HO_119004 := y0.mk (Kd.V_afterv (v := (.slice (some ⟨go29,0,none⟩) x4_2.length co32)) (v1 := (.slice (some ⟨go29,0,none⟩) x4_2.length co32)) (ok := (fun k_ => ((P0_3_ k_ ∨ P0_4_ k_) ∨ w.heap.size ≤ k_) ∧ some k_ ≠ (v126 : Value).ownBlock ∧ k_ ≠ gb118 ∧ k_ ≠ gb129)) (qV (Kd.V_mono HO_119004.out (fun _ hk => ⟨⟨hk.1,⟨hk.2.2.1,⟨hk.2.2.2.1,hk.2.2.2.2⟩⟩⟩,hk.2.1⟩))) hg (.inl rfl)); replace BK118 := y0.mk (blk_grown (qk BK118.out) hg (Kd.R_ne HO_4.out BK118.out (by decide))); replace BK129 := y0.mk (blk_grown (qk BK129.out) hg (Kd.R_ne HO_4.out BK129.out (by decide))); replace HO_4 := y0.mk (hp_); replace HB := y0.mk ((by rw [hw]; exact below_set (HB.out) GB29.out : Below w.heap.size w w34)); clear hg hw hp_))
         go_roundg k2
         case measure => have := HK1.out; have := HK2.out; omega
         exact ⟨(y134),(wrap64 (x8_2 + 1)),qy2,H',⟨by have := HK1.out; have := HK2.out; omega⟩,⟨qR HO_4.out⟩,⟨qR HO_5.out⟩,⟨qV (Kd.V_mono HO_119003.out (fun _ hk => ⟨hk.1.1,⟨hk.2,⟨hk.1.2.1,⟨hk.1.2.2.1,hk.1.2.2.2⟩⟩⟩⟩))⟩,⟨qV (Kd.V_mono HO_119004.out (fun _ hk => ⟨hk.1.1,⟨hk.2,⟨hk.1.2.1,⟨hk.1.2.2.1,hk.1.2.2.2⟩⟩⟩⟩))⟩,⟨qk BK118.out⟩,⟨qk BK129.out⟩,⟨qb⟩⟩
        ·replace c26 := Bool.eq_false_iff.mpr c26
         subst c26
         replace H := qF H
         simp only [Option.some.injEq,Prod.mk.injEq] at H
         obtain ⟨rfl,rfl⟩ := H
         have hnb35 := NB129_118.out
         have hnc35 := NB118_129.out
         obtain ⟨hcz36_0,hcz36_1,hcz36_2,hfz36_0,hfz36_1,hfz36_2⟩ := qz3 BK129.out
         have p130 : 0 ≤ (x8_2 : Int) := of_decide_eq_true qy1
         have q130 : x8_2 < (((y18 l0_0 x6_1).f2).length : Int) := of_decide_eq_true qy1
         obtain ⟨ad130,e130,hx130_0⟩ := Kd.at_int HR128_2.out x8_2 p130 q130
         cases e130
         replace hx130_0 := (HB.out.cell (World.block_lt_of_cell? w _ hx130_0)).trans hx130_0
         replace p130 := eq_true p130
         replace q130 := eq_true q130
         go_wp2_with (first | ((with_reducible refine y15 (f := 38) rfl ?_); refine y17 (some 55) rfl rfl Try.func38 (by kernel_rfl) rfl #[.int .i64 (rd ((y18 l0_0 x6_1).f2) x8_2),.int .i64 0,.int .i64 (wrap64 (x6_1 - 1))] rfl qy0 ?_; (with_reducible refine (spec_l01Between.calls (rd ((y18 l0_0 x6_1).f2) x8_2) 0 (wrap64 (x6_1 - 1)) false _ A25.out).mono ?_); rintro e w' ⟨rfl,⟨nd,rfl⟩⟩; refine ⟨_,rfl, ?_⟩))
         go_ret2
         exact ⟨_,by first | rfl | (simp [y12,y13] <;> rfl) | (simp [*,y12,y13] <;> rfl),by (with_reducible repeat (first | apply Kd.R_alloc | apply Kd.R_drewN | apply Kd.R_drew)); exact HO_5.out,qb⟩
       ·as_aux_lemma =>
        rw [if_neg c23] at H
        have c23b0 := decide_eq_false c23
        clear c23
        have HC37 := y0.mk H
        clear H
        have hnb38 := NB129_118.out
        have hnc38 := NB118_129.out
        obtain ⟨hcz39_0,hcz39_1,hcz39_2,hfz39_0,hfz39_1,hfz39_2⟩ := qz3 BK129.out
        go_upto_block 4 with (fail)
        go_cut [9] (fun v9 wc => ∃ (kq : Nat) (x9_36 : ByteArray),v9 = .string x9_36 ∧ y0 (z8_.j5 kq x4_2 x5_1 x6_1 x9_36 l0_0 a0_1 a0_2 l0_3 l0_4 ((y18 l0_0 x6_1).f0) ((y18 l0_0 x6_1).f1) ((y18 l0_0 x6_1).f2) = some (r1,r2)) ∧ y0 (kq ≤ k2) ∧ y0 (Kd.R (Kd.int .i64) 3 wc w.heap.size (fun k_ => (w.heap.size ≤ k_)) v123 x4_2) ∧ y0 (Kd.R Kd.string 9 wc w.heap.size (fun k_ => (w.heap.size ≤ k_)) v126 x5_1) ∧ y0 (Kd.V (Kd.int .i64) 3 wc w.heap.size (fun k_ => ((P0_3_ k_ ∨ P0_4_ k_) ∨ w.heap.size ≤ k_) ∧ some k_ ≠ (v123 : Value).ownBlock ∧ some k_ ≠ (v126 : Value).ownBlock ∧ k_ ≠ gb118 ∧ k_ ≠ gb129) (.slice A0_3 l0_3.length c0_3) l0_3) ∧ y0 (Kd.V k32 32 wc w.heap.size (fun k_ => ((P0_3_ k_ ∨ P0_4_ k_) ∨ w.heap.size ≤ k_) ∧ some k_ ≠ (v123 : Value).ownBlock ∧ some k_ ≠ (v126 : Value).ownBlock ∧ k_ ≠ gb118 ∧ k_ ≠ gb129) (.slice A0_4 l0_4.length c0_4) l0_4) ∧ y0 (wc.heap[gb118]? = some (.cells #[(.slice (some ad128) l0_0.length c0_0),.int .i64 a0_1,.string a0_2,(.slice A0_3 l0_3.length c0_3),(.slice A0_4 l0_4.length c0_4)] 35 (0,0))) ∧ y0 (wc.heap[gb129]? = some (.cells #[.int .i64 ((y18 l0_0 x6_1).f0),.string ((y18 l0_0 x6_1).f1),(.slice A128_2 ((y18 l0_0 x6_1).f2).length c128_2)] 101 (0,0))) ∧ y0 (Below w.heap.size w wc))
        case first =>
         have H := HC37.out
         clear HC37
         have HC40 := y0.mk H
         clear H
         go_upto_if 71 with (fail)
         go_cut [71] (fun v71 wc => ∃ (kq : Nat) (x71_39 : Bool),v71 = .bool x71_39 ∧ y0 (z8_.j2 kq x4_2 x5_1 x6_1 ((y18 l0_0 x6_1).f0) x71_39 l0_0 a0_1 a0_2 l0_3 l0_4 ((y18 l0_0 x6_1).f0) ((y18 l0_0 x6_1).f1) ((y18 l0_0 x6_1).f2) = some (r1,r2)) ∧ y0 (kq ≤ k2) ∧ y0 (Kd.R (Kd.int .i64) 3 wc w.heap.size (fun k_ => (w.heap.size ≤ k_)) v123 x4_2) ∧ y0 (Kd.R Kd.string 9 wc w.heap.size (fun k_ => (w.heap.size ≤ k_)) v126 x5_1) ∧ y0 (Kd.V (Kd.int .i64) 3 wc w.heap.size (fun k_ => ((P0_3_ k_ ∨ P0_4_ k_) ∨ w.heap.size ≤ k_) ∧ some k_ ≠ (v123 : Value).ownBlock ∧ some k_ ≠ (v126 : Value).ownBlock ∧ k_ ≠ gb118 ∧ k_ ≠ gb129) (.slice A0_3 l0_3.length c0_3) l0_3) ∧ y0 (Kd.V k32 32 wc w.heap.size (fun k_ => ((P0_3_ k_ ∨ P0_4_ k_) ∨ w.heap.size ≤ k_) ∧ some k_ ≠ (v123 : Value).ownBlock ∧ some k_ ≠ (v126 : Value).ownBlock ∧ k_ ≠ gb118 ∧ k_ ≠ gb129) (.slice A0_4 l0_4.length c0_4) l0_4) ∧ y0 (wc.heap[gb118]? = some (.cells #[(.slice (some ad128) l0_0.length c0_0),.int .i64 a0_1,.string a0_2,(.slice A0_3 l0_3.length c0_3),(.slice A0_4 l0_4.length c0_4)] 35 (0,0))) ∧ y0 (wc.heap[gb129]? = some (.cells #[.int .i64 ((y18 l0_0 x6_1).f0),.string ((y18 l0_0 x6_1).f1),(.slice A128_2 ((y18 l0_0 x6_1).f2).length c128_2)] 101 (0,0))) ∧ y0 (Below w.heap.size w wc))
         case first =>
          have H := HC40.out
          clear HC40
          by_cases c41 : ((y18 l0_0 x6_1).f0) = 1
          ·as_aux_lemma =>
           rw [if_pos c41] at H
           have c41b0 : (((y18 l0_0 x6_1).f0) == 1) = true := beq_iff_eq.mpr c41
           have c41b1 : (((y18 l0_0 x6_1).f0) != 1) = false := bne_eq_false_iff_eq.mpr c41
           clear c41
           (first | rw [c41b0] | (simp only [i64_w,i32_w]; rw [c41b0]) | skip)
           have H' := y0.mk H
           clear H
           go_wp2
           go_meet
           exact ⟨_,((((y18 l0_0 x6_1).f0) == 1)),qy2,H',⟨by have := HK1.out; have := HK2.out; first | omega | exact Nat.le_refl _⟩,⟨qR HO_4.out⟩,⟨qR HO_5.out⟩,⟨qV HO_119003.out⟩,⟨qV HO_119004.out⟩,⟨qk BK118.out⟩,⟨qk BK129.out⟩,⟨qb⟩⟩
          ·as_aux_lemma =>
           rw [if_neg c41] at H
           have c41b0 : (((y18 l0_0 x6_1).f0) == 1) = false := beq_eq_false_iff_ne.mpr c41
           have c41b1 : (((y18 l0_0 x6_1).f0) != 1) = true := bne_iff_ne.mpr c41
           (first | rw [c41b0] | (simp only [i64_w,i32_w]; rw [c41b0]) | skip)
           have H' := y0.mk H
           clear H
           go_wp2
           go_meet
           exact ⟨_,((((y18 l0_0 x6_1).f0) == 3)),qy2,H',⟨by have := HK1.out; have := HK2.out; first | omega | exact Nat.le_refl _⟩,⟨qR HO_4.out⟩,⟨qR HO_5.out⟩,⟨qV HO_119003.out⟩,⟨qV HO_119004.out⟩,⟨qk BK118.out⟩,⟨qk BK129.out⟩,⟨qb⟩⟩
         case rest =>
          clear HC40
          (try clear c23b0 hcz39_0 hcz39_1 hcz39_2 hfz39_0 hfz39_1 hfz39_2)
          obtain ⟨kq,x71_39,rfl,HA,HJ39,HO_4,HO_5,HO_119003,HO_119004,BK118,BK129,HB⟩ := hcut
          cases kq with
          | zero => exact absurd HA.out (by simp [z8_.j2])
          | succ kj39 =>
           have H := HA.out
           clear HA
           simp only [z8_.j2] at H
           by_cases c42 : x71_39 = true
           ·subst c42
            replace H := qT H
            have H' := y0.mk H
            clear H
            have hnb43 := NB129_118.out
            have hnc43 := NB118_129.out
            obtain ⟨hcz44_0,hcz44_1,hcz44_2,hfz44_0,hfz44_1,hfz44_2⟩ := qz3 BK129.out
            go_wp2
            go_meet
            exact ⟨_,(((y18 l0_0 x6_1).f1)),qy2,H',⟨by have := HK1.out; have := HK2.out; have := HJ39.out; first | omega | exact Nat.le_refl _⟩,⟨qR HO_4.out⟩,⟨qR HO_5.out⟩,⟨qV HO_119003.out⟩,⟨qV HO_119004.out⟩,⟨qk BK118.out⟩,⟨qk BK129.out⟩,⟨qb⟩⟩
           ·replace c42 := Bool.eq_false_iff.mpr c42
            subst c42
            replace H := qF H
            by_cases c45 : ((y18 l0_0 x6_1).f0) = 2
            ·as_aux_lemma =>
             rw [if_pos c45] at H
             have c45b0 : (((y18 l0_0 x6_1).f0) == 2) = true := beq_iff_eq.mpr c45
             have c45b1 : (((y18 l0_0 x6_1).f0) != 2) = false := bne_eq_false_iff_eq.mpr c45
             clear c45
             have H' := y0.mk H
             clear H
             go_wp2
             go_meet
             exact ⟨_,((⟨#[95]⟩ : ByteArray)),qy2,H',⟨by have := HK1.out; have := HK2.out; have := HJ39.out; first | omega | exact Nat.le_refl _⟩,⟨qR HO_4.out⟩,⟨qR HO_5.out⟩,⟨qV HO_119003.out⟩,⟨qV HO_119004.out⟩,⟨qk BK118.out⟩,⟨qk BK129.out⟩,⟨qb⟩⟩
            ·as_aux_lemma =>
             rw [if_neg c45] at H
             have c45b0 : (((y18 l0_0 x6_1).f0) == 2) = false := beq_eq_false_iff_ne.mpr c45
             have c45b1 : (((y18 l0_0 x6_1).f0) != 2) = true := bne_iff_ne.mpr c45
             by_cases c46 : ((y18 l0_0 x6_1).f0) = 4
             ·as_aux_lemma =>
              rw [if_pos c46] at H
              have c46b0 : (((y18 l0_0 x6_1).f0) == 4) = true := beq_iff_eq.mpr c46
              have c46b1 : (((y18 l0_0 x6_1).f0) != 4) = false := bne_eq_false_iff_eq.mpr c46
              clear c46
              have H' := y0.mk H
              clear H
              have hnb47 := NB129_118.out
              have hnc47 := NB118_129.out
              obtain ⟨hcz48_0,hcz48_1,hcz48_2,hfz48_0,hfz48_1,hfz48_2⟩ := qz3 BK129.out
              go_wp2
              go_loopg [9,10] kj39 (fun kq v9 v10 w' => ∃ (x9_4 : ByteArray) (x10_4 : Int),v9 = .string x9_4 ∧ v10 = .int .i64 x10_4 ∧ y0 (z8_.l2 kq x4_2 x5_1 x6_1 x9_4 x10_4 l0_0 a0_1 a0_2 l0_3 l0_4 ((y18 l0_0 x6_1).f0) ((y18 l0_0 x6_1).f1) ((y18 l0_0 x6_1).f2) = some (r1,r2)) ∧ y0 (kq ≤ kj39) ∧ y0 (Kd.R (Kd.int .i64) 3 w' w.heap.size (fun k_ => (w.heap.size ≤ k_)) v123 x4_2) ∧ y0 (Kd.R Kd.string 9 w' w.heap.size (fun k_ => (w.heap.size ≤ k_)) v126 x5_1) ∧ y0 (Kd.V (Kd.int .i64) 3 w' w.heap.size (fun k_ => ((P0_3_ k_ ∨ P0_4_ k_) ∨ w.heap.size ≤ k_) ∧ some k_ ≠ (v123 : Value).ownBlock ∧ some k_ ≠ (v126 : Value).ownBlock ∧ k_ ≠ gb118 ∧ k_ ≠ gb129) (.slice A0_3 l0_3.length c0_3) l0_3) ∧ y0 (Kd.V k32 32 w' w.heap.size (fun k_ => ((P0_3_ k_ ∨ P0_4_ k_) ∨ w.heap.size ≤ k_) ∧ some k_ ≠ (v123 : Value).ownBlock ∧ some k_ ≠ (v126 : Value).ownBlock ∧ k_ ≠ gb118 ∧ k_ ≠ gb129) (.slice A0_4 l0_4.length c0_4) l0_4) ∧ y0 (w'.heap[gb118]? = some (.cells #[(.slice (some ad128) l0_0.length c0_0),.int .i64 a0_1,.string a0_2,(.slice A0_3 l0_3.length c0_3),(.slice A0_4 l0_4.length c0_4)] 35 (0,0))) ∧ y0 (w'.heap[gb129]? = some (.cells #[.int .i64 ((y18 l0_0 x6_1).f0),.string ((y18 l0_0 x6_1).f1),(.slice A128_2 ((y18 l0_0 x6_1).f2).length c128_2)] 101 (0,0))) ∧ y0 (Below w.heap.size w w'))
              case atStart => exact ⟨(((y18 l0_0 x6_1).f1)),(0),qy2,qy2,H',⟨Nat.le_refl _⟩,⟨qR HO_4.out⟩,⟨qR HO_5.out⟩,⟨qV HO_119003.out⟩,⟨qV HO_119004.out⟩,⟨qk BK118.out⟩,⟨qk BK129.out⟩,⟨qb⟩⟩
              case round =>
               clear H'
               (try clear c42 c45b0 c45b1 c46b0 c46b1 hcz48_0 hcz48_1 hcz48_2 hfz48_0 hfz48_1 hfz48_2)
               obtain ⟨x9_4,x10_4,rfl,rfl,HA,HK4,HO_4,HO_5,HO_119003,HO_119004,BK118,BK129,HB⟩ := hrel
               cases gk with
               | zero => exact absurd HA.out (by simp [z8_.l2])
               | succ k4 =>
                have H := HA.out
                clear HA
                simp only [z8_.l2] at H
                by_cases c49 : x10_4 < (((y18 l0_0 x6_1).f2).length : Int)
                ·as_aux_lemma =>
                 rw [if_pos c49] at H
                 have c49b0 := decide_eq_true c49
                 clear c49
                 by_cases c50 : x10_4 = 0
                 ·as_aux_lemma =>
                  rw [if_pos c50] at H
                  have c50b0 : (x10_4 == 0) = true := beq_iff_eq.mpr c50
                  have c50b1 : (x10_4 != 0) = false := bne_eq_false_iff_eq.mpr c50
                  clear c50
                  obtain ⟨c51,H⟩ := qo H
                  have c51b0 := eq_true c51
                  have c51b1 := decide_eq_true c51
                  have c51b2 := eq_false (Nat.not_lt.2 c51)
                  obtain ⟨c52,H⟩ := qo H
                  have c52b0 : decide (0 ≤ x10_4) = true := decide_eq_true c52
                  clear c52
                  obtain ⟨c53,H⟩ := qo H
                  have c53b0 : decide (0 ≤ (rd ((y18 l0_0 x6_1).f2) x10_4)) = true := decide_eq_true c53
                  clear c53
                  obtain ⟨c54,H⟩ := qo H
                  have c54b0 : decide ((rd ((y18 l0_0 x6_1).f2) x10_4) < (x5_1.length : Int)) = true := decide_eq_true c54
                  clear c54
                  obtain ⟨c55,H⟩ := qo H
                  have c55b0 := eq_true c55
                  have c55b1 := decide_eq_true c55
                  have c55b2 := eq_false (Nat.not_lt.2 c55)
                  have c55b3 : (9223372036854775807 < x9_4.size + 1 + (rdOf ByteArray.empty x5_1 (rd ((y18 l0_0 x6_1).f2) x10_4)).size) = False := qs c55b2
                  have H' := y0.mk H
                  clear H
                  have hnb56 := NB129_118.out
                  have hnc56 := NB118_129.out
                  obtain ⟨hcz57_0,hcz57_1,hcz57_2,hfz57_0,hfz57_1,hfz57_2⟩ := qz3 BK129.out
                  have p135 : 0 ≤ (x10_4 : Int) := of_decide_eq_true qy1
                  have q135 : x10_4 < (((y18 l0_0 x6_1).f2).length : Int) := of_decide_eq_true qy1
                  obtain ⟨ad135,e135,hx135_0⟩ := Kd.at_int HR128_2.out x10_4 p135 q135
                  cases e135
                  replace hx135_0 := (HB.out.cell (World.block_lt_of_cell? w _ hx135_0)).trans hx135_0
                  replace p135 := eq_true p135
                  replace q135 := eq_true q135
                  obtain ⟨Ao58,co58,eo58⟩ := Kd.R_slice HO_5.out
                  subst eo58
                  have p136 : 0 ≤ ((rd ((y18 l0_0 x6_1).f2) x10_4) : Int) := of_decide_eq_true qy1
                  have q136 : (rd ((y18 l0_0 x6_1).f2) x10_4) < (x5_1.length : Int) := of_decide_eq_true qy1
                  obtain ⟨ad136,e136,hx136_0⟩ := Kd.at_string (Kd.R_reads' HO_5.out).2.2 (rd ((y18 l0_0 x6_1).f2) x10_4) p136 q136
                  cases e136
                  replace p136 := eq_true p136
                  replace q136 := eq_true q136
                  go_wp2
                  go_roundg k4
                  case measure => have := HK1.out; have := HK2.out; have := HJ39.out; have := HK4.out; omega
                  exact ⟨((x9_4 ++ (⟨#[40]⟩ : ByteArray)) ++ (rdOf ByteArray.empty x5_1 (rd ((y18 l0_0 x6_1).f2) x10_4))),(wrap64 (x10_4 + 1)),qy2,qy2,H',⟨by have := HK1.out; have := HK2.out; have := HJ39.out; have := HK4.out; omega⟩,⟨qR HO_4.out⟩,⟨qR HO_5.out⟩,⟨qV HO_119003.out⟩,⟨qV HO_119004.out⟩,⟨qk BK118.out⟩,⟨qk BK129.out⟩,⟨qb⟩⟩
                 ·as_aux_lemma =>
                  rw [if_neg c50] at H
                  have c50b0 : (x10_4 == 0) = false := beq_eq_false_iff_ne.mpr c50
                  have c50b1 : (x10_4 != 0) = true := bne_iff_ne.mpr c50
                  obtain ⟨c59,H⟩ := qo H
                  have c59b0 := eq_true c59
                  have c59b1 := decide_eq_true c59
                  have c59b2 := eq_false (Nat.not_lt.2 c59)
                  obtain ⟨c60,H⟩ := qo H
                  have c60b0 : decide (0 ≤ x10_4) = true := decide_eq_true c60
                  clear c60
                  obtain ⟨c61,H⟩ := qo H
                  have c61b0 : decide (0 ≤ (rd ((y18 l0_0 x6_1).f2) x10_4)) = true := decide_eq_true c61
                  clear c61
                  obtain ⟨c62,H⟩ := qo H
                  have c62b0 : decide ((rd ((y18 l0_0 x6_1).f2) x10_4) < (x5_1.length : Int)) = true := decide_eq_true c62
                  clear c62
                  obtain ⟨c63,H⟩ := qo H
                  have c63b0 := eq_true c63
                  have c63b1 := decide_eq_true c63
                  have c63b2 := eq_false (Nat.not_lt.2 c63)
                  have c63b3 : (9223372036854775807 < x9_4.size + 2 + (rdOf ByteArray.empty x5_1 (rd ((y18 l0_0 x6_1).f2) x10_4)).size) = False := qs c63b2
                  have H' := y0.mk H
                  clear H
                  have hnb64 := NB129_118.out
                  have hnc64 := NB118_129.out
                  obtain ⟨hcz65_0,hcz65_1,hcz65_2,hfz65_0,hfz65_1,hfz65_2⟩ := qz3 BK129.out
                  have p137 : 0 ≤ (x10_4 : Int) := of_decide_eq_true qy1
                  have q137 : x10_4 < (((y18 l0_0 x6_1).f2).length : Int) := of_decide_eq_true qy1
                  obtain ⟨ad137,e137,hx137_0⟩ := Kd.at_int HR128_2.out x10_4 p137 q137
                  cases e137
                  replace hx137_0 := (HB.out.cell (World.block_lt_of_cell? w _ hx137_0)).trans hx137_0
                  replace p137 := eq_true p137
                  replace q137 := eq_true q137
                  obtain ⟨Ao66,co66,eo66⟩ := Kd.R_slice HO_5.out
                  subst eo66
                  have p138 : 0 ≤ ((rd ((y18 l0_0 x6_1).f2) x10_4) : Int) := of_decide_eq_true qy1
                  have q138 : (rd ((y18 l0_0 x6_1).f2) x10_4) < (x5_1.length : Int) := of_decide_eq_true qy1
                  obtain ⟨ad138,e138,hx138_0⟩ := Kd.at_string (Kd.R_reads' HO_5.out).2.2 (rd ((y18 l0_0 x6_1).f2) x10_4) p138 q138
                  cases e138
                  replace p138 := eq_true p138
                  replace q138 := eq_true q138
                  go_wp2
                  go_roundg k4
                  case measure => have := HK1.out; have := HK2.out; have := HJ39.out; have := HK4.out; omega
                  exact ⟨((x9_4 ++ (⟨#[44,32]⟩ : ByteArray)) ++ (rdOf ByteArray.empty x5_1 (rd ((y18 l0_0 x6_1).f2) x10_4))),(wrap64 (x10_4 + 1)),qy2,qy2,H',⟨by have := HK1.out; have := HK2.out; have := HJ39.out; have := HK4.out; omega⟩,⟨qR HO_4.out⟩,⟨qR HO_5.out⟩,⟨qV HO_119003.out⟩,⟨qV HO_119004.out⟩,⟨qk BK118.out⟩,⟨qk BK129.out⟩,⟨qb⟩⟩
                ·as_aux_lemma =>
                 rw [if_neg c49] at H
                 have c49b0 := decide_eq_false c49
                 clear c49
                 by_cases c67 : (((y18 l0_0 x6_1).f2).length : Int) > 0
                 ·as_aux_lemma =>
                  rw [if_pos c67] at H
                  have c67b0 : decide (0 < (((y18 l0_0 x6_1).f2).length : Int)) = true := decide_eq_true c67
                  have c67b1 : decide (0 < ((y18 l0_0 x6_1).f2).length) = true := decide_eq_true (by omega)
                  clear c67
                  obtain ⟨c68,H⟩ := qo H
                  have c68b0 := eq_true c68
                  have c68b1 := decide_eq_true c68
                  have c68b2 := eq_false (Nat.not_lt.2 c68)
                  have H' := y0.mk H
                  clear H
                  have hnb69 := NB129_118.out
                  have hnc69 := NB118_129.out
                  obtain ⟨hcz70_0,hcz70_1,hcz70_2,hfz70_0,hfz70_1,hfz70_2⟩ := qz3 BK129.out
                  go_wp2
                  go_meet
                  exact ⟨_,(x9_4 ++ (⟨#[41]⟩ : ByteArray)),qy2,H',⟨by have := HK1.out; have := HK2.out; have := HJ39.out; have := HK4.out; first | omega | exact Nat.le_refl _⟩,⟨qR HO_4.out⟩,⟨qR HO_5.out⟩,⟨qV HO_119003.out⟩,⟨qV HO_119004.out⟩,⟨qk BK118.out⟩,⟨qk BK129.out⟩,⟨qb⟩⟩
                 ·as_aux_lemma =>
                  rw [if_neg c67] at H
                  have c67b0 : decide (0 < (((y18 l0_0 x6_1).f2).length : Int)) = false := decide_eq_false c67
                  have c67b1 : decide (0 < ((y18 l0_0 x6_1).f2).length) = false := decide_eq_false (by omega)
                  clear c67
                  have H' := y0.mk H
                  clear H
                  have hnb71 := NB129_118.out
                  have hnc71 := NB118_129.out
                  obtain ⟨hcz72_0,hcz72_1,hcz72_2,hfz72_0,hfz72_1,hfz72_2⟩ := qz3 BK129.out
                  go_wp2
                  go_meet
                  exact ⟨_,(x9_4),qy2,H',⟨by have := HK1.out; have := HK2.out; have := HJ39.out; have := HK4.out; first | omega | exact Nat.le_refl _⟩,⟨qR HO_4.out⟩,⟨qR HO_5.out⟩,⟨qV HO_119003.out⟩,⟨qV HO_119004.out⟩,⟨qk BK118.out⟩,⟨qk BK129.out⟩,⟨qb⟩⟩
             ·as_aux_lemma =>
              rw [if_neg c46] at H
              have c46b0 : (((y18 l0_0 x6_1).f0) == 4) = false := beq_eq_false_iff_ne.mpr c46
              have c46b1 : (((y18 l0_0 x6_1).f0) != 4) = true := bne_iff_ne.mpr c46
              have HC73 := y0.mk H
              clear H
              go_upto_if 111 with (fail)
              go_cut [111] (fun v111 wc => ∃ (kq : Nat) (x111_72 : Bool),v111 = .bool x111_72 ∧ y0 (z8_.j4 kq x4_2 x5_1 x6_1 x111_72 l0_0 a0_1 a0_2 l0_3 l0_4 ((y18 l0_0 x6_1).f0) ((y18 l0_0 x6_1).f1) ((y18 l0_0 x6_1).f2) = some (r1,r2)) ∧ y0 (kq ≤ kj39) ∧ y0 (Kd.R (Kd.int .i64) 3 wc w.heap.size (fun k_ => (w.heap.size ≤ k_)) v123 x4_2) ∧ y0 (Kd.R Kd.string 9 wc w.heap.size (fun k_ => (w.heap.size ≤ k_)) v126 x5_1) ∧ y0 (Kd.V (Kd.int .i64) 3 wc w.heap.size (fun k_ => ((P0_3_ k_ ∨ P0_4_ k_) ∨ w.heap.size ≤ k_) ∧ some k_ ≠ (v123 : Value).ownBlock ∧ some k_ ≠ (v126 : Value).ownBlock ∧ k_ ≠ gb118 ∧ k_ ≠ gb129) (.slice A0_3 l0_3.length c0_3) l0_3) ∧ y0 (Kd.V k32 32 wc w.heap.size (fun k_ => ((P0_3_ k_ ∨ P0_4_ k_) ∨ w.heap.size ≤ k_) ∧ some k_ ≠ (v123 : Value).ownBlock ∧ some k_ ≠ (v126 : Value).ownBlock ∧ k_ ≠ gb118 ∧ k_ ≠ gb129) (.slice A0_4 l0_4.length c0_4) l0_4) ∧ y0 (wc.heap[gb118]? = some (.cells #[(.slice (some ad128) l0_0.length c0_0),.int .i64 a0_1,.string a0_2,(.slice A0_3 l0_3.length c0_3),(.slice A0_4 l0_4.length c0_4)] 35 (0,0))) ∧ y0 (wc.heap[gb129]? = some (.cells #[.int .i64 ((y18 l0_0 x6_1).f0),.string ((y18 l0_0 x6_1).f1),(.slice A128_2 ((y18 l0_0 x6_1).f2).length c128_2)] 101 (0,0))) ∧ y0 (Below w.heap.size w wc))
              case first =>
               have H := HC73.out
               clear HC73
               by_cases c74 : ((y18 l0_0 x6_1).f0) = 5
               ·as_aux_lemma =>
                rw [if_pos c74] at H
                have c74b0 : (((y18 l0_0 x6_1).f0) == 5) = true := beq_iff_eq.mpr c74
                have c74b1 : (((y18 l0_0 x6_1).f0) != 5) = false := bne_eq_false_iff_eq.mpr c74
                clear c74
                (first | rw [c74b0] | (simp only [i64_w,i32_w]; rw [c74b0]) | skip)
                have H' := y0.mk H
                clear H
                go_wp2
                go_meet
                exact ⟨_,((((y18 l0_0 x6_1).f0) == 5)),qy2,H',⟨by have := HK1.out; have := HK2.out; have := HJ39.out; first | omega | exact Nat.le_refl _⟩,⟨qR HO_4.out⟩,⟨qR HO_5.out⟩,⟨qV HO_119003.out⟩,⟨qV HO_119004.out⟩,⟨qk BK118.out⟩,⟨qk BK129.out⟩,⟨qb⟩⟩
               ·as_aux_lemma =>
                rw [if_neg c74] at H
                have c74b0 : (((y18 l0_0 x6_1).f0) == 5) = false := beq_eq_false_iff_ne.mpr c74
                have c74b1 : (((y18 l0_0 x6_1).f0) != 5) = true := bne_iff_ne.mpr c74
                (first | rw [c74b0] | (simp only [i64_w,i32_w]; rw [c74b0]) | skip)
                by_cases c75 : ((y18 l0_0 x6_1).f0) = 6
                ·as_aux_lemma =>
                 rw [if_pos c75] at H
                 have c75b0 : (((y18 l0_0 x6_1).f0) == 6) = true := beq_iff_eq.mpr c75
                 have c75b1 : (((y18 l0_0 x6_1).f0) != 6) = false := bne_eq_false_iff_eq.mpr c75
                 clear c75
                 have H' := y0.mk H
                 clear H
                 go_wp2
                 go_meet
                 exact ⟨_,((((y18 l0_0 x6_1).f0) == 6)),qy2,H',⟨by have := HK1.out; have := HK2.out; have := HJ39.out; first | omega | exact Nat.le_refl _⟩,⟨qR HO_4.out⟩,⟨qR HO_5.out⟩,⟨qV HO_119003.out⟩,⟨qV HO_119004.out⟩,⟨qk BK118.out⟩,⟨qk BK129.out⟩,⟨qb⟩⟩
                ·as_aux_lemma =>
                 rw [if_neg c75] at H
                 have c75b0 : (((y18 l0_0 x6_1).f0) == 6) = false := beq_eq_false_iff_ne.mpr c75
                 have c75b1 : (((y18 l0_0 x6_1).f0) != 6) = true := bne_iff_ne.mpr c75
                 have H' := y0.mk H
                 clear H
                 go_wp2
                 go_meet
                 exact ⟨_,((((y18 l0_0 x6_1).f0) == 7)),qy2,H',⟨by have := HK1.out; have := HK2.out; have := HJ39.out; first | omega | exact Nat.le_refl _⟩,⟨qR HO_4.out⟩,⟨qR HO_5.out⟩,⟨qV HO_119003.out⟩,⟨qV HO_119004.out⟩,⟨qk BK118.out⟩,⟨qk BK129.out⟩,⟨qb⟩⟩
              case rest =>
               clear HC73
               (try clear c46b0 c46b1)
               obtain ⟨kq,x111_72,rfl,HA,HJ72,HO_4,HO_5,HO_119003,HO_119004,BK118,BK129,HB⟩ := hcut
               cases kq with
               | zero => exact absurd HA.out (by simp [z8_.j4])
               | succ kj72 =>
                have H := HA.out
                clear HA
                simp only [z8_.j4] at H
                by_cases c76 : x111_72 = true
                ·subst c76
                 replace H := qT H
                 by_cases c77 : (((y18 l0_0 x6_1).f2).length : Int) = 2
                 ·as_aux_lemma =>
                  rw [if_pos c77] at H
                  have c77b0 : ((((y18 l0_0 x6_1).f2).length : Int) == 2) = true := beq_iff_eq.mpr c77
                  have c77b1 : ((((y18 l0_0 x6_1).f2).length : Int) != 2) = false := bne_eq_false_iff_eq.mpr c77
                  clear c77
                  obtain ⟨y139,hy139⟩ : ∃ y_ : List ByteArray,y_ = (([(⟨#[32,43,32]⟩ : ByteArray),(⟨#[32,45,32]⟩ : ByteArray),(⟨#[32,42,32]⟩ : ByteArray)] : List ByteArray)) := ⟨_,rfl⟩
                  replace H : (if 0 ≤ (wrap64 (((y18 l0_0 x6_1).f0) - 5)) then (if (wrap64 (((y18 l0_0 x6_1).f0) - 5)) < (y139.length : Int) then (if 0 < (((y18 l0_0 x6_1).f2).length : Int) then ((spec_l04Side.f l0_0 a0_1 a0_2 l0_3 l0_4 x5_1 (rd ((y18 l0_0 x6_1).f2) 0)).bind fun t144 => (if t144.size + (rdOf ByteArray.empty y139 (wrap64 (((y18 l0_0 x6_1).f0) - 5))).size ≤ 9223372036854775807 then (if 1 < (((y18 l0_0 x6_1).f2).length : Int) then ((spec_l04Side.f l0_0 a0_1 a0_2 l0_3 l0_4 x5_1 (rd ((y18 l0_0 x6_1).f2) 1)).bind fun t146 => (if (t144 ++ (rdOf ByteArray.empty y139 (wrap64 (((y18 l0_0 x6_1).f0) - 5)))).size + t146.size ≤ 9223372036854775807 then (z8_.j5 kj72 x4_2 x5_1 x6_1 ((t144 ++ (rdOf ByteArray.empty y139 (wrap64 (((y18 l0_0 x6_1).f0) - 5)))) ++ t146) l0_0 a0_1 a0_2 l0_3 l0_4 ((y18 l0_0 x6_1).f0) ((y18 l0_0 x6_1).f1) ((y18 l0_0 x6_1).f2)) else (none))) else (none)) else (none))) else (none)) else (none)) else (none)) = some (r1,r2) := by first | (rw [hy139]; with_reducible exact H) | (have H2_ := (Option.bind_some _ _).symm.trans H; rw [hy139]; with_reducible exact H2_) | (have H2_ := (Option.bind_some _ _).symm.trans H; with_reducible exact H2_) | with_reducible exact H | (rw [hy139]; exact H) | exact H
                  have Ny139 := y0.mk hy139
                  clear hy139
                  obtain ⟨ji78,hji78⟩ : ∃ j_ : Int,(wrap64 (((y18 l0_0 x6_1).f0) - 5)) = j_ := ⟨_,rfl⟩
                  replace H : (if 0 ≤ (ji78) then (if (ji78) < (y139.length : Int) then (if 0 < (((y18 l0_0 x6_1).f2).length : Int) then ((spec_l04Side.f l0_0 a0_1 a0_2 l0_3 l0_4 x5_1 (rd ((y18 l0_0 x6_1).f2) 0)).bind fun t144 => (if t144.size + (rdOf ByteArray.empty y139 (ji78)).size ≤ 9223372036854775807 then (if 1 < (((y18 l0_0 x6_1).f2).length : Int) then ((spec_l04Side.f l0_0 a0_1 a0_2 l0_3 l0_4 x5_1 (rd ((y18 l0_0 x6_1).f2) 1)).bind fun t146 => (if (t144 ++ (rdOf ByteArray.empty y139 (ji78))).size + t146.size ≤ 9223372036854775807 then (z8_.j5 kj72 x4_2 x5_1 x6_1 ((t144 ++ (rdOf ByteArray.empty y139 (ji78))) ++ t146) l0_0 a0_1 a0_2 l0_3 l0_4 ((y18 l0_0 x6_1).f0) ((y18 l0_0 x6_1).f1) ((y18 l0_0 x6_1).f2)) else (none))) else (none)) else (none))) else (none)) else (none)) else (none)) = some (r1,r2) := by first | (rw [hji78] at H; exact H) | (simp only [hji78] at H ⊢; exact H)
                  have hji78w : (IntKind.i64.wrap (((y18 l0_0 x6_1).f0) - 5)) = ji78 := (i64_w _).trans hji78
                  obtain ⟨c79,H⟩ := qo H
                  have c79b0 : decide (0 ≤ (ji78)) = true := decide_eq_true c79
                  clear c79
                  obtain ⟨c80,H⟩ := qo H
                  have c80b0 : decide ((ji78) < (y139.length : Int)) = true := decide_eq_true c80
                  clear c80
                  obtain ⟨c81,H⟩ := qo H
                  have c81b0 : decide (0 < (((y18 l0_0 x6_1).f2).length : Int)) = true := decide_eq_true c81
                  have c81b1 : decide (0 < ((y18 l0_0 x6_1).f2).length) = true := decide_eq_true (by omega)
                  clear c81
                  obtain ⟨t144,A82,H⟩ := qB H
                  obtain ⟨c83,H⟩ := qo H
                  have c83b0 := eq_true c83
                  have c83b1 := decide_eq_true c83
                  have c83b2 := eq_false (Nat.not_lt.2 c83)
                  obtain ⟨c84,H⟩ := qo H
                  have c84b0 : decide (1 < (((y18 l0_0 x6_1).f2).length : Int)) = true := decide_eq_true c84
                  have c84b1 : decide (1 < ((y18 l0_0 x6_1).f2).length) = true := decide_eq_true (by omega)
                  clear c84
                  obtain ⟨t146,A85,H⟩ := qB H
                  obtain ⟨c86,H⟩ := qo H
                  have c86b0 := eq_true c86
                  have c86b1 := decide_eq_true c86
                  have c86b2 := eq_false (Nat.not_lt.2 c86)
                  have c86b3 : (9223372036854775807 < t144.size + (rdOf ByteArray.empty y139 (ji78)).size + t146.size) = False := qs c86b2
                  have H' := y0.mk H
                  clear H
                  have hnb87 := NB129_118.out
                  have hnc87 := NB118_129.out
                  obtain ⟨hcz88_0,hcz88_1,hcz88_2,hfz88_0,hfz88_1,hfz88_2⟩ := qz3 BK129.out
                  try go_wp2_with (first | ((with_reducible refine y16 (N := 120) rfl ?_); (try (refine gate_guard (by rfl) ?_; dsimp only)); refine Kd.R_lit Kd.string _ 9 ?hg (N := 120) ?hd (xs := ([(⟨#[32,43,32]⟩ : ByteArray),(⟨#[32,45,32]⟩ : ByteArray),(⟨#[32,42,32]⟩ : ByteArray)] : List ByteArray)) (inner := [.string (⟨#[32,43,32]⟩ : ByteArray),.string (⟨#[32,45,32]⟩ : ByteArray),.string (⟨#[32,42,32]⟩ : ByteArray)]) (ok := fun _ => True) (okp := fun _ => True) ?hr ?hp (fun _ hk => hk) trivial (Below.refl _ _) (Nat.le_refl _) (by simp) ?_; (case hd => rfl); (case hg => rfl); (case hr => first | (go_simp; done) | (go_simp; rfl)); (case hp => exact (Reps.one (show Kd.M Kd.string _ _ _ (⟨#[32,43,32]⟩ : ByteArray) [.string (⟨#[32,43,32]⟩ : ByteArray)] from rfl) (Reps.one (show Kd.M Kd.string _ _ _ (⟨#[32,45,32]⟩ : ByteArray) [.string (⟨#[32,45,32]⟩ : ByteArray)] from rfl) (Reps.one (show Kd.M Kd.string _ _ _ (⟨#[32,42,32]⟩ : ByteArray) [.string (⟨#[32,42,32]⟩ : ByteArray)] from rfl) (Reps.none _ _))))); intro v140 w89 ho90 hb hg_ hnew_; clear hg_ hnew_; (first | rw [← Ny139.out] at ho90 | (simp only [Int.reduceToNat] at ho90; rw [← Ny139.out] at ho90)); replace HO_4 := y0.mk (Kd.R_below (qR HO_4.out) hb); replace HO_119003 := y0.mk (Kd.V_elder' (qV HO_119003.out) (Kd.R_base ho90) hb); replace HO_119004 := y0.mk (Kd.V_elder' (qV HO_119004.out) (Kd.R_base ho90) hb); have HO141 := y0.mk (Kd.R_lower (Kd.R_new' (Kd.R_newM (M := fun k_ => (w.heap.size ≤ k_)) ho90 (y3 qb) (fun k_ h_ => h_)) (Kd.R_lt (qR HO_5.out))) (y3 qb)); replace HO_5 := y0.mk (Kd.R_elder' (qR HO_5.out) (Kd.R_base ho90) hb); replace BK118 := y0.mk (qK BK118.out hb); replace BK129 := y0.mk (qK BK129.out hb); replace HB := y0.mk (y4 qb hb); clear hb ho90; obtain ⟨hcz91_0,hcz91_1,hcz91_2,hfz91_0,hfz91_1,hfz91_2⟩ := qz3 BK129.out; obtain ⟨Ao92,co92,eo92⟩ := Kd.R_slice HO141.out; subst eo92; have p142 : 0 ≤ ((ji78) : Int) := of_decide_eq_true qy1; have q142 : (ji78) < (y139.length : Int) := of_decide_eq_true qy1; obtain ⟨ad142,e142,hx142_0⟩ := Kd.at_string (Kd.R_reads' HO141.out).2.2 (ji78) p142 q142; cases e142; replace p142 := eq_true p142; replace q142 := eq_true q142))
                  replace HO_4 := y0.mk (Kd.R_drew HO_4.out)
                  replace HO_5 := y0.mk (Kd.R_drew HO_5.out)
                  replace HO_119003 := y0.mk (Kd.V_drew HO_119003.out)
                  replace HO_119004 := y0.mk (Kd.V_drew HO_119004.out)
                  replace HO141 := y0.mk (Kd.R_drew HO141.out)
                  replace BK118 := y0.mk (y8 BK118.out)
                  replace BK129 := y0.mk (y8 BK129.out)
                  replace HB := y0.mk (below_drew1 HB.out)
                  have p143 : 0 ≤ (0 : Int) := (by omega)
                  have q143 : 0 < (((y18 l0_0 x6_1).f2).length : Int) := of_decide_eq_true qy1
                  obtain ⟨ad143,e143,hx143_0⟩ := Kd.at_int HR128_2.out 0 p143 q143
                  have hw143_0 := hx143_0
                  (try rw [show ((0 : Int)).toNat = 0 from rfl] at hw143_0)
                  (try rw [show 0 * 1 = 0 from rfl] at hw143_0)
                  (try rw [Addr.add_zero'] at hw143_0)
                  cases e143
                  have qi143 : (0 < ((y18 l0_0 x6_1).f2).length) = True := eq_true (by omega)
                  (try rw [show ((0 : Int)).toNat = 0 from rfl] at hx143_0)
                  (try rw [Addr.add_zero'] at hx143_0)
                  replace hx143_0 := (HB.out.cell (World.block_lt_of_cell? w _ hx143_0)).trans hx143_0
                  replace p143 := eq_true p143
                  replace q143 := eq_true q143
                  have p145 : 0 ≤ (1 : Int) := (by omega)
                  have q145 : 1 < (((y18 l0_0 x6_1).f2).length : Int) := of_decide_eq_true qy1
                  obtain ⟨ad145,e145,hx145_0⟩ := Kd.at_int HR128_2.out 1 p145 q145
                  have hw145_0 := hx145_0
                  (try rw [show ((1 : Int)).toNat = 1 from rfl] at hw145_0)
                  (try rw [show 1 * 1 = 1 from rfl] at hw145_0)
                  (try simp only [Nat.reduceMul,Nat.reduceEqDiff,Go.Addr.add,↓reduceIte] at hw145_0)
                  obtain rfl : ad143 = ad145 := (by injection e145)
                  (try simp only [show (1 : Int).toNat = 1 from rfl,Nat.reduceMul,Nat.reduceEqDiff,Go.Addr.add,↓reduceIte] at hx145_0)
                  have qi145 : (1 < ((y18 l0_0 x6_1).f2).length) = True := eq_true (by omega)
                  (try rw [show ((1 : Int)).toNat = 1 from rfl] at hx145_0)
                  replace hx145_0 := (HB.out.cell (World.block_lt_of_cell? w _ hx145_0)).trans hx145_0
                  replace p145 := eq_true p145
                  replace q145 := eq_true q145
                  obtain ⟨Ao94,co94,eo94⟩ := Kd.R_slice HO_5.out
                  (first | subst eo94 | (injection eo94 with f1_ f2_ f3_; have f4_ := f1_.symm; have f5_ := f3_.symm; clear f1_ f2_ f3_; subst f4_; subst f5_))
                  refine start_ (n := 18) (S := fun w' => w'.cell? ⟨gb118,0,none⟩ = some (.slice (some ad128) l0_0.length c0_0) ∧ w'.cell? ⟨gb118,1,none⟩ = some (.int .i64 a0_1) ∧ w'.cell? ⟨gb118,2,none⟩ = some (.string a0_2) ∧ w'.cell? ⟨gb118,3,none⟩ = some (.slice A0_3 l0_3.length c0_3) ∧ w'.cell? ⟨gb118,4,none⟩ = some (.slice A0_4 l0_4.length c0_4) ∧ w'.cell? ⟨gb129,0,none⟩ = some (.int .i64 ((y18 l0_0 x6_1).f0)) ∧ w'.cell? ⟨gb129,1,none⟩ = some (.string ((y18 l0_0 x6_1).f1)) ∧ w'.cell? ⟨gb129,2,none⟩ = some (.slice (some ad143) ((y18 l0_0 x6_1).f2).length c128_2) ∧ w'.cell? ad143 = some (.int .i64 (rd ((y18 l0_0 x6_1).f2) 0)) ∧ w'.cell? ⟨ad143.block,ad143.off + 1,none⟩ = some (.int .i64 (rd ((y18 l0_0 x6_1).f2) 1))) (ds := []) (fl_ 18 0) (by kernel_rfl) rfl rfl ⟨(y7 BK118.out 0).trans rfl,(y7 BK118.out 1).trans rfl,(y7 BK118.out 2).trans rfl,(y7 BK118.out 3).trans rfl,(y7 BK118.out 4).trans rfl,(y7 BK129.out 0).trans rfl,(y7 BK129.out 1).trans rfl,(y7 BK129.out 2).trans rfl,((HB.out.cell (World.block_lt_of_cell? w _ hw143_0)).trans hw143_0),((HB.out.cell (World.block_lt_of_cell? w _ hw145_0)).trans hw145_0)⟩ (fun hHeld => ?_); refine with_tabW z8_.tab40 z8_.bits40 (fun HT_ HW_ => ?_)
                  generalize w89.drew = w93 at HO_4 HO_5 HO_119003 HO_119004 HO141 BK118 BK129 HB hx143_0 hx145_0 hHeld ⊢
                  refine qp 1 127 (fl_ 18 2) ?_
                  refine qp 2 128 (fl_ 18 6) ?_
                  refine qp 7 133 (fl_ 18 134) ?_
                  refine qp 10 136 (fl_ 18 1158) ?_
                  refine qp 11 137 (fl_ 18 3206) ?_
                  refine qt 0 126 (fl_ 18 3207) hHeld ?_
                  refine qt 3 129 (fl_ 18 3215) hHeld ?_
                  refine qp 4 130 (fl_ 18 3231) ?_
                  refine qt 5 131 (fl_ 18 3263) hHeld ?_
                  refine qt 9 135 (fl_ 18 3775) hHeld ?_
                  refine qt 12 138 (fl_ 18 7871) hHeld ?_
                  refine qp 13 139 (fl_ 18 16063) ?_
                  refine qt 14 140 (fl_ 18 32447) hHeld ?_
                  refine one_ (i := 6) (N := some 132) (fl_ 18 32511) rfl rfl (one_of HT_.out (by kernel_rfl)) (by decide) (fun K hK => ?_)
                  refine goes_ Try.func56 (by kernel_rfl) rfl #[.agg #[.slice (some ad128) l0_0.length c0_0,.int .i64 a0_1,.string a0_2,.slice A0_3 l0_3.length c0_3,.slice A0_4 l0_4.length c0_4],.slice Ao94 x5_1.length co94,.int .i64 (rd ((y18 l0_0 x6_1).f2) 0)] (by rfl) rfl rfl qy0 ?_
                  with_reducible refine (spec_l04Side.calls _ _ l0_0 a0_1 a0_2 _ _ l0_3 _ _ l0_4 _ _ x5_1 (rd ((y18 l0_0 x6_1).f2) 0) t144 _ (qc (Kd.C_below HR0_0.out HB.out)) HC0_0.out (qc ((Kd.V_reads' HO_119003.out).2.2)) (by exact (Kd.V_reads' HO_119003.out).2.1) (qc ((Kd.V_reads' HO_119004.out).2.2)) (by exact (Kd.V_reads' HO_119004.out).2.1) (qc ((Kd.R_reads' HO_5.out).2.2)) (by exact (Kd.R_reads' HO_5.out).2.1) A82.out).mono ?_
                  rintro e w95 ⟨rfl,hb⟩
                  refine ⟨_,rfl, ?_⟩
                  replace HO_4 := y0.mk (Kd.R_below (qR HO_4.out) hb)
                  replace HO_5 := y0.mk (Kd.R_below (qR HO_5.out) hb)
                  replace HO_119003 := y0.mk (Kd.V_below (qV HO_119003.out) hb)
                  replace HO_119004 := y0.mk (Kd.V_below (qV HO_119004.out) hb)
                  replace HO141 := y0.mk (Kd.R_below (qR HO141.out) hb)
                  replace BK118 := y0.mk (qK BK118.out hb)
                  replace BK129 := y0.mk (qK BK129.out hb)
                  replace HB := y0.mk (y4 qb hb)
                  (try clear hb)
                  (try clear hb2)
                  (try clear hk)
                  (try clear hi)
                  refine hK.out _ _ ⟨(y7 BK118.out 0).trans rfl,(y7 BK118.out 1).trans rfl,(y7 BK118.out 2).trans rfl,(y7 BK118.out 3).trans rfl,(y7 BK118.out 4).trans rfl,(y7 BK129.out 0).trans rfl,(y7 BK129.out 1).trans rfl,(y7 BK129.out 2).trans rfl,((HB.out.cell (World.block_lt_of_cell? w _ hw143_0)).trans hw143_0),((HB.out.cell (World.block_lt_of_cell? w _ hw145_0)).trans hw145_0)⟩ (fun hHeld => ?_)
                  clear hK K
                  refine norm_ (a' := ?_) ?_ ?_
                  rotate_left
                  ·show Act.put _ (some 132) _ = _
                   simp only [Act.put,qS_,qZ_,qC_,i64_w,i32_w]
                   rfl
                  refine qp 8 134 (fl_ 18 32767) ?_
                  refine one_ (i := 15) (N := some 141) (fl_ 18 65535) rfl rfl (one_of HT_.out (by kernel_rfl)) (by decide) (fun K hK => ?_)
                  refine goes_ Try.func56 (by kernel_rfl) rfl #[.agg #[.slice (some ad128) l0_0.length c0_0,.int .i64 a0_1,.string a0_2,.slice A0_3 l0_3.length c0_3,.slice A0_4 l0_4.length c0_4],.slice Ao94 x5_1.length co94,.int .i64 (rd ((y18 l0_0 x6_1).f2) 1)] (by rfl) rfl rfl qy0 ?_
                  with_reducible refine (spec_l04Side.calls _ _ l0_0 a0_1 a0_2 _ _ l0_3 _ _ l0_4 _ _ x5_1 (rd ((y18 l0_0 x6_1).f2) 1) t146 _ (qc (Kd.C_below HR0_0.out HB.out)) HC0_0.out (qc ((Kd.V_reads' HO_119003.out).2.2)) (by exact (Kd.V_reads' HO_119003.out).2.1) (qc ((Kd.V_reads' HO_119004.out).2.2)) (by exact (Kd.V_reads' HO_119004.out).2.1) (qc ((Kd.R_reads' HO_5.out).2.2)) (by exact (Kd.R_reads' HO_5.out).2.1) A85.out).mono ?_
                  rintro e w96 ⟨rfl,hb⟩
                  refine ⟨_,rfl, ?_⟩
                  replace HO_4 := y0.mk (Kd.R_below (qR HO_4.out) hb)
                  replace HO_5 := y0.mk (Kd.R_below (qR HO_5.out) hb)
                  replace HO_119003 := y0.mk (Kd.V_below (qV HO_119003.out) hb)
                  replace HO_119004 := y0.mk (Kd.V_below (qV HO_119004.out) hb)
                  replace HO141 := y0.mk (Kd.R_below (qR HO141.out) hb)
                  replace BK118 := y0.mk (qK BK118.out hb)
                  replace BK129 := y0.mk (qK BK129.out hb)
                  replace HB := y0.mk (y4 qb hb)
                  (try clear hb)
                  (try clear hb2)
                  (try clear hk)
                  (try clear hi)
                  refine hK.out _ _ ⟨(y7 BK118.out 0).trans rfl,(y7 BK118.out 1).trans rfl,(y7 BK118.out 2).trans rfl,(y7 BK118.out 3).trans rfl,(y7 BK118.out 4).trans rfl,(y7 BK129.out 0).trans rfl,(y7 BK129.out 1).trans rfl,(y7 BK129.out 2).trans rfl,((HB.out.cell (World.block_lt_of_cell? w _ hw143_0)).trans hw143_0),((HB.out.cell (World.block_lt_of_cell? w _ hw145_0)).trans hw145_0)⟩ (fun hHeld => ?_)
                  clear hK K
                  refine norm_ (a' := ?_) ?_ ?_
                  rotate_left
                  ·show Act.put _ (some 141) _ = _
                   simp only [Act.put,qS_,qZ_,qC_,i64_w,i32_w]
                   rfl
                  refine qp 16 142 (fl_ 18 131071) ?_
                  refine qp 17 9 (fl_ 18 262143) ?_
                  refine done_ (done_of HT_.out (by kernel_rfl)) ?_
                  try go_wp2
                  go_meet
                  exact ⟨_,((t144 ++ (rdOf ByteArray.empty y139 (ji78))) ++ t146),(by first | rfl | (simp; done) | (simp only [← hji78] <;> (first | rfl | simp)) | (simp [*]; done)),(by first | exact H' | (have h_ := H'; simp only [← hji78] at h_ ⊢; exact h_)),⟨by have := HK1.out; have := HK2.out; have := HJ39.out; have := HJ72.out; first | omega | exact Nat.le_refl _⟩,⟨qR HO_4.out⟩,⟨qR (Kd.R_mono HO_5.out (fun _ hk => hk.1))⟩,⟨qV (Kd.V_mono HO_119003.out (fun _ hk => ⟨hk.1.1,⟨hk.1.2.1,⟨hk.1.2.2.1,⟨hk.1.2.2.2.1,hk.1.2.2.2.2⟩⟩⟩⟩))⟩,⟨qV (Kd.V_mono HO_119004.out (fun _ hk => ⟨hk.1.1,⟨hk.1.2.1,⟨hk.1.2.2.1,⟨hk.1.2.2.2.1,hk.1.2.2.2.2⟩⟩⟩⟩))⟩,⟨qk BK118.out⟩,⟨qk BK129.out⟩,⟨qb⟩⟩
                 ·as_aux_lemma =>
                  rw [if_neg c77] at H
                  have c77b0 : ((((y18 l0_0 x6_1).f2).length : Int) == 2) = false := beq_eq_false_iff_ne.mpr c77
                  have c77b1 : ((((y18 l0_0 x6_1).f2).length : Int) != 2) = true := bne_iff_ne.mpr c77
                  simp only [Option.some.injEq,Prod.mk.injEq] at H
                  obtain ⟨rfl,rfl⟩ := H
                  have hnb97 := NB129_118.out
                  have hnc97 := NB118_129.out
                  obtain ⟨hcz98_0,hcz98_1,hcz98_2,hfz98_0,hfz98_1,hfz98_2⟩ := qz3 BK129.out
                  go_wp2
                  go_ret2
                  exact ⟨_,by first | rfl | (simp [y12,y13] <;> rfl) | (simp [*,y12,y13] <;> rfl),by (with_reducible repeat (first | apply Kd.R_alloc | apply Kd.R_drewN | apply Kd.R_drew)); exact HO_5.out,qb⟩
                ·replace c76 := Bool.eq_false_iff.mpr c76
                 subst c76
                 replace H := qF H
                 simp only [Option.some.injEq,Prod.mk.injEq] at H
                 obtain ⟨rfl,rfl⟩ := H
                 go_wp2
                 go_ret2
                 exact ⟨_,by first | rfl | (simp [y12,y13] <;> rfl) | (simp [*,y12,y13] <;> rfl),by (with_reducible repeat (first | apply Kd.R_alloc | apply Kd.R_drewN | apply Kd.R_drew)); exact HO_5.out,qb⟩
        case rest =>
         clear HC37
         obtain ⟨kq,x9_36,rfl,HA,HJ36,HO_4,HO_5,HO_119003,HO_119004,BK118,BK129,HB⟩ := hcut
         cases kq with
         | zero => exact absurd HA.out (by simp [z8_.j5])
         | succ kj36 =>
          have H := HA.out
          clear HA
          simp only [z8_.j5] at H
          have HC99 := y0.mk H
          clear H
          go_upto_region 41 with (fail)
          go_cut [156] (fun v156 wc => ∃ (kq : Nat) (x156_98 : Bool),v156 = .bool x156_98 ∧ y0 (z8_.j6 kq x4_2 x5_1 x6_1 x9_36 x156_98 l0_0 a0_1 a0_2 l0_3 l0_4 = some (r1,r2)) ∧ y0 (kq ≤ kj36) ∧ y0 (Kd.R (Kd.int .i64) 3 wc w.heap.size (fun k_ => (w.heap.size ≤ k_)) v123 x4_2) ∧ y0 (Kd.R Kd.string 9 wc w.heap.size (fun k_ => (w.heap.size ≤ k_)) v126 x5_1) ∧ y0 (Kd.V (Kd.int .i64) 3 wc w.heap.size (fun k_ => ((P0_3_ k_ ∨ P0_4_ k_) ∨ w.heap.size ≤ k_) ∧ some k_ ≠ (v123 : Value).ownBlock ∧ some k_ ≠ (v126 : Value).ownBlock ∧ k_ ≠ gb118 ∧ k_ ≠ gb129) (.slice A0_3 l0_3.length c0_3) l0_3) ∧ y0 (Kd.V k32 32 wc w.heap.size (fun k_ => ((P0_3_ k_ ∨ P0_4_ k_) ∨ w.heap.size ≤ k_) ∧ some k_ ≠ (v123 : Value).ownBlock ∧ some k_ ≠ (v126 : Value).ownBlock ∧ k_ ≠ gb118 ∧ k_ ≠ gb129) (.slice A0_4 l0_4.length c0_4) l0_4) ∧ y0 (wc.heap[gb118]? = some (.cells #[(.slice (some ad128) l0_0.length c0_0),.int .i64 a0_1,.string a0_2,(.slice A0_3 l0_3.length c0_3),(.slice A0_4 l0_4.length c0_4)] 35 (0,0))) ∧ y0 (wc.heap[gb129]? = some (.cells #[.int .i64 ((y18 l0_0 x6_1).f0),.string ((y18 l0_0 x6_1).f1),(.slice A128_2 ((y18 l0_0 x6_1).f2).length c128_2)] 101 (0,0))) ∧ y0 (Below w.heap.size w wc))
          case first =>
           have H := HC99.out
           clear HC99
           by_cases c100 : ((y18 l0_0 x6_1).f0) ≤ 3
           ·as_aux_lemma =>
            rw [if_pos c100] at H
            have c100b0 := decide_eq_true c100
            clear c100
            (first | rw [c100b0] | (simp only [i64_w,i32_w]; rw [c100b0]) | skip)
            by_cases c101 : (((y18 l0_0 x6_1).f2).length : Int) > 0
            ·as_aux_lemma =>
             rw [if_pos c101] at H
             have c101b0 : decide (0 < (((y18 l0_0 x6_1).f2).length : Int)) = true := decide_eq_true c101
             have c101b1 : decide (0 < ((y18 l0_0 x6_1).f2).length) = true := decide_eq_true (by omega)
             clear c101
             have H' := y0.mk H
             clear H
             have hnb102 := NB129_118.out
             have hnc102 := NB118_129.out
             obtain ⟨hcz103_0,hcz103_1,hcz103_2,hfz103_0,hfz103_1,hfz103_2⟩ := qz3 BK129.out
             go_wp2
             go_meet
             exact ⟨_,(true),qy2,H',⟨by have := HK1.out; have := HK2.out; have := HJ36.out; first | omega | exact Nat.le_refl _⟩,⟨qR HO_4.out⟩,⟨qR HO_5.out⟩,⟨qV HO_119003.out⟩,⟨qV HO_119004.out⟩,⟨qk BK118.out⟩,⟨qk BK129.out⟩,⟨qb⟩⟩
            ·as_aux_lemma =>
             rw [if_neg c101] at H
             have c101b0 : decide (0 < (((y18 l0_0 x6_1).f2).length : Int)) = false := decide_eq_false c101
             have c101b1 : decide (0 < ((y18 l0_0 x6_1).f2).length) = false := decide_eq_false (by omega)
             clear c101
             have H' := y0.mk H
             clear H
             have hnb104 := NB129_118.out
             have hnc104 := NB118_129.out
             obtain ⟨hcz105_0,hcz105_1,hcz105_2,hfz105_0,hfz105_1,hfz105_2⟩ := qz3 BK129.out
             go_wp2
             go_meet
             exact ⟨_,(decide ((x9_36.size : Int) > 3000)),qy2,H',⟨by have := HK1.out; have := HK2.out; have := HJ36.out; first | omega | exact Nat.le_refl _⟩,⟨qR HO_4.out⟩,⟨qR HO_5.out⟩,⟨qV HO_119003.out⟩,⟨qV HO_119004.out⟩,⟨qk BK118.out⟩,⟨qk BK129.out⟩,⟨qb⟩⟩
           ·as_aux_lemma =>
            rw [if_neg c100] at H
            have c100b0 := decide_eq_false c100
            clear c100
            (first | rw [c100b0] | (simp only [i64_w,i32_w]; rw [c100b0]) | skip)
            have H' := y0.mk H
            clear H
            have hnb106 := NB129_118.out
            have hnc106 := NB118_129.out
            obtain ⟨hcz107_0,hcz107_1,hcz107_2,hfz107_0,hfz107_1,hfz107_2⟩ := qz3 BK129.out
            go_wp2
            go_meet
            exact ⟨_,(decide ((x9_36.size : Int) > 3000)),qy2,H',⟨by have := HK1.out; have := HK2.out; have := HJ36.out; first | omega | exact Nat.le_refl _⟩,⟨qR HO_4.out⟩,⟨qR HO_5.out⟩,⟨qV HO_119003.out⟩,⟨qV HO_119004.out⟩,⟨qk BK118.out⟩,⟨qk BK129.out⟩,⟨qb⟩⟩
          case rest =>
           clear HC99
           obtain ⟨kq,x156_98,rfl,HA,HJ98,HO_4,HO_5,HO_119003,HO_119004,BK118,BK129,HB⟩ := hcut
           cases kq with
           | zero => exact absurd HA.out (by simp [z8_.j6])
           | succ kj98 =>
            have H := HA.out
            clear HA
            simp only [z8_.j6] at H
            by_cases c108 : x156_98 = true
            ·subst c108
             replace H := qT H
             simp only [Option.some.injEq,Prod.mk.injEq] at H
             obtain ⟨rfl,rfl⟩ := H
             go_wp2
             go_ret2
             exact ⟨_,by first | rfl | (simp [y12,y13] <;> rfl) | (simp [*,y12,y13] <;> rfl),by (with_reducible repeat (first | apply Kd.R_alloc | apply Kd.R_drewN | apply Kd.R_drew)); exact HO_5.out,qb⟩
            ·replace c108 := Bool.eq_false_iff.mpr c108
             subst c108
             replace H := qF H
             obtain ⟨c109,H⟩ := qo H
             have c109b0 : decide (0 ≤ x6_1) = true := decide_eq_true c109
             clear c109
             obtain ⟨c110,H⟩ := qo H
             have c110b0 : decide (x6_1 < (x5_1.length : Int)) = true := decide_eq_true c110
             clear c110
             obtain ⟨y147,hy147⟩ : ∃ y_ : List ByteArray,y_ = (x5_1.set (x6_1 : Int).toNat x9_36) := ⟨_,rfl⟩
             replace H : (z8_.l0 kj98 x4_2 y147 (wrap64 (x6_1 + 1)) l0_0 a0_1 a0_2 l0_3 l0_4) = some (r1,r2) := by first | (rw [hy147]; with_reducible exact H) | (have H2_ := (Option.bind_some _ _).symm.trans H; rw [hy147]; with_reducible exact H2_) | (have H2_ := (Option.bind_some _ _).symm.trans H; with_reducible exact H2_) | with_reducible exact H | (rw [hy147]; exact H) | exact H
             have Ny147 := y0.mk hy147
             clear hy147
             have H' := y0.mk H
             clear H
             have p111 : 0 ≤ (x6_1 : Int) := of_decide_eq_true qy1
             have q111 : (x6_1 : Int) < ((x5_1.length : Int) : Int) := of_decide_eq_true qy1
             obtain ⟨go111,co111,eo111,gb111,gl111,cl111,HG111⟩ := Kd.R_form HO_5.out (by omega)
             (first | cases eo111 | (injection eo111 with ea_ en_ ec_; (first | subst ea_ | (injection ea_ with ea_; subst ea_)); subst ec_; clear en_))
             have GB111 := y0.mk gb111
             have GG111 := y0.mk HG111
             clear gb111 gl111 HG111
             obtain ⟨hx111_0,hf111_0⟩ := Kd.R_celln (⟨#[]⟩ : ByteArray) HO_5.out (x6_1 : Int) p111 q111
             replace p111 := eq_true p111
             replace q111 := eq_true q111
             have HP112 := Kd.R_putg HO_5.out (x6_1 : Int) x9_36
             go_wp2_with (first | ((with_reducible refine gate_store (t := 9) (p := 161) rfl ?_); refine store_event (t := 9) (p := 161) (v := ?vo_w113) (w1 := (wc.setCell ⟨go111,(x6_1 : Int).toNat,none⟩ (.string x9_36))) ?hg ?ho ?hn ?hr ?_; (case ho => rfl); (case hg => rfl); (case hn => rfl); (case hr => first | (go_simp; done) | (go_simp; rfl)); intro w113 hw; have hg : wc.grownBy w113 (some go111) := (by rw [hw]; exact HP112.2); have hp_ : Kd.R Kd.string 9 w113 w.heap.size (fun k_ => (w.heap.size ≤ k_)) (.slice (some ⟨go111,0,none⟩) x5_1.length co111) y147 := (by rw [hw,Ny147.out]; exact HP112.1); clear HP112; replace HO_4 := y0.mk (Kd.R_over' (v := (.slice (some ⟨go111,0,none⟩) x5_1.length co111)) (qR HO_4.out) (Kd.R_typed HO_5.out) (by decide) hg); replace HO_119003 := y0.mk (Kd.V_afterv (v := (.slice (some ⟨go111,0,none⟩) x5_1.length co111)) (v1 := (.slice (some ⟨go111,0,none⟩) x5_1.length co111)) (ok := (fun k_ => ((P0_3_ k_ ∨ P0_4_ k_) ∨ w.heap.size ≤ k_) ∧ some k_ ≠ (v123 : Value).ownBlock ∧ k_ ≠ gb118 ∧ k_ ≠ gb129)) (qV (Kd.V_mono HO_119003.out (fun _ hk => ⟨⟨hk.1,⟨hk.2.1,⟨hk.2.2.2.1,hk.2.2.2.2⟩⟩⟩,hk.2.2.1⟩))) hg (.inl rfl)); replace HO_119004 := y0.mk (Kd.V_afterv (v := (.slice (some ⟨go111,0,none⟩) x5_1.length co111)) (v1 := (.slice (some ⟨go111,0,none⟩) x5_1.length co111)) (ok := (fun k_ => ((P0_3_ k_ ∨ P0_4_ k_) ∨ w.heap.size ≤ k_) ∧ some k_ ≠ (v123 : Value).ownBlock ∧ k_ ≠ gb118 ∧ k_ ≠ gb129)) (qV (Kd.V_mono HO_119004.out (fun _ hk => ⟨⟨hk.1,⟨hk.2.1,⟨hk.2.2.2.1,hk.2.2.2.2⟩⟩⟩,hk.2.2.1⟩))) hg (.inl rfl)); replace BK118 := y0.mk (blk_grown (qk BK118.out) hg (Kd.R_ne HO_5.out BK118.out (by decide))); replace BK129 := y0.mk (blk_grown (qk BK129.out) hg (Kd.R_ne HO_5.out BK129.out (by decide))); replace HO_5 := y0.mk (hp_); replace HB := y0.mk ((by rw [hw]; exact below_set (HB.out) GB111.out : Below w.heap.size w w113)); clear hg hw hp_))
             go_roundg kj98
             case measure => have := HK1.out; have := HK2.out; have := HJ36.out; have := HJ98.out; omega
             exact ⟨(x4_2),(y147),(wrap64 (x6_1 + 1)),qy2,H',⟨by have := HK1.out; have := HK2.out; have := HJ36.out; have := HJ98.out; omega⟩,⟨qR HO_4.out⟩,⟨qR HO_5.out⟩,⟨qV (Kd.V_mono HO_119003.out (fun _ hk => ⟨hk.1.1,⟨hk.1.2.1,⟨hk.2,hk.1.2.2.1⟩⟩⟩))⟩,⟨qV (Kd.V_mono HO_119004.out (fun _ hk => ⟨hk.1.1,⟨hk.1.2.1,⟨hk.2,hk.1.2.2.1⟩⟩⟩))⟩,⟨qk BK118.out⟩,⟨qb⟩⟩
    ·as_aux_lemma =>
     rw [if_neg c17] at H
     have c17b0 := decide_eq_false c17
     clear c17
     obtain ⟨y148,hy148⟩ : ∃ y_ : List (S32),y_ = (([(⟨a0_1,a0_2,l0_3⟩ : S32)] : List (S32))) := ⟨_,rfl⟩
     replace H : (if y148.length + l0_4.length < 2932031007402 then (z8_.l3 k1 x4_1 x5_1 (y148 ++ l0_4) 0) else (none)) = some (r1,r2) := by first | (rw [hy148]; with_reducible exact H) | (have H2_ := (Option.bind_some _ _).symm.trans H; rw [hy148]; with_reducible exact H2_) | (have H2_ := (Option.bind_some _ _).symm.trans H; with_reducible exact H2_) | with_reducible exact H | (rw [hy148]; exact H) | exact H
     have Ny148 := y0.mk hy148
     clear hy148
     obtain ⟨c114,H⟩ := qo H
     have LMc114 := y0.mk c114
     clear c114
     obtain ⟨y151,hy151⟩ : ∃ y_ : List (S32),y_ = (y148 ++ l0_4) := ⟨_,rfl⟩
     replace H : (z8_.l3 k1 x4_1 x5_1 y151 0) = some (r1,r2) := by first | (rw [hy151]; with_reducible exact H) | (have H2_ := (Option.bind_some _ _).symm.trans H; rw [hy151]; with_reducible exact H2_) | (have H2_ := (Option.bind_some _ _).symm.trans H; with_reducible exact H2_) | with_reducible exact H | (rw [hy151]; exact H) | exact H
     have Ny151 := y0.mk hy151
     clear hy151
     have H' := y0.mk H
     clear H
     obtain ⟨hcz115_0,hcz115_1,hcz115_2,hcz115_3,hcz115_4,hfz115_0,hfz115_1,hfz115_2,hfz115_3,hfz115_4⟩ := qz5 BK118.out
     go_wp2_with (first | ((with_reducible refine y16 (N := 164) rfl ?_); (try (refine gate_guard (by rfl) ?_; dsimp only)); refine Kd.N_lit k32 _ 32 ?hg (N' := 164) ?hd (xs := ([(⟨a0_1,a0_2,l0_3⟩ : S32)] : List (S32))) (inner := [.int .i64 a0_1,.string a0_2,.slice A0_3 l0_3.length c0_3]) (ok := (fun k_ => ((P0_3_ k_ ∨ P0_4_ k_) ∨ w.heap.size ≤ k_) ∧ some k_ ≠ (v123 : Value).ownBlock ∧ some k_ ≠ (v126 : Value).ownBlock ∧ k_ ≠ gb118)) (okp := (fun k_ => ((P0_3_ k_ ∨ P0_4_ k_) ∨ w.heap.size ≤ k_) ∧ some k_ ≠ (v123 : Value).ownBlock ∧ some k_ ≠ (v126 : Value).ownBlock ∧ k_ ≠ gb118)) ?hr ?hp (fun _ hk => hk) ((show ∀ k_,wr.heap.size ≤ k_ → (fun k_ => ((P0_3_ k_ ∨ P0_4_ k_) ∨ w.heap.size ≤ k_) ∧ some k_ ≠ (v123 : Value).ownBlock ∧ some k_ ≠ (v126 : Value).ownBlock ∧ k_ ≠ gb118) k_ from fun k_ hk => ⟨(.inr (Nat.le_trans (y3 qb) hk)),Kd.fresh' (Kd.R_lt (qR HO_4.out)) k_ hk,Kd.fresh' (Kd.R_lt (qR HO_5.out)) k_ hk,Kd.freshB (g := gb118) (o := .cells #[.slice A0_0 l0_0.length c0_0,.int .i64 a0_1,.string a0_2,.slice A0_3 l0_3.length c0_3,.slice A0_4 l0_4.length c0_4] 35 (0,0)) (qk BK118.out) k_ hk⟩) _ (Nat.le_refl _)) (Below.refl _ _) (Nat.le_refl _) (by simp) ?_; (case hd => rfl); (case hg => rfl); (case hr => first | (go_simp; done) | (go_simp; rfl)); (case hp => exact (Reps.c3 (show Kd.FK k32 _ _ (⟨a0_1,a0_2,l0_3⟩ : S32) [.int .i64 a0_1,.string a0_2,.slice A0_3 l0_3.length c0_3] from (k32_mkF _ _ (⟨a0_1,a0_2,l0_3⟩ : S32) (Kd.V_reads' (Kd.V_mono (ok' := (fun k_ => ((P0_3_ k_ ∨ P0_4_ k_) ∨ w.heap.size ≤ k_) ∧ some k_ ≠ (v123 : Value).ownBlock ∧ some k_ ≠ (v126 : Value).ownBlock ∧ k_ ≠ gb118)) (HO_119003.out) (fun k_ hk => ⟨hk.1,⟨hk.2.1,⟨hk.2.2.1,hk.2.2.2⟩⟩⟩))).2.1 (Kd.V_F (Kd.V_mono (ok' := (fun k_ => ((P0_3_ k_ ∨ P0_4_ k_) ∨ w.heap.size ≤ k_) ∧ some k_ ≠ (v123 : Value).ownBlock ∧ some k_ ≠ (v126 : Value).ownBlock ∧ k_ ≠ gb118)) (HO_119003.out) (fun k_ hk => ⟨hk.1,⟨hk.2.1,⟨hk.2.2.1,hk.2.2.2⟩⟩⟩))))) (Reps.none _ _))); intro v149 w116 ho117 hb hg_ hnew_; clear hg_ hnew_; (first | rw [← Ny148.out] at ho117 | (simp only [Int.reduceToNat] at ho117; rw [← Ny148.out] at ho117)); replace HO_4 := y0.mk (Kd.R_below (qR HO_4.out) hb); replace HO_5 := y0.mk (Kd.R_below (qR HO_5.out) hb); replace HO_119003 := y0.mk (Kd.V_elder' (qV HO_119003.out) (Kd.N_base ho117) hb); replace HO_119004 := y0.mk (Kd.V_elder' (qV HO_119004.out) (Kd.N_base ho117) hb); have HO150 := y0.mk (Kd.N_lower ho117 (y3 qb)); replace BK118 := y0.mk (qK BK118.out hb); replace HB := y0.mk (y4 qb hb); clear hb ho117; obtain ⟨hcz118_0,hcz118_1,hcz118_2,hcz118_3,hcz118_4,hfz118_0,hfz118_1,hfz118_2,hfz118_3,hfz118_4⟩ := qz5 BK118.out) | ((with_reducible refine gate_builtin (b := .append) (xs := #[.tmp 164,.tmp 166]) rfl ?_); (try (refine gate_guard (by rfl) ?_; dsimp only)); at_builtin; refine Kd.N_append_rows k32 (w0 := w) w.heap.size rfl (.tmp 164) (.tmp 166) 33 32 (.agg #[(.int .i64 0),(.string ⟨#[]⟩),(.slice none 0 0)]) 48 rfl Try.underlying33 info32 rfl (by decide) (by omega) v149 y148 l0_4 _ _ _ (fun k_ => ((P0_3_ k_ ∨ P0_4_ k_) ∨ w.heap.size ≤ k_) ∧ some k_ ≠ (v123 : Value).ownBlock ∧ some k_ ≠ (v126 : Value).ownBlock ∧ k_ ≠ gb118) (fun k_ => ((fun k_ => ((P0_3_ k_ ∨ P0_4_ k_) ∨ w.heap.size ≤ k_) ∧ some k_ ≠ (v123 : Value).ownBlock ∧ some k_ ≠ (v126 : Value).ownBlock ∧ k_ ≠ gb118)) k_ ∧ some k_ ≠ (v149 : Value).ownBlock) rfl rfl ?aO ?aR (fun _ hk => hk) ?aF ?aB ?aS ?aL ?_; (case aR => exact (by skip; exact Kd.V_F (Kd.V_mono (ok' := (fun k_ => ((fun k_ => ((P0_3_ k_ ∨ P0_4_ k_) ∨ w.heap.size ≤ k_) ∧ some k_ ≠ (v123 : Value).ownBlock ∧ some k_ ≠ (v126 : Value).ownBlock ∧ k_ ≠ gb118)) k_ ∧ some k_ ≠ (v149 : Value).ownBlock)) (HO_119004.out) (fun k_ hk => ⟨⟨hk.1.1,⟨hk.1.2.1,⟨hk.1.2.2.1,hk.1.2.2.2⟩⟩⟩,hk.2⟩)))); (case aB => exact qb); (case aF => exact (fun k_ hk => ⟨(.inr (Nat.le_trans (y3 qb) hk)),Kd.fresh' (Kd.R_lt (qR HO_4.out)) k_ hk,Kd.fresh' (Kd.R_lt (qR HO_5.out)) k_ hk,Kd.freshB (g := gb118) (o := .cells #[.slice A0_0 l0_0.length c0_0,.int .i64 a0_1,.string a0_2,.slice A0_3 l0_3.length c0_3,.slice A0_4 l0_4.length c0_4] 35 (0,0)) (qk BK118.out) k_ hk⟩)); (case aO => exact (qN HO150.out)); (case aS => exact (y3 qb)); (case aL => have := LMc114.out; omega); intro v152 w119 ho hb hg hat; rw [← Ny151.out] at ho; replace HO_4 := y0.mk (Kd.R_over' (qR HO_4.out) (Kd.N_typed (qN HO150.out)) (by decide) hg); replace HO_5 := y0.mk (Kd.R_over' (qR HO_5.out) (Kd.N_typed (qN HO150.out)) (by decide) hg); replace HO_119003 := y0.mk (Kd.V_afterv (ok := (fun k_ => ((P0_3_ k_ ∨ P0_4_ k_) ∨ w.heap.size ≤ k_) ∧ some k_ ≠ (v123 : Value).ownBlock ∧ some k_ ≠ (v126 : Value).ownBlock ∧ k_ ≠ gb118)) (qV HO_119003.out) hg hat); replace HO_119004 := y0.mk (Kd.V_afterv (ok := (fun k_ => ((P0_3_ k_ ∨ P0_4_ k_) ∨ w.heap.size ≤ k_) ∧ some k_ ≠ (v123 : Value).ownBlock ∧ some k_ ≠ (v126 : Value).ownBlock ∧ k_ ≠ gb118)) (qV HO_119004.out) hg hat); replace BK118 := y0.mk (blk_grown (qk BK118.out) hg (Kd.N_ne HO150.out BK118.out (by decide))); replace HB := y0.mk (hb); have HO153 := y0.mk (ho); clear HO150; clear ho hb hg hat))
     go_loopg [13] k1 (fun kq v13 w' => ∃ (x4_2 : List Int) (x13_2 : Int),v13 = .int .i64 x13_2 ∧ y0 (z8_.l3 kq x4_2 x5_1 y151 x13_2 = some (r1,r2)) ∧ y0 (kq ≤ k1) ∧ y0 (Kd.R (Kd.int .i64) 3 w' w.heap.size (fun k_ => (w.heap.size ≤ k_)) v123 x4_2) ∧ y0 (Kd.R Kd.string 9 w' w.heap.size (fun k_ => (w.heap.size ≤ k_)) v126 x5_1) ∧ y0 (Kd.N k32 32 w' w.heap.size (fun k_ => ((P0_3_ k_ ∨ P0_4_ k_) ∨ w.heap.size ≤ k_) ∧ some k_ ≠ (v123 : Value).ownBlock ∧ some k_ ≠ (v126 : Value).ownBlock ∧ k_ ≠ gb118) v152 y151) ∧ y0 (Kd.V (Kd.int .i64) 3 w' w.heap.size (fun k_ => ((P0_3_ k_ ∨ P0_4_ k_) ∨ w.heap.size ≤ k_) ∧ some k_ ≠ (v123 : Value).ownBlock ∧ some k_ ≠ (v126 : Value).ownBlock ∧ some k_ ≠ (v152 : Value).ownBlock ∧ k_ ≠ gb118) (.slice A0_3 l0_3.length c0_3) l0_3) ∧ y0 (Kd.V k32 32 w' w.heap.size (fun k_ => ((P0_3_ k_ ∨ P0_4_ k_) ∨ w.heap.size ≤ k_) ∧ some k_ ≠ (v123 : Value).ownBlock ∧ some k_ ≠ (v126 : Value).ownBlock ∧ some k_ ≠ (v152 : Value).ownBlock ∧ k_ ≠ gb118) (.slice A0_4 l0_4.length c0_4) l0_4) ∧ y0 (w'.heap[gb118]? = some (.cells #[(.slice A0_0 l0_0.length c0_0),.int .i64 a0_1,.string a0_2,(.slice A0_3 l0_3.length c0_3),(.slice A0_4 l0_4.length c0_4)] 35 (0,0))) ∧ y0 (Below w.heap.size w w'))
     case atStart => exact ⟨(x4_1),(0),qy2,H',⟨Nat.le_refl _⟩,⟨qR HO_4.out⟩,⟨qR HO_5.out⟩,⟨qN HO153.out⟩,⟨qV (Kd.V_mono HO_119003.out (fun _ hk => ⟨hk.1.1,⟨hk.1.2.1,⟨hk.1.2.2.1,⟨hk.2,hk.1.2.2.2⟩⟩⟩⟩))⟩,⟨qV (Kd.V_mono HO_119004.out (fun _ hk => ⟨hk.1.1,⟨hk.1.2.1,⟨hk.1.2.2.1,⟨hk.2,hk.1.2.2.2⟩⟩⟩⟩))⟩,⟨qk BK118.out⟩,⟨qb⟩⟩
     case round =>
      clear H'
      (try clear c17b0 hcz115_0 hcz115_1 hcz115_2 hcz115_3 hcz115_4 hcz118_0 hcz118_1 hcz118_2 hcz118_3 hcz118_4 hfz115_0 hfz115_1 hfz115_2 hfz115_3 hfz115_4 hfz118_0 hfz118_1 hfz118_2 hfz118_3 hfz118_4)
      obtain ⟨x4_2,x13_2,rfl,HA,HK2,HO_4,HO_5,HO_12,HO_119003,HO_119004,BK118,HB⟩ := hrel
      cases gk with
      | zero => exact absurd HA.out (by simp [z8_.l3])
      | succ k2 =>
       have H := HA.out
       clear HA
       simp only [z8_.l3] at H
       by_cases c120 : x13_2 < (y151.length : Int)
       ·as_aux_lemma =>
        rw [if_pos c120] at H
        have c120b0 := decide_eq_true c120
        clear c120
        have H' := y0.mk H
        clear H
        obtain ⟨Ao121,co121,eo121⟩ := Kd.N_slice HO_12.out
        subst eo121
        go_wp2
        go_loopg [14] k2 (fun kq v14 w' => ∃ (x4_3 : List Int) (x14_3 : Int),v14 = .int .i64 x14_3 ∧ y0 (z8_.l4 kq x4_3 x5_1 y151 x13_2 x14_3 = some (r1,r2)) ∧ y0 (kq ≤ k2) ∧ y0 (Kd.R (Kd.int .i64) 3 w' w.heap.size (fun k_ => (w.heap.size ≤ k_)) v123 x4_3) ∧ y0 (Kd.R Kd.string 9 w' w.heap.size (fun k_ => (w.heap.size ≤ k_)) v126 x5_1) ∧ y0 (Kd.N k32 32 w' w.heap.size (fun k_ => ((P0_3_ k_ ∨ P0_4_ k_) ∨ w.heap.size ≤ k_) ∧ some k_ ≠ (v123 : Value).ownBlock ∧ some k_ ≠ (v126 : Value).ownBlock ∧ k_ ≠ gb118) (.slice Ao121 y151.length co121) y151) ∧ y0 (Kd.V (Kd.int .i64) 3 w' w.heap.size (fun k_ => ((P0_3_ k_ ∨ P0_4_ k_) ∨ w.heap.size ≤ k_) ∧ some k_ ≠ (v123 : Value).ownBlock ∧ some k_ ≠ (v126 : Value).ownBlock ∧ some k_ ≠ ((.slice Ao121 y151.length co121) : Value).ownBlock ∧ k_ ≠ gb118) (.slice A0_3 l0_3.length c0_3) l0_3) ∧ y0 (Kd.V k32 32 w' w.heap.size (fun k_ => ((P0_3_ k_ ∨ P0_4_ k_) ∨ w.heap.size ≤ k_) ∧ some k_ ≠ (v123 : Value).ownBlock ∧ some k_ ≠ (v126 : Value).ownBlock ∧ some k_ ≠ ((.slice Ao121 y151.length co121) : Value).ownBlock ∧ k_ ≠ gb118) (.slice A0_4 l0_4.length c0_4) l0_4) ∧ y0 (w'.heap[gb118]? = some (.cells #[(.slice A0_0 l0_0.length c0_0),.int .i64 a0_1,.string a0_2,(.slice A0_3 l0_3.length c0_3),(.slice A0_4 l0_4.length c0_4)] 35 (0,0))) ∧ y0 (Below w.heap.size w w'))
        case atStart => exact ⟨(x4_2),(0),qy2,H',⟨Nat.le_refl _⟩,⟨qR HO_4.out⟩,⟨qR HO_5.out⟩,⟨qN HO_12.out⟩,⟨qV HO_119003.out⟩,⟨qV HO_119004.out⟩,⟨qk BK118.out⟩,⟨qb⟩⟩
        case round =>
         clear H'
         (try clear c120b0)
         obtain ⟨x4_3,x14_3,rfl,HA,HK3,HO_4,HO_5,HO_12,HO_119003,HO_119004,BK118,HB⟩ := hrel
         cases gk with
         | zero => exact absurd HA.out (by simp [z8_.l4])
         | succ k3 =>
          have H := HA.out
          clear HA
          simp only [z8_.l4] at H
          obtain ⟨c122,H⟩ := qo H
          have c122b0 : decide (0 ≤ x13_2) = true := decide_eq_true c122
          clear c122
          obtain ⟨c123,H⟩ := qo H
          have c123b0 : decide (x13_2 < (y151.length : Int)) = true := decide_eq_true c123
          clear c123
          by_cases c124 : x14_3 < (((y19 y151 x13_2).f2).length : Int)
          ·as_aux_lemma =>
           rw [if_pos c124] at H
           have c124b0 := decide_eq_true c124
           clear c124
           obtain ⟨c125,H⟩ := qo H
           have c125b0 : decide (0 ≤ x14_3) = true := decide_eq_true c125
           clear c125
           obtain ⟨t157,A126,H⟩ := qB H
           by_cases c127 : t157 = true
           ·subst c127
            replace H := qT H
            obtain ⟨c128,H⟩ := qo H
            have c128b0 : decide (0 ≤ (rd ((y19 y151 x13_2).f2) x14_3)) = true := decide_eq_true c128
            clear c128
            obtain ⟨c129,H⟩ := qo H
            have c129b0 : decide ((rd ((y19 y151 x13_2).f2) x14_3) < (x4_3.length : Int)) = true := decide_eq_true c129
            clear c129
            obtain ⟨y161,hy161⟩ : ∃ y_ : List Int,y_ = (x4_3.set ((rd ((y19 y151 x13_2).f2) x14_3) : Int).toNat (wrap64 ((rd x4_3 (rd ((y19 y151 x13_2).f2) x14_3)) + 1))) := ⟨_,rfl⟩
            replace H : (z8_.l4 k3 y161 x5_1 y151 x13_2 (wrap64 (x14_3 + 1))) = some (r1,r2) := by first | (rw [hy161]; with_reducible exact H) | (have H2_ := (Option.bind_some _ _).symm.trans H; rw [hy161]; with_reducible exact H2_) | (have H2_ := (Option.bind_some _ _).symm.trans H; with_reducible exact H2_) | with_reducible exact H | (rw [hy161]; exact H) | exact H
            have Ny161 := y0.mk hy161
            clear hy161
            have H' := y0.mk H
            clear H
            have p154 : 0 ≤ (x13_2 : Int) := of_decide_eq_true qy1
            have q154 : x13_2 < (y151.length : Int) := of_decide_eq_true qy1
            obtain ⟨ad154,A154_2,c154_2,e154,hx154_0,hx154_1,hx154_2,hl154_2,hi154_2⟩ := at_T32 (Kd.N_reads' HO_12.out).2.2 x13_2 p154 q154
            cases e154
            obtain ⟨ce154,hce154,hMe154,hcc154⟩ := Kd.N_get HO_12.out z32 x13_2 p154 (by first | exact q154 | exact of_decide_eq_true qy1 | (have e_ := (Kd.N_reads' HO_12.out).1; omega))
            obtain ⟨ua154_2,uc154_2,rfl,ul154_2,ge154_2⟩ := k32_openF hMe154
            have hv154_2 := hcc154 2 _ rfl
            rw [add_field _ _ 2 (by omega)] at hv154_2
            replace hv154_2 := Option.some.inj (hv154_2.symm.trans hx154_2)
            injection hv154_2 with hva_ hvn_ hvc_
            rw [hva_] at ge154_2
            rw [hvc_] at ul154_2
            have HL154_2 := y0.mk (show Kd.V (Kd.int .i64) 3 _ w.heap.size _ _ ((y19 y151 x13_2).f2) from Kd.V_mk ul154_2 ge154_2)
            clear hva_ hvn_ hvc_ ge154_2 ul154_2
            clear hcc154 hce154
            have HR154_2 := y0.mk hi154_2
            have HC154_2 := y0.mk hl154_2
            clear hi154_2 hl154_2
            replace p154 := eq_true p154
            replace q154 := eq_true q154
            have p155 : 0 ≤ (x13_2 : Int) := of_decide_eq_true qy1
            have q155 : x13_2 < (y151.length : Int) := of_decide_eq_true qy1
            obtain ⟨ad155,A155_2,c155_2,e155,hx155_0,hx155_1,hx155_2,hl155_2,hi155_2⟩ := at_T32 (Kd.N_reads' HO_12.out).2.2 x13_2 p155 q155
            obtain rfl : ad154 = ad155 := (by injection e155)
            obtain ⟨ce155,hce155,hMe155,hcc155⟩ := Kd.N_get HO_12.out z32 x13_2 p155 (by first | exact q155 | exact of_decide_eq_true qy1 | (have e_ := (Kd.N_reads' HO_12.out).1; omega))
            obtain ⟨ua155_2,uc155_2,rfl,ul155_2,ge155_2⟩ := k32_openF hMe155
            have hv155_2 := hcc155 2 _ rfl
            rw [add_field _ _ 2 (by omega)] at hv155_2
            replace hv155_2 := Option.some.inj (hv155_2.symm.trans hx155_2)
            injection hv155_2 with hva_ hvn_ hvc_
            rw [hva_] at ge155_2
            rw [hvc_] at ul155_2
            have HL155_2 := y0.mk (show Kd.V (Kd.int .i64) 3 _ w.heap.size _ _ ((y19 y151 x13_2).f2) from Kd.V_mk ul155_2 ge155_2)
            clear hva_ hvn_ hvc_ ge155_2 ul155_2
            clear hcc155 hce155
            have HR155_2 := y0.mk hi155_2
            have HC155_2 := y0.mk hl155_2
            clear hi155_2 hl155_2
            replace p155 := eq_true p155
            replace q155 := eq_true q155
            have ea_ := Option.some.inj (hx154_2.symm.trans hx155_2)
            injection ea_ with ea_ en_ ec_
            subst ea_
            subst ec_
            clear en_
            have p156 : 0 ≤ (x14_3 : Int) := of_decide_eq_true qy1
            have q156 : x14_3 < (((y19 y151 x13_2).f2).length : Int) := of_decide_eq_true qy1
            obtain ⟨ad156,e156,hx156_0⟩ := Kd.at_int (by repeat (first | (with_reducible exact HR155_2.out) | (with_reducible refine Kd.C_alloc ?_ _) | (with_reducible refine Kd.C_drewN ?_ _) | (with_reducible refine Kd.C_drew ?_) | exact HR155_2.out)) x14_3 p156 q156
            cases e156
            replace p156 := eq_true p156
            replace q156 := eq_true q156
            obtain ⟨Ao131,co131,eo131⟩ := Kd.R_slice HO_4.out
            subst eo131
            go_wp2_with (first | ((with_reducible refine y15 (f := 38) rfl ?_); refine y17 (some 195) rfl rfl Try.func38 (by kernel_rfl) rfl #[.int .i64 (rd ((y19 y151 x13_2).f2) x14_3),.int .i64 0,.int .i64 (wrap64 ((x4_3.length : Int) - 1))] rfl qy0 ?_; (with_reducible refine (spec_l01Between.calls (rd ((y19 y151 x13_2).f2) x14_3) 0 (wrap64 ((x4_3.length : Int) - 1)) true _ A126.out).mono ?_); rintro e w' ⟨rfl,⟨nd,rfl⟩⟩; refine ⟨_,rfl, ?_⟩; (try (rw [drewN_self wr]; have e1_ : ∀ (n_ : Nat) (a_ : Addr),World.cell? wr a_ = World.cell? (World.drewN wr n_) a_ := fun _ _ => rfl; have e2_ : ∀ (n_ : Nat) (a_ : Addr),World.frozen? wr a_ = World.frozen? (World.drewN wr n_) a_ := fun _ _ => rfl; generalize hq_ : World.drewN wr _ = wr; have e3_ := (fun a_ => (e1_ _ a_).trans (congrArg (fun w_ => World.cell? w_ a_) hq_)); have e4_ := (fun a_ => (e2_ _ a_).trans (congrArg (fun w_ => World.frozen? w_ a_) hq_)); clear e1_ e2_; (try replace hx154_0 := (e3_ _).symm.trans hx154_0); (try replace hx154_1 := (e3_ _).symm.trans hx154_1); (try replace hx154_2 := (e3_ _).symm.trans hx154_2); (try replace hx155_0 := (e3_ _).symm.trans hx155_0); (try replace hx155_1 := (e3_ _).symm.trans hx155_1); (try replace hx155_2 := (e3_ _).symm.trans hx155_2); (try replace hx156_0 := (e3_ _).symm.trans hx156_0); skip; clear e3_ e4_; have n0_ : y0 (Kd.V (Kd.int .i64) 3 wr w.heap.size (fun k_ => ((P0_3_ k_ ∨ P0_4_ k_) ∨ w.heap.size ≤ k_) ∧ some k_ ≠ (.slice (some ad154) y151.length co121 : Value).ownBlock ∧ some k_ ≠ (.slice Ao131 x4_3.length co131 : Value).ownBlock ∧ some k_ ≠ (v126 : Value).ownBlock ∧ k_ ≠ gb118) (.slice (some ad156) ((y19 y151 x13_2).f2).length c154_2) ((y19 y151 x13_2).f2)) := ⟨by rw [← hq_]; exact (qV (Kd.V_mono HL154_2.out (fun _ hk => ⟨hk.1.1,⟨hk.2,⟨hk.1.2.1,⟨hk.1.2.2.1,hk.1.2.2.2⟩⟩⟩⟩)))⟩; have n1_ : y0 (Kd.V (Kd.int .i64) 3 wr w.heap.size (fun k_ => ((P0_3_ k_ ∨ P0_4_ k_) ∨ w.heap.size ≤ k_) ∧ some k_ ≠ (.slice (some ad154) y151.length co121 : Value).ownBlock ∧ some k_ ≠ (.slice Ao131 x4_3.length co131 : Value).ownBlock ∧ some k_ ≠ (v126 : Value).ownBlock ∧ k_ ≠ gb118) (.slice (some ad156) ((y19 y151 x13_2).f2).length c154_2) ((y19 y151 x13_2).f2)) := ⟨by rw [← hq_]; exact (qV (Kd.V_mono HL155_2.out (fun _ hk => ⟨hk.1.1,⟨hk.2,⟨hk.1.2.1,⟨hk.1.2.2.1,hk.1.2.2.2⟩⟩⟩⟩)))⟩; have n2_ : y0 (Kd.V (Kd.int .i64) 3 wr w.heap.size (fun k_ => ((P0_3_ k_ ∨ P0_4_ k_) ∨ w.heap.size ≤ k_) ∧ some k_ ≠ (.slice (some ad154) y151.length co121 : Value).ownBlock ∧ some k_ ≠ (.slice Ao131 x4_3.length co131 : Value).ownBlock ∧ some k_ ≠ (v126 : Value).ownBlock ∧ k_ ≠ gb118) (.slice A0_3 l0_3.length c0_3) l0_3) := ⟨by rw [← hq_]; exact (qV (Kd.V_mono HO_119003.out (fun _ hk => ⟨hk.1,⟨hk.2.2.2.1,⟨hk.2.1,⟨hk.2.2.1,hk.2.2.2.2⟩⟩⟩⟩)))⟩; have n3_ : y0 (Kd.V k32 32 wr w.heap.size (fun k_ => ((P0_3_ k_ ∨ P0_4_ k_) ∨ w.heap.size ≤ k_) ∧ some k_ ≠ (.slice (some ad154) y151.length co121 : Value).ownBlock ∧ some k_ ≠ (.slice Ao131 x4_3.length co131 : Value).ownBlock ∧ some k_ ≠ (v126 : Value).ownBlock ∧ k_ ≠ gb118) (.slice A0_4 l0_4.length c0_4) l0_4) := ⟨by rw [← hq_]; exact (qV (Kd.V_mono HO_119004.out (fun _ hk => ⟨hk.1,⟨hk.2.2.2.1,⟨hk.2.1,⟨hk.2.2.1,hk.2.2.2.2⟩⟩⟩⟩)))⟩; have n4_ : y0 (Kd.N k32 32 wr w.heap.size (fun k_ => ((P0_3_ k_ ∨ P0_4_ k_) ∨ w.heap.size ≤ k_) ∧ some k_ ≠ (.slice Ao131 x4_3.length co131 : Value).ownBlock ∧ some k_ ≠ (v126 : Value).ownBlock ∧ k_ ≠ gb118) (.slice (some ad154) y151.length co121) y151) := ⟨by rw [← hq_]; exact (qN HO_12.out)⟩; have n5_ : y0 (Kd.R (Kd.int .i64) 3 wr w.heap.size (fun k_ => (w.heap.size ≤ k_)) (.slice Ao131 x4_3.length co131) x4_3) := ⟨by rw [← hq_]; exact (qR HO_4.out)⟩; have n6_ : y0 (Kd.R Kd.string 9 wr w.heap.size (fun k_ => (w.heap.size ≤ k_)) v126 x5_1) := ⟨by rw [← hq_]; exact (qR HO_5.out)⟩; have n7_ : y0 (wr.heap[gb118]? = some (.cells #[.slice A0_0 l0_0.length c0_0,.int .i64 a0_1,.string a0_2,.slice A0_3 l0_3.length c0_3,.slice A0_4 l0_4.length c0_4] 35 (0,0))) := ⟨by rw [← hq_]; exact (qk BK118.out)⟩; have n8_ : y0 (Below w.heap.size w wr) := ⟨by rw [← hq_]; exact qb⟩; have n9_ : y0 (Kd.C (Kd.int .i64) wr (some ad156) ((y19 y151 x13_2).f2).length ((y19 y151 x13_2).f2)) := ⟨by rw [← hq_]; exact (by repeat (first | (with_reducible exact HR154_2.out) | (with_reducible refine Kd.C_alloc ?_ _) | (with_reducible refine Kd.C_drewN ?_ _) | (with_reducible refine Kd.C_drew ?_) | exact HR154_2.out))⟩; have n10_ : y0 (Kd.C (Kd.int .i64) wr (some ad156) ((y19 y151 x13_2).f2).length ((y19 y151 x13_2).f2)) := ⟨by rw [← hq_]; exact (by repeat (first | (with_reducible exact HR155_2.out) | (with_reducible refine Kd.C_alloc ?_ _) | (with_reducible refine Kd.C_drewN ?_ _) | (with_reducible refine Kd.C_drew ?_) | exact HR155_2.out))⟩; clear HL154_2 HL155_2 HO_119003 HO_119004 HO_12 HO_4 HO_5 BK118 HB HR154_2 HR155_2 hq_; have HL154_2 := n0_; have HL155_2 := n1_; have HO_119003 := n2_; have HO_119004 := n3_; have HO_12 := n4_; have HO_4 := n5_; have HO_5 := n6_; have BK118 := n7_; have HB := n8_; have HR154_2 := n9_; have HR155_2 := n10_; clear n0_ n1_ n2_ n3_ n4_ n5_ n6_ n7_ n8_ n9_ n10_)); have p158 : 0 ≤ (x13_2 : Int) := of_decide_eq_true qy1; have q158 : x13_2 < (y151.length : Int) := of_decide_eq_true qy1; obtain ⟨ad158,A158_2,c158_2,e158,hx158_0,hx158_1,hx158_2,hl158_2,hi158_2⟩ := at_T32 (Kd.N_reads' HO_12.out).2.2 x13_2 p158 q158; obtain rfl : ad154 = ad158 := (by injection e158); obtain ⟨ce158,hce158,hMe158,hcc158⟩ := Kd.N_get HO_12.out z32 x13_2 p158 (by first | exact q158 | exact of_decide_eq_true qy1 | (have e_ := (Kd.N_reads' HO_12.out).1; omega)); obtain ⟨ua158_2,uc158_2,rfl,ul158_2,ge158_2⟩ := k32_openF hMe158; have hv158_2 := hcc158 2 _ rfl; rw [add_field _ _ 2 (by omega)] at hv158_2; replace hv158_2 := Option.some.inj (hv158_2.symm.trans hx158_2); injection hv158_2 with hva_ hvn_ hvc_; rw [hva_] at ge158_2; rw [hvc_] at ul158_2; have HL158_2 := y0.mk (show Kd.V (Kd.int .i64) 3 _ w.heap.size _ _ ((y19 y151 x13_2).f2) from Kd.V_mk ul158_2 ge158_2); clear hva_ hvn_ hvc_ ge158_2 ul158_2; clear hcc158 hce158; have HR158_2 := y0.mk hi158_2; have HC158_2 := y0.mk hl158_2; clear hi158_2 hl158_2; replace p158 := eq_true p158; replace q158 := eq_true q158; have ea_ := Option.some.inj (hx154_2.symm.trans hx158_2); injection ea_ with ea_ en_ ec_; subst ea_; subst ec_; clear en_; have p159 : 0 ≤ (x14_3 : Int) := of_decide_eq_true qy1; have q159 : x14_3 < (((y19 y151 x13_2).f2).length : Int) := of_decide_eq_true qy1; obtain ⟨ad159,e159,hx159_0⟩ := Kd.at_int (by repeat (first | (with_reducible exact HR158_2.out) | (with_reducible refine Kd.C_alloc ?_ _) | (with_reducible refine Kd.C_drewN ?_ _) | (with_reducible refine Kd.C_drew ?_) | exact HR158_2.out)) x14_3 p159 q159; cases e159; replace p159 := eq_true p159; replace q159 := eq_true q159; have p160 : 0 ≤ ((rd ((y19 y151 x13_2).f2) x14_3) : Int) := of_decide_eq_true qy1; have q160 : (rd ((y19 y151 x13_2).f2) x14_3) < (x4_3.length : Int) := of_decide_eq_true qy1; obtain ⟨ad160,e160,hx160_0⟩ := Kd.at_int (Kd.R_reads' HO_4.out).2.2 (rd ((y19 y151 x13_2).f2) x14_3) p160 q160; cases e160; replace p160 := eq_true p160; replace q160 := eq_true q160; have p130 : 0 ≤ ((rd ((y19 y151 x13_2).f2) x14_3) : Int) := of_decide_eq_true qy1; have q130 : ((rd ((y19 y151 x13_2).f2) x14_3) : Int) < ((x4_3.length : Int) : Int) := of_decide_eq_true qy1; obtain ⟨go130,co130,eo130,gb130,gl130,cl130,HG130⟩ := Kd.R_form HO_4.out (by omega); (first | cases eo130 | (injection eo130 with ea_ en_ ec_; (first | subst ea_ | (injection ea_ with ea_; subst ea_)); subst ec_; clear en_)); have GB130 := y0.mk gb130; have GG130 := y0.mk HG130; clear gb130 gl130 HG130; (first | simp only [add_plain] at hx160_0 | skip); obtain ⟨hx130_0,hf130_0⟩ := Kd.R_celln 0 HO_4.out ((rd ((y19 y151 x13_2).f2) x14_3) : Int) p130 q130; replace p130 := eq_true p130; replace q130 := eq_true q130; obtain ⟨hy132_,hz132_⟩ := Kd.R_celln 0 HO_4.out ((rd ((y19 y151 x13_2).f2) x14_3) : Int) (of_decide_eq_true qy1) (of_decide_eq_true qy1); have HP132 := Kd.R_putg HO_4.out ((rd ((y19 y151 x13_2).f2) x14_3) : Int) (wrap64 ((rd x4_3 (rd ((y19 y151 x13_2).f2) x14_3)) + 1))) | ((with_reducible refine gate_store (t := 3) (p := 210) rfl ?_); refine store_event (t := 3) (p := 210) (v := ?vo_w133) (w1 := (wr.setCell ⟨go130,((rd ((y19 y151 x13_2).f2) x14_3) : Int).toNat,none⟩ (.int .i64 (wrap64 ((rd x4_3 (rd ((y19 y151 x13_2).f2) x14_3)) + 1))))) ?hg ?ho ?hn ?hr ?_; (case ho => rfl); (case hg => rfl); (case hn => rfl); (case hr => first | (go_simp; done) | (go_simp; rfl)); intro w133 hw; have hg : wr.grownBy w133 (some go130) := (by rw [hw]; exact HP132.2); have hp_ : Kd.R (Kd.int .i64) 3 w133 w.heap.size (fun k_ => (w.heap.size ≤ k_)) (.slice (some ⟨go130,0,none⟩) x4_3.length co131) y161 := (by rw [hw,Ny161.out]; exact HP132.1); clear HP132; replace HO_5 := y0.mk (Kd.R_over' (v := (.slice (some ⟨go130,0,none⟩) x4_3.length co131)) (qR HO_5.out) (Kd.R_typed HO_4.out) (by decide) hg); replace HO_12 := y0.mk (Kd.N_afterv (v := (.slice (some ⟨go130,0,none⟩) x4_3.length co131)) (v1 := (.slice (some ⟨go130,0,none⟩) x4_3.length co131)) (ok := (fun k_ => ((P0_3_ k_ ∨ P0_4_ k_) ∨ w.heap.size ≤ k_) ∧ some k_ ≠ (v126 : Value).ownBlock ∧ k_ ≠ gb118)) (qN (Kd.N_mono HO_12.out (fun _ hk => ⟨⟨hk.1,⟨hk.2.2.1,hk.2.2.2⟩⟩,hk.2.1⟩))) hg (.inl rfl)); replace HO_119003 := y0.mk (Kd.V_afterv (v := (.slice (some ⟨go130,0,none⟩) x4_3.length co131)) (v1 := (.slice (some ⟨go130,0,none⟩) x4_3.length co131)) (ok := (fun k_ => ((P0_3_ k_ ∨ P0_4_ k_) ∨ w.heap.size ≤ k_) ∧ some k_ ≠ (v126 : Value).ownBlock ∧ some k_ ≠ (.slice (some ad154) y151.length co121 : Value).ownBlock ∧ k_ ≠ gb118)) (qV (Kd.V_mono HO_119003.out (fun _ hk => ⟨⟨hk.1,⟨hk.2.2.2.1,⟨hk.2.1,hk.2.2.2.2⟩⟩⟩,hk.2.2.1⟩))) hg (.inl rfl)); replace HO_119004 := y0.mk (Kd.V_afterv (v := (.slice (some ⟨go130,0,none⟩) x4_3.length co131)) (v1 := (.slice (some ⟨go130,0,none⟩) x4_3.length co131)) (ok := (fun k_ => ((P0_3_ k_ ∨ P0_4_ k_) ∨ w.heap.size ≤ k_) ∧ some k_ ≠ (v126 : Value).ownBlock ∧ some k_ ≠ (.slice (some ad154) y151.length co121 : Value).ownBlock ∧ k_ ≠ gb118)) (qV (Kd.V_mono HO_119004.out (fun _ hk => ⟨⟨hk.1,⟨hk.2.2.2.1,⟨hk.2.1,hk.2.2.2.2⟩⟩⟩,hk.2.2.1⟩))) hg (.inl rfl)); replace BK118 := y0.mk (blk_grown (qk BK118.out) hg (Kd.R_ne HO_4.out BK118.out (by decide))); replace HO_4 := y0.mk (hp_); replace HL154_2 := y0.mk (Kd.V_afterv (v := (.slice (some ⟨go130,0,none⟩) x4_3.length co131)) (v1 := (.slice (some ⟨go130,0,none⟩) x4_3.length co131)) (ok := (fun k_ => ((P0_3_ k_ ∨ P0_4_ k_) ∨ w.heap.size ≤ k_) ∧ some k_ ≠ (v126 : Value).ownBlock ∧ some k_ ≠ (.slice (some ad154) y151.length co121 : Value).ownBlock ∧ k_ ≠ gb118)) (qV (Kd.V_mono HL154_2.out (fun _ hk => ⟨⟨hk.1,⟨hk.2.2.2.1,⟨hk.2.1,hk.2.2.2.2⟩⟩⟩,hk.2.2.1⟩))) hg (.inl rfl)); replace HL155_2 := y0.mk (Kd.V_afterv (v := (.slice (some ⟨go130,0,none⟩) x4_3.length co131)) (v1 := (.slice (some ⟨go130,0,none⟩) x4_3.length co131)) (ok := (fun k_ => ((P0_3_ k_ ∨ P0_4_ k_) ∨ w.heap.size ≤ k_) ∧ some k_ ≠ (v126 : Value).ownBlock ∧ some k_ ≠ (.slice (some ad154) y151.length co121 : Value).ownBlock ∧ k_ ≠ gb118)) (qV (Kd.V_mono HL155_2.out (fun _ hk => ⟨⟨hk.1,⟨hk.2.2.2.1,⟨hk.2.1,hk.2.2.2.2⟩⟩⟩,hk.2.2.1⟩))) hg (.inl rfl)); replace HL158_2 := y0.mk (Kd.V_afterv (v := (.slice (some ⟨go130,0,none⟩) x4_3.length co131)) (v1 := (.slice (some ⟨go130,0,none⟩) x4_3.length co131)) (ok := (fun k_ => ((P0_3_ k_ ∨ P0_4_ k_) ∨ w.heap.size ≤ k_) ∧ some k_ ≠ (v126 : Value).ownBlock ∧ some k_ ≠ (.slice (some ad154) y151.length co121 : Value).ownBlock ∧ k_ ≠ gb118)) (qV (Kd.V_mono HL158_2.out (fun _ hk => ⟨⟨hk.1.1,⟨hk.1.2.2.1,⟨hk.2,hk.1.2.2.2⟩⟩⟩,hk.1.2.1⟩))) hg (.inl rfl)); replace HB := y0.mk ((by rw [hw]; exact below_set (HB.out) GB130.out : Below w.heap.size w w133)); clear hg hw hp_))
            go_roundg k3
            case measure => have := HK1.out; have := HK2.out; have := HK3.out; omega
            exact ⟨(y161),(wrap64 (x14_3 + 1)),qy2,H',⟨by have := HK1.out; have := HK2.out; have := HK3.out; omega⟩,⟨qR HO_4.out⟩,⟨qR HO_5.out⟩,⟨qN (Kd.N_mono HO_12.out (fun _ hk => ⟨hk.1.1,⟨hk.2,⟨hk.1.2.1,hk.1.2.2⟩⟩⟩))⟩,⟨qV (Kd.V_mono HO_119003.out (fun _ hk => ⟨hk.1.1,⟨hk.2,⟨hk.1.2.1,⟨hk.1.2.2.1,hk.1.2.2.2⟩⟩⟩⟩))⟩,⟨qV (Kd.V_mono HO_119004.out (fun _ hk => ⟨hk.1.1,⟨hk.2,⟨hk.1.2.1,⟨hk.1.2.2.1,hk.1.2.2.2⟩⟩⟩⟩))⟩,⟨qk BK118.out⟩,⟨qb⟩⟩
           ·replace c127 := Bool.eq_false_iff.mpr c127
            subst c127
            replace H := qF H
            simp only [Option.some.injEq,Prod.mk.injEq] at H
            obtain ⟨rfl,rfl⟩ := H
            have p154 : 0 ≤ (x13_2 : Int) := of_decide_eq_true qy1
            have q154 : x13_2 < (y151.length : Int) := of_decide_eq_true qy1
            obtain ⟨ad154,A154_2,c154_2,e154,hx154_0,hx154_1,hx154_2,hl154_2,hi154_2⟩ := at_T32 (Kd.N_reads' HO_12.out).2.2 x13_2 p154 q154
            cases e154
            obtain ⟨ce154,hce154,hMe154,hcc154⟩ := Kd.N_get HO_12.out z32 x13_2 p154 (by first | exact q154 | exact of_decide_eq_true qy1 | (have e_ := (Kd.N_reads' HO_12.out).1; omega))
            obtain ⟨ua154_2,uc154_2,rfl,ul154_2,ge154_2⟩ := k32_openF hMe154
            have hv154_2 := hcc154 2 _ rfl
            rw [add_field _ _ 2 (by omega)] at hv154_2
            replace hv154_2 := Option.some.inj (hv154_2.symm.trans hx154_2)
            injection hv154_2 with hva_ hvn_ hvc_
            rw [hva_] at ge154_2
            rw [hvc_] at ul154_2
            have HL154_2 := y0.mk (show Kd.V (Kd.int .i64) 3 _ w.heap.size _ _ ((y19 y151 x13_2).f2) from Kd.V_mk ul154_2 ge154_2)
            clear hva_ hvn_ hvc_ ge154_2 ul154_2
            clear hcc154 hce154
            have HR154_2 := y0.mk hi154_2
            have HC154_2 := y0.mk hl154_2
            clear hi154_2 hl154_2
            replace p154 := eq_true p154
            replace q154 := eq_true q154
            have p155 : 0 ≤ (x13_2 : Int) := of_decide_eq_true qy1
            have q155 : x13_2 < (y151.length : Int) := of_decide_eq_true qy1
            obtain ⟨ad155,A155_2,c155_2,e155,hx155_0,hx155_1,hx155_2,hl155_2,hi155_2⟩ := at_T32 (Kd.N_reads' HO_12.out).2.2 x13_2 p155 q155
            obtain rfl : ad154 = ad155 := (by injection e155)
            obtain ⟨ce155,hce155,hMe155,hcc155⟩ := Kd.N_get HO_12.out z32 x13_2 p155 (by first | exact q155 | exact of_decide_eq_true qy1 | (have e_ := (Kd.N_reads' HO_12.out).1; omega))
            obtain ⟨ua155_2,uc155_2,rfl,ul155_2,ge155_2⟩ := k32_openF hMe155
            have hv155_2 := hcc155 2 _ rfl
            rw [add_field _ _ 2 (by omega)] at hv155_2
            replace hv155_2 := Option.some.inj (hv155_2.symm.trans hx155_2)
            injection hv155_2 with hva_ hvn_ hvc_
            rw [hva_] at ge155_2
            rw [hvc_] at ul155_2
            have HL155_2 := y0.mk (show Kd.V (Kd.int .i64) 3 _ w.heap.size _ _ ((y19 y151 x13_2).f2) from Kd.V_mk ul155_2 ge155_2)
            clear hva_ hvn_ hvc_ ge155_2 ul155_2
            clear hcc155 hce155
            have HR155_2 := y0.mk hi155_2
            have HC155_2 := y0.mk hl155_2
            clear hi155_2 hl155_2
            replace p155 := eq_true p155
            replace q155 := eq_true q155
            have ea_ := Option.some.inj (hx154_2.symm.trans hx155_2)
            injection ea_ with ea_ en_ ec_
            subst ea_
            subst ec_
            clear en_
            have p156 : 0 ≤ (x14_3 : Int) := of_decide_eq_true qy1
            have q156 : x14_3 < (((y19 y151 x13_2).f2).length : Int) := of_decide_eq_true qy1
            obtain ⟨ad156,e156,hx156_0⟩ := Kd.at_int (by repeat (first | (with_reducible exact HR155_2.out) | (with_reducible refine Kd.C_alloc ?_ _) | (with_reducible refine Kd.C_drewN ?_ _) | (with_reducible refine Kd.C_drew ?_) | exact HR155_2.out)) x14_3 p156 q156
            cases e156
            replace p156 := eq_true p156
            replace q156 := eq_true q156
            obtain ⟨Ao134,co134,eo134⟩ := Kd.R_slice HO_4.out
            subst eo134
            go_wp2_with (first | ((with_reducible refine y15 (f := 38) rfl ?_); refine y17 (some 195) rfl rfl Try.func38 (by kernel_rfl) rfl #[.int .i64 (rd ((y19 y151 x13_2).f2) x14_3),.int .i64 0,.int .i64 (wrap64 ((x4_3.length : Int) - 1))] rfl qy0 ?_; (with_reducible refine (spec_l01Between.calls (rd ((y19 y151 x13_2).f2) x14_3) 0 (wrap64 ((x4_3.length : Int) - 1)) false _ A126.out).mono ?_); rintro e w' ⟨rfl,⟨nd,rfl⟩⟩; refine ⟨_,rfl, ?_⟩))
            go_ret2
            exact ⟨_,by first | rfl | (simp [y12,y13] <;> rfl) | (simp [*,y12,y13] <;> rfl),by (with_reducible repeat (first | apply Kd.R_alloc | apply Kd.R_drewN | apply Kd.R_drew)); exact HO_5.out,qb⟩
          ·as_aux_lemma =>
           rw [if_neg c124] at H
           have c124b0 := decide_eq_false c124
           clear c124
           have H' := y0.mk H
           clear H
           have p154 : 0 ≤ (x13_2 : Int) := of_decide_eq_true qy1
           have q154 : x13_2 < (y151.length : Int) := of_decide_eq_true qy1
           obtain ⟨ad154,A154_2,c154_2,e154,hx154_0,hx154_1,hx154_2,hl154_2,hi154_2⟩ := at_T32 (Kd.N_reads' HO_12.out).2.2 x13_2 p154 q154
           cases e154
           obtain ⟨ce154,hce154,hMe154,hcc154⟩ := Kd.N_get HO_12.out z32 x13_2 p154 (by first | exact q154 | exact of_decide_eq_true qy1 | (have e_ := (Kd.N_reads' HO_12.out).1; omega))
           obtain ⟨ua154_2,uc154_2,rfl,ul154_2,ge154_2⟩ := k32_openF hMe154
           have hv154_2 := hcc154 2 _ rfl
           rw [add_field _ _ 2 (by omega)] at hv154_2
           replace hv154_2 := Option.some.inj (hv154_2.symm.trans hx154_2)
           injection hv154_2 with hva_ hvn_ hvc_
           rw [hva_] at ge154_2
           rw [hvc_] at ul154_2
           have HL154_2 := y0.mk (show Kd.V (Kd.int .i64) 3 _ w.heap.size _ _ ((y19 y151 x13_2).f2) from Kd.V_mk ul154_2 ge154_2)
           clear hva_ hvn_ hvc_ ge154_2 ul154_2
           clear hcc154 hce154
           have HR154_2 := y0.mk hi154_2
           have HC154_2 := y0.mk hl154_2
           clear hi154_2 hl154_2
           replace p154 := eq_true p154
           replace q154 := eq_true q154
           go_wp2
           go_roundg k3
           case measure => have := HK1.out; have := HK2.out; have := HK3.out; omega
           exact ⟨(x4_3),(wrap64 (x13_2 + 1)),qy2,H',⟨by have := HK1.out; have := HK2.out; have := HK3.out; omega⟩,⟨qR HO_4.out⟩,⟨qR HO_5.out⟩,⟨qN HO_12.out⟩,⟨qV HO_119003.out⟩,⟨qV HO_119004.out⟩,⟨qk BK118.out⟩,⟨qb⟩⟩
       ·as_aux_lemma =>
        rw [if_neg c120] at H
        have c120b0 := decide_eq_false c120
        clear c120
        have H' := y0.mk H
        clear H
        obtain ⟨Ao135,co135,eo135⟩ := Kd.N_slice HO_12.out
        subst eo135
        go_wp2
        go_loopg [15] k2 (fun kq v15 w' => ∃ (x15_3 : Int),v15 = .int .i64 x15_3 ∧ y0 (z8_.l5 kq x4_2 x5_1 x15_3 = some (r1,r2)) ∧ y0 (kq ≤ k2) ∧ y0 (Kd.R (Kd.int .i64) 3 w' w.heap.size (fun k_ => (w.heap.size ≤ k_)) v123 x4_2) ∧ y0 (Kd.R Kd.string 9 w' w.heap.size (fun k_ => (w.heap.size ≤ k_)) v126 x5_1) ∧ y0 (Kd.V (Kd.int .i64) 3 w' w.heap.size (fun k_ => ((P0_3_ k_ ∨ P0_4_ k_) ∨ w.heap.size ≤ k_) ∧ some k_ ≠ (v123 : Value).ownBlock ∧ some k_ ≠ (v126 : Value).ownBlock ∧ k_ ≠ gb118) (.slice A0_3 l0_3.length c0_3) l0_3) ∧ y0 (Kd.V k32 32 w' w.heap.size (fun k_ => ((P0_3_ k_ ∨ P0_4_ k_) ∨ w.heap.size ≤ k_) ∧ some k_ ≠ (v123 : Value).ownBlock ∧ some k_ ≠ (v126 : Value).ownBlock ∧ k_ ≠ gb118) (.slice A0_4 l0_4.length c0_4) l0_4) ∧ y0 (w'.heap[gb118]? = some (.cells #[(.slice A0_0 l0_0.length c0_0),.int .i64 a0_1,.string a0_2,(.slice A0_3 l0_3.length c0_3),(.slice A0_4 l0_4.length c0_4)] 35 (0,0))) ∧ y0 (Below w.heap.size w w'))
        case atStart => exact ⟨(0),qy2,H',⟨Nat.le_refl _⟩,⟨qR HO_4.out⟩,⟨qR HO_5.out⟩,⟨qV (Kd.V_mono HO_119003.out (fun _ hk => ⟨hk.1,⟨hk.2.1,⟨hk.2.2.1,hk.2.2.2.2⟩⟩⟩))⟩,⟨qV (Kd.V_mono HO_119004.out (fun _ hk => ⟨hk.1,⟨hk.2.1,⟨hk.2.2.1,hk.2.2.2.2⟩⟩⟩))⟩,⟨qk BK118.out⟩,⟨qb⟩⟩
        case round =>
         clear H'
         (try clear c120b0)
         obtain ⟨x15_3,rfl,HA,HK3,HO_4,HO_5,HO_119003,HO_119004,BK118,HB⟩ := hrel
         cases gk with
         | zero => exact absurd HA.out (by simp [z8_.l5])
         | succ k3 =>
          have H := HA.out
          clear HA
          simp only [z8_.l5] at H
          by_cases c136 : x15_3 < (x4_2.length : Int)
          ·as_aux_lemma =>
           rw [if_pos c136] at H
           have c136b0 := decide_eq_true c136
           clear c136
           obtain ⟨c137,H⟩ := qo H
           have c137b0 : decide (0 ≤ x15_3) = true := decide_eq_true c137
           clear c137
           by_cases c138 : (rd x4_2 x15_3) = 1
           ·as_aux_lemma =>
            rw [if_pos c138] at H
            have c138b0 : ((rd x4_2 x15_3) == 1) = true := beq_iff_eq.mpr c138
            have c138b1 : ((rd x4_2 x15_3) != 1) = false := bne_eq_false_iff_eq.mpr c138
            clear c138
            have H' := y0.mk H
            clear H
            obtain ⟨Ao139,co139,eo139⟩ := Kd.R_slice HO_4.out
            subst eo139
            have p162 : 0 ≤ (x15_3 : Int) := of_decide_eq_true qy1
            have q162 : x15_3 < (x4_2.length : Int) := of_decide_eq_true qy1
            obtain ⟨ad162,e162,hx162_0⟩ := Kd.at_int (Kd.R_reads' HO_4.out).2.2 x15_3 p162 q162
            cases e162
            replace p162 := eq_true p162
            replace q162 := eq_true q162
            go_wp2
            go_roundg k3
            case measure => have := HK1.out; have := HK2.out; have := HK3.out; omega
            exact ⟨(wrap64 (x15_3 + 1)),qy2,H',⟨by have := HK1.out; have := HK2.out; have := HK3.out; omega⟩,⟨qR HO_4.out⟩,⟨qR HO_5.out⟩,⟨qV HO_119003.out⟩,⟨qV HO_119004.out⟩,⟨qk BK118.out⟩,⟨qb⟩⟩
           ·as_aux_lemma =>
            rw [if_neg c138] at H
            have c138b0 : ((rd x4_2 x15_3) == 1) = false := beq_eq_false_iff_ne.mpr c138
            have c138b1 : ((rd x4_2 x15_3) != 1) = true := bne_iff_ne.mpr c138
            simp only [Option.some.injEq,Prod.mk.injEq] at H
            obtain ⟨rfl,rfl⟩ := H
            obtain ⟨Ao140,co140,eo140⟩ := Kd.R_slice HO_4.out
            subst eo140
            have p162 : 0 ≤ (x15_3 : Int) := of_decide_eq_true qy1
            have q162 : x15_3 < (x4_2.length : Int) := of_decide_eq_true qy1
            obtain ⟨ad162,e162,hx162_0⟩ := Kd.at_int (Kd.R_reads' HO_4.out).2.2 x15_3 p162 q162
            cases e162
            replace p162 := eq_true p162
            replace q162 := eq_true q162
            go_wp2
            go_ret2
            exact ⟨_,by first | rfl | (simp [y12,y13] <;> rfl) | (simp [*,y12,y13] <;> rfl),by (with_reducible repeat (first | apply Kd.R_alloc | apply Kd.R_drewN | apply Kd.R_drew)); exact HO_5.out,qb⟩
          ·as_aux_lemma =>
           rw [if_neg c136] at H
           have c136b0 := decide_eq_false c136
           clear c136
           simp only [Option.some.injEq,Prod.mk.injEq] at H
           obtain ⟨rfl,rfl⟩ := H
           obtain ⟨Ao141,co141,eo141⟩ := Kd.R_slice HO_4.out
           subst eo141
           go_wp2
           go_ret2
           exact ⟨_,by first | rfl | (simp [y12,y13] <;> rfl) | (simp [*,y12,y13] <;> rfl),by (with_reducible repeat (first | apply Kd.R_alloc | apply Kd.R_drewN | apply Kd.R_drew)); exact HO_5.out,qb⟩
end Go.Proofs.Ytamjmldfifofbaa.Pp

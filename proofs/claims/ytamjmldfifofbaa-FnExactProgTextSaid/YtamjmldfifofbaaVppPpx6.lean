-- Cut by prune.py, a program of this session, out of the texts of this claim: Lean checks it.
import Derived.Test.YtamjmldfifofbaaVppPpx0
import Derived.Test.YtamjmldfifofbaaVppPpx3
section
namespace Go.Proofs.Ytamjmldfifofbaa.Pp
open Go.RowKit Go.Proofs.YtamjmldfifofbaaW.PrintWords Go.Proofs.YtamjmldfifofbaaW.PrintLast Go.Proofs.YtamjmldfifofbaaW.PrintMore
attribute [local go_sem] max2_int min2_int max_two min_two max_three min_three max_four min_four   -- for this text's walks alone
set_option linter.unusedVariables false
set_option linter.unusedSimpArgs false
mutual
def z3_.l0 : Nat → List Int → List (S101) → Int → Int → List (S101) → Int → ByteArray → List Int → List (S32) → Option (Bool)
 | 0,_,_,_,_,_,_,_,_,_ => none
 | k + 1,x3,x17,x18,x19,x248000,x248001,x248002,x248003,x248004 => if x19 < x18 then (if 0 ≤ x19 then (if x19 < (x17.length : Int) then (z3_.l1 k x3 x19 x17 x18 x19 ((y18 x17 x19).f2) (((y18 x17 x19).f2).length : Int) 0 x248000 x248001 x248002 x248003 x248004 ((y18 x17 x19).f0) ((y18 x17 x19).f1) ((y18 x17 x19).f2)) else (none)) else (none)) else ((impl_Rule_lits.f x248000 x248001 x248002 x248003 x248004).bind fun t261 => (z3_.l2 k x3 t261 (t261.length : Int) 0 x248000 x248001 x248002 x248003 x248004))
def z3_.l1 : Nat → List Int → Int → List (S101) → Int → Int → List Int → Int → Int → List (S101) → Int → ByteArray → List Int → List (S32) → Int → ByteArray → List Int → Option (Bool)
 | 0,_,_,_,_,_,_,_,_,_,_,_,_,_,_,_,_ => none
 | k + 1,x3,x4,x17,x18,x19,x25,x26,x27,x248000,x248001,x248002,x248003,x248004,x253000,x253001,x253002 => if x27 < x26 then (if 0 ≤ x27 then (if x27 < (x25.length : Int) then ((impl_in.f (rd x25 x27) 0 (wrap64 (x4 - 1))).bind fun t254 => (if t254 = true then (if 0 ≤ (rd x25 x27) then (if (rd x25 x27) < (x3.length : Int) then (z3_.l1 k (x3.set ((rd x25 x27) : Int).toNat (wrap64 ((rd x3 (rd x25 x27)) + 1))) x4 x17 x18 x19 x25 x26 (wrap64 (x27 + 1)) x248000 x248001 x248002 x248003 x248004 x253000 x253001 x253002) else (none)) else (none)) else (some false))) else (none)) else (none)) else ((impl_in.f x253000 1 7).bind fun t257 => (if t257 = true then ((impl_isSum.f x253000).bind fun t258 => (if t258 = true then (if (x253002.length : Int) = 2 then ((impl_in.f x253000 1 3).bind fun t259 => (if t259 = true then (if (x253002.length : Int) > 0 then (some false) else (z3_.l0 k x3 x17 x18 (wrap64 (x19 + 1)) x248000 x248001 x248002 x248003 x248004)) else (z3_.l0 k x3 x17 x18 (wrap64 (x19 + 1)) x248000 x248001 x248002 x248003 x248004))) else (some false)) else ((impl_in.f x253000 1 3).bind fun t260 => (if t260 = true then (if (x253002.length : Int) > 0 then (some false) else (z3_.l0 k x3 x17 x18 (wrap64 (x19 + 1)) x248000 x248001 x248002 x248003 x248004)) else (z3_.l0 k x3 x17 x18 (wrap64 (x19 + 1)) x248000 x248001 x248002 x248003 x248004))))) else (some false)))
def z3_.l2 : Nat → List Int → List (S32) → Int → Int → List (S101) → Int → ByteArray → List Int → List (S32) → Option (Bool)
 | 0,_,_,_,_,_,_,_,_,_ => none
 | k + 1,x3,x71,x72,x73,x248000,x248001,x248002,x248003,x248004 => if x73 < x72 then (if 0 ≤ x73 then (if x73 < (x71.length : Int) then (if x73 = 0 then (if ((y19 x71 x73).f0) = 1 then ((impl_in.f ((y19 x71 x73).f0) 1 3).bind fun t267 => (if t267 = true then (if ((y19 x71 x73).f0) = 3 then (z3_.j3 k x3 x71 x72 x73 ((((y19 x71 x73).f2).length : Int) != 2) x248000 x248001 x248002 x248003 x248004 ((y19 x71 x73).f0) ((y19 x71 x73).f1) ((y19 x71 x73).f2)) else (z3_.j3 k x3 x71 x72 x73 false x248000 x248001 x248002 x248003 x248004 ((y19 x71 x73).f0) ((y19 x71 x73).f1) ((y19 x71 x73).f2))) else (z3_.j3 k x3 x71 x72 x73 true x248000 x248001 x248002 x248003 x248004 ((y19 x71 x73).f0) ((y19 x71 x73).f1) ((y19 x71 x73).f2)))) else (z3_.j3 k x3 x71 x72 x73 true x248000 x248001 x248002 x248003 x248004 ((y19 x71 x73).f0) ((y19 x71 x73).f1) ((y19 x71 x73).f2))) else ((impl_in.f ((y19 x71 x73).f0) 1 3).bind fun t268 => (if t268 = true then (if ((y19 x71 x73).f0) = 3 then (z3_.j3 k x3 x71 x72 x73 ((((y19 x71 x73).f2).length : Int) != 2) x248000 x248001 x248002 x248003 x248004 ((y19 x71 x73).f0) ((y19 x71 x73).f1) ((y19 x71 x73).f2)) else (z3_.j3 k x3 x71 x72 x73 false x248000 x248001 x248002 x248003 x248004 ((y19 x71 x73).f0) ((y19 x71 x73).f1) ((y19 x71 x73).f2))) else (z3_.j3 k x3 x71 x72 x73 true x248000 x248001 x248002 x248003 x248004 ((y19 x71 x73).f0) ((y19 x71 x73).f1) ((y19 x71 x73).f2))))) else (none)) else (none)) else (if (x248000.length : Int) ≤ 60 then ((slices_ContainsFunc_int_int_impl_isFormed_1.f k x3).bind fun t264 => (some (!t264))) else (some false))
def z3_.j3 : Nat → List Int → List (S32) → Int → Int → Bool → List (S101) → Int → ByteArray → List Int → List (S32) → Int → ByteArray → List Int → Option (Bool)
 | 0,_,_,_,_,_,_,_,_,_,_,_,_,_ => none
 | k + 1,x3,x71,x72,x73,x101,x248000,x248001,x248002,x248003,x248004,x267000,x267001,x267002 => if x101 = true then (some false) else (z3_.l3 k x3 x71 x72 x73 x267002 (x267002.length : Int) 0 x248000 x248001 x248002 x248003 x248004)
def z3_.l3 : Nat → List Int → List (S32) → Int → Int → List Int → Int → Int → List (S101) → Int → ByteArray → List Int → List (S32) → Option (Bool)
 | 0,_,_,_,_,_,_,_,_,_,_,_,_ => none
 | k + 1,x3,x71,x72,x73,x103,x104,x105,x248000,x248001,x248002,x248003,x248004 => if x105 < x104 then (if 0 ≤ x105 then (if x105 < (x103.length : Int) then ((impl_in.f (rd x103 x105) 0 (wrap64 ((x248000.length : Int) - 1))).bind fun t270 => (if t270 = true then (if 0 ≤ (rd x103 x105) then (if (rd x103 x105) < (x3.length : Int) then (z3_.l3 k (x3.set ((rd x103 x105) : Int).toNat (wrap64 ((rd x3 (rd x103 x105)) + 1))) x71 x72 x73 x103 x104 (wrap64 (x105 + 1)) x248000 x248001 x248002 x248003 x248004) else (none)) else (none)) else (some false))) else (none)) else (none)) else (z3_.l2 k x3 x71 x72 (wrap64 (x73 + 1)) x248000 x248001 x248002 x248003 x248004)
end
def z3_.f (k : Nat) (l0_0 : List (S101)) (a0_1 : Int) (a0_2 : ByteArray) (l0_3 : List Int) (l0_4 : List (S32)) : Option (Bool) := if 0 ≤ (l0_0.length : Int) then (if ((l0_0.length : Int) : Int).toNat ≤ 35184372088832 then (z3_.l0 k (List.replicate ((l0_0.length : Int) : Int).toNat 0) l0_0 (l0_0.length : Int) 0 l0_0 a0_1 a0_2 l0_3 l0_4) else (none)) else (none)
set_option maxHeartbeats 8000000 in
set_option maxRecDepth 100000 in
theorem z3_.calls (k : Nat) (A0_0 : Option Addr) (c0_0 : Nat) (l0_0 : List (S101)) (a0_1 : Int) (a0_2 : ByteArray) (A0_3 : Option Addr) (c0_3 : Nat) (l0_3 : List Int) (A0_4 : Option Addr) (c0_4 : Nat) (l0_4 : List (S32)) (r : Bool) (w : World) (hr0_0 : Kd.C k101 w A0_0 l0_0.length l0_0) (hc0_0 : l0_0.length ≤ c0_0) (hr0_3 : Kd.C (Kd.int .i64) w A0_3 l0_3.length l0_3) (hc0_3 : l0_3.length ≤ c0_3) (hr0_4 : Kd.C k32 w A0_4 l0_4.length l0_4) (hc0_4 : l0_4.length ≤ c0_4) (h : z3_.f k l0_0 a0_1 a0_2 l0_3 l0_4 = some r) :
  Calls Try.prog 59 #[.agg #[.slice A0_0 l0_0.length c0_0,.int .i64 a0_1,.string a0_2,.slice A0_3 l0_3.length c0_3,.slice A0_4 l0_4.length c0_4]] w fun e w' => e = .returned (.bool r) ∧ Below w.heap.size w w' := by
 have hu35 := Try.underlying35
 have hu101 := Try.underlying101
 have hu32 := Try.underlying32
 have HR0_0 := y0.mk hr0_0
 have HC0_0 := y0.mk hc0_0
 clear hr0_0 hc0_0
 have HR0_3 := y0.mk hr0_3
 have HC0_3 := y0.mk hc0_3
 clear hr0_3 hc0_3
 have HR0_4 := y0.mk hr0_4
 have HC0_4 := y0.mk hc0_4
 clear hr0_4 hc0_4
 have HB := y0.mk (Below.refl w.heap.size w)
 have H : (if 0 ≤ (l0_0.length : Int) then (if ((l0_0.length : Int) : Int).toNat ≤ 35184372088832 then (z3_.l0 k (List.replicate ((l0_0.length : Int) : Int).toNat 0) l0_0 (l0_0.length : Int) 0 l0_0 a0_1 a0_2 l0_3 l0_4) else (none)) else (none)) = some r := h
 clear h
 obtain ⟨c2,H⟩ := qo H
 have c2b0 := eq_true c2
 have c2b1 := decide_eq_true c2
 clear c2
 obtain ⟨c3,H⟩ := qo H
 have c3b0 := eq_true c3
 have c3b1 := decide_eq_true c3
 clear c3
 obtain ⟨y248,hy248⟩ : ∃ y_ : List Int,y_ = (List.replicate ((l0_0.length : Int) : Int).toNat 0) := ⟨_,rfl⟩
 replace H : (z3_.l0 k y248 l0_0 (l0_0.length : Int) 0 l0_0 a0_1 a0_2 l0_3 l0_4) = some r := by first | (rw [hy248]; with_reducible exact H) | (have H2_ := (Option.bind_some _ _).symm.trans H; rw [hy248]; with_reducible exact H2_) | (have H2_ := (Option.bind_some _ _).symm.trans H; with_reducible exact H2_) | with_reducible exact H | (rw [hy248]; exact H) | exact H
 have Ny248 := y0.mk hy248
 clear hy248
 have H' := y0.mk H
 clear H
 go_enter Try.func59,Try.ntmps59
 go_wp2_with (first | ((with_reducible refine y16 (N := 1) rfl ?_); (try (refine gate_guard (by rfl) ?_; dsimp only)); refine qe 1 #[.slice A0_0 l0_0.length c0_0,.int .i64 a0_1,.string a0_2,.slice A0_3 l0_3.length c0_3,.slice A0_4 l0_4.length c0_4] 35 ?_; intro gb247 hg w4 hbox hb; have BK247 := y0.mk (hbox); have GW247 := y0.mk (qg (w := w) hg); have GE247 := y0.mk (qg (w := w) hg); replace HB := y0.mk (y4 qb hb); clear hb hbox hg; obtain ⟨hcz5_0,hcz5_1,hcz5_2,hcz5_3,hcz5_4,hfz5_0,hfz5_1,hfz5_2,hfz5_3,hfz5_4⟩ := qz5 BK247.out) | ((with_reducible refine y16 (N := 15) rfl ?_); (try (refine gate_guard (by rfl) ?_; dsimp only)); refine Kd.R_make (Kd.int .i64) _ 3 rfl (N := 15) rfl 23 _ _ rfl (l0_0.length : Int) rfl rfl Try.underlying23 (.int .i64 0) 8 info3 rfl (by decide) (by omega) 0 (ok := fun _ => True) (okp := fun _ => True) rfl (fun _ hk => hk) trivial (of_decide_eq_true qy1) (Nat.le_trans (Nat.mul_le_mul_right _ (of_decide_eq_true qy1 : (l0_0.length : Int).toNat ≤ 35184372088832)) (by omega)) (Below.refl _ _) (Nat.le_refl _) ?_; intro v249 w6 ho7 hb hg_ hnew_; clear hg_ hnew_; (first | rw [← Ny248.out] at ho7 | (simp only [Int.reduceToNat] at ho7; rw [← Ny248.out] at ho7)); have HO250 := y0.mk (Kd.R_lower ho7 (y3 qb)); replace BK247 := y0.mk (qK BK247.out hb); replace HB := y0.mk (y4 qb hb); clear hb ho7; obtain ⟨hcz8_0,hcz8_1,hcz8_2,hcz8_3,hcz8_4,hfz8_0,hfz8_1,hfz8_2,hfz8_3,hfz8_4⟩ := qz5 BK247.out))
 go_loopg [19] k (fun kq v19 w' => ∃ (x3_1 : List Int) (x19_1 : Int),v19 = .int .i64 x19_1 ∧ y0 (z3_.l0 kq x3_1 l0_0 (l0_0.length : Int) x19_1 l0_0 a0_1 a0_2 l0_3 l0_4 = some r) ∧ y0 (kq ≤ k) ∧ y0 (Kd.R (Kd.int .i64) 3 w' w.heap.size (fun _ => True) v249 x3_1) ∧ y0 (w'.heap[gb247]? = some (.cells #[(.slice A0_0 l0_0.length c0_0),.int .i64 a0_1,.string a0_2,(.slice A0_3 l0_3.length c0_3),(.slice A0_4 l0_4.length c0_4)] 35 (0,0))) ∧ y0 (Below w.heap.size w w'))
 case atStart => exact ⟨(y248),(0),qy2,H',⟨Nat.le_refl _⟩,⟨qR HO250.out⟩,⟨qk BK247.out⟩,⟨qb⟩⟩
 case round =>
  clear H'
  (try clear c2b0 c2b1 c3b0 c3b1 hcz5_0 hcz5_1 hcz5_2 hcz5_3 hcz5_4 hcz8_0 hcz8_1 hcz8_2 hcz8_3 hcz8_4 hfz5_0 hfz5_1 hfz5_2 hfz5_3 hfz5_4 hfz8_0 hfz8_1 hfz8_2 hfz8_3 hfz8_4)
  obtain ⟨x3_1,x19_1,rfl,HA,HK1,HO_3,BK247,HB⟩ := hrel
  cases gk with
  | zero => exact absurd HA.out (by simp [z3_.l0])
  | succ k1 =>
   have H := HA.out
   clear HA
   simp only [z3_.l0] at H
   by_cases c9 : x19_1 < (l0_0.length : Int)
   ·as_aux_lemma =>
    rw [if_pos c9] at H
    have c9b0 := decide_eq_true c9
    clear c9
    obtain ⟨c10,H⟩ := qo H
    have c10b0 : decide (0 ≤ x19_1) = true := decide_eq_true c10
    clear c10
    obtain ⟨c11,H⟩ := qo H
    have c11b0 : decide (x19_1 < (l0_0.length : Int)) = true := decide_eq_true c11
    clear c11
    have H' := y0.mk H
    clear H
    have p251 : 0 ≤ (x19_1 : Int) := of_decide_eq_true qy1
    have q251 : x19_1 < (l0_0.length : Int) := of_decide_eq_true qy1
    obtain ⟨ad251,A251_2,c251_2,e251,hx251_0,hx251_1,hx251_2,hl251_2,hi251_2⟩ := at_T101 HR0_0.out x19_1 p251 q251
    cases e251
    replace hx251_0 := (HB.out.cell (World.block_lt_of_cell? w _ hx251_0)).trans hx251_0
    replace hx251_1 := (HB.out.cell (World.block_lt_of_cell? w _ hx251_1)).trans hx251_1
    replace hx251_2 := (HB.out.cell (World.block_lt_of_cell? w _ hx251_2)).trans hx251_2
    have HR251_2 := y0.mk hi251_2
    have HC251_2 := y0.mk hl251_2
    clear hi251_2 hl251_2
    replace p251 := eq_true p251
    replace q251 := eq_true q251
    go_wp2_with (first | ((with_reducible refine y16 (N := 5) rfl ?_); (try (refine gate_guard (by rfl) ?_; dsimp only)); refine qe 5 #[.int .i64 0,.string (⟨#[]⟩ : ByteArray),.slice none 0 0] 101 ?_; intro gb252 hg w12 hbox hb; replace HO_3 := y0.mk (Kd.R_below (qR HO_3.out) hb); have BK252 := y0.mk (hbox); have GW252 := y0.mk (qg (w := w) hg); have GE252 := y0.mk (qg (w := w) hg); replace HB := y0.mk (y4 qb hb); have NB247_252 := y0.mk (qn BK247.out hg); have NB252_247 := y0.mk (qm BK247.out hg); replace BK247 := y0.mk (qK BK247.out hb); clear hb hbox hg; have hnb13 := NB252_247.out; have hnc13 := NB247_252.out; obtain ⟨hcz14_0,hcz14_1,hcz14_2,hfz14_0,hfz14_1,hfz14_2⟩ := qz3 BK252.out))
    go_loopg [27] k1 (fun kq v27 w' => ∃ (x3_2 : List Int) (x27_2 : Int),v27 = .int .i64 x27_2 ∧ y0 (z3_.l1 kq x3_2 x19_1 l0_0 (l0_0.length : Int) x19_1 ((y18 l0_0 x19_1).f2) (((y18 l0_0 x19_1).f2).length : Int) x27_2 l0_0 a0_1 a0_2 l0_3 l0_4 ((y18 l0_0 x19_1).f0) ((y18 l0_0 x19_1).f1) ((y18 l0_0 x19_1).f2) = some r) ∧ y0 (kq ≤ k1) ∧ y0 (Kd.R (Kd.int .i64) 3 w' w.heap.size (fun _ => True) v249 x3_2) ∧ y0 (w'.heap[gb247]? = some (.cells #[(.slice (some ad251) l0_0.length c0_0),.int .i64 a0_1,.string a0_2,(.slice A0_3 l0_3.length c0_3),(.slice A0_4 l0_4.length c0_4)] 35 (0,0))) ∧ y0 (w'.heap[gb252]? = some (.cells #[.int .i64 ((y18 l0_0 x19_1).f0),.string ((y18 l0_0 x19_1).f1),(.slice A251_2 ((y18 l0_0 x19_1).f2).length c251_2)] 101 (0,0))) ∧ y0 (Below w.heap.size w w'))
    case atStart => exact ⟨(x3_1),(0),qy2,H',⟨Nat.le_refl _⟩,⟨qR (Kd.R_mono (Kd.R_far (p := ⟨gb252,2,none⟩) (Kd.R_far (p := ⟨gb252,1,none⟩) (Kd.R_far (p := ⟨gb252,0,none⟩) (Kd.R_types HO_3.out BK252.out (by decide)) (fun _ hk => hk.2) (.int .i64 ((y18 l0_0 x19_1).f0))) (fun _ hk => hk.2) (.string ((y18 l0_0 x19_1).f1))) (fun _ hk => hk.2) (.slice A251_2 ((y18 l0_0 x19_1).f2).length c251_2)) (fun _ hk => trivial))⟩,⟨by (with_reducible repeat (first | refine y9 ?_ _ | refine y8 ?_ | refine y5 ?_ _)); refine y10 ?_ NB247_252.out _; (with_reducible repeat (first | refine y9 ?_ _ | refine y8 ?_ | refine y5 ?_ _)); refine y10 ?_ NB247_252.out _; (with_reducible repeat (first | refine y9 ?_ _ | refine y8 ?_ | refine y5 ?_ _)); refine y10 ?_ NB247_252.out _; (with_reducible repeat (first | refine y9 ?_ _ | refine y8 ?_ | refine y5 ?_ _)); exact BK247.out⟩,⟨by (with_reducible repeat (first | refine y9 ?_ _ | refine y8 ?_ | refine y5 ?_ _)); refine y11 (cs := #[.int .i64 ((y18 l0_0 x19_1).f0),.string ((y18 l0_0 x19_1).f1),.slice none 0 0]) ?_ 2 _ rfl; (with_reducible repeat (first | refine y9 ?_ _ | refine y8 ?_ | refine y5 ?_ _)); refine y11 (cs := #[.int .i64 ((y18 l0_0 x19_1).f0),.string (⟨#[]⟩ : ByteArray),.slice none 0 0]) ?_ 1 _ rfl; (with_reducible repeat (first | refine y9 ?_ _ | refine y8 ?_ | refine y5 ?_ _)); refine y11 (cs := #[.int .i64 0,.string (⟨#[]⟩ : ByteArray),.slice none 0 0]) ?_ 0 _ rfl; (with_reducible repeat (first | refine y9 ?_ _ | refine y8 ?_ | refine y5 ?_ _)); exact BK252.out⟩,⟨qb⟩⟩
    case round =>
     clear H'
     (try clear c9b0 c10b0 c11b0 hcz14_0 hcz14_1 hcz14_2 hfz14_0 hfz14_1 hfz14_2 hx251_0 hx251_1 hx251_2 p251 q251)
     obtain ⟨x3_2,x27_2,rfl,HA,HK2,HO_3,BK247,BK252,HB⟩ := hrel
     cases gk with
     | zero => exact absurd HA.out (by simp [z3_.l1])
     | succ k2 =>
      have H := HA.out
      clear HA
      simp only [z3_.l1] at H
      by_cases c15 : x27_2 < (((y18 l0_0 x19_1).f2).length : Int)
      ·as_aux_lemma =>
       rw [if_pos c15] at H
       have c15b0 := decide_eq_true c15
       clear c15
       obtain ⟨c16,H⟩ := qo H
       have c16b0 : decide (0 ≤ x27_2) = true := decide_eq_true c16
       clear c16
       obtain ⟨c17,H⟩ := qo H
       have c17b0 : decide (x27_2 < (((y18 l0_0 x19_1).f2).length : Int)) = true := decide_eq_true c17
       clear c17
       obtain ⟨t254,A18,H⟩ := qB H
       by_cases c19 : t254 = true
       ·subst c19
        replace H := qT H
        obtain ⟨c20,H⟩ := qo H
        have c20b0 : decide (0 ≤ (rd ((y18 l0_0 x19_1).f2) x27_2)) = true := decide_eq_true c20
        clear c20
        obtain ⟨c21,H⟩ := qo H
        have c21b0 : decide ((rd ((y18 l0_0 x19_1).f2) x27_2) < (x3_2.length : Int)) = true := decide_eq_true c21
        clear c21
        obtain ⟨y256,hy256⟩ : ∃ y_ : List Int,y_ = (x3_2.set ((rd ((y18 l0_0 x19_1).f2) x27_2) : Int).toNat (wrap64 ((rd x3_2 (rd ((y18 l0_0 x19_1).f2) x27_2)) + 1))) := ⟨_,rfl⟩
        replace H : (z3_.l1 k2 y256 x19_1 l0_0 (l0_0.length : Int) x19_1 ((y18 l0_0 x19_1).f2) (((y18 l0_0 x19_1).f2).length : Int) (wrap64 (x27_2 + 1)) l0_0 a0_1 a0_2 l0_3 l0_4 ((y18 l0_0 x19_1).f0) ((y18 l0_0 x19_1).f1) ((y18 l0_0 x19_1).f2)) = some r := by first | (rw [hy256]; with_reducible exact H) | (have H2_ := (Option.bind_some _ _).symm.trans H; rw [hy256]; with_reducible exact H2_) | (have H2_ := (Option.bind_some _ _).symm.trans H; with_reducible exact H2_) | with_reducible exact H | (rw [hy256]; exact H) | exact H
        have Ny256 := y0.mk hy256
        clear hy256
        have H' := y0.mk H
        clear H
        have p253 : 0 ≤ (x27_2 : Int) := of_decide_eq_true qy1
        have q253 : x27_2 < (((y18 l0_0 x19_1).f2).length : Int) := of_decide_eq_true qy1
        obtain ⟨ad253,e253,hx253_0⟩ := Kd.at_int HR251_2.out x27_2 p253 q253
        cases e253
        replace hx253_0 := (HB.out.cell (World.block_lt_of_cell? w _ hx253_0)).trans hx253_0
        replace p253 := eq_true p253
        replace q253 := eq_true q253
        go_wp2_with (first | ((with_reducible refine y15 (f := 48) rfl ?_); refine y17 (some 34) rfl rfl Try.func48 (by kernel_rfl) rfl #[.int .i64 (rd ((y18 l0_0 x19_1).f2) x27_2),.int .i64 0,.int .i64 (wrap64 (x19_1 - 1))] rfl qy0 ?_; (with_reducible refine (impl_in.calls (rd ((y18 l0_0 x19_1).f2) x27_2) 0 (wrap64 (x19_1 - 1)) true _ A18.out).mono ?_); rintro e w' ⟨rfl,⟨nd,rfl⟩⟩; refine ⟨_,rfl, ?_⟩; (try (rw [drewN_self wr]; have e1_ : ∀ (n_ : Nat) (a_ : Addr),World.cell? wr a_ = World.cell? (World.drewN wr n_) a_ := fun _ _ => rfl; have e2_ : ∀ (n_ : Nat) (a_ : Addr),World.frozen? wr a_ = World.frozen? (World.drewN wr n_) a_ := fun _ _ => rfl; generalize hq_ : World.drewN wr _ = wr; have e3_ := (fun a_ => (e1_ _ a_).trans (congrArg (fun w_ => World.cell? w_ a_) hq_)); have e4_ := (fun a_ => (e2_ _ a_).trans (congrArg (fun w_ => World.frozen? w_ a_) hq_)); clear e1_ e2_; (try replace hx253_0 := (e3_ _).symm.trans hx253_0); skip; clear e3_ e4_; have n0_ : y0 (Kd.R (Kd.int .i64) 3 wr w.heap.size (fun _ => True) v249 x3_2) := ⟨by rw [← hq_]; exact (qR HO_3.out)⟩; have n1_ : y0 (wr.heap[gb247]? = some (.cells #[.slice (some ad251) l0_0.length c0_0,.int .i64 a0_1,.string a0_2,.slice A0_3 l0_3.length c0_3,.slice A0_4 l0_4.length c0_4] 35 (0,0))) := ⟨by rw [← hq_]; exact (qk BK247.out)⟩; have n2_ : y0 (wr.heap[gb252]? = some (.cells #[.int .i64 ((y18 l0_0 x19_1).f0),.string ((y18 l0_0 x19_1).f1),.slice (some ad253) ((y18 l0_0 x19_1).f2).length c251_2] 101 (0,0))) := ⟨by rw [← hq_]; exact (qk BK252.out)⟩; have n3_ : y0 (Below w.heap.size w wr) := ⟨by rw [← hq_]; exact qb⟩; clear HO_3 BK247 BK252 HB hq_; have HO_3 := n0_; have BK247 := n1_; have BK252 := n2_; have HB := n3_; clear n0_ n1_ n2_ n3_)); obtain ⟨Ao23,co23,eo23⟩ := Kd.R_slice HO_3.out; subst eo23; have p255 : 0 ≤ ((rd ((y18 l0_0 x19_1).f2) x27_2) : Int) := of_decide_eq_true qy1; have q255 : (rd ((y18 l0_0 x19_1).f2) x27_2) < (x3_2.length : Int) := of_decide_eq_true qy1; obtain ⟨ad255,e255,hx255_0⟩ := Kd.at_int (Kd.R_reads' HO_3.out).2.2 (rd ((y18 l0_0 x19_1).f2) x27_2) p255 q255; cases e255; replace p255 := eq_true p255; replace q255 := eq_true q255; have p22 : 0 ≤ ((rd ((y18 l0_0 x19_1).f2) x27_2) : Int) := of_decide_eq_true qy1; have q22 : ((rd ((y18 l0_0 x19_1).f2) x27_2) : Int) < ((x3_2.length : Int) : Int) := of_decide_eq_true qy1; obtain ⟨go22,co22,eo22,gb22,gl22,cl22,HG22⟩ := Kd.R_form HO_3.out (by omega); (first | cases eo22 | (injection eo22 with ea_ en_ ec_; (first | subst ea_ | (injection ea_ with ea_; subst ea_)); subst ec_; clear en_)); have GB22 := y0.mk gb22; have GG22 := y0.mk HG22; clear gb22 gl22 HG22; (first | simp only [add_plain] at hx255_0 | skip); obtain ⟨hx22_0,hf22_0⟩ := Kd.R_celln 0 HO_3.out ((rd ((y18 l0_0 x19_1).f2) x27_2) : Int) p22 q22; replace p22 := eq_true p22; replace q22 := eq_true q22; obtain ⟨hy24_,hz24_⟩ := Kd.R_celln 0 HO_3.out ((rd ((y18 l0_0 x19_1).f2) x27_2) : Int) (of_decide_eq_true qy1) (of_decide_eq_true qy1); have HP24 := Kd.R_putg HO_3.out ((rd ((y18 l0_0 x19_1).f2) x27_2) : Int) (wrap64 ((rd x3_2 (rd ((y18 l0_0 x19_1).f2) x27_2)) + 1))) | ((with_reducible refine gate_store (t := 3) (p := 41) rfl ?_); refine store_event (t := 3) (p := 41) (v := ?vo_w25) (w1 := (wr.setCell ⟨go22,((rd ((y18 l0_0 x19_1).f2) x27_2) : Int).toNat,none⟩ (.int .i64 (wrap64 ((rd x3_2 (rd ((y18 l0_0 x19_1).f2) x27_2)) + 1))))) ?hg ?ho ?hn ?hr ?_; (case ho => rfl); (case hg => rfl); (case hn => rfl); (case hr => first | (go_simp; done) | (go_simp; rfl)); intro w25 hw; have hg : wr.grownBy w25 (some go22) := (by rw [hw]; exact HP24.2); have hp_ : Kd.R (Kd.int .i64) 3 w25 w.heap.size (fun _ => True) (.slice (some ⟨go22,0,none⟩) x3_2.length co23) y256 := (by rw [hw,Ny256.out]; exact HP24.1); clear HP24; replace BK247 := y0.mk (blk_grown (qk BK247.out) hg (Kd.R_ne HO_3.out BK247.out (by decide))); replace BK252 := y0.mk (blk_grown (qk BK252.out) hg (Kd.R_ne HO_3.out BK252.out (by decide))); replace HO_3 := y0.mk (hp_); replace HB := y0.mk ((by rw [hw]; exact below_set (HB.out) GB22.out : Below w.heap.size w w25)); clear hg hw hp_))
        go_roundg k2
        case measure => have := HK1.out; have := HK2.out; omega
        exact ⟨(y256),(wrap64 (x27_2 + 1)),qy2,H',⟨by have := HK1.out; have := HK2.out; omega⟩,⟨qR HO_3.out⟩,⟨qk BK247.out⟩,⟨qk BK252.out⟩,⟨qb⟩⟩
       ·replace c19 := Bool.eq_false_iff.mpr c19
        subst c19
        replace H := qF H
        obtain rfl := Option.some.inj H
        have p253 : 0 ≤ (x27_2 : Int) := of_decide_eq_true qy1
        have q253 : x27_2 < (((y18 l0_0 x19_1).f2).length : Int) := of_decide_eq_true qy1
        obtain ⟨ad253,e253,hx253_0⟩ := Kd.at_int HR251_2.out x27_2 p253 q253
        cases e253
        replace hx253_0 := (HB.out.cell (World.block_lt_of_cell? w _ hx253_0)).trans hx253_0
        replace p253 := eq_true p253
        replace q253 := eq_true q253
        go_wp2_with (first | ((with_reducible refine y15 (f := 48) rfl ?_); refine y17 (some 34) rfl rfl Try.func48 (by kernel_rfl) rfl #[.int .i64 (rd ((y18 l0_0 x19_1).f2) x27_2),.int .i64 0,.int .i64 (wrap64 (x19_1 - 1))] rfl qy0 ?_; (with_reducible refine (impl_in.calls (rd ((y18 l0_0 x19_1).f2) x27_2) 0 (wrap64 (x19_1 - 1)) false _ A18.out).mono ?_); rintro e w' ⟨rfl,⟨nd,rfl⟩⟩; refine ⟨_,rfl, ?_⟩))
        go_ret
        exact ⟨by first | rfl | (simp [y12,y13] <;> rfl) | (simp [*,y12,y13] <;> rfl),qb⟩
      ·as_aux_lemma =>
       rw [if_neg c15] at H
       have c15b0 := decide_eq_false c15
       clear c15
       obtain ⟨t257,A26,H⟩ := qB H
       by_cases c27 : t257 = true
       ·subst c27
        replace H := qT H
        obtain ⟨t258,A28,H⟩ := qB H
        by_cases c29 : t258 = true
        ·subst c29
         replace H := qT H
         by_cases c30 : (((y18 l0_0 x19_1).f2).length : Int) = 2
         ·as_aux_lemma =>
          rw [if_pos c30] at H
          have c30b0 : ((((y18 l0_0 x19_1).f2).length : Int) == 2) = true := beq_iff_eq.mpr c30
          have c30b1 : ((((y18 l0_0 x19_1).f2).length : Int) != 2) = false := bne_eq_false_iff_eq.mpr c30
          clear c30
          obtain ⟨t259,A31,H⟩ := qB H
          by_cases c32 : t259 = true
          ·subst c32
           replace H := qT H
           by_cases c33 : (((y18 l0_0 x19_1).f2).length : Int) > 0
           ·as_aux_lemma =>
            rw [if_pos c33] at H
            have c33b0 : decide (0 < (((y18 l0_0 x19_1).f2).length : Int)) = true := decide_eq_true c33
            have c33b1 : decide (0 < ((y18 l0_0 x19_1).f2).length) = true := decide_eq_true (by omega)
            clear c33
            obtain rfl := Option.some.inj H
            have hnb34 := NB252_247.out
            have hnc34 := NB247_252.out
            obtain ⟨hcz35_0,hcz35_1,hcz35_2,hfz35_0,hfz35_1,hfz35_2⟩ := qz3 BK252.out
            go_wp2_with (first | ((with_reducible refine y15 (f := 48) rfl ?_); refine y17 (some 45) rfl rfl Try.func48 (by kernel_rfl) rfl #[.int .i64 ((y18 l0_0 x19_1).f0),.int .i64 1,.int .i64 7] rfl qy0 ?_; (with_reducible refine (impl_in.calls ((y18 l0_0 x19_1).f0) 1 7 true _ A26.out).mono ?_); rintro e w' ⟨rfl,⟨nd,rfl⟩⟩; refine ⟨_,rfl, ?_⟩) | (go_at_call 76; (with_reducible refine (impl_isSum.calls ((y18 l0_0 x19_1).f0) true _ A28.out).mono ?_); rintro e w' ⟨rfl,⟨nd,rfl⟩⟩) | (go_at_call 48; (with_reducible refine (impl_in.calls ((y18 l0_0 x19_1).f0) 1 3 true _ A31.out).mono ?_); rintro e w' ⟨rfl,⟨nd,rfl⟩⟩))
            go_ret
            exact ⟨by first | rfl | (simp [y12,y13] <;> rfl) | (simp [*,y12,y13] <;> rfl),qb⟩
           ·as_aux_lemma =>
            rw [if_neg c33] at H
            have c33b0 : decide (0 < (((y18 l0_0 x19_1).f2).length : Int)) = false := decide_eq_false c33
            have c33b1 : decide (0 < ((y18 l0_0 x19_1).f2).length) = false := decide_eq_false (by omega)
            clear c33
            have H' := y0.mk H
            clear H
            have hnb36 := NB252_247.out
            have hnc36 := NB247_252.out
            obtain ⟨hcz37_0,hcz37_1,hcz37_2,hfz37_0,hfz37_1,hfz37_2⟩ := qz3 BK252.out
            go_wp2_with (first | ((with_reducible refine y15 (f := 48) rfl ?_); refine y17 (some 45) rfl rfl Try.func48 (by kernel_rfl) rfl #[.int .i64 ((y18 l0_0 x19_1).f0),.int .i64 1,.int .i64 7] rfl qy0 ?_; (with_reducible refine (impl_in.calls ((y18 l0_0 x19_1).f0) 1 7 true _ A26.out).mono ?_); rintro e w' ⟨rfl,⟨nd,rfl⟩⟩; refine ⟨_,rfl, ?_⟩) | (go_at_call 76; (with_reducible refine (impl_isSum.calls ((y18 l0_0 x19_1).f0) true _ A28.out).mono ?_); rintro e w' ⟨rfl,⟨nd,rfl⟩⟩) | (go_at_call 48; (with_reducible refine (impl_in.calls ((y18 l0_0 x19_1).f0) 1 3 true _ A31.out).mono ?_); rintro e w' ⟨rfl,⟨nd,rfl⟩⟩))
            go_roundg k2
            case measure => have := HK1.out; have := HK2.out; omega
            exact ⟨(x3_2),(wrap64 (x19_1 + 1)),qy2,H',⟨by have := HK1.out; have := HK2.out; omega⟩,⟨qR HO_3.out⟩,⟨qk BK247.out⟩,⟨qb⟩⟩
          ·replace c32 := Bool.eq_false_iff.mpr c32
           subst c32
           replace H := qF H
           have H' := y0.mk H
           clear H
           have hnb38 := NB252_247.out
           have hnc38 := NB247_252.out
           obtain ⟨hcz39_0,hcz39_1,hcz39_2,hfz39_0,hfz39_1,hfz39_2⟩ := qz3 BK252.out
           go_wp2_with (first | ((with_reducible refine y15 (f := 48) rfl ?_); refine y17 (some 45) rfl rfl Try.func48 (by kernel_rfl) rfl #[.int .i64 ((y18 l0_0 x19_1).f0),.int .i64 1,.int .i64 7] rfl qy0 ?_; (with_reducible refine (impl_in.calls ((y18 l0_0 x19_1).f0) 1 7 true _ A26.out).mono ?_); rintro e w' ⟨rfl,⟨nd,rfl⟩⟩; refine ⟨_,rfl, ?_⟩) | (go_at_call 76; (with_reducible refine (impl_isSum.calls ((y18 l0_0 x19_1).f0) true _ A28.out).mono ?_); rintro e w' ⟨rfl,⟨nd,rfl⟩⟩) | (go_at_call 48; (with_reducible refine (impl_in.calls ((y18 l0_0 x19_1).f0) 1 3 false _ A31.out).mono ?_); rintro e w' ⟨rfl,⟨nd,rfl⟩⟩))
           go_roundg k2
           case measure => have := HK1.out; have := HK2.out; omega
           exact ⟨(x3_2),(wrap64 (x19_1 + 1)),qy2,H',⟨by have := HK1.out; have := HK2.out; omega⟩,⟨qR HO_3.out⟩,⟨qk BK247.out⟩,⟨qb⟩⟩
         ·as_aux_lemma =>
          rw [if_neg c30] at H
          have c30b0 : ((((y18 l0_0 x19_1).f2).length : Int) == 2) = false := beq_eq_false_iff_ne.mpr c30
          have c30b1 : ((((y18 l0_0 x19_1).f2).length : Int) != 2) = true := bne_iff_ne.mpr c30
          obtain rfl := Option.some.inj H
          have hnb40 := NB252_247.out
          have hnc40 := NB247_252.out
          obtain ⟨hcz41_0,hcz41_1,hcz41_2,hfz41_0,hfz41_1,hfz41_2⟩ := qz3 BK252.out
          go_wp2_with (first | ((with_reducible refine y15 (f := 48) rfl ?_); refine y17 (some 45) rfl rfl Try.func48 (by kernel_rfl) rfl #[.int .i64 ((y18 l0_0 x19_1).f0),.int .i64 1,.int .i64 7] rfl qy0 ?_; (with_reducible refine (impl_in.calls ((y18 l0_0 x19_1).f0) 1 7 true _ A26.out).mono ?_); rintro e w' ⟨rfl,⟨nd,rfl⟩⟩; refine ⟨_,rfl, ?_⟩) | (go_at_call 76; (with_reducible refine (impl_isSum.calls ((y18 l0_0 x19_1).f0) true _ A28.out).mono ?_); rintro e w' ⟨rfl,⟨nd,rfl⟩⟩))
          go_ret
          exact ⟨by first | rfl | (simp [y12,y13] <;> rfl) | (simp [*,y12,y13] <;> rfl),qb⟩
        ·replace c29 := Bool.eq_false_iff.mpr c29
         subst c29
         replace H := qF H
         obtain ⟨t260,A42,H⟩ := qB H
         by_cases c43 : t260 = true
         ·subst c43
          replace H := qT H
          by_cases c44 : (((y18 l0_0 x19_1).f2).length : Int) > 0
          ·as_aux_lemma =>
           rw [if_pos c44] at H
           have c44b0 : decide (0 < (((y18 l0_0 x19_1).f2).length : Int)) = true := decide_eq_true c44
           have c44b1 : decide (0 < ((y18 l0_0 x19_1).f2).length) = true := decide_eq_true (by omega)
           clear c44
           obtain rfl := Option.some.inj H
           have hnb45 := NB252_247.out
           have hnc45 := NB247_252.out
           obtain ⟨hcz46_0,hcz46_1,hcz46_2,hfz46_0,hfz46_1,hfz46_2⟩ := qz3 BK252.out
           go_wp2_with (first | ((with_reducible refine y15 (f := 48) rfl ?_); refine y17 (some 45) rfl rfl Try.func48 (by kernel_rfl) rfl #[.int .i64 ((y18 l0_0 x19_1).f0),.int .i64 1,.int .i64 7] rfl qy0 ?_; (with_reducible refine (impl_in.calls ((y18 l0_0 x19_1).f0) 1 7 true _ A26.out).mono ?_); rintro e w' ⟨rfl,⟨nd,rfl⟩⟩; refine ⟨_,rfl, ?_⟩) | (go_at_call 76; (with_reducible refine (impl_isSum.calls ((y18 l0_0 x19_1).f0) false _ A28.out).mono ?_); rintro e w' ⟨rfl,⟨nd,rfl⟩⟩) | (go_at_call 48; (with_reducible refine (impl_in.calls ((y18 l0_0 x19_1).f0) 1 3 true _ A42.out).mono ?_); rintro e w' ⟨rfl,⟨nd,rfl⟩⟩))
           go_ret
           exact ⟨by first | rfl | (simp [y12,y13] <;> rfl) | (simp [*,y12,y13] <;> rfl),qb⟩
          ·as_aux_lemma =>
           rw [if_neg c44] at H
           have c44b0 : decide (0 < (((y18 l0_0 x19_1).f2).length : Int)) = false := decide_eq_false c44
           have c44b1 : decide (0 < ((y18 l0_0 x19_1).f2).length) = false := decide_eq_false (by omega)
           clear c44
           have H' := y0.mk H
           clear H
           have hnb47 := NB252_247.out
           have hnc47 := NB247_252.out
           obtain ⟨hcz48_0,hcz48_1,hcz48_2,hfz48_0,hfz48_1,hfz48_2⟩ := qz3 BK252.out
           go_wp2_with (first | ((with_reducible refine y15 (f := 48) rfl ?_); refine y17 (some 45) rfl rfl Try.func48 (by kernel_rfl) rfl #[.int .i64 ((y18 l0_0 x19_1).f0),.int .i64 1,.int .i64 7] rfl qy0 ?_; (with_reducible refine (impl_in.calls ((y18 l0_0 x19_1).f0) 1 7 true _ A26.out).mono ?_); rintro e w' ⟨rfl,⟨nd,rfl⟩⟩; refine ⟨_,rfl, ?_⟩) | (go_at_call 76; (with_reducible refine (impl_isSum.calls ((y18 l0_0 x19_1).f0) false _ A28.out).mono ?_); rintro e w' ⟨rfl,⟨nd,rfl⟩⟩) | (go_at_call 48; (with_reducible refine (impl_in.calls ((y18 l0_0 x19_1).f0) 1 3 true _ A42.out).mono ?_); rintro e w' ⟨rfl,⟨nd,rfl⟩⟩))
           go_roundg k2
           case measure => have := HK1.out; have := HK2.out; omega
           exact ⟨(x3_2),(wrap64 (x19_1 + 1)),qy2,H',⟨by have := HK1.out; have := HK2.out; omega⟩,⟨qR HO_3.out⟩,⟨qk BK247.out⟩,⟨qb⟩⟩
         ·replace c43 := Bool.eq_false_iff.mpr c43
          subst c43
          replace H := qF H
          have H' := y0.mk H
          clear H
          have hnb49 := NB252_247.out
          have hnc49 := NB247_252.out
          obtain ⟨hcz50_0,hcz50_1,hcz50_2,hfz50_0,hfz50_1,hfz50_2⟩ := qz3 BK252.out
          go_wp2_with (first | ((with_reducible refine y15 (f := 48) rfl ?_); refine y17 (some 45) rfl rfl Try.func48 (by kernel_rfl) rfl #[.int .i64 ((y18 l0_0 x19_1).f0),.int .i64 1,.int .i64 7] rfl qy0 ?_; (with_reducible refine (impl_in.calls ((y18 l0_0 x19_1).f0) 1 7 true _ A26.out).mono ?_); rintro e w' ⟨rfl,⟨nd,rfl⟩⟩; refine ⟨_,rfl, ?_⟩) | (go_at_call 76; (with_reducible refine (impl_isSum.calls ((y18 l0_0 x19_1).f0) false _ A28.out).mono ?_); rintro e w' ⟨rfl,⟨nd,rfl⟩⟩) | (go_at_call 48; (with_reducible refine (impl_in.calls ((y18 l0_0 x19_1).f0) 1 3 false _ A42.out).mono ?_); rintro e w' ⟨rfl,⟨nd,rfl⟩⟩))
          go_roundg k2
          case measure => have := HK1.out; have := HK2.out; omega
          exact ⟨(x3_2),(wrap64 (x19_1 + 1)),qy2,H',⟨by have := HK1.out; have := HK2.out; omega⟩,⟨qR HO_3.out⟩,⟨qk BK247.out⟩,⟨qb⟩⟩
       ·replace c27 := Bool.eq_false_iff.mpr c27
        subst c27
        replace H := qF H
        obtain rfl := Option.some.inj H
        have hnb51 := NB252_247.out
        have hnc51 := NB247_252.out
        obtain ⟨hcz52_0,hcz52_1,hcz52_2,hfz52_0,hfz52_1,hfz52_2⟩ := qz3 BK252.out
        go_wp2_with (first | ((with_reducible refine y15 (f := 48) rfl ?_); refine y17 (some 45) rfl rfl Try.func48 (by kernel_rfl) rfl #[.int .i64 ((y18 l0_0 x19_1).f0),.int .i64 1,.int .i64 7] rfl qy0 ?_; (with_reducible refine (impl_in.calls ((y18 l0_0 x19_1).f0) 1 7 false _ A26.out).mono ?_); rintro e w' ⟨rfl,⟨nd,rfl⟩⟩; refine ⟨_,rfl, ?_⟩))
        go_ret
        exact ⟨by first | rfl | (simp [y12,y13] <;> rfl) | (simp [*,y12,y13] <;> rfl),qb⟩
   ·as_aux_lemma =>
    rw [if_neg c9] at H
    have c9b0 := decide_eq_false c9
    clear c9
    obtain ⟨t261,A53,H⟩ := qB H
    have H' := y0.mk H
    clear H
    obtain ⟨hcz54_0,hcz54_1,hcz54_2,hcz54_3,hcz54_4,hfz54_0,hfz54_1,hfz54_2,hfz54_3,hfz54_4⟩ := qz5 BK247.out
    go_wp2_with (first | ((with_reducible refine y15 (f := 77) rfl ?_); refine y17 (some 71) rfl rfl Try.func77 (by kernel_rfl) rfl #[.agg #[.slice A0_0 l0_0.length c0_0,.int .i64 a0_1,.string a0_2,.slice A0_3 l0_3.length c0_3,.slice A0_4 l0_4.length c0_4]] rfl qy0 ?_; (with_reducible refine (impl_Rule_lits.calls _ _ l0_0 a0_1 a0_2 (fun k_ => k_ < w.heap.size) _ _ l0_3 (fun k_ => k_ < w.heap.size) _ _ l0_4 t261 _ (qc (Kd.C_below HR0_0.out HB.out)) HC0_0.out (by exact Kd.V_mk HC0_3.out (Kd.F_below (Kd.C_F (Kd.heap_int .i64) HR0_3.out) qb)) (by exact Kd.V_mk HC0_4.out (Kd.F_below (Kd.C_F k32_heap HR0_4.out) qb)) A53.out).mono ?_); rintro e w55 ⟨v262,rfl,ho0,hb⟩; refine ⟨_,rfl, ?_⟩; have HO263 := y0.mk (Kd.N_lower (Kd.N_mono (ok' := fun k_ => some k_ ≠ (v249 : Value).ownBlock ∧ k_ ≠ gb247) ho0 (fun k_ hk_ => ⟨Or.elim hk_ (fun hs_ => Or.elim hs_ (fun hs_ => fun e_ => Nat.not_le.2 hs_ (Kd.R_base HO_3.out k_ e_.symm)) (fun hs_ => fun e_ => Nat.not_le.2 hs_ (Kd.R_base HO_3.out k_ e_.symm))) (fun hn_ => (Kd.fresh' (Kd.R_lt (qR HO_3.out)) k_ hn_)),Or.elim hk_ (fun hs_ => Or.elim hs_ (fun hs_ => fun e_ => Nat.not_le.2 hs_ (by rw [e_]; exact GW247.out)) (fun hs_ => fun e_ => Nat.not_le.2 hs_ (by rw [e_]; exact GW247.out))) (fun hn_ => (Kd.freshB (g := gb247) (o := .cells #[.slice A0_0 l0_0.length c0_0,.int .i64 a0_1,.string a0_2,.slice A0_3 l0_3.length c0_3,.slice A0_4 l0_4.length c0_4] 35 (0,0)) (qk BK247.out) k_ hn_))⟩)) (y3 qb)); replace HO_3 := y0.mk (Kd.R_below (qR HO_3.out) hb); replace BK247 := y0.mk (qK BK247.out hb); replace HB := y0.mk (y4 qb hb); (try clear hb); (try clear hb2); (try clear hk); (try clear hi); (try clear ho0); obtain ⟨Ao56,co56,eo56⟩ := Kd.N_slice HO263.out; subst eo56))
    go_loopg [73] k1 (fun kq v73 w' => ∃ (x3_2 : List Int) (x73_2 : Int),v73 = .int .i64 x73_2 ∧ y0 (z3_.l2 kq x3_2 t261 (t261.length : Int) x73_2 l0_0 a0_1 a0_2 l0_3 l0_4 = some r) ∧ y0 (kq ≤ k1) ∧ y0 (Kd.R (Kd.int .i64) 3 w' w.heap.size (fun _ => True) v249 x3_2) ∧ y0 (Kd.N k32 32 w' w.heap.size (fun k_ => some k_ ≠ (v249 : Value).ownBlock ∧ k_ ≠ gb247) (.slice Ao56 t261.length co56) t261) ∧ y0 (w'.heap[gb247]? = some (.cells #[(.slice A0_0 l0_0.length c0_0),.int .i64 a0_1,.string a0_2,(.slice A0_3 l0_3.length c0_3),(.slice A0_4 l0_4.length c0_4)] 35 (0,0))) ∧ y0 (Below w.heap.size w w'))
    case atStart => exact ⟨(x3_1),(0),qy2,H',⟨Nat.le_refl _⟩,⟨qR HO_3.out⟩,⟨qN HO263.out⟩,⟨qk BK247.out⟩,⟨qb⟩⟩
    case round =>
     clear H'
     (try clear c9b0 hcz54_0 hcz54_1 hcz54_2 hcz54_3 hcz54_4 hfz54_0 hfz54_1 hfz54_2 hfz54_3 hfz54_4)
     obtain ⟨x3_2,x73_2,rfl,HA,HK2,HO_3,HO_71,BK247,HB⟩ := hrel
     cases gk with
     | zero => exact absurd HA.out (by simp [z3_.l2])
     | succ k2 =>
      have H := HA.out
      clear HA
      simp only [z3_.l2] at H
      by_cases c57 : x73_2 < (t261.length : Int)
      ·as_aux_lemma =>
       rw [if_pos c57] at H
       have c57b0 := decide_eq_true c57
       clear c57
       obtain ⟨c58,H⟩ := qo H
       have c58b0 : decide (0 ≤ x73_2) = true := decide_eq_true c58
       clear c58
       obtain ⟨c59,H⟩ := qo H
       have c59b0 : decide (x73_2 < (t261.length : Int)) = true := decide_eq_true c59
       clear c59
       have HC60 := y0.mk H
       clear H
       have p265 : 0 ≤ (x73_2 : Int) := of_decide_eq_true qy1
       have q265 : x73_2 < (t261.length : Int) := of_decide_eq_true qy1
       obtain ⟨ad265,A265_2,c265_2,e265,hx265_0,hx265_1,hx265_2,hl265_2,hi265_2⟩ := at_T32 (Kd.N_reads' HO_71.out).2.2 x73_2 p265 q265
       cases e265
       obtain ⟨ce265,hce265,hMe265,hcc265⟩ := Kd.N_get HO_71.out z32 x73_2 p265 (by first | exact q265 | exact of_decide_eq_true qy1 | (have e_ := (Kd.N_reads' HO_71.out).1; omega))
       obtain ⟨ua265_2,uc265_2,rfl,ul265_2,ge265_2⟩ := k32_openF hMe265
       have hv265_2 := hcc265 2 _ rfl
       rw [add_field _ _ 2 (by omega)] at hv265_2
       replace hv265_2 := Option.some.inj (hv265_2.symm.trans hx265_2)
       injection hv265_2 with hva_ hvn_ hvc_
       rw [hva_] at ge265_2
       rw [hvc_] at ul265_2
       have HL265_2 := y0.mk (show Kd.V (Kd.int .i64) 3 _ w.heap.size _ _ ((y19 t261 x73_2).f2) from Kd.V_mk ul265_2 ge265_2)
       clear hva_ hvn_ hvc_ ge265_2 ul265_2
       clear hcc265 hce265
       have HR265_2 := y0.mk hi265_2
       have HC265_2 := y0.mk hl265_2
       clear hi265_2 hl265_2
       replace p265 := eq_true p265
       replace q265 := eq_true q265
       go_upto_region 18 with (first | ((with_reducible refine y16 (N := 9) rfl ?_); (try (refine gate_guard (by rfl) ?_; dsimp only)); refine qe 9 #[.int .i64 0,.string (⟨#[]⟩ : ByteArray),.slice none 0 0] 32 ?_; intro gb266 hg w61 hbox hb; replace HO_3 := y0.mk (Kd.R_below (qR HO_3.out) hb); replace HO_71 := y0.mk (Kd.N_below (Kd.N_elderB (qN HO_71.out) gb266 (Nat.le_of_eq hg.symm)) hb); replace HL265_2 := y0.mk (Kd.V_below (Kd.V_elderB (qV HL265_2.out) gb266 (Nat.le_of_eq hg.symm)) hb); replace HR265_2 := y0.mk (Kd.C_below (by repeat (first | (with_reducible exact HR265_2.out) | (with_reducible refine Kd.C_alloc ?_ _) | (with_reducible refine Kd.C_drewN ?_ _) | (with_reducible refine Kd.C_drew ?_) | exact HR265_2.out)) hb); have BK266 := y0.mk (hbox); have GW266 := y0.mk (qg (w := w) hg); have GE266 := y0.mk (qg (w := w) hg); replace HB := y0.mk (y4 qb hb); have NB247_266 := y0.mk (qn BK247.out hg); have NB266_247 := y0.mk (qm BK247.out hg); replace BK247 := y0.mk (qK BK247.out hb); clear hb hbox hg; have hnb62 := NB266_247.out; have hnc62 := NB247_266.out; obtain ⟨hcz63_0,hcz63_1,hcz63_2,hfz63_0,hfz63_1,hfz63_2⟩ := qz3 BK266.out))
       (try simp only [Act.put,qS_,qZ_,qC_])
       go_cut [101] (fun v101 wc => ∃ (kq : Nat) (x101_59 : Bool),v101 = .bool x101_59 ∧ y0 (z3_.j3 kq x3_2 t261 (t261.length : Int) x73_2 x101_59 l0_0 a0_1 a0_2 l0_3 l0_4 ((y19 t261 x73_2).f0) ((y19 t261 x73_2).f1) ((y19 t261 x73_2).f2) = some r) ∧ y0 (kq ≤ k2) ∧ y0 (Kd.R (Kd.int .i64) 3 wc w.heap.size (fun _ => True) v249 x3_2) ∧ y0 (Kd.N k32 32 wc w.heap.size (fun k_ => some k_ ≠ (v249 : Value).ownBlock ∧ k_ ≠ gb247 ∧ k_ ≠ gb266) (.slice (some ad265) t261.length co56) t261) ∧ y0 (Kd.V (Kd.int .i64) 3 wc w.heap.size (fun k_ => some k_ ≠ (v249 : Value).ownBlock ∧ some k_ ≠ ((.slice (some ad265) t261.length co56) : Value).ownBlock ∧ k_ ≠ gb247 ∧ k_ ≠ gb266) (.slice A265_2 ((y19 t261 x73_2).f2).length c265_2) ((y19 t261 x73_2).f2)) ∧ y0 (wc.heap[gb247]? = some (.cells #[(.slice A0_0 l0_0.length c0_0),.int .i64 a0_1,.string a0_2,(.slice A0_3 l0_3.length c0_3),(.slice A0_4 l0_4.length c0_4)] 35 (0,0))) ∧ y0 (wc.heap[gb266]? = some (.cells #[.int .i64 ((y19 t261 x73_2).f0),.string ((y19 t261 x73_2).f1),(.slice A265_2 ((y19 t261 x73_2).f2).length c265_2)] 32 (0,0))) ∧ y0 (Kd.C (Kd.int .i64) wc A265_2 ((y19 t261 x73_2).f2).length ((y19 t261 x73_2).f2)) ∧ y0 (Below w.heap.size w wc))
       case first =>
        have H := HC60.out
        clear HC60
        by_cases c64 : x73_2 = 0
        ·as_aux_lemma =>
         rw [if_pos c64] at H
         have c64b0 : (x73_2 == 0) = true := beq_iff_eq.mpr c64
         have c64b1 : (x73_2 != 0) = false := bne_eq_false_iff_eq.mpr c64
         clear c64
         (first | rw [c64b0] | (simp only [i64_w,i32_w]; rw [c64b0]) | skip)
         by_cases c65 : ((y19 t261 x73_2).f0) = 1
         ·as_aux_lemma =>
          rw [if_pos c65] at H
          have c65b0 : (((y19 t261 x73_2).f0) == 1) = true := beq_iff_eq.mpr c65
          have c65b1 : (((y19 t261 x73_2).f0) != 1) = false := bne_eq_false_iff_eq.mpr c65
          clear c65
          obtain ⟨t267,A66,H⟩ := qB H
          by_cases c67 : t267 = true
          ·subst c67
           replace H := qT H
           by_cases c68 : ((y19 t261 x73_2).f0) = 3
           ·as_aux_lemma =>
            rw [if_pos c68] at H
            have c68b0 : (((y19 t261 x73_2).f0) == 3) = true := beq_iff_eq.mpr c68
            have c68b1 : (((y19 t261 x73_2).f0) != 3) = false := bne_eq_false_iff_eq.mpr c68
            clear c68
            have H' := y0.mk H
            clear H
            have hnb69 := NB266_247.out
            have hnc69 := NB247_266.out
            obtain ⟨hcz70_0,hcz70_1,hcz70_2,hfz70_0,hfz70_1,hfz70_2⟩ := qz3 BK266.out
            go_wp2_with (first | (go_at_call 48; (with_reducible refine (impl_in.calls ((y19 t261 x73_2).f0) 1 3 true _ A66.out).mono ?_); rintro e w' ⟨rfl,⟨nd,rfl⟩⟩))
            go_meet
            exact ⟨_,(((((y19 t261 x73_2).f2).length : Int) != 2)),qy2,H',⟨by have := HK1.out; have := HK2.out; first | omega | exact Nat.le_refl _⟩,⟨qR (Kd.R_mono (Kd.R_far (p := ⟨gb266,2,none⟩) (Kd.R_far (p := ⟨gb266,1,none⟩) (Kd.R_far (p := ⟨gb266,0,none⟩) (Kd.R_types HO_3.out BK266.out (by decide)) (fun _ hk => hk.2) (.int .i64 ((y19 t261 x73_2).f0))) (fun _ hk => hk.2) (.string ((y19 t261 x73_2).f1))) (fun _ hk => hk.2) (.slice A265_2 ((y19 t261 x73_2).f2).length c265_2)) (fun _ hk => trivial))⟩,⟨qN (Kd.N_mono (Kd.N_far (p := ⟨gb266,2,none⟩) (Kd.N_far (p := ⟨gb266,1,none⟩) (Kd.N_far (p := ⟨gb266,0,none⟩) (Kd.N_mono HO_71.out (fun k_ hk => (⟨hk,hk.2⟩ : _ ∧ k_ ≠ gb266))) (fun _ hk => hk.2) (.int .i64 ((y19 t261 x73_2).f0))) (fun _ hk => hk.2) (.string ((y19 t261 x73_2).f1))) (fun _ hk => hk.2) (.slice A265_2 ((y19 t261 x73_2).f2).length c265_2)) (fun _ hk => ⟨hk.1.1.1,⟨hk.1.1.2,hk.1.2⟩⟩))⟩,⟨qV (Kd.V_mono (Kd.V_far (p := ⟨gb266,2,none⟩) (Kd.V_far (p := ⟨gb266,1,none⟩) (Kd.V_far (p := ⟨gb266,0,none⟩) (Kd.V_mono HL265_2.out (fun k_ hk => (⟨hk,hk.2⟩ : _ ∧ k_ ≠ gb266))) (fun _ hk => hk.2) (.int .i64 ((y19 t261 x73_2).f0))) (fun _ hk => hk.2) (.string ((y19 t261 x73_2).f1))) (fun _ hk => hk.2) (.slice A265_2 ((y19 t261 x73_2).f2).length c265_2)) (fun _ hk => ⟨hk.1.1.1.1,⟨hk.1.1.2,⟨hk.1.1.1.2,hk.1.2⟩⟩⟩))⟩,⟨by (with_reducible repeat (first | refine y9 ?_ _ | refine y8 ?_ | refine y5 ?_ _)); refine y10 ?_ NB247_266.out _; (with_reducible repeat (first | refine y9 ?_ _ | refine y8 ?_ | refine y5 ?_ _)); refine y10 ?_ NB247_266.out _; (with_reducible repeat (first | refine y9 ?_ _ | refine y8 ?_ | refine y5 ?_ _)); refine y10 ?_ NB247_266.out _; (with_reducible repeat (first | refine y9 ?_ _ | refine y8 ?_ | refine y5 ?_ _)); exact BK247.out⟩,⟨by (with_reducible repeat (first | refine y9 ?_ _ | refine y8 ?_ | refine y5 ?_ _)); refine y11 (cs := #[.int .i64 ((y19 t261 x73_2).f0),.string ((y19 t261 x73_2).f1),.slice none 0 0]) ?_ 2 _ rfl; (with_reducible repeat (first | refine y9 ?_ _ | refine y8 ?_ | refine y5 ?_ _)); refine y11 (cs := #[.int .i64 ((y19 t261 x73_2).f0),.string (⟨#[]⟩ : ByteArray),.slice none 0 0]) ?_ 1 _ rfl; (with_reducible repeat (first | refine y9 ?_ _ | refine y8 ?_ | refine y5 ?_ _)); refine y11 (cs := #[.int .i64 0,.string (⟨#[]⟩ : ByteArray),.slice none 0 0]) ?_ 0 _ rfl; (with_reducible repeat (first | refine y9 ?_ _ | refine y8 ?_ | refine y5 ?_ _)); exact BK266.out⟩,⟨(Kd.V_reads' (qV ((Kd.V_mono (Kd.V_far (p := ⟨gb266,2,none⟩) (Kd.V_far (p := ⟨gb266,1,none⟩) (Kd.V_far (p := ⟨gb266,0,none⟩) (Kd.V_mono HL265_2.out (fun k_ hk => (⟨hk,hk.2⟩ : _ ∧ k_ ≠ gb266))) (fun _ hk => hk.2) (.int .i64 ((y19 t261 x73_2).f0))) (fun _ hk => hk.2) (.string ((y19 t261 x73_2).f1))) (fun _ hk => hk.2) (.slice A265_2 ((y19 t261 x73_2).f2).length c265_2)) (fun _ h_ => h_.1))))).2.2⟩,⟨qb⟩⟩
           ·as_aux_lemma =>
            rw [if_neg c68] at H
            have c68b0 : (((y19 t261 x73_2).f0) == 3) = false := beq_eq_false_iff_ne.mpr c68
            have c68b1 : (((y19 t261 x73_2).f0) != 3) = true := bne_iff_ne.mpr c68
            have H' := y0.mk H
            clear H
            have hnb71 := NB266_247.out
            have hnc71 := NB247_266.out
            obtain ⟨hcz72_0,hcz72_1,hcz72_2,hfz72_0,hfz72_1,hfz72_2⟩ := qz3 BK266.out
            go_wp2_with (first | (go_at_call 48; (with_reducible refine (impl_in.calls ((y19 t261 x73_2).f0) 1 3 true _ A66.out).mono ?_); rintro e w' ⟨rfl,⟨nd,rfl⟩⟩))
            go_meet
            exact ⟨_,(false),qy2,H',⟨by have := HK1.out; have := HK2.out; first | omega | exact Nat.le_refl _⟩,⟨qR (Kd.R_mono (Kd.R_far (p := ⟨gb266,2,none⟩) (Kd.R_far (p := ⟨gb266,1,none⟩) (Kd.R_far (p := ⟨gb266,0,none⟩) (Kd.R_types HO_3.out BK266.out (by decide)) (fun _ hk => hk.2) (.int .i64 ((y19 t261 x73_2).f0))) (fun _ hk => hk.2) (.string ((y19 t261 x73_2).f1))) (fun _ hk => hk.2) (.slice A265_2 ((y19 t261 x73_2).f2).length c265_2)) (fun _ hk => trivial))⟩,⟨qN (Kd.N_mono (Kd.N_far (p := ⟨gb266,2,none⟩) (Kd.N_far (p := ⟨gb266,1,none⟩) (Kd.N_far (p := ⟨gb266,0,none⟩) (Kd.N_mono HO_71.out (fun k_ hk => (⟨hk,hk.2⟩ : _ ∧ k_ ≠ gb266))) (fun _ hk => hk.2) (.int .i64 ((y19 t261 x73_2).f0))) (fun _ hk => hk.2) (.string ((y19 t261 x73_2).f1))) (fun _ hk => hk.2) (.slice A265_2 ((y19 t261 x73_2).f2).length c265_2)) (fun _ hk => ⟨hk.1.1.1,⟨hk.1.1.2,hk.1.2⟩⟩))⟩,⟨qV (Kd.V_mono (Kd.V_far (p := ⟨gb266,2,none⟩) (Kd.V_far (p := ⟨gb266,1,none⟩) (Kd.V_far (p := ⟨gb266,0,none⟩) (Kd.V_mono HL265_2.out (fun k_ hk => (⟨hk,hk.2⟩ : _ ∧ k_ ≠ gb266))) (fun _ hk => hk.2) (.int .i64 ((y19 t261 x73_2).f0))) (fun _ hk => hk.2) (.string ((y19 t261 x73_2).f1))) (fun _ hk => hk.2) (.slice A265_2 ((y19 t261 x73_2).f2).length c265_2)) (fun _ hk => ⟨hk.1.1.1.1,⟨hk.1.1.2,⟨hk.1.1.1.2,hk.1.2⟩⟩⟩))⟩,⟨by (with_reducible repeat (first | refine y9 ?_ _ | refine y8 ?_ | refine y5 ?_ _)); refine y10 ?_ NB247_266.out _; (with_reducible repeat (first | refine y9 ?_ _ | refine y8 ?_ | refine y5 ?_ _)); refine y10 ?_ NB247_266.out _; (with_reducible repeat (first | refine y9 ?_ _ | refine y8 ?_ | refine y5 ?_ _)); refine y10 ?_ NB247_266.out _; (with_reducible repeat (first | refine y9 ?_ _ | refine y8 ?_ | refine y5 ?_ _)); exact BK247.out⟩,⟨by (with_reducible repeat (first | refine y9 ?_ _ | refine y8 ?_ | refine y5 ?_ _)); refine y11 (cs := #[.int .i64 ((y19 t261 x73_2).f0),.string ((y19 t261 x73_2).f1),.slice none 0 0]) ?_ 2 _ rfl; (with_reducible repeat (first | refine y9 ?_ _ | refine y8 ?_ | refine y5 ?_ _)); refine y11 (cs := #[.int .i64 ((y19 t261 x73_2).f0),.string (⟨#[]⟩ : ByteArray),.slice none 0 0]) ?_ 1 _ rfl; (with_reducible repeat (first | refine y9 ?_ _ | refine y8 ?_ | refine y5 ?_ _)); refine y11 (cs := #[.int .i64 0,.string (⟨#[]⟩ : ByteArray),.slice none 0 0]) ?_ 0 _ rfl; (with_reducible repeat (first | refine y9 ?_ _ | refine y8 ?_ | refine y5 ?_ _)); exact BK266.out⟩,⟨(Kd.V_reads' (qV ((Kd.V_mono (Kd.V_far (p := ⟨gb266,2,none⟩) (Kd.V_far (p := ⟨gb266,1,none⟩) (Kd.V_far (p := ⟨gb266,0,none⟩) (Kd.V_mono HL265_2.out (fun k_ hk => (⟨hk,hk.2⟩ : _ ∧ k_ ≠ gb266))) (fun _ hk => hk.2) (.int .i64 ((y19 t261 x73_2).f0))) (fun _ hk => hk.2) (.string ((y19 t261 x73_2).f1))) (fun _ hk => hk.2) (.slice A265_2 ((y19 t261 x73_2).f2).length c265_2)) (fun _ h_ => h_.1))))).2.2⟩,⟨qb⟩⟩
          ·replace c67 := Bool.eq_false_iff.mpr c67
           subst c67
           replace H := qF H
           have H' := y0.mk H
           clear H
           have hnb73 := NB266_247.out
           have hnc73 := NB247_266.out
           obtain ⟨hcz74_0,hcz74_1,hcz74_2,hfz74_0,hfz74_1,hfz74_2⟩ := qz3 BK266.out
           go_wp2_with (first | (go_at_call 48; (with_reducible refine (impl_in.calls ((y19 t261 x73_2).f0) 1 3 false _ A66.out).mono ?_); rintro e w' ⟨rfl,⟨nd,rfl⟩⟩))
           go_meet
           exact ⟨_,(true),qy2,H',⟨by have := HK1.out; have := HK2.out; first | omega | exact Nat.le_refl _⟩,⟨qR (Kd.R_mono (Kd.R_far (p := ⟨gb266,2,none⟩) (Kd.R_far (p := ⟨gb266,1,none⟩) (Kd.R_far (p := ⟨gb266,0,none⟩) (Kd.R_types HO_3.out BK266.out (by decide)) (fun _ hk => hk.2) (.int .i64 ((y19 t261 x73_2).f0))) (fun _ hk => hk.2) (.string ((y19 t261 x73_2).f1))) (fun _ hk => hk.2) (.slice A265_2 ((y19 t261 x73_2).f2).length c265_2)) (fun _ hk => trivial))⟩,⟨qN (Kd.N_mono (Kd.N_far (p := ⟨gb266,2,none⟩) (Kd.N_far (p := ⟨gb266,1,none⟩) (Kd.N_far (p := ⟨gb266,0,none⟩) (Kd.N_mono HO_71.out (fun k_ hk => (⟨hk,hk.2⟩ : _ ∧ k_ ≠ gb266))) (fun _ hk => hk.2) (.int .i64 ((y19 t261 x73_2).f0))) (fun _ hk => hk.2) (.string ((y19 t261 x73_2).f1))) (fun _ hk => hk.2) (.slice A265_2 ((y19 t261 x73_2).f2).length c265_2)) (fun _ hk => ⟨hk.1.1.1,⟨hk.1.1.2,hk.1.2⟩⟩))⟩,⟨qV (Kd.V_mono (Kd.V_far (p := ⟨gb266,2,none⟩) (Kd.V_far (p := ⟨gb266,1,none⟩) (Kd.V_far (p := ⟨gb266,0,none⟩) (Kd.V_mono HL265_2.out (fun k_ hk => (⟨hk,hk.2⟩ : _ ∧ k_ ≠ gb266))) (fun _ hk => hk.2) (.int .i64 ((y19 t261 x73_2).f0))) (fun _ hk => hk.2) (.string ((y19 t261 x73_2).f1))) (fun _ hk => hk.2) (.slice A265_2 ((y19 t261 x73_2).f2).length c265_2)) (fun _ hk => ⟨hk.1.1.1.1,⟨hk.1.1.2,⟨hk.1.1.1.2,hk.1.2⟩⟩⟩))⟩,⟨by (with_reducible repeat (first | refine y9 ?_ _ | refine y8 ?_ | refine y5 ?_ _)); refine y10 ?_ NB247_266.out _; (with_reducible repeat (first | refine y9 ?_ _ | refine y8 ?_ | refine y5 ?_ _)); refine y10 ?_ NB247_266.out _; (with_reducible repeat (first | refine y9 ?_ _ | refine y8 ?_ | refine y5 ?_ _)); refine y10 ?_ NB247_266.out _; (with_reducible repeat (first | refine y9 ?_ _ | refine y8 ?_ | refine y5 ?_ _)); exact BK247.out⟩,⟨by (with_reducible repeat (first | refine y9 ?_ _ | refine y8 ?_ | refine y5 ?_ _)); refine y11 (cs := #[.int .i64 ((y19 t261 x73_2).f0),.string ((y19 t261 x73_2).f1),.slice none 0 0]) ?_ 2 _ rfl; (with_reducible repeat (first | refine y9 ?_ _ | refine y8 ?_ | refine y5 ?_ _)); refine y11 (cs := #[.int .i64 ((y19 t261 x73_2).f0),.string (⟨#[]⟩ : ByteArray),.slice none 0 0]) ?_ 1 _ rfl; (with_reducible repeat (first | refine y9 ?_ _ | refine y8 ?_ | refine y5 ?_ _)); refine y11 (cs := #[.int .i64 0,.string (⟨#[]⟩ : ByteArray),.slice none 0 0]) ?_ 0 _ rfl; (with_reducible repeat (first | refine y9 ?_ _ | refine y8 ?_ | refine y5 ?_ _)); exact BK266.out⟩,⟨(Kd.V_reads' (qV ((Kd.V_mono (Kd.V_far (p := ⟨gb266,2,none⟩) (Kd.V_far (p := ⟨gb266,1,none⟩) (Kd.V_far (p := ⟨gb266,0,none⟩) (Kd.V_mono HL265_2.out (fun k_ hk => (⟨hk,hk.2⟩ : _ ∧ k_ ≠ gb266))) (fun _ hk => hk.2) (.int .i64 ((y19 t261 x73_2).f0))) (fun _ hk => hk.2) (.string ((y19 t261 x73_2).f1))) (fun _ hk => hk.2) (.slice A265_2 ((y19 t261 x73_2).f2).length c265_2)) (fun _ h_ => h_.1))))).2.2⟩,⟨qb⟩⟩
         ·as_aux_lemma =>
          rw [if_neg c65] at H
          have c65b0 : (((y19 t261 x73_2).f0) == 1) = false := beq_eq_false_iff_ne.mpr c65
          have c65b1 : (((y19 t261 x73_2).f0) != 1) = true := bne_iff_ne.mpr c65
          have H' := y0.mk H
          clear H
          have hnb75 := NB266_247.out
          have hnc75 := NB247_266.out
          obtain ⟨hcz76_0,hcz76_1,hcz76_2,hfz76_0,hfz76_1,hfz76_2⟩ := qz3 BK266.out
          go_wp2
          go_meet
          exact ⟨_,(true),qy2,H',⟨by have := HK1.out; have := HK2.out; first | omega | exact Nat.le_refl _⟩,⟨qR (Kd.R_mono (Kd.R_far (p := ⟨gb266,2,none⟩) (Kd.R_far (p := ⟨gb266,1,none⟩) (Kd.R_far (p := ⟨gb266,0,none⟩) (Kd.R_types HO_3.out BK266.out (by decide)) (fun _ hk => hk.2) (.int .i64 ((y19 t261 x73_2).f0))) (fun _ hk => hk.2) (.string ((y19 t261 x73_2).f1))) (fun _ hk => hk.2) (.slice A265_2 ((y19 t261 x73_2).f2).length c265_2)) (fun _ hk => trivial))⟩,⟨qN (Kd.N_mono (Kd.N_far (p := ⟨gb266,2,none⟩) (Kd.N_far (p := ⟨gb266,1,none⟩) (Kd.N_far (p := ⟨gb266,0,none⟩) (Kd.N_mono HO_71.out (fun k_ hk => (⟨hk,hk.2⟩ : _ ∧ k_ ≠ gb266))) (fun _ hk => hk.2) (.int .i64 ((y19 t261 x73_2).f0))) (fun _ hk => hk.2) (.string ((y19 t261 x73_2).f1))) (fun _ hk => hk.2) (.slice A265_2 ((y19 t261 x73_2).f2).length c265_2)) (fun _ hk => ⟨hk.1.1.1,⟨hk.1.1.2,hk.1.2⟩⟩))⟩,⟨qV (Kd.V_mono (Kd.V_far (p := ⟨gb266,2,none⟩) (Kd.V_far (p := ⟨gb266,1,none⟩) (Kd.V_far (p := ⟨gb266,0,none⟩) (Kd.V_mono HL265_2.out (fun k_ hk => (⟨hk,hk.2⟩ : _ ∧ k_ ≠ gb266))) (fun _ hk => hk.2) (.int .i64 ((y19 t261 x73_2).f0))) (fun _ hk => hk.2) (.string ((y19 t261 x73_2).f1))) (fun _ hk => hk.2) (.slice A265_2 ((y19 t261 x73_2).f2).length c265_2)) (fun _ hk => ⟨hk.1.1.1.1,⟨hk.1.1.2,⟨hk.1.1.1.2,hk.1.2⟩⟩⟩))⟩,⟨by (with_reducible repeat (first | refine y9 ?_ _ | refine y8 ?_ | refine y5 ?_ _)); refine y10 ?_ NB247_266.out _; (with_reducible repeat (first | refine y9 ?_ _ | refine y8 ?_ | refine y5 ?_ _)); refine y10 ?_ NB247_266.out _; (with_reducible repeat (first | refine y9 ?_ _ | refine y8 ?_ | refine y5 ?_ _)); refine y10 ?_ NB247_266.out _; (with_reducible repeat (first | refine y9 ?_ _ | refine y8 ?_ | refine y5 ?_ _)); exact BK247.out⟩,⟨by (with_reducible repeat (first | refine y9 ?_ _ | refine y8 ?_ | refine y5 ?_ _)); refine y11 (cs := #[.int .i64 ((y19 t261 x73_2).f0),.string ((y19 t261 x73_2).f1),.slice none 0 0]) ?_ 2 _ rfl; (with_reducible repeat (first | refine y9 ?_ _ | refine y8 ?_ | refine y5 ?_ _)); refine y11 (cs := #[.int .i64 ((y19 t261 x73_2).f0),.string (⟨#[]⟩ : ByteArray),.slice none 0 0]) ?_ 1 _ rfl; (with_reducible repeat (first | refine y9 ?_ _ | refine y8 ?_ | refine y5 ?_ _)); refine y11 (cs := #[.int .i64 0,.string (⟨#[]⟩ : ByteArray),.slice none 0 0]) ?_ 0 _ rfl; (with_reducible repeat (first | refine y9 ?_ _ | refine y8 ?_ | refine y5 ?_ _)); exact BK266.out⟩,⟨(Kd.V_reads' (qV ((Kd.V_mono (Kd.V_far (p := ⟨gb266,2,none⟩) (Kd.V_far (p := ⟨gb266,1,none⟩) (Kd.V_far (p := ⟨gb266,0,none⟩) (Kd.V_mono HL265_2.out (fun k_ hk => (⟨hk,hk.2⟩ : _ ∧ k_ ≠ gb266))) (fun _ hk => hk.2) (.int .i64 ((y19 t261 x73_2).f0))) (fun _ hk => hk.2) (.string ((y19 t261 x73_2).f1))) (fun _ hk => hk.2) (.slice A265_2 ((y19 t261 x73_2).f2).length c265_2)) (fun _ h_ => h_.1))))).2.2⟩,⟨qb⟩⟩
        ·as_aux_lemma =>
         rw [if_neg c64] at H
         have c64b0 : (x73_2 == 0) = false := beq_eq_false_iff_ne.mpr c64
         have c64b1 : (x73_2 != 0) = true := bne_iff_ne.mpr c64
         (first | rw [c64b0] | (simp only [i64_w,i32_w]; rw [c64b0]) | skip)
         obtain ⟨t268,A77,H⟩ := qB H
         by_cases c78 : t268 = true
         ·subst c78
          replace H := qT H
          by_cases c79 : ((y19 t261 x73_2).f0) = 3
          ·as_aux_lemma =>
           rw [if_pos c79] at H
           have c79b0 : (((y19 t261 x73_2).f0) == 3) = true := beq_iff_eq.mpr c79
           have c79b1 : (((y19 t261 x73_2).f0) != 3) = false := bne_eq_false_iff_eq.mpr c79
           clear c79
           have H' := y0.mk H
           clear H
           have hnb80 := NB266_247.out
           have hnc80 := NB247_266.out
           obtain ⟨hcz81_0,hcz81_1,hcz81_2,hfz81_0,hfz81_1,hfz81_2⟩ := qz3 BK266.out
           go_wp2_with (first | (go_at_call 48; (with_reducible refine (impl_in.calls ((y19 t261 x73_2).f0) 1 3 true _ A77.out).mono ?_); rintro e w' ⟨rfl,⟨nd,rfl⟩⟩))
           go_meet
           exact ⟨_,(((((y19 t261 x73_2).f2).length : Int) != 2)),qy2,H',⟨by have := HK1.out; have := HK2.out; first | omega | exact Nat.le_refl _⟩,⟨qR (Kd.R_mono (Kd.R_far (p := ⟨gb266,2,none⟩) (Kd.R_far (p := ⟨gb266,1,none⟩) (Kd.R_far (p := ⟨gb266,0,none⟩) (Kd.R_types HO_3.out BK266.out (by decide)) (fun _ hk => hk.2) (.int .i64 ((y19 t261 x73_2).f0))) (fun _ hk => hk.2) (.string ((y19 t261 x73_2).f1))) (fun _ hk => hk.2) (.slice A265_2 ((y19 t261 x73_2).f2).length c265_2)) (fun _ hk => trivial))⟩,⟨qN (Kd.N_mono (Kd.N_far (p := ⟨gb266,2,none⟩) (Kd.N_far (p := ⟨gb266,1,none⟩) (Kd.N_far (p := ⟨gb266,0,none⟩) (Kd.N_mono HO_71.out (fun k_ hk => (⟨hk,hk.2⟩ : _ ∧ k_ ≠ gb266))) (fun _ hk => hk.2) (.int .i64 ((y19 t261 x73_2).f0))) (fun _ hk => hk.2) (.string ((y19 t261 x73_2).f1))) (fun _ hk => hk.2) (.slice A265_2 ((y19 t261 x73_2).f2).length c265_2)) (fun _ hk => ⟨hk.1.1.1,⟨hk.1.1.2,hk.1.2⟩⟩))⟩,⟨qV (Kd.V_mono (Kd.V_far (p := ⟨gb266,2,none⟩) (Kd.V_far (p := ⟨gb266,1,none⟩) (Kd.V_far (p := ⟨gb266,0,none⟩) (Kd.V_mono HL265_2.out (fun k_ hk => (⟨hk,hk.2⟩ : _ ∧ k_ ≠ gb266))) (fun _ hk => hk.2) (.int .i64 ((y19 t261 x73_2).f0))) (fun _ hk => hk.2) (.string ((y19 t261 x73_2).f1))) (fun _ hk => hk.2) (.slice A265_2 ((y19 t261 x73_2).f2).length c265_2)) (fun _ hk => ⟨hk.1.1.1.1,⟨hk.1.1.2,⟨hk.1.1.1.2,hk.1.2⟩⟩⟩))⟩,⟨by (with_reducible repeat (first | refine y9 ?_ _ | refine y8 ?_ | refine y5 ?_ _)); refine y10 ?_ NB247_266.out _; (with_reducible repeat (first | refine y9 ?_ _ | refine y8 ?_ | refine y5 ?_ _)); refine y10 ?_ NB247_266.out _; (with_reducible repeat (first | refine y9 ?_ _ | refine y8 ?_ | refine y5 ?_ _)); refine y10 ?_ NB247_266.out _; (with_reducible repeat (first | refine y9 ?_ _ | refine y8 ?_ | refine y5 ?_ _)); exact BK247.out⟩,⟨by (with_reducible repeat (first | refine y9 ?_ _ | refine y8 ?_ | refine y5 ?_ _)); refine y11 (cs := #[.int .i64 ((y19 t261 x73_2).f0),.string ((y19 t261 x73_2).f1),.slice none 0 0]) ?_ 2 _ rfl; (with_reducible repeat (first | refine y9 ?_ _ | refine y8 ?_ | refine y5 ?_ _)); refine y11 (cs := #[.int .i64 ((y19 t261 x73_2).f0),.string (⟨#[]⟩ : ByteArray),.slice none 0 0]) ?_ 1 _ rfl; (with_reducible repeat (first | refine y9 ?_ _ | refine y8 ?_ | refine y5 ?_ _)); refine y11 (cs := #[.int .i64 0,.string (⟨#[]⟩ : ByteArray),.slice none 0 0]) ?_ 0 _ rfl; (with_reducible repeat (first | refine y9 ?_ _ | refine y8 ?_ | refine y5 ?_ _)); exact BK266.out⟩,⟨(Kd.V_reads' (qV ((Kd.V_mono (Kd.V_far (p := ⟨gb266,2,none⟩) (Kd.V_far (p := ⟨gb266,1,none⟩) (Kd.V_far (p := ⟨gb266,0,none⟩) (Kd.V_mono HL265_2.out (fun k_ hk => (⟨hk,hk.2⟩ : _ ∧ k_ ≠ gb266))) (fun _ hk => hk.2) (.int .i64 ((y19 t261 x73_2).f0))) (fun _ hk => hk.2) (.string ((y19 t261 x73_2).f1))) (fun _ hk => hk.2) (.slice A265_2 ((y19 t261 x73_2).f2).length c265_2)) (fun _ h_ => h_.1))))).2.2⟩,⟨qb⟩⟩
          ·as_aux_lemma =>
           rw [if_neg c79] at H
           have c79b0 : (((y19 t261 x73_2).f0) == 3) = false := beq_eq_false_iff_ne.mpr c79
           have c79b1 : (((y19 t261 x73_2).f0) != 3) = true := bne_iff_ne.mpr c79
           have H' := y0.mk H
           clear H
           have hnb82 := NB266_247.out
           have hnc82 := NB247_266.out
           obtain ⟨hcz83_0,hcz83_1,hcz83_2,hfz83_0,hfz83_1,hfz83_2⟩ := qz3 BK266.out
           go_wp2_with (first | (go_at_call 48; (with_reducible refine (impl_in.calls ((y19 t261 x73_2).f0) 1 3 true _ A77.out).mono ?_); rintro e w' ⟨rfl,⟨nd,rfl⟩⟩))
           go_meet
           exact ⟨_,(false),qy2,H',⟨by have := HK1.out; have := HK2.out; first | omega | exact Nat.le_refl _⟩,⟨qR (Kd.R_mono (Kd.R_far (p := ⟨gb266,2,none⟩) (Kd.R_far (p := ⟨gb266,1,none⟩) (Kd.R_far (p := ⟨gb266,0,none⟩) (Kd.R_types HO_3.out BK266.out (by decide)) (fun _ hk => hk.2) (.int .i64 ((y19 t261 x73_2).f0))) (fun _ hk => hk.2) (.string ((y19 t261 x73_2).f1))) (fun _ hk => hk.2) (.slice A265_2 ((y19 t261 x73_2).f2).length c265_2)) (fun _ hk => trivial))⟩,⟨qN (Kd.N_mono (Kd.N_far (p := ⟨gb266,2,none⟩) (Kd.N_far (p := ⟨gb266,1,none⟩) (Kd.N_far (p := ⟨gb266,0,none⟩) (Kd.N_mono HO_71.out (fun k_ hk => (⟨hk,hk.2⟩ : _ ∧ k_ ≠ gb266))) (fun _ hk => hk.2) (.int .i64 ((y19 t261 x73_2).f0))) (fun _ hk => hk.2) (.string ((y19 t261 x73_2).f1))) (fun _ hk => hk.2) (.slice A265_2 ((y19 t261 x73_2).f2).length c265_2)) (fun _ hk => ⟨hk.1.1.1,⟨hk.1.1.2,hk.1.2⟩⟩))⟩,⟨qV (Kd.V_mono (Kd.V_far (p := ⟨gb266,2,none⟩) (Kd.V_far (p := ⟨gb266,1,none⟩) (Kd.V_far (p := ⟨gb266,0,none⟩) (Kd.V_mono HL265_2.out (fun k_ hk => (⟨hk,hk.2⟩ : _ ∧ k_ ≠ gb266))) (fun _ hk => hk.2) (.int .i64 ((y19 t261 x73_2).f0))) (fun _ hk => hk.2) (.string ((y19 t261 x73_2).f1))) (fun _ hk => hk.2) (.slice A265_2 ((y19 t261 x73_2).f2).length c265_2)) (fun _ hk => ⟨hk.1.1.1.1,⟨hk.1.1.2,⟨hk.1.1.1.2,hk.1.2⟩⟩⟩))⟩,⟨by (with_reducible repeat (first | refine y9 ?_ _ | refine y8 ?_ | refine y5 ?_ _)); refine y10 ?_ NB247_266.out _; (with_reducible repeat (first | refine y9 ?_ _ | refine y8 ?_ | refine y5 ?_ _)); refine y10 ?_ NB247_266.out _; (with_reducible repeat (first | refine y9 ?_ _ | refine y8 ?_ | refine y5 ?_ _)); refine y10 ?_ NB247_266.out _; (with_reducible repeat (first | refine y9 ?_ _ | refine y8 ?_ | refine y5 ?_ _)); exact BK247.out⟩,⟨by (with_reducible repeat (first | refine y9 ?_ _ | refine y8 ?_ | refine y5 ?_ _)); refine y11 (cs := #[.int .i64 ((y19 t261 x73_2).f0),.string ((y19 t261 x73_2).f1),.slice none 0 0]) ?_ 2 _ rfl; (with_reducible repeat (first | refine y9 ?_ _ | refine y8 ?_ | refine y5 ?_ _)); refine y11 (cs := #[.int .i64 ((y19 t261 x73_2).f0),.string (⟨#[]⟩ : ByteArray),.slice none 0 0]) ?_ 1 _ rfl; (with_reducible repeat (first | refine y9 ?_ _ | refine y8 ?_ | refine y5 ?_ _)); refine y11 (cs := #[.int .i64 0,.string (⟨#[]⟩ : ByteArray),.slice none 0 0]) ?_ 0 _ rfl; (with_reducible repeat (first | refine y9 ?_ _ | refine y8 ?_ | refine y5 ?_ _)); exact BK266.out⟩,⟨(Kd.V_reads' (qV ((Kd.V_mono (Kd.V_far (p := ⟨gb266,2,none⟩) (Kd.V_far (p := ⟨gb266,1,none⟩) (Kd.V_far (p := ⟨gb266,0,none⟩) (Kd.V_mono HL265_2.out (fun k_ hk => (⟨hk,hk.2⟩ : _ ∧ k_ ≠ gb266))) (fun _ hk => hk.2) (.int .i64 ((y19 t261 x73_2).f0))) (fun _ hk => hk.2) (.string ((y19 t261 x73_2).f1))) (fun _ hk => hk.2) (.slice A265_2 ((y19 t261 x73_2).f2).length c265_2)) (fun _ h_ => h_.1))))).2.2⟩,⟨qb⟩⟩
         ·replace c78 := Bool.eq_false_iff.mpr c78
          subst c78
          replace H := qF H
          have H' := y0.mk H
          clear H
          have hnb84 := NB266_247.out
          have hnc84 := NB247_266.out
          obtain ⟨hcz85_0,hcz85_1,hcz85_2,hfz85_0,hfz85_1,hfz85_2⟩ := qz3 BK266.out
          go_wp2_with (first | (go_at_call 48; (with_reducible refine (impl_in.calls ((y19 t261 x73_2).f0) 1 3 false _ A77.out).mono ?_); rintro e w' ⟨rfl,⟨nd,rfl⟩⟩))
          go_meet
          exact ⟨_,(true),qy2,H',⟨by have := HK1.out; have := HK2.out; first | omega | exact Nat.le_refl _⟩,⟨qR (Kd.R_mono (Kd.R_far (p := ⟨gb266,2,none⟩) (Kd.R_far (p := ⟨gb266,1,none⟩) (Kd.R_far (p := ⟨gb266,0,none⟩) (Kd.R_types HO_3.out BK266.out (by decide)) (fun _ hk => hk.2) (.int .i64 ((y19 t261 x73_2).f0))) (fun _ hk => hk.2) (.string ((y19 t261 x73_2).f1))) (fun _ hk => hk.2) (.slice A265_2 ((y19 t261 x73_2).f2).length c265_2)) (fun _ hk => trivial))⟩,⟨qN (Kd.N_mono (Kd.N_far (p := ⟨gb266,2,none⟩) (Kd.N_far (p := ⟨gb266,1,none⟩) (Kd.N_far (p := ⟨gb266,0,none⟩) (Kd.N_mono HO_71.out (fun k_ hk => (⟨hk,hk.2⟩ : _ ∧ k_ ≠ gb266))) (fun _ hk => hk.2) (.int .i64 ((y19 t261 x73_2).f0))) (fun _ hk => hk.2) (.string ((y19 t261 x73_2).f1))) (fun _ hk => hk.2) (.slice A265_2 ((y19 t261 x73_2).f2).length c265_2)) (fun _ hk => ⟨hk.1.1.1,⟨hk.1.1.2,hk.1.2⟩⟩))⟩,⟨qV (Kd.V_mono (Kd.V_far (p := ⟨gb266,2,none⟩) (Kd.V_far (p := ⟨gb266,1,none⟩) (Kd.V_far (p := ⟨gb266,0,none⟩) (Kd.V_mono HL265_2.out (fun k_ hk => (⟨hk,hk.2⟩ : _ ∧ k_ ≠ gb266))) (fun _ hk => hk.2) (.int .i64 ((y19 t261 x73_2).f0))) (fun _ hk => hk.2) (.string ((y19 t261 x73_2).f1))) (fun _ hk => hk.2) (.slice A265_2 ((y19 t261 x73_2).f2).length c265_2)) (fun _ hk => ⟨hk.1.1.1.1,⟨hk.1.1.2,⟨hk.1.1.1.2,hk.1.2⟩⟩⟩))⟩,⟨by (with_reducible repeat (first | refine y9 ?_ _ | refine y8 ?_ | refine y5 ?_ _)); refine y10 ?_ NB247_266.out _; (with_reducible repeat (first | refine y9 ?_ _ | refine y8 ?_ | refine y5 ?_ _)); refine y10 ?_ NB247_266.out _; (with_reducible repeat (first | refine y9 ?_ _ | refine y8 ?_ | refine y5 ?_ _)); refine y10 ?_ NB247_266.out _; (with_reducible repeat (first | refine y9 ?_ _ | refine y8 ?_ | refine y5 ?_ _)); exact BK247.out⟩,⟨by (with_reducible repeat (first | refine y9 ?_ _ | refine y8 ?_ | refine y5 ?_ _)); refine y11 (cs := #[.int .i64 ((y19 t261 x73_2).f0),.string ((y19 t261 x73_2).f1),.slice none 0 0]) ?_ 2 _ rfl; (with_reducible repeat (first | refine y9 ?_ _ | refine y8 ?_ | refine y5 ?_ _)); refine y11 (cs := #[.int .i64 ((y19 t261 x73_2).f0),.string (⟨#[]⟩ : ByteArray),.slice none 0 0]) ?_ 1 _ rfl; (with_reducible repeat (first | refine y9 ?_ _ | refine y8 ?_ | refine y5 ?_ _)); refine y11 (cs := #[.int .i64 0,.string (⟨#[]⟩ : ByteArray),.slice none 0 0]) ?_ 0 _ rfl; (with_reducible repeat (first | refine y9 ?_ _ | refine y8 ?_ | refine y5 ?_ _)); exact BK266.out⟩,⟨(Kd.V_reads' (qV ((Kd.V_mono (Kd.V_far (p := ⟨gb266,2,none⟩) (Kd.V_far (p := ⟨gb266,1,none⟩) (Kd.V_far (p := ⟨gb266,0,none⟩) (Kd.V_mono HL265_2.out (fun k_ hk => (⟨hk,hk.2⟩ : _ ∧ k_ ≠ gb266))) (fun _ hk => hk.2) (.int .i64 ((y19 t261 x73_2).f0))) (fun _ hk => hk.2) (.string ((y19 t261 x73_2).f1))) (fun _ hk => hk.2) (.slice A265_2 ((y19 t261 x73_2).f2).length c265_2)) (fun _ h_ => h_.1))))).2.2⟩,⟨qb⟩⟩
       case rest =>
        clear HC60
        (try clear c57b0 c58b0 c59b0 hcz63_0 hcz63_1 hcz63_2 hfz63_0 hfz63_1 hfz63_2 hx265_0 hx265_1 hx265_2 p265 q265)
        obtain ⟨kq,x101_59,rfl,HA,HJ59,HO_3,HO_71,HO_267002,BK247,BK266,HR265_2,HB⟩ := hcut
        cases kq with
        | zero => exact absurd HA.out (by simp [z3_.j3])
        | succ kj59 =>
         have H := HA.out
         clear HA
         simp only [z3_.j3] at H
         by_cases c86 : x101_59 = true
         ·subst c86
          replace H := qT H
          obtain rfl := Option.some.inj H
          go_wp2
          go_ret
          exact ⟨by first | rfl | (simp [y12,y13] <;> rfl) | (simp [*,y12,y13] <;> rfl),qb⟩
         ·replace c86 := Bool.eq_false_iff.mpr c86
          subst c86
          replace H := qF H
          have H' := y0.mk H
          clear H
          have hnb87 := NB266_247.out
          have hnc87 := NB247_266.out
          obtain ⟨hcz88_0,hcz88_1,hcz88_2,hfz88_0,hfz88_1,hfz88_2⟩ := qz3 BK266.out
          go_wp2
          go_loopg [105] kj59 (fun kq v105 w' => ∃ (x3_4 : List Int) (x105_4 : Int),v105 = .int .i64 x105_4 ∧ y0 (z3_.l3 kq x3_4 t261 (t261.length : Int) x73_2 ((y19 t261 x73_2).f2) (((y19 t261 x73_2).f2).length : Int) x105_4 l0_0 a0_1 a0_2 l0_3 l0_4 = some r) ∧ y0 (kq ≤ kj59) ∧ y0 (Kd.R (Kd.int .i64) 3 w' w.heap.size (fun _ => True) v249 x3_4) ∧ y0 (Kd.N k32 32 w' w.heap.size (fun k_ => some k_ ≠ (v249 : Value).ownBlock ∧ k_ ≠ gb247 ∧ k_ ≠ gb266) (.slice (some ad265) t261.length co56) t261) ∧ y0 (Kd.V (Kd.int .i64) 3 w' w.heap.size (fun k_ => some k_ ≠ (v249 : Value).ownBlock ∧ some k_ ≠ ((.slice (some ad265) t261.length co56) : Value).ownBlock ∧ k_ ≠ gb247 ∧ k_ ≠ gb266) (.slice A265_2 ((y19 t261 x73_2).f2).length c265_2) ((y19 t261 x73_2).f2)) ∧ y0 (Kd.V (Kd.int .i64) 3 w' w.heap.size (fun k_ => some k_ ≠ (v249 : Value).ownBlock ∧ some k_ ≠ ((.slice (some ad265) t261.length co56) : Value).ownBlock ∧ k_ ≠ gb247 ∧ k_ ≠ gb266) (.slice A265_2 ((y19 t261 x73_2).f2).length c265_2) ((y19 t261 x73_2).f2)) ∧ y0 (w'.heap[gb247]? = some (.cells #[(.slice A0_0 l0_0.length c0_0),.int .i64 a0_1,.string a0_2,(.slice A0_3 l0_3.length c0_3),(.slice A0_4 l0_4.length c0_4)] 35 (0,0))) ∧ y0 (w'.heap[gb266]? = some (.cells #[.int .i64 ((y19 t261 x73_2).f0),.string ((y19 t261 x73_2).f1),(.slice A265_2 ((y19 t261 x73_2).f2).length c265_2)] 32 (0,0))) ∧ y0 (Below w.heap.size w w'))
          case atStart => exact ⟨(x3_2),(0),qy2,H',⟨Nat.le_refl _⟩,⟨qR HO_3.out⟩,⟨qN HO_71.out⟩,⟨qV HO_267002.out⟩,⟨qV HO_267002.out⟩,⟨qk BK247.out⟩,⟨qk BK266.out⟩,⟨qb⟩⟩
          case round =>
           clear H'
           (try clear c86 hcz88_0 hcz88_1 hcz88_2 hfz88_0 hfz88_1 hfz88_2)
           obtain ⟨x3_4,x105_4,rfl,HA,HK4,HO_3,HO_71,HO_103,HO_267002,BK247,BK266,HB⟩ := hrel
           cases gk with
           | zero => exact absurd HA.out (by simp [z3_.l3])
           | succ k4 =>
            have H := HA.out
            clear HA
            simp only [z3_.l3] at H
            by_cases c89 : x105_4 < (((y19 t261 x73_2).f2).length : Int)
            ·as_aux_lemma =>
             rw [if_pos c89] at H
             have c89b0 := decide_eq_true c89
             clear c89
             obtain ⟨c90,H⟩ := qo H
             have c90b0 : decide (0 ≤ x105_4) = true := decide_eq_true c90
             clear c90
             obtain ⟨c91,H⟩ := qo H
             have c91b0 : decide (x105_4 < (((y19 t261 x73_2).f2).length : Int)) = true := decide_eq_true c91
             clear c91
             obtain ⟨t270,A92,H⟩ := qB H
             by_cases c93 : t270 = true
             ·subst c93
              replace H := qT H
              obtain ⟨c94,H⟩ := qo H
              have c94b0 : decide (0 ≤ (rd ((y19 t261 x73_2).f2) x105_4)) = true := decide_eq_true c94
              clear c94
              obtain ⟨c95,H⟩ := qo H
              have c95b0 : decide ((rd ((y19 t261 x73_2).f2) x105_4) < (x3_4.length : Int)) = true := decide_eq_true c95
              clear c95
              obtain ⟨y272,hy272⟩ : ∃ y_ : List Int,y_ = (x3_4.set ((rd ((y19 t261 x73_2).f2) x105_4) : Int).toNat (wrap64 ((rd x3_4 (rd ((y19 t261 x73_2).f2) x105_4)) + 1))) := ⟨_,rfl⟩
              replace H : (z3_.l3 k4 y272 t261 (t261.length : Int) x73_2 ((y19 t261 x73_2).f2) (((y19 t261 x73_2).f2).length : Int) (wrap64 (x105_4 + 1)) l0_0 a0_1 a0_2 l0_3 l0_4) = some r := by first | (rw [hy272]; with_reducible exact H) | (have H2_ := (Option.bind_some _ _).symm.trans H; rw [hy272]; with_reducible exact H2_) | (have H2_ := (Option.bind_some _ _).symm.trans H; with_reducible exact H2_) | with_reducible exact H | (rw [hy272]; exact H) | exact H
              have Ny272 := y0.mk hy272
              clear hy272
              have H' := y0.mk H
              clear H
              have p269 : 0 ≤ (x105_4 : Int) := of_decide_eq_true qy1
              have q269 : x105_4 < (((y19 t261 x73_2).f2).length : Int) := of_decide_eq_true qy1
              obtain ⟨ad269,e269,hx269_0⟩ := Kd.at_int (Kd.V_reads' HO_103.out).2.2 x105_4 p269 q269
              cases e269
              replace p269 := eq_true p269
              replace q269 := eq_true q269
              have hnb97 := NB247_266.out
              have hnc97 := NB266_247.out
              obtain ⟨hcz98_0,hcz98_1,hcz98_2,hcz98_3,hcz98_4,hfz98_0,hfz98_1,hfz98_2,hfz98_3,hfz98_4⟩ := qz5 BK247.out
              go_wp2_with (first | ((with_reducible refine y15 (f := 48) rfl ?_); refine y17 (some 114) rfl rfl Try.func48 (by kernel_rfl) rfl #[.int .i64 (rd ((y19 t261 x73_2).f2) x105_4),.int .i64 0,.int .i64 (wrap64 ((l0_0.length : Int) - 1))] rfl qy0 ?_; (with_reducible refine (impl_in.calls (rd ((y19 t261 x73_2).f2) x105_4) 0 (wrap64 ((l0_0.length : Int) - 1)) true _ A92.out).mono ?_); rintro e w' ⟨rfl,⟨nd,rfl⟩⟩; refine ⟨_,rfl, ?_⟩; (try (rw [drewN_self wr]; have e1_ : ∀ (n_ : Nat) (a_ : Addr),World.cell? wr a_ = World.cell? (World.drewN wr n_) a_ := fun _ _ => rfl; have e2_ : ∀ (n_ : Nat) (a_ : Addr),World.frozen? wr a_ = World.frozen? (World.drewN wr n_) a_ := fun _ _ => rfl; generalize hq_ : World.drewN wr _ = wr; have e3_ := (fun a_ => (e1_ _ a_).trans (congrArg (fun w_ => World.cell? w_ a_) hq_)); have e4_ := (fun a_ => (e2_ _ a_).trans (congrArg (fun w_ => World.frozen? w_ a_) hq_)); clear e1_ e2_; (try replace hx269_0 := (e3_ _).symm.trans hx269_0); (try replace hcz98_0 := (e3_ _).symm.trans hcz98_0); (try replace hfz98_0 := (e4_ _).symm.trans hfz98_0); (try replace hcz98_1 := (e3_ _).symm.trans hcz98_1); (try replace hfz98_1 := (e4_ _).symm.trans hfz98_1); (try replace hcz98_2 := (e3_ _).symm.trans hcz98_2); (try replace hfz98_2 := (e4_ _).symm.trans hfz98_2); (try replace hcz98_3 := (e3_ _).symm.trans hcz98_3); (try replace hfz98_3 := (e4_ _).symm.trans hfz98_3); (try replace hcz98_4 := (e3_ _).symm.trans hcz98_4); (try replace hfz98_4 := (e4_ _).symm.trans hfz98_4); skip; clear e3_ e4_; have n0_ : y0 (Kd.V (Kd.int .i64) 3 wr w.heap.size (fun k_ => some k_ ≠ (v249 : Value).ownBlock ∧ some k_ ≠ (.slice (some ad265) t261.length co56 : Value).ownBlock ∧ k_ ≠ gb247 ∧ k_ ≠ gb266) (.slice (some ad269) ((y19 t261 x73_2).f2).length c265_2) ((y19 t261 x73_2).f2)) := ⟨by rw [← hq_]; exact (qV HO_103.out)⟩; have n1_ : y0 (Kd.V (Kd.int .i64) 3 wr w.heap.size (fun k_ => some k_ ≠ (v249 : Value).ownBlock ∧ some k_ ≠ (.slice (some ad265) t261.length co56 : Value).ownBlock ∧ k_ ≠ gb247 ∧ k_ ≠ gb266) (.slice (some ad269) ((y19 t261 x73_2).f2).length c265_2) ((y19 t261 x73_2).f2)) := ⟨by rw [← hq_]; exact (qV HO_267002.out)⟩; have n2_ : y0 (Kd.R (Kd.int .i64) 3 wr w.heap.size (fun _ => True) v249 x3_4) := ⟨by rw [← hq_]; exact (qR HO_3.out)⟩; have n3_ : y0 (Kd.N k32 32 wr w.heap.size (fun k_ => some k_ ≠ (v249 : Value).ownBlock ∧ k_ ≠ gb247 ∧ k_ ≠ gb266) (.slice (some ad265) t261.length co56) t261) := ⟨by rw [← hq_]; exact (qN HO_71.out)⟩; have n4_ : y0 (wr.heap[gb247]? = some (.cells #[.slice A0_0 l0_0.length c0_0,.int .i64 a0_1,.string a0_2,.slice A0_3 l0_3.length c0_3,.slice A0_4 l0_4.length c0_4] 35 (0,0))) := ⟨by rw [← hq_]; exact (qk BK247.out)⟩; have n5_ : y0 (wr.heap[gb266]? = some (.cells #[.int .i64 ((y19 t261 x73_2).f0),.string ((y19 t261 x73_2).f1),.slice (some ad269) ((y19 t261 x73_2).f2).length c265_2] 32 (0,0))) := ⟨by rw [← hq_]; exact (qk BK266.out)⟩; have n6_ : y0 (Below w.heap.size w wr) := ⟨by rw [← hq_]; exact qb⟩; clear HO_103 HO_267002 HO_3 HO_71 BK247 BK266 HB hq_; have HO_103 := n0_; have HO_267002 := n1_; have HO_3 := n2_; have HO_71 := n3_; have BK247 := n4_; have BK266 := n5_; have HB := n6_; clear n0_ n1_ n2_ n3_ n4_ n5_ n6_)); obtain ⟨Ao99,co99,eo99⟩ := Kd.R_slice HO_3.out; subst eo99; have p271 : 0 ≤ ((rd ((y19 t261 x73_2).f2) x105_4) : Int) := of_decide_eq_true qy1; have q271 : (rd ((y19 t261 x73_2).f2) x105_4) < (x3_4.length : Int) := of_decide_eq_true qy1; obtain ⟨ad271,e271,hx271_0⟩ := Kd.at_int (Kd.R_reads' HO_3.out).2.2 (rd ((y19 t261 x73_2).f2) x105_4) p271 q271; cases e271; replace p271 := eq_true p271; replace q271 := eq_true q271; have p96 : 0 ≤ ((rd ((y19 t261 x73_2).f2) x105_4) : Int) := of_decide_eq_true qy1; have q96 : ((rd ((y19 t261 x73_2).f2) x105_4) : Int) < ((x3_4.length : Int) : Int) := of_decide_eq_true qy1; obtain ⟨go96,co96,eo96,gb96,gl96,cl96,HG96⟩ := Kd.R_form HO_3.out (by omega); (first | cases eo96 | (injection eo96 with ea_ en_ ec_; (first | subst ea_ | (injection ea_ with ea_; subst ea_)); subst ec_; clear en_)); have GB96 := y0.mk gb96; have GG96 := y0.mk HG96; clear gb96 gl96 HG96; (first | simp only [add_plain] at hx271_0 | skip); obtain ⟨hx96_0,hf96_0⟩ := Kd.R_celln 0 HO_3.out ((rd ((y19 t261 x73_2).f2) x105_4) : Int) p96 q96; replace p96 := eq_true p96; replace q96 := eq_true q96; obtain ⟨hy100_,hz100_⟩ := Kd.R_celln 0 HO_3.out ((rd ((y19 t261 x73_2).f2) x105_4) : Int) (of_decide_eq_true qy1) (of_decide_eq_true qy1); have HP100 := Kd.R_putg HO_3.out ((rd ((y19 t261 x73_2).f2) x105_4) : Int) (wrap64 ((rd x3_4 (rd ((y19 t261 x73_2).f2) x105_4)) + 1))) | ((with_reducible refine gate_store (t := 3) (p := 121) rfl ?_); refine store_event (t := 3) (p := 121) (v := ?vo_w101) (w1 := (wr.setCell ⟨go96,((rd ((y19 t261 x73_2).f2) x105_4) : Int).toNat,none⟩ (.int .i64 (wrap64 ((rd x3_4 (rd ((y19 t261 x73_2).f2) x105_4)) + 1))))) ?hg ?ho ?hn ?hr ?_; (case ho => rfl); (case hg => rfl); (case hn => rfl); (case hr => first | (go_simp; done) | (go_simp; rfl)); intro w101 hw; have hg : wr.grownBy w101 (some go96) := (by rw [hw]; exact HP100.2); have hp_ : Kd.R (Kd.int .i64) 3 w101 w.heap.size (fun _ => True) (.slice (some ⟨go96,0,none⟩) x3_4.length co99) y272 := (by rw [hw,Ny272.out]; exact HP100.1); clear HP100; replace HO_71 := y0.mk (Kd.N_afterv (v := (.slice (some ⟨go96,0,none⟩) x3_4.length co99)) (v1 := (.slice (some ⟨go96,0,none⟩) x3_4.length co99)) (ok := (fun k_ => k_ ≠ gb247 ∧ k_ ≠ gb266)) (qN (Kd.N_mono HO_71.out (fun _ hk => ⟨⟨hk.2.1,hk.2.2⟩,hk.1⟩))) hg (.inl rfl)); replace HO_103 := y0.mk (Kd.V_afterv (v := (.slice (some ⟨go96,0,none⟩) x3_4.length co99)) (v1 := (.slice (some ⟨go96,0,none⟩) x3_4.length co99)) (ok := (fun k_ => some k_ ≠ (.slice (some ad265) t261.length co56 : Value).ownBlock ∧ k_ ≠ gb247 ∧ k_ ≠ gb266)) (qV (Kd.V_mono HO_103.out (fun _ hk => ⟨⟨hk.2.1,⟨hk.2.2.1,hk.2.2.2⟩⟩,hk.1⟩))) hg (.inl rfl)); replace HO_267002 := y0.mk (Kd.V_afterv (v := (.slice (some ⟨go96,0,none⟩) x3_4.length co99)) (v1 := (.slice (some ⟨go96,0,none⟩) x3_4.length co99)) (ok := (fun k_ => some k_ ≠ (.slice (some ad265) t261.length co56 : Value).ownBlock ∧ k_ ≠ gb247 ∧ k_ ≠ gb266)) (qV (Kd.V_mono HO_267002.out (fun _ hk => ⟨⟨hk.2.1,⟨hk.2.2.1,hk.2.2.2⟩⟩,hk.1⟩))) hg (.inl rfl)); replace BK247 := y0.mk (blk_grown (qk BK247.out) hg (Kd.R_ne HO_3.out BK247.out (by decide))); replace BK266 := y0.mk (blk_grown (qk BK266.out) hg (Kd.R_ne HO_3.out BK266.out (by decide))); replace HO_3 := y0.mk (hp_); replace HB := y0.mk ((by rw [hw]; exact below_set (HB.out) GB96.out : Below w.heap.size w w101)); clear hg hw hp_))
              go_roundg k4
              case measure => have := HK1.out; have := HK2.out; have := HJ59.out; have := HK4.out; omega
              exact ⟨(y272),(wrap64 (x105_4 + 1)),qy2,H',⟨by have := HK1.out; have := HK2.out; have := HJ59.out; have := HK4.out; omega⟩,⟨qR HO_3.out⟩,⟨qN (Kd.N_mono HO_71.out (fun _ hk => ⟨hk.2,⟨hk.1.1,hk.1.2⟩⟩))⟩,⟨qV (Kd.V_mono HO_103.out (fun _ hk => ⟨hk.2,⟨hk.1.1,⟨hk.1.2.1,hk.1.2.2⟩⟩⟩))⟩,⟨qV (Kd.V_mono HO_267002.out (fun _ hk => ⟨hk.2,⟨hk.1.1,⟨hk.1.2.1,hk.1.2.2⟩⟩⟩))⟩,⟨qk BK247.out⟩,⟨qk BK266.out⟩,⟨qb⟩⟩
             ·replace c93 := Bool.eq_false_iff.mpr c93
              subst c93
              replace H := qF H
              obtain rfl := Option.some.inj H
              have p269 : 0 ≤ (x105_4 : Int) := of_decide_eq_true qy1
              have q269 : x105_4 < (((y19 t261 x73_2).f2).length : Int) := of_decide_eq_true qy1
              obtain ⟨ad269,e269,hx269_0⟩ := Kd.at_int (Kd.V_reads' HO_103.out).2.2 x105_4 p269 q269
              cases e269
              replace p269 := eq_true p269
              replace q269 := eq_true q269
              have hnb102 := NB247_266.out
              have hnc102 := NB266_247.out
              obtain ⟨hcz103_0,hcz103_1,hcz103_2,hcz103_3,hcz103_4,hfz103_0,hfz103_1,hfz103_2,hfz103_3,hfz103_4⟩ := qz5 BK247.out
              go_wp2_with (first | ((with_reducible refine y15 (f := 48) rfl ?_); refine y17 (some 114) rfl rfl Try.func48 (by kernel_rfl) rfl #[.int .i64 (rd ((y19 t261 x73_2).f2) x105_4),.int .i64 0,.int .i64 (wrap64 ((l0_0.length : Int) - 1))] rfl qy0 ?_; (with_reducible refine (impl_in.calls (rd ((y19 t261 x73_2).f2) x105_4) 0 (wrap64 ((l0_0.length : Int) - 1)) false _ A92.out).mono ?_); rintro e w' ⟨rfl,⟨nd,rfl⟩⟩; refine ⟨_,rfl, ?_⟩))
              go_ret
              exact ⟨by first | rfl | (simp [y12,y13] <;> rfl) | (simp [*,y12,y13] <;> rfl),qb⟩
            ·as_aux_lemma =>
             rw [if_neg c89] at H
             have c89b0 := decide_eq_false c89
             clear c89
             have H' := y0.mk H
             clear H
             go_wp2
             go_roundg k4
             case measure => have := HK1.out; have := HK2.out; have := HJ59.out; have := HK4.out; omega
             exact ⟨(x3_4),(wrap64 (x73_2 + 1)),qy2,H',⟨by have := HK1.out; have := HK2.out; have := HJ59.out; have := HK4.out; omega⟩,⟨qR HO_3.out⟩,⟨qN (Kd.N_mono HO_71.out (fun _ hk => ⟨hk.1,hk.2.1⟩))⟩,⟨qk BK247.out⟩,⟨qb⟩⟩
      ·as_aux_lemma =>
       rw [if_neg c57] at H
       have c57b0 := decide_eq_false c57
       clear c57
       by_cases c104 : (l0_0.length : Int) ≤ 60
       ·as_aux_lemma =>
        rw [if_pos c104] at H
        have c104b0 := decide_eq_true c104
        have c104b1 : decide (l0_0.length ≤ 60) = true := decide_eq_true (by omega)
        clear c104
        obtain ⟨t264,A105,H⟩ := qB H
        obtain rfl := Option.some.inj H
        obtain ⟨hcz106_0,hcz106_1,hcz106_2,hcz106_3,hcz106_4,hfz106_0,hfz106_1,hfz106_2,hfz106_3,hfz106_4⟩ := qz5 BK247.out
        obtain ⟨Ao107,co107,eo107⟩ := Kd.R_slice HO_3.out
        subst eo107
        go_wp2_with (first | (go_at_call 78; (with_reducible refine (slices_ContainsFunc_int_int_impl_isFormed_1.calls k2 _ _ x3_2  t264 _ (qc ((Kd.R_reads' HO_3.out).2.2)) (by exact (Kd.R_reads' HO_3.out).2.1) A105.out).mono ?_); rintro e w' ⟨rfl,⟨nd,rfl⟩⟩))
        go_ret
        exact ⟨by first | rfl | (simp [y12,y13] <;> rfl) | (simp [*,y12,y13] <;> rfl),qb⟩
       ·as_aux_lemma =>
        rw [if_neg c104] at H
        have c104b0 := decide_eq_false c104
        have c104b1 : decide (l0_0.length ≤ 60) = false := decide_eq_false (by omega)
        clear c104
        obtain rfl := Option.some.inj H
        obtain ⟨hcz108_0,hcz108_1,hcz108_2,hcz108_3,hcz108_4,hfz108_0,hfz108_1,hfz108_2,hfz108_3,hfz108_4⟩ := qz5 BK247.out
        go_wp2
        go_ret
        exact ⟨by first | rfl | (simp [y12,y13] <;> rfl) | (simp [*,y12,y13] <;> rfl),qb⟩
end Go.Proofs.Ytamjmldfifofbaa.Pp
end
section
namespace Go.Proofs.Ytamjmldfifofbaa.Pp
open Go.RowKit Go.Proofs.YtamjmldfifofbaaW.PrintWords Go.Proofs.YtamjmldfifofbaaW.PrintLast Go.Proofs.YtamjmldfifofbaaW.PrintMore
attribute [local go_sem] max2_int min2_int max_two min_two max_three min_three max_four min_four   -- for this text's walks alone
set_option linter.unusedVariables false
set_option linter.unusedSimpArgs false
/-- strings.Join: a text within the model's room. -/
def strings_Join.f (l0 : List ByteArray) (a1 : ByteArray) : Option ByteArray := if (Lib.join (l0.map (·.data.toList)) a1.data.toList).length ≤ 140737488355328 then if l0.length ≤ 140737488355328 then some ⟨(Lib.join (l0.map (·.data.toList)) a1.data.toList).toArray⟩ else none else none
theorem strings_Join.calls (A0 : Option Addr) (c0 : Nat) (l0 : List ByteArray) (a1 : ByteArray) (r : ByteArray) (w : World) (hr0 : Kd.C Kd.string w A0 l0.length l0) (hc0 : l0.length ≤ c0) (h : strings_Join.f l0 a1 = some r) :
  Calls Try.prog 61 #[.slice A0 l0.length c0,.string a1] w fun e w' => e = .returned (.string r) ∧ Below w.heap.size w w' := by
 unfold strings_Join.f at h
 by_cases h0 : (Lib.join (l0.map (·.data.toList)) a1.data.toList).length ≤ 140737488355328
 ·by_cases h1 : l0.length ≤ 140737488355328
  ·rw [if_pos h0,if_pos h1] at h
   obtain rfl := Option.some.inj h
   cases l0 with
   | nil =>
    refine (Try.strings_Join_none A0 c0 a1 w).mono ?_
    rintro e w' ⟨rfl,rfl⟩
    exact ⟨rfl,Below.refl _ _⟩
   | cons x xs =>
    obtain ⟨⟨b,o,p⟩,rfl,hx⟩ := hr0.2.2 (by simp)
    have hcell : ∀ (j : Nat) y,(x :: xs)[j]? = some y → w.cell? ((⟨b,o,p⟩ : Addr).add j) = some (.string y) := by
     intro j y hy
     obtain ⟨c,hl,hK,hc⟩ := hx j y hy
     have e : c = [.string y] := hK
     have := hc 0 (.string y) (by rw [e]; rfl)
     simpa [Kd.string,Kd.scalar] using this
    have hp : p = none := by
     have h00 := hcell 0 x rfl
     cases p with
     | none => rfl
     | some q =>
      simp only [World.cell?,Addr.add] at h00
      split at h00 <;> simp at h00
    subst hp
    have hcell2 : ∀ (j : Nat) y,(x :: xs)[j]? = some y → w.cell? ⟨b,o + j,none⟩ = some (.string y) := by
     intro j y hy
     have := hcell j y hy
     have e : (⟨b,o,none⟩ : Addr).add j = ⟨b,o + j,none⟩ := by
      unfold Addr.add
      split <;> simp_all
     rwa [e] at this
    exact Try.strings_Join b o c0 (x :: xs) a1 w hcell2 (World.block_lt_of_cell? w _ (hcell2 0 x rfl)) h1 hc0 h0
  ·rw [if_pos h0,if_neg h1] at h
   cases h
 ·rw [if_neg h0] at h
  cases h
end Go.Proofs.Ytamjmldfifofbaa.Pp
end

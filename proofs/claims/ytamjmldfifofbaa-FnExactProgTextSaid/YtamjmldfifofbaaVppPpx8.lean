-- Cut by prune.py, a program of this session, out of the texts of this claim: Lean checks it.
import Derived.Test.YtamjmldfifofbaaVppPpx0
import Derived.Test.YtamjmldfifofbaaVppPpx3
import Derived.Test.YtamjmldfifofbaaVppPpx6
namespace Go.Proofs.Ytamjmldfifofbaa.Pp
open Go.RowKit Go.Proofs.YtamjmldfifofbaaW.PrintWords Go.Proofs.YtamjmldfifofbaaW.PrintLast Go.Proofs.YtamjmldfifofbaaW.PrintMore
attribute [local go_sem] max2_int min2_int max_two min_two max_three min_three max_four min_four   -- for this text's walks alone
set_option linter.unusedVariables false
set_option linter.unusedSimpArgs false
mutual
def z1_.l0 : Nat → List ByteArray → List Int → Int → Int → List (S101) → Int → ByteArray → List Int → List (S32) → Option (ByteArray)
 | 0,_,_,_,_,_,_,_,_,_ => none
 | k + 1,x5,x9,x10,x11,x274000,x274001,x274002,x274003,x274004 => if x11 < x10 then (if 0 ≤ x11 then (if x11 < (x9.length : Int) then ((z0_.f k x274000 x274001 x274002 x274003 x274004 (rd x9 x11)).bind fun t278 => (if x5.length < 8796093022208 then (z1_.l0 k (x5 ++ [t278]) x9 x10 (wrap64 (x11 + 1)) x274000 x274001 x274002 x274003 x274004) else (none))) else (none)) else (none)) else ((strings_Join.f x5 (⟨#[44,32]⟩ : ByteArray)).bind fun t282 => (some t282))
def z1_.f : Nat → List (S101) → Int → ByteArray → List Int → List (S32) → List Int → Option (ByteArray)
 | 0,_,_,_,_,_,_ => none
 | k + 1,l0_0,a0_1,a0_2,l0_3,l0_4,l1 => z1_.l0 k (([] : List ByteArray)) l1 (l1.length : Int) 0 l0_0 a0_1 a0_2 l0_3 l0_4
def impl_Rule_expText_1.f : Nat → Int → List (S101) → Int → ByteArray → List Int → List (S32) → Option (ByteArray)
 | 0,_,_,_,_,_,_ => none
 | k + 1,a0,l1_0,a1_1,a1_2,l1_3,l1_4 => if 0 ≤ a0 then (if a0 < (l1_0.length : Int) then ((impl_isSum.f ((y18 l1_0 a0).f0)).bind fun t284 => (if t284 = true then ((z0_.f k l1_0 a1_1 a1_2 l1_3 l1_4 a0).bind fun t285 => (if 1 + t285.size ≤ 9223372036854775807 then (if ((⟨#[40]⟩ : ByteArray) ++ t285).size + 1 ≤ 9223372036854775807 then (some (((⟨#[40]⟩ : ByteArray) ++ t285) ++ (⟨#[41]⟩ : ByteArray))) else (none)) else (none))) else ((z0_.f k l1_0 a1_1 a1_2 l1_3 l1_4 a0).bind fun t286 => (some t286)))) else (none)) else (none)
def z0_.j0 : Nat → Bool → List (S101) → Int → ByteArray → List Int → List (S32) → Int → ByteArray → List Int → Option (ByteArray)
 | 0,_,_,_,_,_,_,_,_,_ => none
 | k + 1,x31,x288000,x288001,x288002,x288003,x288004,x290000,x290001,x290002 => if x31 = true then (if 0 < (x290002.length : Int) then ((impl_Rule_expText_1.f k (rd x290002 0) x288000 x288001 x288002 x288003 x288004).bind fun t292 => (if t292.size + 1 ≤ 9223372036854775807 then ((some (([(⟨#[43]⟩ : ByteArray),(⟨#[45]⟩ : ByteArray),(⟨#[42]⟩ : ByteArray)] : List ByteArray) : List ByteArray)).bind fun y293 => (if 0 ≤ (wrap64 (x290000 - 5)) then (if (wrap64 (x290000 - 5)) < (y293.length : Int) then (if (t292 ++ (⟨#[32]⟩ : ByteArray)).size + (rdOf ByteArray.empty y293 (wrap64 (x290000 - 5))).size ≤ 9223372036854775807 then (if ((t292 ++ (⟨#[32]⟩ : ByteArray)) ++ (rdOf ByteArray.empty y293 (wrap64 (x290000 - 5)))).size + 1 ≤ 9223372036854775807 then (if 1 < (x290002.length : Int) then ((impl_Rule_expText_1.f k (rd x290002 1) x288000 x288001 x288002 x288003 x288004).bind fun t298 => (if (((t292 ++ (⟨#[32]⟩ : ByteArray)) ++ (rdOf ByteArray.empty y293 (wrap64 (x290000 - 5)))) ++ (⟨#[32]⟩ : ByteArray)).size + t298.size ≤ 9223372036854775807 then (some ((((t292 ++ (⟨#[32]⟩ : ByteArray)) ++ (rdOf ByteArray.empty y293 (wrap64 (x290000 - 5)))) ++ (⟨#[32]⟩ : ByteArray)) ++ t298)) else (none))) else (none)) else (none)) else (none)) else (none)) else (none))) else (none))) else (none)) else (some x290001)
def z0_.f : Nat → List (S101) → Int → ByteArray → List Int → List (S32) → Int → Option (ByteArray)
 | 0,_,_,_,_,_,_ => none
 | k + 1,l0_0,a0_1,a0_2,l0_3,l0_4,a1 => if 0 ≤ a1 then (if a1 < (l0_0.length : Int) then (if ((y18 l0_0 a1).f0) = 2 then (some (⟨#[95]⟩ : ByteArray)) else (if ((y18 l0_0 a1).f0) = 4 then (if (((y18 l0_0 a1).f2).length : Int) > 0 then (if ((y18 l0_0 a1).f1).size + 1 ≤ 9223372036854775807 then ((z1_.f k l0_0 a0_1 a0_2 l0_3 l0_4 ((y18 l0_0 a1).f2)).bind fun t290 => (if (((y18 l0_0 a1).f1) ++ (⟨#[40]⟩ : ByteArray)).size + t290.size ≤ 9223372036854775807 then (if ((((y18 l0_0 a1).f1) ++ (⟨#[40]⟩ : ByteArray)) ++ t290).size + 1 ≤ 9223372036854775807 then (some (((((y18 l0_0 a1).f1) ++ (⟨#[40]⟩ : ByteArray)) ++ t290) ++ (⟨#[41]⟩ : ByteArray))) else (none)) else (none))) else (none)) else (some ((y18 l0_0 a1).f1))) else (if ((y18 l0_0 a1).f0) = 5 then (z0_.j0 k (((y18 l0_0 a1).f0) == 5) l0_0 a0_1 a0_2 l0_3 l0_4 ((y18 l0_0 a1).f0) ((y18 l0_0 a1).f1) ((y18 l0_0 a1).f2)) else (if ((y18 l0_0 a1).f0) = 6 then (z0_.j0 k (((y18 l0_0 a1).f0) == 6) l0_0 a0_1 a0_2 l0_3 l0_4 ((y18 l0_0 a1).f0) ((y18 l0_0 a1).f1) ((y18 l0_0 a1).f2)) else (z0_.j0 k (((y18 l0_0 a1).f0) == 7) l0_0 a0_1 a0_2 l0_3 l0_4 ((y18 l0_0 a1).f0) ((y18 l0_0 a1).f1) ((y18 l0_0 a1).f2)))))) else (none)) else (none)
end
abbrev z1_.Stm (k : Nat) : Prop := ∀ (A0_0 : Option Addr) (c0_0 : Nat) (l0_0 : List (S101)) (a0_1 : Int) (a0_2 : ByteArray) (A0_3 : Option Addr) (c0_3 : Nat) (l0_3 : List Int) (A0_4 : Option Addr) (c0_4 : Nat) (l0_4 : List (S32)) (A1 : Option Addr) (c1 : Nat) (l1 : List Int) (r : ByteArray) (w : World) (hr0_0 : Kd.C k101 w A0_0 l0_0.length l0_0) (hc0_0 : l0_0.length ≤ c0_0) (hr0_3 : Kd.C (Kd.int .i64) w A0_3 l0_3.length l0_3) (hc0_3 : l0_3.length ≤ c0_3) (hr0_4 : Kd.C k32 w A0_4 l0_4.length l0_4) (hc0_4 : l0_4.length ≤ c0_4) (hr1 : Kd.C (Kd.int .i64) w A1 l1.length l1) (hc1 : l1.length ≤ c1) (h : z1_.f k l0_0 a0_1 a0_2 l0_3 l0_4 l1 = some r),
  Calls Try.prog 81 #[.agg #[.slice A0_0 l0_0.length c0_0,.int .i64 a0_1,.string a0_2,.slice A0_3 l0_3.length c0_3,.slice A0_4 l0_4.length c0_4],.slice A1 l1.length c1] w fun e w' => e = .returned (.string r) ∧ Below w.heap.size w w'
abbrev impl_Rule_expText_1.Stm (k : Nat) : Prop := ∀ (a0 : Int) (A1_0 : Option Addr) (c1_0 : Nat) (l1_0 : List (S101)) (a1_1 : Int) (a1_2 : ByteArray) (A1_3 : Option Addr) (c1_3 : Nat) (l1_3 : List Int) (A1_4 : Option Addr) (c1_4 : Nat) (l1_4 : List (S32)) (g1 : Nat) (r : ByteArray) (w : World) (hr1_0 : Kd.C k101 w A1_0 l1_0.length l1_0) (hc1_0 : l1_0.length ≤ c1_0) (hr1_3 : Kd.C (Kd.int .i64) w A1_3 l1_3.length l1_3) (hc1_3 : l1_3.length ≤ c1_3) (hr1_4 : Kd.C k32 w A1_4 l1_4.length l1_4) (hc1_4 : l1_4.length ≤ c1_4) (hbx1 : w.heap[g1]? = some (.cells #[.slice A1_0 l1_0.length c1_0,.int .i64 a1_1,.string a1_2,.slice A1_3 l1_3.length c1_3,.slice A1_4 l1_4.length c1_4] 35 (0,0))) (h : impl_Rule_expText_1.f k a0 l1_0 a1_1 a1_2 l1_3 l1_4 = some r),
  Calls Try.prog 93 #[.int .i64 a0,.pointer (some ⟨g1,0,none⟩)] w fun e w' => e = .returned (.string r) ∧ Below w.heap.size w w'
abbrev z0_.Stm (k : Nat) : Prop := ∀ (A0_0 : Option Addr) (c0_0 : Nat) (l0_0 : List (S101)) (a0_1 : Int) (a0_2 : ByteArray) (A0_3 : Option Addr) (c0_3 : Nat) (l0_3 : List Int) (A0_4 : Option Addr) (c0_4 : Nat) (l0_4 : List (S32)) (a1 : Int) (r : ByteArray) (w : World) (hr0_0 : Kd.C k101 w A0_0 l0_0.length l0_0) (hc0_0 : l0_0.length ≤ c0_0) (hr0_3 : Kd.C (Kd.int .i64) w A0_3 l0_3.length l0_3) (hc0_3 : l0_3.length ≤ c0_3) (hr0_4 : Kd.C k32 w A0_4 l0_4.length l0_4) (hc0_4 : l0_4.length ≤ c0_4) (h : z0_.f k l0_0 a0_1 a0_2 l0_3 l0_4 a1 = some r),
  Calls Try.prog 80 #[.agg #[.slice A0_0 l0_0.length c0_0,.int .i64 a0_1,.string a0_2,.slice A0_3 l0_3.length c0_3,.slice A0_4 l0_4.length c0_4],.int .i64 a1] w fun e w' => e = .returned (.string r) ∧ Below w.heap.size w w'
set_option maxHeartbeats 8000000 in
set_option maxRecDepth 100000 in
theorem z1_.step (k : Nat) (ih : ∀ m,m < k → z1_.Stm m) (ih_impl_Rule_expText_1 : ∀ m,m < k → impl_Rule_expText_1.Stm m) (ih_impl_Rule_expText : ∀ m,m < k → z0_.Stm m) : z1_.Stm k := by
 intro A0_0 c0_0 l0_0 a0_1 a0_2 A0_3 c0_3 l0_3 A0_4 c0_4 l0_4 A1 c1 l1 r w hr0_0 hc0_0 hr0_3 hc0_3 hr0_4 hc0_4 hr1 hc1 h
 cases k with
 | zero => exact absurd h (by simp [z1_.f])
 | succ k =>
 simp only [z1_.f] at h
 have hu35 := Try.underlying35
 have HR0_0 := y0.mk hr0_0
 have HC0_0 := y0.mk hc0_0
 clear hr0_0 hc0_0
 have HR0_3 := y0.mk hr0_3
 have HC0_3 := y0.mk hc0_3
 clear hr0_3 hc0_3
 have HR0_4 := y0.mk hr0_4
 have HC0_4 := y0.mk hc0_4
 clear hr0_4 hc0_4
 have HR1 := y0.mk hr1
 have HC1 := y0.mk hc1
 clear hr1 hc1
 have HB := y0.mk (Below.refl w.heap.size w)
 have H : (z1_.l0 k (([] : List ByteArray)) l1 (l1.length : Int) 0 l0_0 a0_1 a0_2 l0_3 l0_4) = some r := h
 clear h
 obtain ⟨y274,hy274⟩ : ∃ y_ : List ByteArray,y_ = (([] : List ByteArray)) := ⟨_,rfl⟩
 replace H : (z1_.l0 k y274 l1 (l1.length : Int) 0 l0_0 a0_1 a0_2 l0_3 l0_4) = some r := by first | (rw [hy274]; with_reducible exact H) | (have H2_ := (Option.bind_some _ _).symm.trans H; rw [hy274]; with_reducible exact H2_) | (have H2_ := (Option.bind_some _ _).symm.trans H; with_reducible exact H2_) | with_reducible exact H | (rw [hy274]; exact H) | exact H
 have Ny274 := y0.mk hy274
 clear hy274
 have H' := y0.mk H
 clear H
 go_enter Try.func81,Try.ntmps81
 go_wp2_with (first | ((with_reducible refine y16 (N := 2) rfl ?_); refine qe 2 #[.slice A0_0 l0_0.length c0_0,.int .i64 a0_1,.string a0_2,.slice A0_3 l0_3.length c0_3,.slice A0_4 l0_4.length c0_4] 35 ?_; intro gb273 hg w3 hbox hb; have BK273 := y0.mk (hbox); have GW273 := y0.mk (qg (w := w) hg); have GE273 := y0.mk (qg (w := w) hg); replace HB := y0.mk (y4 qb hb); clear hb hbox hg) | ((with_reducible refine y16 (N := 8) rfl ?_); refine Kd.R_lit Kd.string _ 9 ?hg (N := 8) ?hd (xs := ([] : List ByteArray)) (inner := []) (ok := fun _ => True) (okp := fun _ => True) ?hr ?hp (fun _ hk => hk) trivial (Below.refl _ _) (Nat.le_refl _) (by simp) ?_; (case hd => rfl); (case hg => rfl); (case hr => first | (go_simp; done) | (go_simp; rfl)); (case hp => exact (Reps.none _ _)); intro v275 w4 ho5 hb hg_ hnew_; clear hg_ hnew_; (first | rw [← Ny274.out] at ho5 | (simp only [Int.reduceToNat] at ho5; rw [← Ny274.out] at ho5)); have HO276 := y0.mk (Kd.R_lower ho5 (y3 qb)); replace BK273 := y0.mk (qK BK273.out hb); replace HB := y0.mk (y4 qb hb); clear hb ho5))
 go_loopg [5,11] k (fun kq v5 v11 w' => ∃ (x5_1 : List ByteArray) (x11_1 : Int),v11 = .int .i64 x11_1 ∧ y0 (z1_.l0 kq x5_1 l1 (l1.length : Int) x11_1 l0_0 a0_1 a0_2 l0_3 l0_4 = some r) ∧ y0 (kq ≤ k) ∧ y0 (Kd.R Kd.string 9 w' w.heap.size (fun _ => True) v5 x5_1) ∧ y0 (w'.heap[gb273]? = some (.cells #[(.slice A0_0 l0_0.length c0_0),.int .i64 a0_1,.string a0_2,(.slice A0_3 l0_3.length c0_3),(.slice A0_4 l0_4.length c0_4)] 35 (0,0))) ∧ y0 (Below w.heap.size w w'))
 case atStart => exact ⟨(y274),(0),qy2,H',⟨Nat.le_refl _⟩,⟨qR HO276.out⟩,⟨qk BK273.out⟩,⟨qb⟩⟩
 case round =>
  clear H'
  (try clear c1)
  obtain ⟨x5_1,x11_1,rfl,HA,HK1,HO_5,BK273,HB⟩ := hrel
  cases gk with
  | zero => exact absurd HA.out (by simp [z1_.l0])
  | succ k1 =>
   have H := HA.out
   clear HA
   simp only [z1_.l0] at H
   by_cases c6 : x11_1 < (l1.length : Int)
   ·rw [if_pos c6] at H
    have c6b0 := decide_eq_true c6
    clear c6
    obtain ⟨c7,H⟩ := qo H
    have c7b0 : decide (0 ≤ x11_1) = true := decide_eq_true c7
    clear c7
    obtain ⟨c8,H⟩ := qo H
    have c8b0 : decide (x11_1 < (l1.length : Int)) = true := decide_eq_true c8
    clear c8
    obtain ⟨t278,A9,H⟩ := qB H
    obtain ⟨c10,H⟩ := qo H
    have LMc10 := y0.mk c10
    clear c10
    obtain ⟨y279,hy279⟩ : ∃ y_ : List ByteArray,y_ = (x5_1 ++ [t278]) := ⟨_,rfl⟩
    replace H : (z1_.l0 k1 y279 l1 (l1.length : Int) (wrap64 (x11_1 + 1)) l0_0 a0_1 a0_2 l0_3 l0_4) = some r := by first | (rw [hy279]; with_reducible exact H) | (have H2_ := (Option.bind_some _ _).symm.trans H; rw [hy279]; with_reducible exact H2_) | (have H2_ := (Option.bind_some _ _).symm.trans H; with_reducible exact H2_) | with_reducible exact H | (rw [hy279]; exact H) | exact H
    have Ny279 := y0.mk hy279
    clear hy279
    have H' := y0.mk H
    clear H
    have p277 : 0 ≤ (x11_1 : Int) := of_decide_eq_true qy1
    have q277 : x11_1 < (l1.length : Int) := of_decide_eq_true qy1
    obtain ⟨ad277,e277,hx277_0⟩ := Kd.at_int HR1.out x11_1 p277 q277
    cases e277
    replace hx277_0 := (HB.out.cell (World.block_lt_of_cell? w _ hx277_0)).trans hx277_0
    replace p277 := eq_true p277
    replace q277 := eq_true q277
    obtain ⟨hcz11_0,hcz11_1,hcz11_2,hcz11_3,hcz11_4,hfz11_0,hfz11_1,hfz11_2,hfz11_3,hfz11_4⟩ := qz5 BK273.out
    go_wp2_with (first | ((with_reducible refine y15 (f := 80) rfl ?_); refine y17 (some 18) rfl rfl Try.func80 (by kernel_rfl) rfl #[.agg #[.slice A0_0 l0_0.length c0_0,.int .i64 a0_1,.string a0_2,.slice A0_3 l0_3.length c0_3,.slice A0_4 l0_4.length c0_4],.int .i64 (rd l1 x11_1)] rfl qy0 ?_; (with_reducible refine (ih_impl_Rule_expText k1 (by have := HK1.out; omega) _ _ l0_0 a0_1 a0_2 _ _ l0_3 _ _ l0_4 (rd l1 x11_1) t278 _ (qc (Kd.C_below HR0_0.out HB.out)) HC0_0.out (qc (Kd.C_below HR0_3.out HB.out)) HC0_3.out (qc (Kd.C_below HR0_4.out HB.out)) HC0_4.out A9.out).mono ?_); rintro e w12 ⟨rfl,hb⟩; refine ⟨_,rfl, ?_⟩; replace HO_5 := y0.mk (Kd.R_below (qR HO_5.out) hb); replace BK273 := y0.mk (qK BK273.out hb); replace HB := y0.mk (y4 qb hb); (try clear hb); (try clear hb2); (try clear hk); (try clear hi)) | ((with_reducible refine gate_builtin (b := .append) (xs := #[.tmp 15,.tmp 19]) rfl ?_); at_builtin; refine Kd.R_append Kd.string (w0 := w) w.heap.size rfl (.tmp 15) (.tmp 19) 54 9 (.string ⟨#[]⟩) 16 rfl Try.underlying54 info9 rfl (by decide) (by omega) u5 x5_1 t278 [.string t278] (fun _ => True) (fun _ => False) rfl rfl ?aP (fun _ hk => hk.elim) ?aF ?aO ?aB ?aS ?aL ?_; (case aP => exact rfl); (case aB => exact qb); (case aF => exact (fun _ _ => trivial)); (case aO => exact (qR HO_5.out)); (case aS => exact (y3 qb)); (case aL => have := LMc10.out; omega); intro v280 w13 ho hb hg hat; rw [← Ny279.out] at ho; replace BK273 := y0.mk (blk_grown (qk BK273.out) hg (Kd.R_ne HO_5.out BK273.out (by decide))); replace HB := y0.mk (hb); have HO281 := y0.mk (ho); clear HO_5; clear ho hb hg hat))
    go_roundg k1
    case measure => have := HK1.out; omega
    exact ⟨(y279),(wrap64 (x11_1 + 1)),qy2,H',⟨by have := HK1.out; omega⟩,⟨qR HO281.out⟩,⟨qk BK273.out⟩,⟨qb⟩⟩
   ·rw [if_neg c6] at H
    have c6b0 := decide_eq_false c6
    clear c6
    obtain ⟨t282,A14,H⟩ := qB H
    obtain rfl := Option.some.inj H
    obtain ⟨Ao15,co15,eo15⟩ := Kd.R_slice HO_5.out
    subst eo15
    go_wp2_with (first | ((with_reducible refine y15 (f := 61) rfl ?_); refine y17 (some 23) rfl rfl Try.func61 (by kernel_rfl) rfl #[.slice Ao15 x5_1.length co15,.string (⟨#[44,32]⟩ : ByteArray)] rfl qy0 ?_; (with_reducible refine (strings_Join.calls _ _ x5_1 (⟨#[44,32]⟩ : ByteArray) t282 _ (qc ((Kd.R_reads' HO_5.out).2.2)) (by exact (Kd.R_reads' HO_5.out).2.1) A14.out).mono ?_); rintro e w16 ⟨rfl,hb⟩; refine ⟨_,rfl, ?_⟩; replace HO_5 := y0.mk (Kd.R_below (qR HO_5.out) hb); replace BK273 := y0.mk (qK BK273.out hb); replace HB := y0.mk (y4 qb hb); (try clear hb); (try clear hb2); (try clear hk); (try clear hi)))
    go_ret
    exact ⟨by first | rfl | (simp [y12,y13] <;> rfl) | (simp [*,y12,y13] <;> rfl),qb⟩
set_option maxHeartbeats 8000000 in
set_option maxRecDepth 100000 in
theorem impl_Rule_expText_1.step (k : Nat) (ih_impl_Rule_expTexts : ∀ m,m < k → z1_.Stm m) (ih : ∀ m,m < k → impl_Rule_expText_1.Stm m) (ih_impl_Rule_expText : ∀ m,m < k → z0_.Stm m) : impl_Rule_expText_1.Stm k := by
 intro a0 A1_0 c1_0 l1_0 a1_1 a1_2 A1_3 c1_3 l1_3 A1_4 c1_4 l1_4 g1 r w hr1_0 hc1_0 hr1_3 hc1_3 hr1_4 hc1_4 hbx1 h
 cases k with
 | zero => exact absurd h (by simp [impl_Rule_expText_1.f])
 | succ k =>
 simp only [impl_Rule_expText_1.f] at h
 have hu35 := Try.underlying35
 have HR1_0 := y0.mk hr1_0
 have HC1_0 := y0.mk hc1_0
 clear hr1_0 hc1_0
 have HR1_3 := y0.mk hr1_3
 have HC1_3 := y0.mk hc1_3
 clear hr1_3 hc1_3
 have HR1_4 := y0.mk hr1_4
 have HC1_4 := y0.mk hc1_4
 clear hr1_4 hc1_4
 have BK1 := y0.mk hbx1
 clear hbx1
 have HB := y0.mk (Below.refl w.heap.size w)
 have H : (if 0 ≤ a0 then (if a0 < (l1_0.length : Int) then ((impl_isSum.f ((y18 l1_0 a0).f0)).bind fun t284 => (if t284 = true then ((z0_.f k l1_0 a1_1 a1_2 l1_3 l1_4 a0).bind fun t285 => (if 1 + t285.size ≤ 9223372036854775807 then (if ((⟨#[40]⟩ : ByteArray) ++ t285).size + 1 ≤ 9223372036854775807 then (some (((⟨#[40]⟩ : ByteArray) ++ t285) ++ (⟨#[41]⟩ : ByteArray))) else (none)) else (none))) else ((z0_.f k l1_0 a1_1 a1_2 l1_3 l1_4 a0).bind fun t286 => (some t286)))) else (none)) else (none)) = some r := h
 clear h
 obtain ⟨c3,H⟩ := qo H
 have c3b0 : decide (0 ≤ a0) = true := decide_eq_true c3
 clear c3
 obtain ⟨c4,H⟩ := qo H
 have c4b0 : decide (a0 < (l1_0.length : Int)) = true := decide_eq_true c4
 clear c4
 obtain ⟨t284,A5,H⟩ := qB H
 by_cases c6 : t284 = true
 ·subst c6
  replace H := qT H
  obtain ⟨t285,A7,H⟩ := qB H
  obtain ⟨c8,H⟩ := qo H
  have c8b0 := eq_true c8
  have c8b1 := decide_eq_true c8
  have c8b2 := eq_false (Nat.not_lt.2 c8)
  obtain ⟨c9,H⟩ := qo H
  have c9b0 := eq_true c9
  have c9b1 := decide_eq_true c9
  have c9b2 := eq_false (Nat.not_lt.2 c9)
  have c9b3 : (9223372036854775807 < 1 + t285.size + 1) = False := qs c9b2
  obtain rfl := Option.some.inj H
  obtain ⟨hcz10_0,hcz10_1,hcz10_2,hcz10_3,hcz10_4,hfz10_0,hfz10_1,hfz10_2,hfz10_3,hfz10_4⟩ := qz5 BK1.out
  have p283 : 0 ≤ (a0 : Int) := of_decide_eq_true qy1
  have q283 : a0 < (l1_0.length : Int) := of_decide_eq_true qy1
  obtain ⟨ad283,A283_2,c283_2,e283,hx283_0,hx283_1,hx283_2,hl283_2,hi283_2⟩ := at_T101 HR1_0.out a0 p283 q283
  cases e283
  have HR283_2 := y0.mk hi283_2
  have HC283_2 := y0.mk hl283_2
  clear hi283_2 hl283_2
  replace p283 := eq_true p283
  replace q283 := eq_true q283
  go_enter Try.func93,Try.ntmps93
  go_wp2_with (first | ((with_reducible refine y15 (f := 76) rfl ?_); refine y17 (some 10) rfl rfl Try.func76 (by kernel_rfl) rfl #[.int .i64 ((y18 l1_0 a0).f0)] rfl qy0 ?_; (with_reducible refine (impl_isSum.calls ((y18 l1_0 a0).f0) true _ A5.out).mono ?_); rintro e w' ⟨rfl,⟨nd,rfl⟩⟩; refine ⟨_,rfl, ?_⟩) | ((with_reducible refine y15 (f := 80) rfl ?_); refine y17 (some 13) rfl rfl Try.func80 (by kernel_rfl) rfl #[.agg #[.slice (some ad283) l1_0.length c1_0,.int .i64 a1_1,.string a1_2,.slice A1_3 l1_3.length c1_3,.slice A1_4 l1_4.length c1_4],.int .i64 a0] rfl qy0 ?_; (with_reducible refine (ih_impl_Rule_expText k (by omega) _ _ l1_0 a1_1 a1_2 _ _ l1_3 _ _ l1_4 a0 t285 _ (qc HR1_0.out) HC1_0.out (qc HR1_3.out) HC1_3.out (qc HR1_4.out) HC1_4.out A7.out).mono ?_); rintro e w11 ⟨rfl,hb⟩; refine ⟨_,rfl, ?_⟩; replace BK1 := y0.mk (qK BK1.out hb); replace HB := y0.mk (y4 qb hb); (try clear hb); (try clear hb2); (try clear hk); (try clear hi)))
  go_ret
  exact ⟨by first | rfl | (simp [y12,y13] <;> rfl) | (simp [*,y12,y13] <;> rfl),qb⟩
 ·replace c6 := Bool.eq_false_iff.mpr c6
  subst c6
  replace H := qF H
  obtain ⟨t286,A12,H⟩ := qB H
  obtain rfl := Option.some.inj H
  obtain ⟨hcz13_0,hcz13_1,hcz13_2,hcz13_3,hcz13_4,hfz13_0,hfz13_1,hfz13_2,hfz13_3,hfz13_4⟩ := qz5 BK1.out
  have p283 : 0 ≤ (a0 : Int) := of_decide_eq_true qy1
  have q283 : a0 < (l1_0.length : Int) := of_decide_eq_true qy1
  obtain ⟨ad283,A283_2,c283_2,e283,hx283_0,hx283_1,hx283_2,hl283_2,hi283_2⟩ := at_T101 HR1_0.out a0 p283 q283
  cases e283
  have HR283_2 := y0.mk hi283_2
  have HC283_2 := y0.mk hl283_2
  clear hi283_2 hl283_2
  replace p283 := eq_true p283
  replace q283 := eq_true q283
  go_enter Try.func93,Try.ntmps93
  go_wp2_with (first | ((with_reducible refine y15 (f := 76) rfl ?_); refine y17 (some 10) rfl rfl Try.func76 (by kernel_rfl) rfl #[.int .i64 ((y18 l1_0 a0).f0)] rfl qy0 ?_; (with_reducible refine (impl_isSum.calls ((y18 l1_0 a0).f0) false _ A5.out).mono ?_); rintro e w' ⟨rfl,⟨nd,rfl⟩⟩; refine ⟨_,rfl, ?_⟩) | ((with_reducible refine y15 (f := 80) rfl ?_); refine y17 (some 18) rfl rfl Try.func80 (by kernel_rfl) rfl #[.agg #[.slice (some ad283) l1_0.length c1_0,.int .i64 a1_1,.string a1_2,.slice A1_3 l1_3.length c1_3,.slice A1_4 l1_4.length c1_4],.int .i64 a0] rfl qy0 ?_; (with_reducible refine (ih_impl_Rule_expText k (by omega) _ _ l1_0 a1_1 a1_2 _ _ l1_3 _ _ l1_4 a0 t286 _ (qc HR1_0.out) HC1_0.out (qc HR1_3.out) HC1_3.out (qc HR1_4.out) HC1_4.out A12.out).mono ?_); rintro e w14 ⟨rfl,hb⟩; refine ⟨_,rfl, ?_⟩; replace BK1 := y0.mk (qK BK1.out hb); replace HB := y0.mk (y4 qb hb); (try clear hb); (try clear hb2); (try clear hk); (try clear hi)))
  go_ret
  exact ⟨by first | rfl | (simp [y12,y13] <;> rfl) | (simp [*,y12,y13] <;> rfl),qb⟩
def z0_.T7 : Bool × List (List Nat × List Nat) := (true,[([],[]),([0],[0]),([1],[1]),([],[]),([],[]),([4],[4]),([3,5],[3,5]),([2,6],[2,6]),([7],[7]),([8,6,0,1,2,3,4,5,6,7,8],[8])])
def z0_.B7 : List Nat := [0,1,3,0,0,16,56,127,255,511]
theorem z0_.tab7 : rtab .any (opsOf Try.f80 7) = z0_.T7 := by kernel_rfl
theorem z0_.bits7 : waitsOk z0_.T7.2 z0_.B7 = true := by kernel_rfl
def z0_.T12 : Bool × List (List Nat × List Nat) := (true,[([],[]),([],[]),([1],[1]),([2],[2]),([3],[3]),([0,4],[0,4]),([5],[5]),([],[]),([],[]),([8],[8]),([9],[9]),([7,10],[7,10]),([11],[11]),([6,12],[6,12]),([13],[13]),([],[]),([],[]),([16],[16]),([17],[17]),([18],[18]),([15,19,5],[15,19]),([14,20],[14,20]),([21,20,0,1,2,3,4,5,6,7,8,9,10,11,12,13,14,15,16,17,18,19,20,21],[21])])
def z0_.B12 : List Nat := [0,0,2,6,14,31,63,0,0,256,768,1920,3968,8191,16383,0,0,65536,196608,458752,1015871,2097151,4194303]
theorem z0_.tab12 : rtab .any (opsOf Try.f80 12) = z0_.T12 := by kernel_rfl
theorem z0_.bits12 : waitsOk z0_.T12.2 z0_.B12 = true := by kernel_rfl
set_option maxHeartbeats 8000000 in
set_option maxRecDepth 100000 in
theorem z0_.step (k : Nat) (ih_impl_Rule_expTexts : ∀ m,m < k → z1_.Stm m) (ih_impl_Rule_expText_1 : ∀ m,m < k → impl_Rule_expText_1.Stm m) (ih : ∀ m,m < k → z0_.Stm m) : z0_.Stm k := by
 intro A0_0 c0_0 l0_0 a0_1 a0_2 A0_3 c0_3 l0_3 A0_4 c0_4 l0_4 a1 r w hr0_0 hc0_0 hr0_3 hc0_3 hr0_4 hc0_4 h
 cases k with
 | zero => exact absurd h (by simp [z0_.f])
 | succ k =>
 simp only [z0_.f] at h
 have hu35 := Try.underlying35
 have hu101 := Try.underlying101
 have HR0_0 := y0.mk hr0_0
 have HC0_0 := y0.mk hc0_0
 clear hr0_0 hc0_0
 have HR0_3 := y0.mk hr0_3
 have HC0_3 := y0.mk hc0_3
 clear hr0_3 hc0_3
 have HR0_4 := y0.mk hr0_4
 have HC0_4 := y0.mk hc0_4
 clear hr0_4 hc0_4
 have HB := y0.mk (Below.refl w.heap.size w)
 have H : (if 0 ≤ a1 then (if a1 < (l0_0.length : Int) then (if ((y18 l0_0 a1).f0) = 2 then (some (⟨#[95]⟩ : ByteArray)) else (if ((y18 l0_0 a1).f0) = 4 then (if (((y18 l0_0 a1).f2).length : Int) > 0 then (if ((y18 l0_0 a1).f1).size + 1 ≤ 9223372036854775807 then ((z1_.f k l0_0 a0_1 a0_2 l0_3 l0_4 ((y18 l0_0 a1).f2)).bind fun t290 => (if (((y18 l0_0 a1).f1) ++ (⟨#[40]⟩ : ByteArray)).size + t290.size ≤ 9223372036854775807 then (if ((((y18 l0_0 a1).f1) ++ (⟨#[40]⟩ : ByteArray)) ++ t290).size + 1 ≤ 9223372036854775807 then (some (((((y18 l0_0 a1).f1) ++ (⟨#[40]⟩ : ByteArray)) ++ t290) ++ (⟨#[41]⟩ : ByteArray))) else (none)) else (none))) else (none)) else (some ((y18 l0_0 a1).f1))) else (if ((y18 l0_0 a1).f0) = 5 then (z0_.j0 k (((y18 l0_0 a1).f0) == 5) l0_0 a0_1 a0_2 l0_3 l0_4 ((y18 l0_0 a1).f0) ((y18 l0_0 a1).f1) ((y18 l0_0 a1).f2)) else (if ((y18 l0_0 a1).f0) = 6 then (z0_.j0 k (((y18 l0_0 a1).f0) == 6) l0_0 a0_1 a0_2 l0_3 l0_4 ((y18 l0_0 a1).f0) ((y18 l0_0 a1).f1) ((y18 l0_0 a1).f2)) else (z0_.j0 k (((y18 l0_0 a1).f0) == 7) l0_0 a0_1 a0_2 l0_3 l0_4 ((y18 l0_0 a1).f0) ((y18 l0_0 a1).f1) ((y18 l0_0 a1).f2)))))) else (none)) else (none)) = some r := h
 clear h
 obtain ⟨c3,H⟩ := qo H
 have c3b0 : decide (0 ≤ a1) = true := decide_eq_true c3
 clear c3
 obtain ⟨c4,H⟩ := qo H
 have c4b0 : decide (a1 < (l0_0.length : Int)) = true := decide_eq_true c4
 clear c4
 by_cases c5 : ((y18 l0_0 a1).f0) = 2
 ·rw [if_pos c5] at H
  have c5b0 : (((y18 l0_0 a1).f0) == 2) = true := beq_iff_eq.mpr c5
  have c5b1 : (((y18 l0_0 a1).f0) != 2) = false := bne_eq_false_iff_eq.mpr c5
  clear c5
  obtain rfl := Option.some.inj H
  go_enter Try.func80,Try.ntmps80
  go_wp2_with (first | ((with_reducible refine y16 (N := 2) rfl ?_); refine qe 2 #[.slice A0_0 l0_0.length c0_0,.int .i64 a0_1,.string a0_2,.slice A0_3 l0_3.length c0_3,.slice A0_4 l0_4.length c0_4] 35 ?_; intro gb287 hg w6 hbox hb; have BK287 := y0.mk (hbox); have GW287 := y0.mk (qg (w := w) hg); have GE287 := y0.mk (qg (w := w) hg); replace HB := y0.mk (y4 qb hb); clear hb hbox hg; obtain ⟨hcz7_0,hcz7_1,hcz7_2,hcz7_3,hcz7_4,hfz7_0,hfz7_1,hfz7_2,hfz7_3,hfz7_4⟩ := qz5 BK287.out; have p288 : 0 ≤ (a1 : Int) := of_decide_eq_true qy1; have q288 : a1 < (l0_0.length : Int) := of_decide_eq_true qy1; obtain ⟨ad288,A288_2,c288_2,e288,hx288_0,hx288_1,hx288_2,hl288_2,hi288_2⟩ := at_T101 HR0_0.out a1 p288 q288; cases e288; replace hx288_0 := (HB.out.cell (World.block_lt_of_cell? w _ hx288_0)).trans hx288_0; replace hx288_1 := (HB.out.cell (World.block_lt_of_cell? w _ hx288_1)).trans hx288_1; replace hx288_2 := (HB.out.cell (World.block_lt_of_cell? w _ hx288_2)).trans hx288_2; have HR288_2 := y0.mk hi288_2; have HC288_2 := y0.mk hl288_2; clear hi288_2 hl288_2; replace p288 := eq_true p288; replace q288 := eq_true q288) | ((with_reducible refine y16 (N := 5) rfl ?_); refine qe 5 #[.int .i64 0,.string (⟨#[]⟩ : ByteArray),.slice none 0 0] 101 ?_; intro gb289 hg w8 hbox hb; have BK289 := y0.mk (hbox); have GW289 := y0.mk (qg (w := w) hg); have GE289 := y0.mk (qg (w := w) hg); replace HB := y0.mk (y4 qb hb); have NB287_289 := y0.mk (qn BK287.out hg); have NB289_287 := y0.mk (qm BK287.out hg); replace BK287 := y0.mk (qK BK287.out hb); clear hb hbox hg; have hnb9 := NB289_287.out; have hnc9 := NB287_289.out; obtain ⟨hcz10_0,hcz10_1,hcz10_2,hfz10_0,hfz10_1,hfz10_2⟩ := qz3 BK289.out))
  go_ret
  exact ⟨by first | rfl | (simp [y12,y13] <;> rfl) | (simp [*,y12,y13] <;> rfl),qb⟩
 ·rw [if_neg c5] at H
  have c5b0 : (((y18 l0_0 a1).f0) == 2) = false := beq_eq_false_iff_ne.mpr c5
  have c5b1 : (((y18 l0_0 a1).f0) != 2) = true := bne_iff_ne.mpr c5
  by_cases c11 : ((y18 l0_0 a1).f0) = 4
  ·rw [if_pos c11] at H
   have c11b0 : (((y18 l0_0 a1).f0) == 4) = true := beq_iff_eq.mpr c11
   have c11b1 : (((y18 l0_0 a1).f0) != 4) = false := bne_eq_false_iff_eq.mpr c11
   clear c11
   by_cases c12 : (((y18 l0_0 a1).f2).length : Int) > 0
   ·rw [if_pos c12] at H
    have c12b0 : decide (0 < (((y18 l0_0 a1).f2).length : Int)) = true := decide_eq_true c12
    have c12b1 : decide (0 < ((y18 l0_0 a1).f2).length) = true := decide_eq_true (by omega)
    clear c12
    obtain ⟨c13,H⟩ := qo H
    have c13b0 := eq_true c13
    have c13b1 := decide_eq_true c13
    have c13b2 := eq_false (Nat.not_lt.2 c13)
    obtain ⟨t290,A14,H⟩ := qB H
    obtain ⟨c15,H⟩ := qo H
    have c15b0 := eq_true c15
    have c15b1 := decide_eq_true c15
    have c15b2 := eq_false (Nat.not_lt.2 c15)
    have c15b3 : (9223372036854775807 < ((y18 l0_0 a1).f1).size + 1 + t290.size) = False := qs c15b2
    obtain ⟨c16,H⟩ := qo H
    have c16b0 := eq_true c16
    have c16b1 := decide_eq_true c16
    have c16b2 := eq_false (Nat.not_lt.2 c16)
    have c16b3 : (9223372036854775807 < ((y18 l0_0 a1).f1).size + 1 + t290.size + 1) = False := qs c16b2
    obtain rfl := Option.some.inj H
    go_enter Try.func80,Try.ntmps80
    try go_wp2_with (first | ((with_reducible refine y16 (N := 2) rfl ?_); refine qe 2 #[.slice A0_0 l0_0.length c0_0,.int .i64 a0_1,.string a0_2,.slice A0_3 l0_3.length c0_3,.slice A0_4 l0_4.length c0_4] 35 ?_; intro gb287 hg w17 hbox hb; have BK287 := y0.mk (hbox); have GW287 := y0.mk (qg (w := w) hg); have GE287 := y0.mk (qg (w := w) hg); replace HB := y0.mk (y4 qb hb); clear hb hbox hg; obtain ⟨hcz18_0,hcz18_1,hcz18_2,hcz18_3,hcz18_4,hfz18_0,hfz18_1,hfz18_2,hfz18_3,hfz18_4⟩ := qz5 BK287.out; have p288 : 0 ≤ (a1 : Int) := of_decide_eq_true qy1; have q288 : a1 < (l0_0.length : Int) := of_decide_eq_true qy1; obtain ⟨ad288,A288_2,c288_2,e288,hx288_0,hx288_1,hx288_2,hl288_2,hi288_2⟩ := at_T101 HR0_0.out a1 p288 q288; cases e288; replace hx288_0 := (HB.out.cell (World.block_lt_of_cell? w _ hx288_0)).trans hx288_0; replace hx288_1 := (HB.out.cell (World.block_lt_of_cell? w _ hx288_1)).trans hx288_1; replace hx288_2 := (HB.out.cell (World.block_lt_of_cell? w _ hx288_2)).trans hx288_2; have HR288_2 := y0.mk hi288_2; have HC288_2 := y0.mk hl288_2; clear hi288_2 hl288_2; replace p288 := eq_true p288; replace q288 := eq_true q288) | ((with_reducible refine y16 (N := 5) rfl ?_); refine qe 5 #[.int .i64 0,.string (⟨#[]⟩ : ByteArray),.slice none 0 0] 101 ?_; intro gb289 hg w19 hbox hb; have BK289 := y0.mk (hbox); have GW289 := y0.mk (qg (w := w) hg); have GE289 := y0.mk (qg (w := w) hg); replace HB := y0.mk (y4 qb hb); have NB287_289 := y0.mk (qn BK287.out hg); have NB289_287 := y0.mk (qm BK287.out hg); replace BK287 := y0.mk (qK BK287.out hb); clear hb hbox hg; have hnb20 := NB289_287.out; have hnc20 := NB287_289.out; obtain ⟨hcz21_0,hcz21_1,hcz21_2,hfz21_0,hfz21_1,hfz21_2⟩ := qz3 BK289.out))
    have n0_ : y0 ((((w19.setCell ⟨gb289,0,none⟩ (.int .i64 ((y18 l0_0 a1).f0))).setCell ⟨gb289,1,none⟩ (.string ((y18 l0_0 a1).f1))).setCell ⟨gb289,2,none⟩ (.slice A288_2 ((y18 l0_0 a1).f2).length c288_2)).heap[gb287]? = some (.cells #[.slice (some ad288) l0_0.length c0_0,.int .i64 a0_1,.string a0_2,.slice A0_3 l0_3.length c0_3,.slice A0_4 l0_4.length c0_4] 35 (0,0))) := ⟨by (with_reducible repeat (first | refine y9 ?_ _ | refine y8 ?_ | refine y5 ?_ _)); refine y10 ?_ NB287_289.out _; (with_reducible repeat (first | refine y9 ?_ _ | refine y8 ?_ | refine y5 ?_ _)); refine y10 ?_ NB287_289.out _; (with_reducible repeat (first | refine y9 ?_ _ | refine y8 ?_ | refine y5 ?_ _)); refine y10 ?_ NB287_289.out _; (with_reducible repeat (first | refine y9 ?_ _ | refine y8 ?_ | refine y5 ?_ _)); exact BK287.out⟩
    have n1_ : y0 ((((w19.setCell ⟨gb289,0,none⟩ (.int .i64 ((y18 l0_0 a1).f0))).setCell ⟨gb289,1,none⟩ (.string ((y18 l0_0 a1).f1))).setCell ⟨gb289,2,none⟩ (.slice A288_2 ((y18 l0_0 a1).f2).length c288_2)).heap[gb289]? = some (.cells #[.int .i64 ((y18 l0_0 a1).f0),.string ((y18 l0_0 a1).f1),.slice A288_2 ((y18 l0_0 a1).f2).length c288_2] 101 (0,0))) := ⟨by (with_reducible repeat (first | refine y9 ?_ _ | refine y8 ?_ | refine y5 ?_ _)); refine y11 (cs := #[.int .i64 ((y18 l0_0 a1).f0),.string ((y18 l0_0 a1).f1),.slice none 0 0]) ?_ 2 _ rfl; (with_reducible repeat (first | refine y9 ?_ _ | refine y8 ?_ | refine y5 ?_ _)); refine y11 (cs := #[.int .i64 ((y18 l0_0 a1).f0),.string (⟨#[]⟩ : ByteArray),.slice none 0 0]) ?_ 1 _ rfl; (with_reducible repeat (first | refine y9 ?_ _ | refine y8 ?_ | refine y5 ?_ _)); refine y11 (cs := #[.int .i64 0,.string (⟨#[]⟩ : ByteArray),.slice none 0 0]) ?_ 0 _ rfl; (with_reducible repeat (first | refine y9 ?_ _ | refine y8 ?_ | refine y5 ?_ _)); exact BK289.out⟩
    have n2_ : y0 (Below w.heap.size w (((w19.setCell ⟨gb289,0,none⟩ (.int .i64 ((y18 l0_0 a1).f0))).setCell ⟨gb289,1,none⟩ (.string ((y18 l0_0 a1).f1))).setCell ⟨gb289,2,none⟩ (.slice A288_2 ((y18 l0_0 a1).f2).length c288_2))) := ⟨qb⟩
    (try clear BK287)
    (try clear BK289)
    (try clear HB)
    generalize (((w19.setCell ⟨gb289,0,none⟩ (.int .i64 ((y18 l0_0 a1).f0))).setCell ⟨gb289,1,none⟩ (.string ((y18 l0_0 a1).f1))).setCell ⟨gb289,2,none⟩ (.slice A288_2 ((y18 l0_0 a1).f2).length c288_2)) = w22 at n0_ n1_ n2_ ⊢
    have BK287 := n0_
    have BK289 := n1_
    have HB := n2_
    clear n0_ n1_ n2_
    replace BK287 := y0.mk (y8 BK287.out)
    replace BK289 := y0.mk (y8 BK289.out)
    replace HB := y0.mk (below_drew1 HB.out)
    refine start_ (n := 10) (S := fun w' => w'.cell? ⟨gb289,0,none⟩ = some (.int .i64 ((y18 l0_0 a1).f0)) ∧ w'.cell? ⟨gb289,1,none⟩ = some (.string ((y18 l0_0 a1).f1)) ∧ w'.cell? ⟨gb289,2,none⟩ = some (.slice A288_2 ((y18 l0_0 a1).f2).length c288_2) ∧ w'.cell? ⟨gb287,0,none⟩ = some (.slice (some ad288) l0_0.length c0_0) ∧ w'.cell? ⟨gb287,1,none⟩ = some (.int .i64 a0_1) ∧ w'.cell? ⟨gb287,2,none⟩ = some (.string a0_2) ∧ w'.cell? ⟨gb287,3,none⟩ = some (.slice A0_3 l0_3.length c0_3) ∧ w'.cell? ⟨gb287,4,none⟩ = some (.slice A0_4 l0_4.length c0_4)) (ds := []) (fl_ 10 0) (by kernel_rfl) rfl rfl ⟨(y7 BK289.out 0).trans rfl,(y7 BK289.out 1).trans rfl,(y7 BK289.out 2).trans rfl,(y7 BK287.out 0).trans rfl,(y7 BK287.out 1).trans rfl,(y7 BK287.out 2).trans rfl,(y7 BK287.out 3).trans rfl,(y7 BK287.out 4).trans rfl⟩ (fun hHeld => ?_); refine with_tabW z0_.tab7 z0_.bits7 (fun HT_ HW_ => ?_)
    generalize w22.drew = w23 at BK287 BK289 HB hHeld ⊢
    refine qp 0 22 (fl_ 10 1) ?_
    refine qp 4 26 (fl_ 10 17) ?_
    refine qt 1 23 (fl_ 10 19) hHeld ?_
    refine qp 2 24 (fl_ 10 23) ?_
    refine qt 3 25 (fl_ 10 31) hHeld ?_
    refine qt 5 27 (fl_ 10 63) hHeld ?_
    refine one_ (i := 6) (N := some 28) (fl_ 10 127) rfl rfl (one_of HT_.out (by kernel_rfl)) (by decide) (fun K hK => ?_)
    refine goes_ Try.func81 (by kernel_rfl) rfl #[.agg #[.slice (some ad288) l0_0.length c0_0,.int .i64 a0_1,.string a0_2,.slice A0_3 l0_3.length c0_3,.slice A0_4 l0_4.length c0_4],.slice A288_2 ((y18 l0_0 a1).f2).length c288_2] (by rfl) rfl rfl qy0 ?_
    with_reducible refine (ih_impl_Rule_expTexts k (by omega) _ _ l0_0 a0_1 a0_2 _ _ l0_3 _ _ l0_4 _ _ ((y18 l0_0 a1).f2) t290 _ (qc (Kd.C_below HR0_0.out HB.out)) HC0_0.out (qc (Kd.C_below HR0_3.out HB.out)) HC0_3.out (qc (Kd.C_below HR0_4.out HB.out)) HC0_4.out (qc (Kd.C_below HR288_2.out HB.out)) HC288_2.out A14.out).mono ?_
    rintro e w24 ⟨rfl,hb⟩
    refine ⟨_,rfl, ?_⟩
    replace BK287 := y0.mk (qK BK287.out hb)
    replace BK289 := y0.mk (qK BK289.out hb)
    replace HB := y0.mk (y4 qb hb)
    (try clear hb)
    (try clear hb2)
    (try clear hk)
    (try clear hi)
    refine hK.out _ _ ⟨(y7 BK289.out 0).trans rfl,(y7 BK289.out 1).trans rfl,(y7 BK289.out 2).trans rfl,(y7 BK287.out 0).trans rfl,(y7 BK287.out 1).trans rfl,(y7 BK287.out 2).trans rfl,(y7 BK287.out 3).trans rfl,(y7 BK287.out 4).trans rfl⟩ (fun hHeld => ?_)
    clear hK K
    refine norm_ (a' := ?_) ?_ ?_
    rotate_left
    ·show Act.put _ (some 28) _ = _
     simp only [Act.put,qS_,qZ_,qC_,i64_w,i32_w]
     rfl
    refine qp 7 29 (fl_ 10 255) ?_
    refine qp 8 30 (fl_ 10 511) ?_
    refine qp 9 4 (fl_ 10 1023) ?_
    refine done_ (done_of HT_.out (by kernel_rfl)) ?_
    try go_wp2
    go_ret
    exact ⟨by first | rfl | (simp [y12,y13] <;> rfl) | (simp [*,y12,y13] <;> rfl),qb⟩
   ·rw [if_neg c12] at H
    have c12b0 : decide (0 < (((y18 l0_0 a1).f2).length : Int)) = false := decide_eq_false c12
    have c12b1 : decide (0 < ((y18 l0_0 a1).f2).length) = false := decide_eq_false (by omega)
    clear c12
    obtain rfl := Option.some.inj H
    go_enter Try.func80,Try.ntmps80
    go_wp2_with (first | ((with_reducible refine y16 (N := 2) rfl ?_); refine qe 2 #[.slice A0_0 l0_0.length c0_0,.int .i64 a0_1,.string a0_2,.slice A0_3 l0_3.length c0_3,.slice A0_4 l0_4.length c0_4] 35 ?_; intro gb287 hg w25 hbox hb; have BK287 := y0.mk (hbox); have GW287 := y0.mk (qg (w := w) hg); have GE287 := y0.mk (qg (w := w) hg); replace HB := y0.mk (y4 qb hb); clear hb hbox hg; obtain ⟨hcz26_0,hcz26_1,hcz26_2,hcz26_3,hcz26_4,hfz26_0,hfz26_1,hfz26_2,hfz26_3,hfz26_4⟩ := qz5 BK287.out; have p288 : 0 ≤ (a1 : Int) := of_decide_eq_true qy1; have q288 : a1 < (l0_0.length : Int) := of_decide_eq_true qy1; obtain ⟨ad288,A288_2,c288_2,e288,hx288_0,hx288_1,hx288_2,hl288_2,hi288_2⟩ := at_T101 HR0_0.out a1 p288 q288; cases e288; replace hx288_0 := (HB.out.cell (World.block_lt_of_cell? w _ hx288_0)).trans hx288_0; replace hx288_1 := (HB.out.cell (World.block_lt_of_cell? w _ hx288_1)).trans hx288_1; replace hx288_2 := (HB.out.cell (World.block_lt_of_cell? w _ hx288_2)).trans hx288_2; have HR288_2 := y0.mk hi288_2; have HC288_2 := y0.mk hl288_2; clear hi288_2 hl288_2; replace p288 := eq_true p288; replace q288 := eq_true q288) | ((with_reducible refine y16 (N := 5) rfl ?_); refine qe 5 #[.int .i64 0,.string (⟨#[]⟩ : ByteArray),.slice none 0 0] 101 ?_; intro gb289 hg w27 hbox hb; have BK289 := y0.mk (hbox); have GW289 := y0.mk (qg (w := w) hg); have GE289 := y0.mk (qg (w := w) hg); replace HB := y0.mk (y4 qb hb); have NB287_289 := y0.mk (qn BK287.out hg); have NB289_287 := y0.mk (qm BK287.out hg); replace BK287 := y0.mk (qK BK287.out hb); clear hb hbox hg; have hnb28 := NB289_287.out; have hnc28 := NB287_289.out; obtain ⟨hcz29_0,hcz29_1,hcz29_2,hfz29_0,hfz29_1,hfz29_2⟩ := qz3 BK289.out))
    go_ret
    exact ⟨by first | rfl | (simp [y12,y13] <;> rfl) | (simp [*,y12,y13] <;> rfl),qb⟩
  ·rw [if_neg c11] at H
   have c11b0 : (((y18 l0_0 a1).f0) == 4) = false := beq_eq_false_iff_ne.mpr c11
   have c11b1 : (((y18 l0_0 a1).f0) != 4) = true := bne_iff_ne.mpr c11
   have HC30 := y0.mk H
   clear H
   go_enter Try.func80,Try.ntmps80
   go_upto_if 31 with (first | ((with_reducible refine y16 (N := 2) rfl ?_); refine qe 2 #[.slice A0_0 l0_0.length c0_0,.int .i64 a0_1,.string a0_2,.slice A0_3 l0_3.length c0_3,.slice A0_4 l0_4.length c0_4] 35 ?_; intro gb287 hg w31 hbox hb; have BK287 := y0.mk (hbox); have GW287 := y0.mk (qg (w := w) hg); have GE287 := y0.mk (qg (w := w) hg); replace HB := y0.mk (y4 qb hb); clear hb hbox hg; obtain ⟨hcz32_0,hcz32_1,hcz32_2,hcz32_3,hcz32_4,hfz32_0,hfz32_1,hfz32_2,hfz32_3,hfz32_4⟩ := qz5 BK287.out; have p288 : 0 ≤ (a1 : Int) := of_decide_eq_true qy1; have q288 : a1 < (l0_0.length : Int) := of_decide_eq_true qy1; obtain ⟨ad288,A288_2,c288_2,e288,hx288_0,hx288_1,hx288_2,hl288_2,hi288_2⟩ := at_T101 HR0_0.out a1 p288 q288; cases e288; replace hx288_0 := (HB.out.cell (World.block_lt_of_cell? w _ hx288_0)).trans hx288_0; replace hx288_1 := (HB.out.cell (World.block_lt_of_cell? w _ hx288_1)).trans hx288_1; replace hx288_2 := (HB.out.cell (World.block_lt_of_cell? w _ hx288_2)).trans hx288_2; have HR288_2 := y0.mk hi288_2; have HC288_2 := y0.mk hl288_2; clear hi288_2 hl288_2; replace p288 := eq_true p288; replace q288 := eq_true q288) | ((with_reducible refine y16 (N := 5) rfl ?_); refine qe 5 #[.int .i64 0,.string (⟨#[]⟩ : ByteArray),.slice none 0 0] 101 ?_; intro gb289 hg w33 hbox hb; have BK289 := y0.mk (hbox); have GW289 := y0.mk (qg (w := w) hg); have GE289 := y0.mk (qg (w := w) hg); replace HB := y0.mk (y4 qb hb); have NB287_289 := y0.mk (qn BK287.out hg); have NB289_287 := y0.mk (qm BK287.out hg); replace BK287 := y0.mk (qK BK287.out hb); clear hb hbox hg; have hnb34 := NB289_287.out; have hnc34 := NB287_289.out; obtain ⟨hcz35_0,hcz35_1,hcz35_2,hfz35_0,hfz35_1,hfz35_2⟩ := qz3 BK289.out))
   (try simp only [Act.put,qS_,qZ_,qC_])
   go_cut [31] (fun v31 wc => ∃ (kq : Nat) (x31_29 : Bool),v31 = .bool x31_29 ∧ y0 (z0_.j0 kq x31_29 l0_0 a0_1 a0_2 l0_3 l0_4 ((y18 l0_0 a1).f0) ((y18 l0_0 a1).f1) ((y18 l0_0 a1).f2) = some r) ∧ y0 (kq ≤ k) ∧ y0 (wc.heap[gb287]? = some (.cells #[(.slice (some ad288) l0_0.length c0_0),.int .i64 a0_1,.string a0_2,(.slice A0_3 l0_3.length c0_3),(.slice A0_4 l0_4.length c0_4)] 35 (0,0))) ∧ y0 (wc.heap[gb289]? = some (.cells #[.int .i64 ((y18 l0_0 a1).f0),.string ((y18 l0_0 a1).f1),(.slice A288_2 ((y18 l0_0 a1).f2).length c288_2)] 101 (0,0))) ∧ y0 (Below w.heap.size w wc))
   case first =>
    have H := HC30.out
    clear HC30
    by_cases c36 : ((y18 l0_0 a1).f0) = 5
    ·rw [if_pos c36] at H
     have c36b0 : (((y18 l0_0 a1).f0) == 5) = true := beq_iff_eq.mpr c36
     have c36b1 : (((y18 l0_0 a1).f0) != 5) = false := bne_eq_false_iff_eq.mpr c36
     clear c36
     (first | rw [c36b0] | (simp only [i64_w,i32_w]; rw [c36b0]) | skip)
     have H' := y0.mk H
     clear H
     go_wp2
     go_meet
     exact ⟨_,((((y18 l0_0 a1).f0) == 5)),qy2,H',⟨by first | omega | exact Nat.le_refl _⟩,⟨by (with_reducible repeat (first | refine y9 ?_ _ | refine y8 ?_ | refine y5 ?_ _)); refine y10 ?_ NB287_289.out _; (with_reducible repeat (first | refine y9 ?_ _ | refine y8 ?_ | refine y5 ?_ _)); refine y10 ?_ NB287_289.out _; (with_reducible repeat (first | refine y9 ?_ _ | refine y8 ?_ | refine y5 ?_ _)); refine y10 ?_ NB287_289.out _; (with_reducible repeat (first | refine y9 ?_ _ | refine y8 ?_ | refine y5 ?_ _)); exact BK287.out⟩,⟨by (with_reducible repeat (first | refine y9 ?_ _ | refine y8 ?_ | refine y5 ?_ _)); refine y11 (cs := #[.int .i64 ((y18 l0_0 a1).f0),.string ((y18 l0_0 a1).f1),.slice none 0 0]) ?_ 2 _ rfl; (with_reducible repeat (first | refine y9 ?_ _ | refine y8 ?_ | refine y5 ?_ _)); refine y11 (cs := #[.int .i64 ((y18 l0_0 a1).f0),.string (⟨#[]⟩ : ByteArray),.slice none 0 0]) ?_ 1 _ rfl; (with_reducible repeat (first | refine y9 ?_ _ | refine y8 ?_ | refine y5 ?_ _)); refine y11 (cs := #[.int .i64 0,.string (⟨#[]⟩ : ByteArray),.slice none 0 0]) ?_ 0 _ rfl; (with_reducible repeat (first | refine y9 ?_ _ | refine y8 ?_ | refine y5 ?_ _)); exact BK289.out⟩,⟨qb⟩⟩
    ·rw [if_neg c36] at H
     have c36b0 : (((y18 l0_0 a1).f0) == 5) = false := beq_eq_false_iff_ne.mpr c36
     have c36b1 : (((y18 l0_0 a1).f0) != 5) = true := bne_iff_ne.mpr c36
     (first | rw [c36b0] | (simp only [i64_w,i32_w]; rw [c36b0]) | skip)
     by_cases c37 : ((y18 l0_0 a1).f0) = 6
     ·rw [if_pos c37] at H
      have c37b0 : (((y18 l0_0 a1).f0) == 6) = true := beq_iff_eq.mpr c37
      have c37b1 : (((y18 l0_0 a1).f0) != 6) = false := bne_eq_false_iff_eq.mpr c37
      clear c37
      have H' := y0.mk H
      clear H
      go_wp2
      go_meet
      exact ⟨_,((((y18 l0_0 a1).f0) == 6)),qy2,H',⟨by first | omega | exact Nat.le_refl _⟩,⟨by (with_reducible repeat (first | refine y9 ?_ _ | refine y8 ?_ | refine y5 ?_ _)); refine y10 ?_ NB287_289.out _; (with_reducible repeat (first | refine y9 ?_ _ | refine y8 ?_ | refine y5 ?_ _)); refine y10 ?_ NB287_289.out _; (with_reducible repeat (first | refine y9 ?_ _ | refine y8 ?_ | refine y5 ?_ _)); refine y10 ?_ NB287_289.out _; (with_reducible repeat (first | refine y9 ?_ _ | refine y8 ?_ | refine y5 ?_ _)); exact BK287.out⟩,⟨by (with_reducible repeat (first | refine y9 ?_ _ | refine y8 ?_ | refine y5 ?_ _)); refine y11 (cs := #[.int .i64 ((y18 l0_0 a1).f0),.string ((y18 l0_0 a1).f1),.slice none 0 0]) ?_ 2 _ rfl; (with_reducible repeat (first | refine y9 ?_ _ | refine y8 ?_ | refine y5 ?_ _)); refine y11 (cs := #[.int .i64 ((y18 l0_0 a1).f0),.string (⟨#[]⟩ : ByteArray),.slice none 0 0]) ?_ 1 _ rfl; (with_reducible repeat (first | refine y9 ?_ _ | refine y8 ?_ | refine y5 ?_ _)); refine y11 (cs := #[.int .i64 0,.string (⟨#[]⟩ : ByteArray),.slice none 0 0]) ?_ 0 _ rfl; (with_reducible repeat (first | refine y9 ?_ _ | refine y8 ?_ | refine y5 ?_ _)); exact BK289.out⟩,⟨qb⟩⟩
     ·rw [if_neg c37] at H
      have c37b0 : (((y18 l0_0 a1).f0) == 6) = false := beq_eq_false_iff_ne.mpr c37
      have c37b1 : (((y18 l0_0 a1).f0) != 6) = true := bne_iff_ne.mpr c37
      have H' := y0.mk H
      clear H
      go_wp2
      go_meet
      exact ⟨_,((((y18 l0_0 a1).f0) == 7)),qy2,H',⟨by first | omega | exact Nat.le_refl _⟩,⟨by (with_reducible repeat (first | refine y9 ?_ _ | refine y8 ?_ | refine y5 ?_ _)); refine y10 ?_ NB287_289.out _; (with_reducible repeat (first | refine y9 ?_ _ | refine y8 ?_ | refine y5 ?_ _)); refine y10 ?_ NB287_289.out _; (with_reducible repeat (first | refine y9 ?_ _ | refine y8 ?_ | refine y5 ?_ _)); refine y10 ?_ NB287_289.out _; (with_reducible repeat (first | refine y9 ?_ _ | refine y8 ?_ | refine y5 ?_ _)); exact BK287.out⟩,⟨by (with_reducible repeat (first | refine y9 ?_ _ | refine y8 ?_ | refine y5 ?_ _)); refine y11 (cs := #[.int .i64 ((y18 l0_0 a1).f0),.string ((y18 l0_0 a1).f1),.slice none 0 0]) ?_ 2 _ rfl; (with_reducible repeat (first | refine y9 ?_ _ | refine y8 ?_ | refine y5 ?_ _)); refine y11 (cs := #[.int .i64 ((y18 l0_0 a1).f0),.string (⟨#[]⟩ : ByteArray),.slice none 0 0]) ?_ 1 _ rfl; (with_reducible repeat (first | refine y9 ?_ _ | refine y8 ?_ | refine y5 ?_ _)); refine y11 (cs := #[.int .i64 0,.string (⟨#[]⟩ : ByteArray),.slice none 0 0]) ?_ 0 _ rfl; (with_reducible repeat (first | refine y9 ?_ _ | refine y8 ?_ | refine y5 ?_ _)); exact BK289.out⟩,⟨qb⟩⟩
   case rest =>
    clear HC30
    (try clear c3b0 c4b0 c5b0 c5b1 c11b0 c11b1 hcz32_0 hcz32_1 hcz32_2 hcz32_3 hcz32_4 hcz35_0 hcz35_1 hcz35_2 hfz32_0 hfz32_1 hfz32_2 hfz32_3 hfz32_4 hfz35_0 hfz35_1 hfz35_2 hx288_0 hx288_1 hx288_2 p288 q288)
    obtain ⟨kq,x31_29,rfl,HA,HJ29,BK287,BK289,HB⟩ := hcut
    cases kq with
    | zero => exact absurd HA.out (by simp [z0_.j0])
    | succ kj29 =>
     have H := HA.out
     clear HA
     simp only [z0_.j0] at H
     by_cases c38 : x31_29 = true
     ·subst c38
      replace H := qT H
      obtain ⟨c39,H⟩ := qo H
      have c39b0 : decide (0 < (((y18 l0_0 a1).f2).length : Int)) = true := decide_eq_true c39
      have c39b1 : decide (0 < ((y18 l0_0 a1).f2).length) = true := decide_eq_true (by omega)
      clear c39
      obtain ⟨t292,A40,H⟩ := qB H
      obtain ⟨c41,H⟩ := qo H
      have c41b0 := eq_true c41
      have c41b1 := decide_eq_true c41
      have c41b2 := eq_false (Nat.not_lt.2 c41)
      obtain ⟨y293,hy293⟩ : ∃ y_ : List ByteArray,y_ = (([(⟨#[43]⟩ : ByteArray),(⟨#[45]⟩ : ByteArray),(⟨#[42]⟩ : ByteArray)] : List ByteArray)) := ⟨_,rfl⟩
      replace H : (if 0 ≤ (wrap64 (((y18 l0_0 a1).f0) - 5)) then (if (wrap64 (((y18 l0_0 a1).f0) - 5)) < (y293.length : Int) then (if (t292 ++ (⟨#[32]⟩ : ByteArray)).size + (rdOf ByteArray.empty y293 (wrap64 (((y18 l0_0 a1).f0) - 5))).size ≤ 9223372036854775807 then (if ((t292 ++ (⟨#[32]⟩ : ByteArray)) ++ (rdOf ByteArray.empty y293 (wrap64 (((y18 l0_0 a1).f0) - 5)))).size + 1 ≤ 9223372036854775807 then (if 1 < (((y18 l0_0 a1).f2).length : Int) then ((impl_Rule_expText_1.f kj29 (rd ((y18 l0_0 a1).f2) 1) l0_0 a0_1 a0_2 l0_3 l0_4).bind fun t298 => (if (((t292 ++ (⟨#[32]⟩ : ByteArray)) ++ (rdOf ByteArray.empty y293 (wrap64 (((y18 l0_0 a1).f0) - 5)))) ++ (⟨#[32]⟩ : ByteArray)).size + t298.size ≤ 9223372036854775807 then (some ((((t292 ++ (⟨#[32]⟩ : ByteArray)) ++ (rdOf ByteArray.empty y293 (wrap64 (((y18 l0_0 a1).f0) - 5)))) ++ (⟨#[32]⟩ : ByteArray)) ++ t298)) else (none))) else (none)) else (none)) else (none)) else (none)) else (none)) = some r := by first | (rw [hy293]; with_reducible exact H) | (have H2_ := (Option.bind_some _ _).symm.trans H; rw [hy293]; with_reducible exact H2_) | (have H2_ := (Option.bind_some _ _).symm.trans H; with_reducible exact H2_) | with_reducible exact H | (rw [hy293]; exact H) | exact H
      have Ny293 := y0.mk hy293
      clear hy293
      obtain ⟨ji42,hji42⟩ : ∃ j_ : Int,(wrap64 (((y18 l0_0 a1).f0) - 5)) = j_ := ⟨_,rfl⟩
      replace H : (if 0 ≤ (ji42) then (if (ji42) < (y293.length : Int) then (if (t292 ++ (⟨#[32]⟩ : ByteArray)).size + (rdOf ByteArray.empty y293 (ji42)).size ≤ 9223372036854775807 then (if ((t292 ++ (⟨#[32]⟩ : ByteArray)) ++ (rdOf ByteArray.empty y293 (ji42))).size + 1 ≤ 9223372036854775807 then (if 1 < (((y18 l0_0 a1).f2).length : Int) then ((impl_Rule_expText_1.f kj29 (rd ((y18 l0_0 a1).f2) 1) l0_0 a0_1 a0_2 l0_3 l0_4).bind fun t298 => (if (((t292 ++ (⟨#[32]⟩ : ByteArray)) ++ (rdOf ByteArray.empty y293 (ji42))) ++ (⟨#[32]⟩ : ByteArray)).size + t298.size ≤ 9223372036854775807 then (some ((((t292 ++ (⟨#[32]⟩ : ByteArray)) ++ (rdOf ByteArray.empty y293 (ji42))) ++ (⟨#[32]⟩ : ByteArray)) ++ t298)) else (none))) else (none)) else (none)) else (none)) else (none)) else (none)) = some r := by first | (rw [hji42] at H; exact H) | (simp only [hji42] at H ⊢; exact H)
      (try rw [hji42] at A40)
      have hji42w : (IntKind.i64.wrap (((y18 l0_0 a1).f0) - 5)) = ji42 := (i64_w _).trans hji42
      obtain ⟨c43,H⟩ := qo H
      have c43b0 : decide (0 ≤ (ji42)) = true := decide_eq_true c43
      clear c43
      obtain ⟨c44,H⟩ := qo H
      have c44b0 : decide ((ji42) < (y293.length : Int)) = true := decide_eq_true c44
      clear c44
      obtain ⟨c45,H⟩ := qo H
      have c45b0 := eq_true c45
      have c45b1 := decide_eq_true c45
      have c45b2 := eq_false (Nat.not_lt.2 c45)
      have c45b3 : (9223372036854775807 < t292.size + 1 + (rdOf ByteArray.empty y293 (ji42)).size) = False := qs c45b2
      obtain ⟨c46,H⟩ := qo H
      have c46b0 := eq_true c46
      have c46b1 := decide_eq_true c46
      have c46b2 := eq_false (Nat.not_lt.2 c46)
      have c46b3 : (9223372036854775807 < t292.size + 1 + (rdOf ByteArray.empty y293 (ji42)).size + 1) = False := qs c46b2
      obtain ⟨c47,H⟩ := qo H
      have c47b0 : decide (1 < (((y18 l0_0 a1).f2).length : Int)) = true := decide_eq_true c47
      have c47b1 : decide (1 < ((y18 l0_0 a1).f2).length) = true := decide_eq_true (by omega)
      clear c47
      obtain ⟨t298,A48,H⟩ := qB H
      obtain ⟨c49,H⟩ := qo H
      have c49b0 := eq_true c49
      have c49b1 := decide_eq_true c49
      have c49b2 := eq_false (Nat.not_lt.2 c49)
      have c49b3 : (9223372036854775807 < t292.size + 1 + (rdOf ByteArray.empty y293 (ji42)).size + 1 + t298.size) = False := qs c49b2
      obtain rfl := Option.some.inj H
      try go_wp2
      have pi296 : (0 ≤ ((ji42) : Int)) = True := eq_true (of_decide_eq_true qy1)
      have qi296 : ((ji42) < (y293.length : Int)) = True := eq_true (of_decide_eq_true qy1)
      replace BK287 := y0.mk (y8 BK287.out)
      replace BK289 := y0.mk (y8 BK289.out)
      replace HB := y0.mk (below_drew1 HB.out)
      have p291 : 0 ≤ (0 : Int) := (by omega)
      have q291 : 0 < (((y18 l0_0 a1).f2).length : Int) := of_decide_eq_true qy1
      obtain ⟨ad291,e291,hx291_0⟩ := Kd.at_int HR288_2.out 0 p291 q291
      have hw291_0 := hx291_0
      (try rw [show ((0 : Int)).toNat = 0 from rfl] at hw291_0)
      (try rw [show 0 * 1 = 0 from rfl] at hw291_0)
      (try rw [Addr.add_zero'] at hw291_0)
      cases e291
      have qi291 : (0 < ((y18 l0_0 a1).f2).length) = True := eq_true (by omega)
      (try rw [show ((0 : Int)).toNat = 0 from rfl] at hx291_0)
      (try rw [Addr.add_zero'] at hx291_0)
      replace hx291_0 := (HB.out.cell (World.block_lt_of_cell? w _ hx291_0)).trans hx291_0
      replace p291 := eq_true p291
      replace q291 := eq_true q291
      have p297 : 0 ≤ (1 : Int) := (by omega)
      have q297 : 1 < (((y18 l0_0 a1).f2).length : Int) := of_decide_eq_true qy1
      obtain ⟨ad297,e297,hx297_0⟩ := Kd.at_int HR288_2.out 1 p297 q297
      have hw297_0 := hx297_0
      (try rw [show ((1 : Int)).toNat = 1 from rfl] at hw297_0)
      (try rw [show 1 * 1 = 1 from rfl] at hw297_0)
      (try simp only [Nat.reduceMul,Nat.reduceEqDiff,Go.Addr.add,↓reduceIte] at hw297_0)
      obtain rfl : ad291 = ad297 := (by injection e297)
      (try simp only [show (1 : Int).toNat = 1 from rfl,Nat.reduceMul,Nat.reduceEqDiff,Go.Addr.add,↓reduceIte] at hx297_0)
      have qi297 : (1 < ((y18 l0_0 a1).f2).length) = True := eq_true (by omega)
      (try rw [show ((1 : Int)).toNat = 1 from rfl] at hx297_0)
      replace hx297_0 := (HB.out.cell (World.block_lt_of_cell? w _ hx297_0)).trans hx297_0
      replace p297 := eq_true p297
      replace q297 := eq_true q297
      refine start_ (n := 23) (S := fun w' => True) (ds := []) (fl_ 23 0) (by kernel_rfl) rfl rfl trivial (fun hHeld => ?_); refine with_tabW z0_.tab12 z0_.bits12 (fun HT_ HW_ => ?_)
      generalize wc.drew = w50 at BK287 BK289 HB hx291_0 hx297_0 hHeld ⊢
      refine qp 0 36 (fl_ 23 1) ?_
      refine qp 1 37 (fl_ 23 3) ?_
      refine qp 8 44 (fl_ 23 259) ?_
      refine qp 15 51 (fl_ 23 33027) ?_
      refine qp 16 52 (fl_ 23 98563) ?_
      refine inv_at [2,3,4,5,6,7,9,10,11,12,13,14,17,18,19,20,21,22] (fun a0_ b a w' => ∃ (v294 : Value) (adz_v294 : Addr) (m11_ : Value),a = putSel a0_ b [(2,38,.slice (some ad291) ((y18 l0_0 a1).f2).length c288_2),(3,39,.pointer (some ad291)),(4,40,.int .i64 (rd ((y18 l0_0 a1).f2) 0)),(5,41,.string t292),(6,42,.string (t292 ++ (⟨#[32]⟩ : ByteArray))),(7,43,v294),(9,45,.int .i64 ((y18 l0_0 a1).f0)),(10,46,.int .i64 ji42),(11,47,m11_),(12,48,.string (rdOf ByteArray.empty y293 (ji42))),(13,49,.string ((t292 ++ (⟨#[32]⟩ : ByteArray)) ++ (rdOf ByteArray.empty y293 (ji42)))),(14,50,.string (((t292 ++ (⟨#[32]⟩ : ByteArray)) ++ (rdOf ByteArray.empty y293 (ji42))) ++ (⟨#[32]⟩ : ByteArray))),(17,53,.slice (some ad291) ((y18 l0_0 a1).f2).length c288_2),(18,54,.pointer (some (ad291.add 1))),(19,55,.int .i64 (rd ((y18 l0_0 a1).f2) 1)),(20,56,.string t298),(21,57,.string ((((t292 ++ (⟨#[32]⟩ : ByteArray)) ++ (rdOf ByteArray.empty y293 (ji42))) ++ (⟨#[32]⟩ : ByteArray)) ++ t298)),(22,4,.string ((((t292 ++ (⟨#[32]⟩ : ByteArray)) ++ (rdOf ByteArray.empty y293 (ji42))) ++ (⟨#[32]⟩ : ByteArray)) ++ t298))] ∧ (w'.heap[gb287]? = some (.cells #[.slice (some ad288) l0_0.length c0_0,.int .i64 a0_1,.string a0_2,.slice A0_3 l0_3.length c0_3,.slice A0_4 l0_4.length c0_4] 35 (0,0))) ∧ (w'.heap[gb289]? = some (.cells #[.int .i64 ((y18 l0_0 a1).f0),.string ((y18 l0_0 a1).f1),.slice (some ad291) ((y18 l0_0 a1).f2).length c288_2] 101 (0,0))) ∧ (Below w.heap.size w w') ∧ (b 7 = true → Kd.R Kd.string 9 w' w.heap.size (fun _ => True) v294 y293) ∧ (b 7 = true → ∃ c_,(v294 : Value) = .slice (some adz_v294) y293.length c_) ∧ (b 11 = true → (m11_ : Value) = .pointer (some (adz_v294.add ((ji42)).toNat)))) HT_.out HW_.out (by kernel_rfl) (by kernel_rfl) ?_ ?_ ?_
      ·exact ⟨.bool false,⟨0,0,none⟩,.bool false,by simp only [putSel,Bool.false_eq_true,if_false],BK287.out,BK289.out,HB.out,fun h_ => absurd h_ (by decide),fun h_ => absurd h_ (by decide),fun h_ => absurd h_ (by decide)⟩
      ·skip
       clear BK287 BK289 HB
       refine steps_cons ?_ ?_
       ·rintro b a w' ⟨v294,adz_v294,m11_,ha,Q_BK287,Q_BK289,Q_HB,Q_HO295,Q_HA_HO295,Q_X11_⟩ hb_ hon hoff
        refine ⟨_,rfl,fun K hK => ?_⟩
        have e37 : a.tmps[37]? = some (.pointer (some ⟨gb289,2,none⟩)) := by rw [ha]; exact (putSel_off rfl).trans rfl
        replace ha := y0.mk ha
        have BK287 := y0.mk Q_BK287
        have BK289 := y0.mk Q_BK289
        have HB := y0.mk Q_HB
        have hc0_ : w'.cell? ⟨gb289,0,none⟩ = some (.int .i64 ((y18 l0_0 a1).f0)) := (y7 BK289.out 0).trans rfl
        have hc1_ : w'.cell? ⟨gb289,1,none⟩ = some (.string ((y18 l0_0 a1).f1)) := (y7 BK289.out 1).trans rfl
        have hc2_ : w'.cell? ⟨gb289,2,none⟩ = some (.slice (some ad291) ((y18 l0_0 a1).f2).length c288_2) := (y7 BK289.out 2).trans rfl
        refine value_ (w1 := w') (v := .slice (some ad291) ((y18 l0_0 a1).f2).length c288_2) (by rfl) rfl ?_ ?_
        ·go_simp
         (try simp only [i64_w])
         try rfl
        refine hK.out _ _ ⟨v294,adz_v294,m11_,(by rw [ha.out]; exact putSel_upk 0 hb_ rfl rfl rfl),Q_BK287,Q_BK289,Q_HB,Q_HO295,Q_HA_HO295,Q_X11_⟩
       refine steps_cons ?_ ?_
       ·rintro b a w' ⟨v294,adz_v294,m11_,ha,Q_BK287,Q_BK289,Q_HB,Q_HO295,Q_HA_HO295,Q_X11_⟩ hb_ hon hoff
        refine ⟨_,rfl,fun K hK => ?_⟩
        have e38 : a.tmps[38]? = some (.slice (some ad291) ((y18 l0_0 a1).f2).length c288_2) := by rw [ha]; exact putSel_on (e := (2,38,.slice (some ad291) ((y18 l0_0 a1).f2).length c288_2)) 0 rfl rfl (hon 2 (by kernel_rfl)) rfl
        replace ha := y0.mk ha
        have BK287 := y0.mk Q_BK287
        have BK289 := y0.mk Q_BK289
        have HB := y0.mk Q_HB
        have hs0_ : w'.cell? ad291 = some (.int .i64 (rd ((y18 l0_0 a1).f2) 0)) := ((HB.out.cell (World.block_lt_of_cell? w _ hw291_0)).trans hw291_0)
        refine value_ (w1 := w') (v := .pointer (some ad291)) (by rfl) rfl ?_ ?_
        ·go_simp
         (try simp only [i64_w])
         try rfl
        refine hK.out _ _ ⟨v294,adz_v294,m11_,(by rw [ha.out]; exact putSel_upk 1 hb_ rfl rfl rfl),Q_BK287,Q_BK289,Q_HB,Q_HO295,Q_HA_HO295,Q_X11_⟩
       refine steps_cons ?_ ?_
       ·rintro b a w' ⟨v294,adz_v294,m11_,ha,Q_BK287,Q_BK289,Q_HB,Q_HO295,Q_HA_HO295,Q_X11_⟩ hb_ hon hoff
        refine ⟨_,rfl,fun K hK => ?_⟩
        have e39 : a.tmps[39]? = some (.pointer (some ad291)) := by rw [ha]; exact putSel_on (e := (3,39,.pointer (some ad291))) 1 rfl rfl (hon 3 (by kernel_rfl)) rfl
        replace ha := y0.mk ha
        have BK287 := y0.mk Q_BK287
        have BK289 := y0.mk Q_BK289
        have HB := y0.mk Q_HB
        have hs0_ : w'.cell? ad291 = some (.int .i64 (rd ((y18 l0_0 a1).f2) 0)) := ((HB.out.cell (World.block_lt_of_cell? w _ hw291_0)).trans hw291_0)
        refine value_ (w1 := w') (v := .int .i64 (rd ((y18 l0_0 a1).f2) 0)) (by rfl) rfl ?_ ?_
        ·go_simp
         (try simp only [i64_w])
         try rfl
        refine hK.out _ _ ⟨v294,adz_v294,m11_,(by rw [ha.out]; exact putSel_upk 2 hb_ rfl rfl rfl),Q_BK287,Q_BK289,Q_HB,Q_HO295,Q_HA_HO295,Q_X11_⟩
       refine steps_cons ?_ ?_
       ·rintro b a w' ⟨v294,adz_v294,m11_,ha,Q_BK287,Q_BK289,Q_HB,Q_HO295,Q_HA_HO295,Q_X11_⟩ hb_ hon hoff
        refine ⟨_,rfl,fun K hK => ?_⟩
        have e36 : a.tmps[36]? = some (.func (.func 93) #[] #[.pointer (some ⟨gb287,0,none⟩)]) := by rw [ha]; exact (putSel_off rfl).trans rfl
        have e40 : a.tmps[40]? = some (.int .i64 (rd ((y18 l0_0 a1).f2) 0)) := by rw [ha]; exact putSel_on (e := (4,40,.int .i64 (rd ((y18 l0_0 a1).f2) 0))) 2 rfl rfl (hon 4 (by kernel_rfl)) rfl
        replace ha := y0.mk ha
        have BK287 := y0.mk Q_BK287
        have BK289 := y0.mk Q_BK289
        have HB := y0.mk Q_HB
        refine goesC_ Try.func93 (by kernel_rfl) rfl #[.int .i64 (rd ((y18 l0_0 a1).f2) 0),.pointer (some ⟨gb287,0,none⟩)] #[.pointer (some ⟨gb287,0,none⟩)] (by rfl) rfl rfl (by first | (simp only [qM_,List.map_cons,List.map_nil,Act.eval,Array.getD_eq_getD_getElem?,Option.getD_some,e36,e40]; done) | (simp only [qM_,List.map_cons,List.map_nil,Act.eval,Array.getD_eq_getD_getElem?,Option.getD_some,e36,e40]; rfl)) ?_
        with_reducible refine (ih_impl_Rule_expText_1 kj29 (by have := HJ29.out; omega) (rd ((y18 l0_0 a1).f2) 0) _ _ l0_0 a0_1 a0_2 _ _ l0_3 _ _ l0_4 gb287 t292 _ (qc (Kd.C_below HR0_0.out HB.out)) HC0_0.out (qc (Kd.C_below HR0_3.out HB.out)) HC0_3.out (qc (Kd.C_below HR0_4.out HB.out)) HC0_4.out (by (with_reducible repeat (first | refine y9 ?_ _ | refine y8 ?_ | refine y5 ?_ _)); exact BK287.out) A40.out).mono ?_
        rintro e w51 ⟨rfl,hb⟩
        refine ⟨_,rfl, ?_⟩
        have n0_ := y0.mk (qK BK287.out hb)
        have n1_ := y0.mk (qK BK289.out hb)
        have n2_ := y0.mk (y4 qb hb)
        have z_HO295 := fun (h0_ : b 7 = true) => (show Kd.R Kd.string 9 w51 w.heap.size (fun _ => True) v294 y293 from by first | exact (Kd.R_below (qR ((Q_HO295 h0_))) hb) | exact Kd.R_mono (Kd.R_below (qR ((Q_HO295 h0_))) hb) (fun _ h_ => by first | trivial | exact h_ | exact h_.1))
        clear BK287
        clear BK289
        clear HB
        have BK287 := n0_
        have BK289 := n1_
        have HB := n2_
        clear n0_ n1_ n2_
        (try clear hb)
        (try clear hb2)
        (try clear hk)
        (try clear hi)
        refine hK.out _ _ ⟨v294,adz_v294,m11_,(by rw [ha.out]; exact putSel_upk 3 hb_ rfl rfl rfl),(qk BK287.out),(qk BK289.out),qb,z_HO295,Q_HA_HO295,Q_X11_⟩
       refine steps_cons ?_ ?_
       ·rintro b a w' ⟨v294,adz_v294,m11_,ha,Q_BK287,Q_BK289,Q_HB,Q_HO295,Q_HA_HO295,Q_X11_⟩ hb_ hon hoff
        refine ⟨_,rfl,fun K hK => ?_⟩
        have e41 : a.tmps[41]? = some (.string t292) := by rw [ha]; exact putSel_on (e := (5,41,.string t292)) 3 rfl rfl (hon 5 (by kernel_rfl)) rfl
        replace ha := y0.mk ha
        have BK287 := y0.mk Q_BK287
        have BK289 := y0.mk Q_BK289
        have HB := y0.mk Q_HB
        refine value_ (w1 := w') (v := .string (t292 ++ (⟨#[32]⟩ : ByteArray))) (by rfl) rfl ?_ ?_
        ·go_simp
         (try simp only [i64_w])
         try first | rfl | (have hz_ := c13; (try have hy7_ := of_eq_true c7b0); (try have hy8_ := of_eq_true c8b0); (try have hy9_ := of_eq_true c9b0); (try have hy10_ := of_eq_true c10b0); (try have hy11_ := of_eq_true c11b0); (try have hy12_ := of_eq_true c12b0); (try have hy13_ := of_eq_true c13b0); (try simp only [ByteArray.size_append,ByteArray.size_extract] at hz_); omega) | (have hz_ := c15; (try have hy9_ := of_eq_true c9b0); (try have hy10_ := of_eq_true c10b0); (try have hy11_ := of_eq_true c11b0); (try have hy12_ := of_eq_true c12b0); (try have hy13_ := of_eq_true c13b0); (try have hy14_ := of_eq_true c14b0); (try have hy15_ := of_eq_true c15b0); (try simp only [ByteArray.size_append,ByteArray.size_extract] at hz_); omega) | (have hz_ := c16; (try have hy10_ := of_eq_true c10b0); (try have hy11_ := of_eq_true c11b0); (try have hy12_ := of_eq_true c12b0); (try have hy13_ := of_eq_true c13b0); (try have hy14_ := of_eq_true c14b0); (try have hy15_ := of_eq_true c15b0); (try have hy16_ := of_eq_true c16b0); (try simp only [ByteArray.size_append,ByteArray.size_extract] at hz_); omega) | (have hz_ := c41; (try have hy35_ := of_eq_true c35b0); (try have hy36_ := of_eq_true c36b0); (try have hy37_ := of_eq_true c37b0); (try have hy38_ := of_eq_true c38b0); (try have hy39_ := of_eq_true c39b0); (try have hy40_ := of_eq_true c40b0); (try have hy41_ := of_eq_true c41b0); (try simp only [ByteArray.size_append,ByteArray.size_extract] at hz_); omega) | (have hz_ := c45; (try have hy39_ := of_eq_true c39b0); (try have hy40_ := of_eq_true c40b0); (try have hy41_ := of_eq_true c41b0); (try have hy42_ := of_eq_true c42b0); (try have hy43_ := of_eq_true c43b0); (try have hy44_ := of_eq_true c44b0); (try have hy45_ := of_eq_true c45b0); (try simp only [ByteArray.size_append,ByteArray.size_extract] at hz_); omega) | (have hz_ := c46; (try have hy40_ := of_eq_true c40b0); (try have hy41_ := of_eq_true c41b0); (try have hy42_ := of_eq_true c42b0); (try have hy43_ := of_eq_true c43b0); (try have hy44_ := of_eq_true c44b0); (try have hy45_ := of_eq_true c45b0); (try have hy46_ := of_eq_true c46b0); (try simp only [ByteArray.size_append,ByteArray.size_extract] at hz_); omega) | (have hz_ := c49; (try have hy43_ := of_eq_true c43b0); (try have hy44_ := of_eq_true c44b0); (try have hy45_ := of_eq_true c45b0); (try have hy46_ := of_eq_true c46b0); (try have hy47_ := of_eq_true c47b0); (try have hy48_ := of_eq_true c48b0); (try have hy49_ := of_eq_true c49b0); (try simp only [ByteArray.size_append,ByteArray.size_extract] at hz_); omega)
        refine hK.out _ _ ⟨v294,adz_v294,m11_,(by rw [ha.out]; exact putSel_upk 4 hb_ rfl rfl rfl),Q_BK287,Q_BK289,Q_HB,Q_HO295,Q_HA_HO295,Q_X11_⟩
       refine steps_cons ?_ ?_
       ·rintro b a w' ⟨v294,adz_v294,m11_,ha,Q_BK287,Q_BK289,Q_HB,Q_HO295,Q_HA_HO295,Q_X11_⟩ hb_ hon hoff
        refine ⟨_,rfl,fun K hK => ?_⟩
        replace ha := y0.mk ha
        have BK287 := y0.mk Q_BK287
        have BK289 := y0.mk Q_BK289
        have HB := y0.mk Q_HB
        refine Kd.R_lit_step Kd.string _ 9 ?hg (N := 43) ?hd (xs := ([(⟨#[43]⟩ : ByteArray),(⟨#[45]⟩ : ByteArray),(⟨#[42]⟩ : ByteArray)] : List ByteArray)) (inner := [.string (⟨#[43]⟩ : ByteArray),.string (⟨#[45]⟩ : ByteArray),.string (⟨#[42]⟩ : ByteArray)]) (ok := fun _ => True) (okp := fun _ => True) ?hr ?hp (fun _ hk => hk) trivial (Below.refl _ _) (Nat.le_refl _) (by simp) ?_; (case hd => rfl); (case hg => rfl); (case hr => first | (go_simp; done) | (go_simp; rfl)); (case hp => exact (Reps.one (show Kd.M Kd.string _ _ _ (⟨#[43]⟩ : ByteArray) [.string (⟨#[43]⟩ : ByteArray)] from rfl) (Reps.one (show Kd.M Kd.string _ _ _ (⟨#[45]⟩ : ByteArray) [.string (⟨#[45]⟩ : ByteArray)] from rfl) (Reps.one (show Kd.M Kd.string _ _ _ (⟨#[42]⟩ : ByteArray) [.string (⟨#[42]⟩ : ByteArray)] from rfl) (Reps.none _ _)))))
        intro v294 w51 ho52 hb hg_ hnew_
        clear hg_ hnew_
        (first | rw [← Ny293.out] at ho52 | (simp only [Int.reduceToNat] at ho52; rw [← Ny293.out] at ho52))
        have HO295 := y0.mk (Kd.R_lower ho52 (y3 qb))
        replace BK287 := y0.mk (qK BK287.out hb)
        replace BK289 := y0.mk (qK BK289.out hb)
        replace HB := y0.mk (y4 qb hb)
        clear hb ho52
        obtain ⟨Ao53,co53,eo53⟩ := Kd.R_slice HO295.out
        subst eo53
        obtain ⟨ado53,fo53,_⟩ := Kd.at_string (Kd.R_reads' HO295.out).2.2 0 (by decide) (by rw [Ny293.out]; simp)
        cases fo53
        refine hK.out _ _ ⟨.slice (some ado53) y293.length co53,ado53,m11_,(by rw [ha.out]; exact putSel_upk 5 hb_ rfl rfl rfl),(qk BK287.out),(qk BK289.out),qb,fun _ => (qR HO295.out),fun _ => ⟨_,rfl⟩,fun h0_ => absurd ((hoff 11 (by kernel_rfl)).symm.trans h0_) (by decide)⟩
       refine steps_cons ?_ ?_
       ·rintro b a w' ⟨v294,adz_v294,m11_,ha,Q_BK287,Q_BK289,Q_HB,Q_HO295,Q_HA_HO295,Q_X11_⟩ hb_ hon hoff
        refine ⟨_,rfl,fun K hK => ?_⟩
        have e44 : a.tmps[44]? = some (.pointer (some ⟨gb289,0,none⟩)) := by rw [ha]; exact (putSel_off rfl).trans rfl
        replace ha := y0.mk ha
        have BK287 := y0.mk Q_BK287
        have BK289 := y0.mk Q_BK289
        have HB := y0.mk Q_HB
        have hc0_ : w'.cell? ⟨gb289,0,none⟩ = some (.int .i64 ((y18 l0_0 a1).f0)) := (y7 BK289.out 0).trans rfl
        have hc1_ : w'.cell? ⟨gb289,1,none⟩ = some (.string ((y18 l0_0 a1).f1)) := (y7 BK289.out 1).trans rfl
        have hc2_ : w'.cell? ⟨gb289,2,none⟩ = some (.slice (some ad291) ((y18 l0_0 a1).f2).length c288_2) := (y7 BK289.out 2).trans rfl
        refine value_ (w1 := w') (v := .int .i64 ((y18 l0_0 a1).f0)) (by rfl) rfl ?_ ?_
        ·go_simp
         (try simp only [i64_w])
         try rfl
        refine hK.out _ _ ⟨v294,adz_v294,m11_,(by rw [ha.out]; exact putSel_upk 6 hb_ rfl rfl rfl),Q_BK287,Q_BK289,Q_HB,Q_HO295,Q_HA_HO295,fun h0_ => absurd ((hoff 11 (by kernel_rfl)).symm.trans h0_) (by decide)⟩
       refine steps_cons ?_ ?_
       ·rintro b a w' ⟨v294,adz_v294,m11_,ha,Q_BK287,Q_BK289,Q_HB,Q_HO295,Q_HA_HO295,Q_X11_⟩ hb_ hon hoff
        refine ⟨_,rfl,fun K hK => ?_⟩
        have e45 : a.tmps[45]? = some (.int .i64 ((y18 l0_0 a1).f0)) := by rw [ha]; exact putSel_on (e := (9,45,.int .i64 ((y18 l0_0 a1).f0))) 6 rfl rfl (hon 9 (by kernel_rfl)) rfl
        replace ha := y0.mk ha
        have BK287 := y0.mk Q_BK287
        have BK289 := y0.mk Q_BK289
        have HB := y0.mk Q_HB
        refine value_ (w1 := w') (v := .int .i64 ji42) (by rfl) rfl ?_ ?_
        ·go_simp
         (try simp only [i64_w])
         try rfl
        refine hK.out _ _ ⟨v294,adz_v294,m11_,(by rw [ha.out]; exact putSel_upk 7 hb_ rfl rfl rfl),Q_BK287,Q_BK289,Q_HB,Q_HO295,Q_HA_HO295,fun h0_ => absurd ((hoff 11 (by kernel_rfl)).symm.trans h0_) (by decide)⟩
       refine steps_cons ?_ ?_
       ·rintro b a w' ⟨v294,adz_v294,m11_,ha,Q_BK287,Q_BK289,Q_HB,Q_HO295,Q_HA_HO295,Q_X11_⟩ hb_ hon hoff
        refine ⟨_,rfl,fun K hK => ?_⟩
        have e43 : a.tmps[43]? = some (v294) := by rw [ha]; exact putSel_on (e := (7,43,v294)) 5 rfl rfl (hon 7 (by kernel_rfl)) rfl
        have e46 : a.tmps[46]? = some (.int .i64 ji42) := by rw [ha]; exact putSel_on (e := (10,46,.int .i64 ji42)) 7 rfl rfl (hon 10 (by kernel_rfl)) rfl
        replace ha := y0.mk ha
        have BK287 := y0.mk Q_BK287
        have BK289 := y0.mk Q_BK289
        have HB := y0.mk Q_HB
        have HO295 := y0.mk (Q_HO295 (hon 7 (by kernel_rfl)))
        have HA_HO295 := y0.mk (Q_HA_HO295 (hon 7 (by kernel_rfl)))
        obtain ⟨c_,hv_⟩ := HA_HO295.out
        rw [hv_] at e43
        refine value_ (w1 := w') (v := .pointer (some (adz_v294.add ((ji42)).toNat))) (by rfl) rfl ?_ ?_
        ·go_simp
         (try simp only [i64_w])
         try rfl
        refine hK.out _ _ ⟨v294,adz_v294,(.pointer (some (adz_v294.add ((ji42)).toNat))),(by rw [ha.out]; exact putSel_upk 8 hb_ rfl rfl rfl),Q_BK287,Q_BK289,Q_HB,Q_HO295,Q_HA_HO295,fun _ => rfl⟩
       refine steps_cons ?_ ?_
       ·rintro b a w' ⟨v294,adz_v294,m11_,ha,Q_BK287,Q_BK289,Q_HB,Q_HO295,Q_HA_HO295,Q_X11_⟩ hb_ hon hoff
        refine ⟨_,rfl,fun K hK => ?_⟩
        have e47 : a.tmps[47]? = some (m11_) := by rw [ha]; exact putSel_on (e := (11,47,m11_)) 8 rfl rfl (hon 11 (by kernel_rfl)) rfl
        rw [Q_X11_ (hon 11 (by kernel_rfl))] at e47
        replace ha := y0.mk ha
        have BK287 := y0.mk Q_BK287
        have BK289 := y0.mk Q_BK289
        have HB := y0.mk Q_HB
        have HO295 := y0.mk (Q_HO295 (hon 7 (by kernel_rfl)))
        have HA_HO295 := y0.mk (Q_HA_HO295 (hon 7 (by kernel_rfl)))
        obtain ⟨c_,hv_⟩ := HA_HO295.out
        have hF_ := HO295.out
        rw [hv_] at hF_
        obtain ⟨ad_,ea_,hx_⟩ := Kd.at_string (Kd.R_reads' hF_).2.2 (ji42) (of_eq_true pi296) (of_eq_true qi296)
        cases ea_
        refine value_ (w1 := w') (v := .string (rdOf ByteArray.empty y293 (ji42))) (by rfl) rfl ?_ ?_
        ·go_simp
         (try simp only [i64_w])
         try rfl
        refine hK.out _ _ ⟨v294,adz_v294,m11_,(by rw [ha.out]; exact putSel_upk 9 hb_ rfl rfl rfl),Q_BK287,Q_BK289,Q_HB,Q_HO295,Q_HA_HO295,Q_X11_⟩
       refine steps_cons ?_ ?_
       ·rintro b a w' ⟨v294,adz_v294,m11_,ha,Q_BK287,Q_BK289,Q_HB,Q_HO295,Q_HA_HO295,Q_X11_⟩ hb_ hon hoff
        refine ⟨_,rfl,fun K hK => ?_⟩
        have e42 : a.tmps[42]? = some (.string (t292 ++ (⟨#[32]⟩ : ByteArray))) := by rw [ha]; exact putSel_on (e := (6,42,.string (t292 ++ (⟨#[32]⟩ : ByteArray)))) 4 rfl rfl (hon 6 (by kernel_rfl)) rfl
        have e48 : a.tmps[48]? = some (.string (rdOf ByteArray.empty y293 (ji42))) := by rw [ha]; exact putSel_on (e := (12,48,.string (rdOf ByteArray.empty y293 (ji42)))) 9 rfl rfl (hon 12 (by kernel_rfl)) rfl
        replace ha := y0.mk ha
        have BK287 := y0.mk Q_BK287
        have BK289 := y0.mk Q_BK289
        have HB := y0.mk Q_HB
        have HO295 := y0.mk (Q_HO295 (hon 7 (by kernel_rfl)))
        have HA_HO295 := y0.mk (Q_HA_HO295 (hon 7 (by kernel_rfl)))
        refine value_ (w1 := w') (v := .string ((t292 ++ (⟨#[32]⟩ : ByteArray)) ++ (rdOf ByteArray.empty y293 (ji42)))) (by rfl) rfl ?_ ?_
        ·go_simp
         (try simp only [i64_w])
         try first | rfl | (have hz_ := c13; (try have hy7_ := of_eq_true c7b0); (try have hy8_ := of_eq_true c8b0); (try have hy9_ := of_eq_true c9b0); (try have hy10_ := of_eq_true c10b0); (try have hy11_ := of_eq_true c11b0); (try have hy12_ := of_eq_true c12b0); (try have hy13_ := of_eq_true c13b0); (try simp only [ByteArray.size_append,ByteArray.size_extract] at hz_); omega) | (have hz_ := c15; (try have hy9_ := of_eq_true c9b0); (try have hy10_ := of_eq_true c10b0); (try have hy11_ := of_eq_true c11b0); (try have hy12_ := of_eq_true c12b0); (try have hy13_ := of_eq_true c13b0); (try have hy14_ := of_eq_true c14b0); (try have hy15_ := of_eq_true c15b0); (try simp only [ByteArray.size_append,ByteArray.size_extract] at hz_); omega) | (have hz_ := c16; (try have hy10_ := of_eq_true c10b0); (try have hy11_ := of_eq_true c11b0); (try have hy12_ := of_eq_true c12b0); (try have hy13_ := of_eq_true c13b0); (try have hy14_ := of_eq_true c14b0); (try have hy15_ := of_eq_true c15b0); (try have hy16_ := of_eq_true c16b0); (try simp only [ByteArray.size_append,ByteArray.size_extract] at hz_); omega) | (have hz_ := c41; (try have hy35_ := of_eq_true c35b0); (try have hy36_ := of_eq_true c36b0); (try have hy37_ := of_eq_true c37b0); (try have hy38_ := of_eq_true c38b0); (try have hy39_ := of_eq_true c39b0); (try have hy40_ := of_eq_true c40b0); (try have hy41_ := of_eq_true c41b0); (try simp only [ByteArray.size_append,ByteArray.size_extract] at hz_); omega) | (have hz_ := c45; (try have hy39_ := of_eq_true c39b0); (try have hy40_ := of_eq_true c40b0); (try have hy41_ := of_eq_true c41b0); (try have hy42_ := of_eq_true c42b0); (try have hy43_ := of_eq_true c43b0); (try have hy44_ := of_eq_true c44b0); (try have hy45_ := of_eq_true c45b0); (try simp only [ByteArray.size_append,ByteArray.size_extract] at hz_); omega) | (have hz_ := c46; (try have hy40_ := of_eq_true c40b0); (try have hy41_ := of_eq_true c41b0); (try have hy42_ := of_eq_true c42b0); (try have hy43_ := of_eq_true c43b0); (try have hy44_ := of_eq_true c44b0); (try have hy45_ := of_eq_true c45b0); (try have hy46_ := of_eq_true c46b0); (try simp only [ByteArray.size_append,ByteArray.size_extract] at hz_); omega) | (have hz_ := c49; (try have hy43_ := of_eq_true c43b0); (try have hy44_ := of_eq_true c44b0); (try have hy45_ := of_eq_true c45b0); (try have hy46_ := of_eq_true c46b0); (try have hy47_ := of_eq_true c47b0); (try have hy48_ := of_eq_true c48b0); (try have hy49_ := of_eq_true c49b0); (try simp only [ByteArray.size_append,ByteArray.size_extract] at hz_); omega)
        refine hK.out _ _ ⟨v294,adz_v294,m11_,(by rw [ha.out]; exact putSel_upk 10 hb_ rfl rfl rfl),Q_BK287,Q_BK289,Q_HB,Q_HO295,Q_HA_HO295,Q_X11_⟩
       refine steps_cons ?_ ?_
       ·rintro b a w' ⟨v294,adz_v294,m11_,ha,Q_BK287,Q_BK289,Q_HB,Q_HO295,Q_HA_HO295,Q_X11_⟩ hb_ hon hoff
        refine ⟨_,rfl,fun K hK => ?_⟩
        have e49 : a.tmps[49]? = some (.string ((t292 ++ (⟨#[32]⟩ : ByteArray)) ++ (rdOf ByteArray.empty y293 (ji42)))) := by rw [ha]; exact putSel_on (e := (13,49,.string ((t292 ++ (⟨#[32]⟩ : ByteArray)) ++ (rdOf ByteArray.empty y293 (ji42))))) 10 rfl rfl (hon 13 (by kernel_rfl)) rfl
        replace ha := y0.mk ha
        have BK287 := y0.mk Q_BK287
        have BK289 := y0.mk Q_BK289
        have HB := y0.mk Q_HB
        have HO295 := y0.mk (Q_HO295 (hon 7 (by kernel_rfl)))
        have HA_HO295 := y0.mk (Q_HA_HO295 (hon 7 (by kernel_rfl)))
        refine value_ (w1 := w') (v := .string (((t292 ++ (⟨#[32]⟩ : ByteArray)) ++ (rdOf ByteArray.empty y293 (ji42))) ++ (⟨#[32]⟩ : ByteArray))) (by rfl) rfl ?_ ?_
        ·go_simp
         (try simp only [i64_w])
         try first | rfl | (have hz_ := c13; (try have hy7_ := of_eq_true c7b0); (try have hy8_ := of_eq_true c8b0); (try have hy9_ := of_eq_true c9b0); (try have hy10_ := of_eq_true c10b0); (try have hy11_ := of_eq_true c11b0); (try have hy12_ := of_eq_true c12b0); (try have hy13_ := of_eq_true c13b0); (try simp only [ByteArray.size_append,ByteArray.size_extract] at hz_); omega) | (have hz_ := c15; (try have hy9_ := of_eq_true c9b0); (try have hy10_ := of_eq_true c10b0); (try have hy11_ := of_eq_true c11b0); (try have hy12_ := of_eq_true c12b0); (try have hy13_ := of_eq_true c13b0); (try have hy14_ := of_eq_true c14b0); (try have hy15_ := of_eq_true c15b0); (try simp only [ByteArray.size_append,ByteArray.size_extract] at hz_); omega) | (have hz_ := c16; (try have hy10_ := of_eq_true c10b0); (try have hy11_ := of_eq_true c11b0); (try have hy12_ := of_eq_true c12b0); (try have hy13_ := of_eq_true c13b0); (try have hy14_ := of_eq_true c14b0); (try have hy15_ := of_eq_true c15b0); (try have hy16_ := of_eq_true c16b0); (try simp only [ByteArray.size_append,ByteArray.size_extract] at hz_); omega) | (have hz_ := c41; (try have hy35_ := of_eq_true c35b0); (try have hy36_ := of_eq_true c36b0); (try have hy37_ := of_eq_true c37b0); (try have hy38_ := of_eq_true c38b0); (try have hy39_ := of_eq_true c39b0); (try have hy40_ := of_eq_true c40b0); (try have hy41_ := of_eq_true c41b0); (try simp only [ByteArray.size_append,ByteArray.size_extract] at hz_); omega) | (have hz_ := c45; (try have hy39_ := of_eq_true c39b0); (try have hy40_ := of_eq_true c40b0); (try have hy41_ := of_eq_true c41b0); (try have hy42_ := of_eq_true c42b0); (try have hy43_ := of_eq_true c43b0); (try have hy44_ := of_eq_true c44b0); (try have hy45_ := of_eq_true c45b0); (try simp only [ByteArray.size_append,ByteArray.size_extract] at hz_); omega) | (have hz_ := c46; (try have hy40_ := of_eq_true c40b0); (try have hy41_ := of_eq_true c41b0); (try have hy42_ := of_eq_true c42b0); (try have hy43_ := of_eq_true c43b0); (try have hy44_ := of_eq_true c44b0); (try have hy45_ := of_eq_true c45b0); (try have hy46_ := of_eq_true c46b0); (try simp only [ByteArray.size_append,ByteArray.size_extract] at hz_); omega) | (have hz_ := c49; (try have hy43_ := of_eq_true c43b0); (try have hy44_ := of_eq_true c44b0); (try have hy45_ := of_eq_true c45b0); (try have hy46_ := of_eq_true c46b0); (try have hy47_ := of_eq_true c47b0); (try have hy48_ := of_eq_true c48b0); (try have hy49_ := of_eq_true c49b0); (try simp only [ByteArray.size_append,ByteArray.size_extract] at hz_); omega)
        refine hK.out _ _ ⟨v294,adz_v294,m11_,(by rw [ha.out]; exact putSel_upk 11 hb_ rfl rfl rfl),Q_BK287,Q_BK289,Q_HB,Q_HO295,Q_HA_HO295,Q_X11_⟩
       refine steps_cons ?_ ?_
       ·rintro b a w' ⟨v294,adz_v294,m11_,ha,Q_BK287,Q_BK289,Q_HB,Q_HO295,Q_HA_HO295,Q_X11_⟩ hb_ hon hoff
        refine ⟨_,rfl,fun K hK => ?_⟩
        have e52 : a.tmps[52]? = some (.pointer (some ⟨gb289,2,none⟩)) := by rw [ha]; exact (putSel_off rfl).trans rfl
        replace ha := y0.mk ha
        have BK287 := y0.mk Q_BK287
        have BK289 := y0.mk Q_BK289
        have HB := y0.mk Q_HB
        have hc0_ : w'.cell? ⟨gb289,0,none⟩ = some (.int .i64 ((y18 l0_0 a1).f0)) := (y7 BK289.out 0).trans rfl
        have hc1_ : w'.cell? ⟨gb289,1,none⟩ = some (.string ((y18 l0_0 a1).f1)) := (y7 BK289.out 1).trans rfl
        have hc2_ : w'.cell? ⟨gb289,2,none⟩ = some (.slice (some ad291) ((y18 l0_0 a1).f2).length c288_2) := (y7 BK289.out 2).trans rfl
        refine value_ (w1 := w') (v := .slice (some ad291) ((y18 l0_0 a1).f2).length c288_2) (by rfl) rfl ?_ ?_
        ·go_simp
         (try simp only [i64_w])
         try rfl
        refine hK.out _ _ ⟨v294,adz_v294,m11_,(by rw [ha.out]; exact putSel_upk 12 hb_ rfl rfl rfl),Q_BK287,Q_BK289,Q_HB,Q_HO295,Q_HA_HO295,Q_X11_⟩
       refine steps_cons ?_ ?_
       ·rintro b a w' ⟨v294,adz_v294,m11_,ha,Q_BK287,Q_BK289,Q_HB,Q_HO295,Q_HA_HO295,Q_X11_⟩ hb_ hon hoff
        refine ⟨_,rfl,fun K hK => ?_⟩
        have e53 : a.tmps[53]? = some (.slice (some ad291) ((y18 l0_0 a1).f2).length c288_2) := by rw [ha]; exact putSel_on (e := (17,53,.slice (some ad291) ((y18 l0_0 a1).f2).length c288_2)) 12 rfl rfl (hon 17 (by kernel_rfl)) rfl
        replace ha := y0.mk ha
        have BK287 := y0.mk Q_BK287
        have BK289 := y0.mk Q_BK289
        have HB := y0.mk Q_HB
        have hs1_ : w'.cell? ⟨ad291.block,ad291.off + 1,none⟩ = some (.int .i64 (rd ((y18 l0_0 a1).f2) 1)) := ((HB.out.cell (World.block_lt_of_cell? w _ hw297_0)).trans hw297_0)
        refine value_ (w1 := w') (v := .pointer (some (ad291.add 1))) (by rfl) rfl ?_ ?_
        ·go_simp
         (try simp only [i64_w])
         try rfl
        refine hK.out _ _ ⟨v294,adz_v294,m11_,(by rw [ha.out]; exact putSel_upk 13 hb_ rfl rfl rfl),Q_BK287,Q_BK289,Q_HB,Q_HO295,Q_HA_HO295,Q_X11_⟩
       refine steps_cons ?_ ?_
       ·rintro b a w' ⟨v294,adz_v294,m11_,ha,Q_BK287,Q_BK289,Q_HB,Q_HO295,Q_HA_HO295,Q_X11_⟩ hb_ hon hoff
        refine ⟨_,rfl,fun K hK => ?_⟩
        have e54 : a.tmps[54]? = some (.pointer (some (ad291.add 1))) := by rw [ha]; exact putSel_on (e := (18,54,.pointer (some (ad291.add 1)))) 13 rfl rfl (hon 18 (by kernel_rfl)) rfl
        replace ha := y0.mk ha
        have BK287 := y0.mk Q_BK287
        have BK289 := y0.mk Q_BK289
        have HB := y0.mk Q_HB
        have hs1_ : w'.cell? ⟨ad291.block,ad291.off + 1,none⟩ = some (.int .i64 (rd ((y18 l0_0 a1).f2) 1)) := ((HB.out.cell (World.block_lt_of_cell? w _ hw297_0)).trans hw297_0)
        refine value_ (w1 := w') (v := .int .i64 (rd ((y18 l0_0 a1).f2) 1)) (by rfl) rfl ?_ ?_
        ·go_simp
         (try simp only [i64_w])
         try rfl
        refine hK.out _ _ ⟨v294,adz_v294,m11_,(by rw [ha.out]; exact putSel_upk 14 hb_ rfl rfl rfl),Q_BK287,Q_BK289,Q_HB,Q_HO295,Q_HA_HO295,Q_X11_⟩
       refine steps_cons ?_ ?_
       ·rintro b a w' ⟨v294,adz_v294,m11_,ha,Q_BK287,Q_BK289,Q_HB,Q_HO295,Q_HA_HO295,Q_X11_⟩ hb_ hon hoff
        refine ⟨_,rfl,fun K hK => ?_⟩
        have e51 : a.tmps[51]? = some (.func (.func 93) #[] #[.pointer (some ⟨gb287,0,none⟩)]) := by rw [ha]; exact (putSel_off rfl).trans rfl
        have e55 : a.tmps[55]? = some (.int .i64 (rd ((y18 l0_0 a1).f2) 1)) := by rw [ha]; exact putSel_on (e := (19,55,.int .i64 (rd ((y18 l0_0 a1).f2) 1))) 14 rfl rfl (hon 19 (by kernel_rfl)) rfl
        replace ha := y0.mk ha
        have BK287 := y0.mk Q_BK287
        have BK289 := y0.mk Q_BK289
        have HB := y0.mk Q_HB
        refine goesC_ Try.func93 (by kernel_rfl) rfl #[.int .i64 (rd ((y18 l0_0 a1).f2) 1),.pointer (some ⟨gb287,0,none⟩)] #[.pointer (some ⟨gb287,0,none⟩)] (by rfl) rfl rfl (by first | (simp only [qM_,List.map_cons,List.map_nil,Act.eval,Array.getD_eq_getD_getElem?,Option.getD_some,e51,e55]; done) | (simp only [qM_,List.map_cons,List.map_nil,Act.eval,Array.getD_eq_getD_getElem?,Option.getD_some,e51,e55]; rfl)) ?_
        with_reducible refine (ih_impl_Rule_expText_1 kj29 (by have := HJ29.out; omega) (rd ((y18 l0_0 a1).f2) 1) _ _ l0_0 a0_1 a0_2 _ _ l0_3 _ _ l0_4 gb287 t298 _ (qc (Kd.C_below HR0_0.out HB.out)) HC0_0.out (qc (Kd.C_below HR0_3.out HB.out)) HC0_3.out (qc (Kd.C_below HR0_4.out HB.out)) HC0_4.out (by (with_reducible repeat (first | refine y9 ?_ _ | refine y8 ?_ | refine y5 ?_ _)); exact BK287.out) A48.out).mono ?_
        rintro e w53 ⟨rfl,hb⟩
        refine ⟨_,rfl, ?_⟩
        have n0_ := y0.mk (qK BK287.out hb)
        have n1_ := y0.mk (qK BK289.out hb)
        have n2_ := y0.mk (y4 qb hb)
        have z_HO295 := fun (h0_ : b 7 = true) => (show Kd.R Kd.string 9 w53 w.heap.size (fun _ => True) v294 y293 from by first | exact (Kd.R_below (qR ((Q_HO295 h0_))) hb) | exact Kd.R_mono (Kd.R_below (qR ((Q_HO295 h0_))) hb) (fun _ h_ => by first | trivial | exact h_ | exact h_.1))
        clear BK287
        clear BK289
        clear HB
        have BK287 := n0_
        have BK289 := n1_
        have HB := n2_
        clear n0_ n1_ n2_
        (try clear hb)
        (try clear hb2)
        (try clear hk)
        (try clear hi)
        refine hK.out _ _ ⟨v294,adz_v294,m11_,(by rw [ha.out]; exact putSel_upk 15 hb_ rfl rfl rfl),(qk BK287.out),(qk BK289.out),qb,z_HO295,Q_HA_HO295,Q_X11_⟩
       refine steps_cons ?_ ?_
       ·rintro b a w' ⟨v294,adz_v294,m11_,ha,Q_BK287,Q_BK289,Q_HB,Q_HO295,Q_HA_HO295,Q_X11_⟩ hb_ hon hoff
        refine ⟨_,rfl,fun K hK => ?_⟩
        have e50 : a.tmps[50]? = some (.string (((t292 ++ (⟨#[32]⟩ : ByteArray)) ++ (rdOf ByteArray.empty y293 (ji42))) ++ (⟨#[32]⟩ : ByteArray))) := by rw [ha]; exact putSel_on (e := (14,50,.string (((t292 ++ (⟨#[32]⟩ : ByteArray)) ++ (rdOf ByteArray.empty y293 (ji42))) ++ (⟨#[32]⟩ : ByteArray)))) 11 rfl rfl (hon 14 (by kernel_rfl)) rfl
        have e56 : a.tmps[56]? = some (.string t298) := by rw [ha]; exact putSel_on (e := (20,56,.string t298)) 15 rfl rfl (hon 20 (by kernel_rfl)) rfl
        replace ha := y0.mk ha
        have BK287 := y0.mk Q_BK287
        have BK289 := y0.mk Q_BK289
        have HB := y0.mk Q_HB
        have HO295 := y0.mk (Q_HO295 (hon 7 (by kernel_rfl)))
        have HA_HO295 := y0.mk (Q_HA_HO295 (hon 7 (by kernel_rfl)))
        refine value_ (w1 := w') (v := .string ((((t292 ++ (⟨#[32]⟩ : ByteArray)) ++ (rdOf ByteArray.empty y293 (ji42))) ++ (⟨#[32]⟩ : ByteArray)) ++ t298)) (by rfl) rfl ?_ ?_
        ·go_simp
         (try simp only [i64_w])
         try first | rfl | (have hz_ := c13; (try have hy7_ := of_eq_true c7b0); (try have hy8_ := of_eq_true c8b0); (try have hy9_ := of_eq_true c9b0); (try have hy10_ := of_eq_true c10b0); (try have hy11_ := of_eq_true c11b0); (try have hy12_ := of_eq_true c12b0); (try have hy13_ := of_eq_true c13b0); (try simp only [ByteArray.size_append,ByteArray.size_extract] at hz_); omega) | (have hz_ := c15; (try have hy9_ := of_eq_true c9b0); (try have hy10_ := of_eq_true c10b0); (try have hy11_ := of_eq_true c11b0); (try have hy12_ := of_eq_true c12b0); (try have hy13_ := of_eq_true c13b0); (try have hy14_ := of_eq_true c14b0); (try have hy15_ := of_eq_true c15b0); (try simp only [ByteArray.size_append,ByteArray.size_extract] at hz_); omega) | (have hz_ := c16; (try have hy10_ := of_eq_true c10b0); (try have hy11_ := of_eq_true c11b0); (try have hy12_ := of_eq_true c12b0); (try have hy13_ := of_eq_true c13b0); (try have hy14_ := of_eq_true c14b0); (try have hy15_ := of_eq_true c15b0); (try have hy16_ := of_eq_true c16b0); (try simp only [ByteArray.size_append,ByteArray.size_extract] at hz_); omega) | (have hz_ := c41; (try have hy35_ := of_eq_true c35b0); (try have hy36_ := of_eq_true c36b0); (try have hy37_ := of_eq_true c37b0); (try have hy38_ := of_eq_true c38b0); (try have hy39_ := of_eq_true c39b0); (try have hy40_ := of_eq_true c40b0); (try have hy41_ := of_eq_true c41b0); (try simp only [ByteArray.size_append,ByteArray.size_extract] at hz_); omega) | (have hz_ := c45; (try have hy39_ := of_eq_true c39b0); (try have hy40_ := of_eq_true c40b0); (try have hy41_ := of_eq_true c41b0); (try have hy42_ := of_eq_true c42b0); (try have hy43_ := of_eq_true c43b0); (try have hy44_ := of_eq_true c44b0); (try have hy45_ := of_eq_true c45b0); (try simp only [ByteArray.size_append,ByteArray.size_extract] at hz_); omega) | (have hz_ := c46; (try have hy40_ := of_eq_true c40b0); (try have hy41_ := of_eq_true c41b0); (try have hy42_ := of_eq_true c42b0); (try have hy43_ := of_eq_true c43b0); (try have hy44_ := of_eq_true c44b0); (try have hy45_ := of_eq_true c45b0); (try have hy46_ := of_eq_true c46b0); (try simp only [ByteArray.size_append,ByteArray.size_extract] at hz_); omega) | (have hz_ := c49; (try have hy43_ := of_eq_true c43b0); (try have hy44_ := of_eq_true c44b0); (try have hy45_ := of_eq_true c45b0); (try have hy46_ := of_eq_true c46b0); (try have hy47_ := of_eq_true c47b0); (try have hy48_ := of_eq_true c48b0); (try have hy49_ := of_eq_true c49b0); (try simp only [ByteArray.size_append,ByteArray.size_extract] at hz_); omega)
        refine hK.out _ _ ⟨v294,adz_v294,m11_,(by rw [ha.out]; exact putSel_upk 16 hb_ rfl rfl rfl),Q_BK287,Q_BK289,Q_HB,Q_HO295,Q_HA_HO295,Q_X11_⟩
       refine steps_cons ?_ ?_
       ·rintro b a w' ⟨v294,adz_v294,m11_,ha,Q_BK287,Q_BK289,Q_HB,Q_HO295,Q_HA_HO295,Q_X11_⟩ hb_ hon hoff
        refine ⟨_,rfl,fun K hK => ?_⟩
        have e57 : a.tmps[57]? = some (.string ((((t292 ++ (⟨#[32]⟩ : ByteArray)) ++ (rdOf ByteArray.empty y293 (ji42))) ++ (⟨#[32]⟩ : ByteArray)) ++ t298)) := by rw [ha]; exact putSel_on (e := (21,57,.string ((((t292 ++ (⟨#[32]⟩ : ByteArray)) ++ (rdOf ByteArray.empty y293 (ji42))) ++ (⟨#[32]⟩ : ByteArray)) ++ t298))) 16 rfl rfl (hon 21 (by kernel_rfl)) rfl
        replace ha := y0.mk ha
        have BK287 := y0.mk Q_BK287
        have BK289 := y0.mk Q_BK289
        have HB := y0.mk Q_HB
        have HO295 := y0.mk (Q_HO295 (hon 7 (by kernel_rfl)))
        have HA_HO295 := y0.mk (Q_HA_HO295 (hon 7 (by kernel_rfl)))
        refine value_ (w1 := w') (v := .string ((((t292 ++ (⟨#[32]⟩ : ByteArray)) ++ (rdOf ByteArray.empty y293 (ji42))) ++ (⟨#[32]⟩ : ByteArray)) ++ t298)) (by rfl) rfl ?_ ?_
        ·go_simp
         (try simp only [i64_w])
         try first | rfl | (have hz_ := c13; (try have hy7_ := of_eq_true c7b0); (try have hy8_ := of_eq_true c8b0); (try have hy9_ := of_eq_true c9b0); (try have hy10_ := of_eq_true c10b0); (try have hy11_ := of_eq_true c11b0); (try have hy12_ := of_eq_true c12b0); (try have hy13_ := of_eq_true c13b0); (try simp only [ByteArray.size_append,ByteArray.size_extract] at hz_); omega) | (have hz_ := c15; (try have hy9_ := of_eq_true c9b0); (try have hy10_ := of_eq_true c10b0); (try have hy11_ := of_eq_true c11b0); (try have hy12_ := of_eq_true c12b0); (try have hy13_ := of_eq_true c13b0); (try have hy14_ := of_eq_true c14b0); (try have hy15_ := of_eq_true c15b0); (try simp only [ByteArray.size_append,ByteArray.size_extract] at hz_); omega) | (have hz_ := c16; (try have hy10_ := of_eq_true c10b0); (try have hy11_ := of_eq_true c11b0); (try have hy12_ := of_eq_true c12b0); (try have hy13_ := of_eq_true c13b0); (try have hy14_ := of_eq_true c14b0); (try have hy15_ := of_eq_true c15b0); (try have hy16_ := of_eq_true c16b0); (try simp only [ByteArray.size_append,ByteArray.size_extract] at hz_); omega) | (have hz_ := c41; (try have hy35_ := of_eq_true c35b0); (try have hy36_ := of_eq_true c36b0); (try have hy37_ := of_eq_true c37b0); (try have hy38_ := of_eq_true c38b0); (try have hy39_ := of_eq_true c39b0); (try have hy40_ := of_eq_true c40b0); (try have hy41_ := of_eq_true c41b0); (try simp only [ByteArray.size_append,ByteArray.size_extract] at hz_); omega) | (have hz_ := c45; (try have hy39_ := of_eq_true c39b0); (try have hy40_ := of_eq_true c40b0); (try have hy41_ := of_eq_true c41b0); (try have hy42_ := of_eq_true c42b0); (try have hy43_ := of_eq_true c43b0); (try have hy44_ := of_eq_true c44b0); (try have hy45_ := of_eq_true c45b0); (try simp only [ByteArray.size_append,ByteArray.size_extract] at hz_); omega) | (have hz_ := c46; (try have hy40_ := of_eq_true c40b0); (try have hy41_ := of_eq_true c41b0); (try have hy42_ := of_eq_true c42b0); (try have hy43_ := of_eq_true c43b0); (try have hy44_ := of_eq_true c44b0); (try have hy45_ := of_eq_true c45b0); (try have hy46_ := of_eq_true c46b0); (try simp only [ByteArray.size_append,ByteArray.size_extract] at hz_); omega) | (have hz_ := c49; (try have hy43_ := of_eq_true c43b0); (try have hy44_ := of_eq_true c44b0); (try have hy45_ := of_eq_true c45b0); (try have hy46_ := of_eq_true c46b0); (try have hy47_ := of_eq_true c47b0); (try have hy48_ := of_eq_true c48b0); (try have hy49_ := of_eq_true c49b0); (try simp only [ByteArray.size_append,ByteArray.size_extract] at hz_); omega)
        refine hK.out _ _ ⟨v294,adz_v294,m11_,(by rw [ha.out]; exact putSel_upk 17 hb_ rfl rfl rfl),Q_BK287,Q_BK289,Q_HB,Q_HO295,Q_HA_HO295,Q_X11_⟩
       exact steps_nil
      rintro b a w56 hall ⟨v294,adz_v294,m11_,ha,Q_BK287,Q_BK289,Q_HB,Q_HO295,Q_HA_HO295,Q_X11_⟩
      clear BK287 BK289 HB
      have hb2_ := hall 2 (by kernel_rfl)
      have hb3_ := hall 3 (by kernel_rfl)
      have hb4_ := hall 4 (by kernel_rfl)
      have hb5_ := hall 5 (by kernel_rfl)
      have hb6_ := hall 6 (by kernel_rfl)
      have hb7_ := hall 7 (by kernel_rfl)
      have hb9_ := hall 9 (by kernel_rfl)
      have hb10_ := hall 10 (by kernel_rfl)
      have hb11_ := hall 11 (by kernel_rfl)
      have hb12_ := hall 12 (by kernel_rfl)
      have hb13_ := hall 13 (by kernel_rfl)
      have hb14_ := hall 14 (by kernel_rfl)
      have hb17_ := hall 17 (by kernel_rfl)
      have hb18_ := hall 18 (by kernel_rfl)
      have hb19_ := hall 19 (by kernel_rfl)
      have hb20_ := hall 20 (by kernel_rfl)
      have hb21_ := hall 21 (by kernel_rfl)
      have hb22_ := hall 22 (by kernel_rfl)
      subst ha
      obtain rfl := Q_X11_ hb11_
      simp only [putSel,hb2_,hb3_,hb4_,hb5_,hb6_,hb7_,hb9_,hb10_,hb11_,hb12_,hb13_,hb14_,hb17_,hb18_,hb19_,hb20_,hb21_,hb22_,if_true,Act.put,qS_,qZ_,qC_]
      have BK287 := y0.mk Q_BK287
      clear Q_BK287
      have BK289 := y0.mk Q_BK289
      clear Q_BK289
      have HB := y0.mk Q_HB
      clear Q_HB
      have HO295 := y0.mk (Q_HO295 hb7_)
      clear Q_HO295
      have HA_HO295 := y0.mk (Q_HA_HO295 hb7_)
      clear Q_HA_HO295
      clear hall hb2_ hb3_ hb4_ hb5_ hb6_ hb7_ hb9_ hb10_ hb11_ hb12_ hb13_ hb14_ hb17_ hb18_ hb19_ hb20_ hb21_ hb22_
      obtain ⟨co57,eo57⟩ := HA_HO295.out
      clear HA_HO295
      subst eo57
      try go_wp2
      go_ret
      exact ⟨by first | rfl | (simp [y12,y13] <;> rfl) | (simp only [← hji42]; first | rfl | (simp [y12,y13] <;> rfl)) | (simp [*,y12,y13] <;> rfl),qb⟩
     ·replace c38 := Bool.eq_false_iff.mpr c38
      subst c38
      replace H := qF H
      obtain rfl := Option.some.inj H
      have hnb58 := NB289_287.out
      have hnc58 := NB287_289.out
      obtain ⟨hcz59_0,hcz59_1,hcz59_2,hfz59_0,hfz59_1,hfz59_2⟩ := qz3 BK289.out
      go_wp2
      go_ret
      exact ⟨by first | rfl | (simp [y12,y13] <;> rfl) | (simp [*,y12,y13] <;> rfl),qb⟩
theorem z1_.all.Stm : ∀ k,z1_.Stm k ∧ impl_Rule_expText_1.Stm k ∧ z0_.Stm k := by
 intro k
 induction k using Nat.strongRecOn with
 | _ k ih =>
 exact ⟨z1_.step k (fun m h => (ih m h).1) (fun m h => (ih m h).2.1) (fun m h => (ih m h).2.2),impl_Rule_expText_1.step k (fun m h => (ih m h).1) (fun m h => (ih m h).2.1) (fun m h => (ih m h).2.2),z0_.step k (fun m h => (ih m h).1) (fun m h => (ih m h).2.1) (fun m h => (ih m h).2.2)⟩
theorem z1_.calls (k : Nat) : ∀ (A0_0 : Option Addr) (c0_0 : Nat) (l0_0 : List (S101)) (a0_1 : Int) (a0_2 : ByteArray) (A0_3 : Option Addr) (c0_3 : Nat) (l0_3 : List Int) (A0_4 : Option Addr) (c0_4 : Nat) (l0_4 : List (S32)) (A1 : Option Addr) (c1 : Nat) (l1 : List Int) (r : ByteArray) (w : World) (hr0_0 : Kd.C k101 w A0_0 l0_0.length l0_0) (hc0_0 : l0_0.length ≤ c0_0) (hr0_3 : Kd.C (Kd.int .i64) w A0_3 l0_3.length l0_3) (hc0_3 : l0_3.length ≤ c0_3) (hr0_4 : Kd.C k32 w A0_4 l0_4.length l0_4) (hc0_4 : l0_4.length ≤ c0_4) (hr1 : Kd.C (Kd.int .i64) w A1 l1.length l1) (hc1 : l1.length ≤ c1) (h : z1_.f k l0_0 a0_1 a0_2 l0_3 l0_4 l1 = some r),
  Calls Try.prog 81 #[.agg #[.slice A0_0 l0_0.length c0_0,.int .i64 a0_1,.string a0_2,.slice A0_3 l0_3.length c0_3,.slice A0_4 l0_4.length c0_4],.slice A1 l1.length c1] w fun e w' => e = .returned (.string r) ∧ Below w.heap.size w w' := (z1_.all.Stm k).1
theorem z0_.calls (k : Nat) : ∀ (A0_0 : Option Addr) (c0_0 : Nat) (l0_0 : List (S101)) (a0_1 : Int) (a0_2 : ByteArray) (A0_3 : Option Addr) (c0_3 : Nat) (l0_3 : List Int) (A0_4 : Option Addr) (c0_4 : Nat) (l0_4 : List (S32)) (a1 : Int) (r : ByteArray) (w : World) (hr0_0 : Kd.C k101 w A0_0 l0_0.length l0_0) (hc0_0 : l0_0.length ≤ c0_0) (hr0_3 : Kd.C (Kd.int .i64) w A0_3 l0_3.length l0_3) (hc0_3 : l0_3.length ≤ c0_3) (hr0_4 : Kd.C k32 w A0_4 l0_4.length l0_4) (hc0_4 : l0_4.length ≤ c0_4) (h : z0_.f k l0_0 a0_1 a0_2 l0_3 l0_4 a1 = some r),
  Calls Try.prog 80 #[.agg #[.slice A0_0 l0_0.length c0_0,.int .i64 a0_1,.string a0_2,.slice A0_3 l0_3.length c0_3,.slice A0_4 l0_4.length c0_4],.int .i64 a1] w fun e w' => e = .returned (.string r) ∧ Below w.heap.size w w' := (z1_.all.Stm k).2.2
end Go.Proofs.Ytamjmldfifofbaa.Pp

-- Cut by prune.py, a program of this session, out of the texts of this claim: Lean checks it.
import Derived.Test.YtebadckdihgklaaDoorVobPbx31
import Derived.Test.YtebadckdihgklaaDoorVobPureFnExactTermParts
import Derived.Test.YtebadckdihgklaaDoorVobQMake
import Derived.Test.YtebadckdihgklaaDoorVobQTerms
import Derived.Test.YtebadckdihgklaaDoorVobQDraw
namespace Go.Proofs.YtebadckdihgklaaDoor.Pure
open Go.RowKit Go.Proofs.YtebadckdihgklaaDoor.Pb Go.Proofs.YtebadckdihgklaaDoorW.PrintWords Go.Proofs.YtebadckdihgklaaDoorW.PrintLast Go.Proofs.YtebadckdihgklaaDoor.QStr Go.Proofs.YtebadckdihgklaaDoor.QTm Go.Proofs.YtebadckdihgklaaDoor.QPrs Go.Proofs.YtebadckdihgklaaDoor.QKind Go.Proofs.YtebadckdihgklaaDoor.QParts Go.Proofs.YtebadckdihgklaaDoor.QLaws Go.Proofs.YtebadckdihgklaaDoor.QSize Go.Proofs.YtebadckdihgklaaDoor.QIns Go.Proofs.YtebadckdihgklaaDoor.QTerms Go.Proofs.YtebadckdihgklaaDoor.QMake Go.Proofs.YtebadckdihgklaaDoor.QNumb Go.Proofs.YtebadckdihgklaaDoor.QCur Go.Proofs.YtebadckdihgklaaDoor.QDraw
theorem drawKind_f {l : List Int} (hl : Byt l) (k : Nat) (hk : 250 < k) : ∃ a, spec_DrawTermKind.f k l = some a ∧ a.size ≤ 1000 := by
  unfold spec_DrawTermKind.f
  obtain ⟨s, ho, hc⟩ := open_f l
  rw [ho, Option.bind_some]
  simp only []
  obtain ⟨a, a1, s1, h1, b1, c1⟩ := any_f hl hc (by omega) k hk
  rw [h1, Option.bind_some]
  exact ⟨a, rfl, b1⟩
theorem kindOf_t {t : Tm} (h : Sh t) (k : Nat) (hk : 10000 < k) : impl_kindOf.f k (rB t) = some (kind t : Int) := by
  have h2 := h.2
  have := kindOf_f (rnd t) (by omega) k (by omega)
  rw [sh_prs h] at this
  exact this
theorem size_t {t : Tm} (h : Sh t) (k : Nat) (hk : 10000 < k) : impl_TermSize.f k (rB t) = some (tsz t : Int) := by
  have h2 := h.2
  have kp := kind_pos t
  unfold impl_TermSize.f
  rw [kindOf_t h k hk, Option.bind_some, if_neg (by omega), sizeOf_f _ t rfl h.1 h2 k (by omega), Option.bind_some]
theorem inside_t {t u : Tm} (ht : Sh t) (hu : Sh u) (k : Nat) (hk : 10000 < k) : impl_Inside.f k (rB u) (rB t) = some (ins (rnd u) t) := by
  have h1 := ht.2
  have kt := kind_pos t
  have ku := kind_pos u
  unfold impl_Inside.f
  rw [kindOf_t hu k hk, Option.bind_some, if_neg (by omega), kindOf_t ht k hk, Option.bind_some, if_neg (by omega), show rB u = B (rnd u) from rfl, isInside_f (rnd u) _ t rfl ht.1 h1 k (by omega), Option.bind_some]
theorem parts_t {t : Tm} (h : Sh t) (k : Nat) (hk : 10000 < k) : impl_TermParts.f k (rB t) = some (B (hd t), (kids t).map rB) := by
  have h2 := h.2
  have := impl_parts_f (rnd t) (by omega) k (by omega)
  rw [sh_prs h] at this
  exact this
theorem terms_l1 (t : Tm) (h : Sh t) (i : Nat) (hi : i < (kids t).length) (x7 : ByteArray) (x8 : Bool) (x9 : Int) : ∀ (e j k : Nat), j + e = (kids ((kids t)[i])).length → 20000 + e < k →
    laws_FnTerms.l1 k (rB t) ((kids t).map rB) x7 x8 x9 (i : Int) ((kids ((kids t)[i])).map rB) (j : Int) = laws_FnTerms.l0 (k - (e + 1)) (rB t) ((kids t).map rB) x7 x8 x9 ((i + 1 : Nat) : Int)
  | 0, j, k, he, hk => by
    obtain ⟨k, rfl⟩ : ∃ m, k = m + 1 := ⟨k - 1, by omega⟩
    have hkl := (kids_len h.1).2
    have h2 := h.2
    rw [laws_FnTerms.l1, if_neg (by rw [List.length_map]; omega), step_i (by omega)]
    rfl
  | e + 1, j, k, he, hk => by
    obtain ⟨k, rfl⟩ : ∃ m, k = m + 1 := ⟨k - 1, by omega⟩
    have hm := List.getElem_mem hi
    have hu := sh_kid h hm
    have hlt : j < (kids ((kids t)[i])).length := by omega
    have hm2 := List.getElem_mem hlt
    have hv := sh_kid hu hm2
    have hkl := (kids_len hu.1).2
    have h2 := hu.2
    have ih := terms_l1 t h i hi x7 x8 x9 e (j + 1) k (by omega) (by omega)
    have hk3 : kind ((kids t)[i]) = 3 := by
      revert hlt
      cases (kids t)[i] <;> simp [kids, kind]
    have e1 : k + 1 - (e + 1 + 1) = k - (e + 1) := by omega
    rw [laws_FnTerms.l1, if_pos (by rw [List.length_map]; omega), if_pos (by omega), if_pos (by rw [List.length_map]; omega), map_get (kids t) i hi, show B (rnd (kids t)[i]) = rB (kids t)[i] from rfl]
    unfold impl_TermKind.f
    rw [kindOf_t hu k (by omega), Option.bind_some, Option.bind_some, step_i (by omega), ih, e1, if_pos (by omega), if_pos (by omega), map_get _ j hlt, show B (rnd (kids ((kids t)[i]))[j]) = rB (kids ((kids t)[i]))[j] from rfl, inside_t h hv k (by omega), Option.bind_some, ins_kid2 hm (ins_kid hm2), if_pos rfl]
theorem terms_l0 (t : Tm) (h : Sh t) : ∀ (d i k : Nat) (a : Nat), i + d = (kids t).length → a + tszL ((kids t).drop i) = tsz t → 30000 + 400 * d < k →
    laws_FnTerms.l0 k (rB t) ((kids t).map rB) (rB t) true (a : Int) (i : Int) = some true
  | 0, i, k, a, hd, ha, hk => by
    obtain ⟨k, rfl⟩ : ∃ m, k = m + 1 := ⟨k - 1, by omega⟩
    rw [List.drop_of_length_le (by omega), tszL_nil] at ha
    rw [laws_FnTerms.l0, if_neg (by rw [List.length_map]; omega), if_pos rfl, if_pos rfl, size_t h k (by omega), Option.bind_some, ← ha]
    simp
  | d + 1, i, k, a, hd, ha, hk => by
    obtain ⟨k, rfl⟩ : ∃ m, k = m + 2 := ⟨k - 2, by omega⟩
    have hlt : i < (kids t).length := by omega
    have hm := List.getElem_mem hlt
    have hu := sh_kid h hm
    have hkl := (kids_len h.1).2
    have hkl2 := (kids_len hu.1).2
    have h2 := h.2
    have h3 := hu.2
    have q3 : ((i : Nat) : Int) < (((kids t).map rB).length : Int) := by clear ha; rw [List.length_map]; omega
    have q4 : (0 : Int) ≤ (i : Int) := Int.natCast_nonneg _
    have q6 : 20000 + (kids ((kids t)[i])).length < k := by clear ha; omega
    have q1 : 10000 < k := Nat.lt_of_le_of_lt (Nat.le_trans (by decide : 10000 ≤ 20000) (Nat.le_add_right _ _)) q6
    have q2 : 10000 < k + 1 := Nat.lt_succ_of_lt q1
    have q7 : i + 1 + d = (kids t).length := by clear ha; omega
    have q8 : 30000 + 400 * d < k - ((kids ((kids t)[i])).length + 1) := by clear ha; omega
    have aux : ∀ x y z : Nat, a + (x + y) = z → z ≤ 200 → wrap64 ((a : Int) + (x : Int)) = ((a + x : Nat) : Int) ∧ (a + x) + y = z := by
      clear ha
      intro x y z h1 h2
      refine ⟨?_, by omega⟩
      rw [wrapS (by omega) (by omega)]
      omega
    have hz := tsz_kid hm
    have q5 : decide (((tsz (kids t)[i] : Nat) : Int) ≥ ((tsz t : Nat) : Int)) = false := decide_eq_false (fun h => absurd (Int.ofNat_le.1 h) (Nat.not_le.2 hz))
    rw [List.drop_eq_getElem_cons hlt, tszL_cons] at ha
    obtain ⟨hw, ha'⟩ := aux _ _ _ ha (Nat.le_trans (tsz_le t h.1) h2)
    have hl1 := terms_l1 t h i hlt (rB t) true ((a + tsz (kids t)[i] : Nat) : Int) (kids ((kids t)[i])).length 0 k (Nat.zero_add _) q6
    have hgo := terms_l0 t h d (i + 1) (k - ((kids ((kids t)[i])).length + 1)) (a + tsz (kids t)[i]) q7 ha' q8
    rw [laws_FnTerms.l0, if_pos q3, if_pos q4, map_get (kids t) i hlt, show B (rnd (kids t)[i]) = rB (kids t)[i] from rfl, size_t hu _ q2, Option.bind_some, inside_t h hu _ q2, Option.bind_some, ins_kid hm, if_pos rfl, inside_t hu h _ q2, Option.bind_some, ins_not h.1 hm, if_neg (by decide), Option.bind_some, size_t h _ q2, Option.bind_some, hw, q5, laws_FnTerms.j1, if_neg (by decide), if_pos q4, if_pos q3, map_get (kids t) i hlt, show B (rnd (kids t)[i]) = rB (kids t)[i] from rfl, parts_t hu _ q1, Option.bind_some]
    exact hl1.trans hgo
theorem FnTerms : laws_FnTerms.Pure := by
  intro l hl
  have hl := byt_of hl
  obtain ⟨K, hK⟩ : ∃ K : Nat, K = 900200000 := ⟨_, rfl⟩
  refine ⟨K, ?_⟩
  unfold laws_FnTerms.f laws_big.f
  rw [Option.bind_some]
  by_cases hb : decide ((l.length : Int) > 1048576) = true
  · rw [if_pos hb]
  rw [if_neg hb]
  obtain ⟨a, ha, has⟩ := drawKind_f hl K (by omega)
  have sa : (L a).length = a.size := L_length a
  have h1 := kindOf_f (L a) (by omega) K (by omega)
  have h2 := spec_kind _ (L a) rfl (by omega) K (by omega)
  have h3 := impl_parts_f (L a) (by omega) K (by omega)
  rw [B_L] at h1 h2 h3
  unfold impl_TermKind.f
  rw [ha, Option.bind_some, h1, Option.bind_some, Option.bind_some, h3, Option.bind_some, h2, Option.bind_some, if_pos rfl]
  cases hp : prs (L a) with
  | none =>
    rw [if_pos (show kd none = 0 from rfl), if_pos (show (partsB none).1.toList = [] from toList_B []), if_pos (by rfl)]
    unfold impl_TermSize.f
    rw [h1, hp, Option.bind_some, if_pos (show kd none = 0 from rfl)]
    rfl
  | some t =>
    obtain ⟨g1, g2, g3⟩ := prs_some.1 hp
    have hs : Sh t := ⟨g1, by rw [g2]; exact g3⟩
    have e : a = rB t := by rw [rB, g2, B_L]
    have kt := kind_pos t
    rw [if_neg (by simp only [kd]; omega)]
    by_cases hk : kind t = 3
    · rw [if_pos (by simp only [kd]; omega)]
      cases t with
      | num v => simp [kind] at hk
      | sym b => simp [kind] at hk
      | con nm ts =>
        have hok := (ok_con nm ts).1 g1
        have hmk := impl_make_f nm (ts.map rnd) (by have := hok.1.1; omega) (by rw [List.length_map]; have := (kids_len g1).2; simp only [kids] at this; have := hs.2; omega) (fun q hq => by
          obtain ⟨u, hu, rfl⟩ := List.mem_map.1 hq
          have := (sh_kid hs (show u ∈ kids (.con nm ts) from hu)).2
          omega) K (by omega)
        have hfull : full nm (ts.map rnd) = rnd (.con nm ts) := by
          rw [rnd_con, full]
          cases ts with
          | nil => rw [rndA_nil, List.append_nil]; rfl
          | cons a ts => rw [if_neg (by simp), rndA_cons, joinC_rnd]
        have hmade : made nm (ts.map rnd) = (rB (.con nm ts), true) := by
          rw [made, hfull, if_pos]
          · rfl
          · refine ⟨(nam_iff nm).2 hok.1, ?_, hs.2⟩
            rw [List.all_eq_true]
            intro q hq
            obtain ⟨u, hu, rfl⟩ := List.mem_map.1 hq
            rw [sh_prs (sh_kid hs (show u ∈ kids (.con nm ts) from hu))]
            rfl
        rw [hmade, List.map_map] at hmk
        have hmk : impl_TermMake.f K (B nm) (ts.map rB) = some (rB (.con nm ts), true) := hmk
        simp only [partsB, hd, kids]
        rw [hmk, Option.bind_some, e]
        exact terms_l0 (.con nm ts) hs ts.length 0 K 1 (by simp [kids]) (by rw [tsz_kids]; rfl) (by have := (kids_len g1).2; simp only [kids] at this; have := hs.2; omega)
    · have hkids : kids t = [] := by cases t <;> first | rfl | simp [kind] at hk
      have hhd : hd t = rnd t := by cases t <;> first | rfl | simp [kind] at hk
      rw [if_neg (by simp only [kd]; omega)]
      have hpB : partsB (some t) = (rB t, []) := by rw [partsB, hkids, hhd]; rfl
      rw [hpB, e, if_pos rfl, if_pos (by rfl), size_t hs K (by omega), tsz_kids, hkids, tszL_nil]
      rfl
end Go.Proofs.YtebadckdihgklaaDoor.Pure

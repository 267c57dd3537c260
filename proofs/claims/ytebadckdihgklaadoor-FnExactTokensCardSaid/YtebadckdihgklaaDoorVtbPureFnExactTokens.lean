-- Cut by prune.py, a program of this session, out of the texts of this claim: Lean checks it.
import Derived.Test.YtebadckdihgklaaDoorVtbPbx23
import Derived.Test.YtebadckdihgklaaDoorVtbPureFnTokens
import Derived.Test.YtebadckdihgklaaDoorVtbQMark
namespace Go.Proofs.YtebadckdihgklaaDoor.Pure
open Go.RowKit Go.Proofs.YtebadckdihgklaaDoor.Pb Go.Proofs.YtebadckdihgklaaDoorW.PrintWords Go.Proofs.YtebadckdihgklaaDoorW.PrintLast Go.Proofs.YtebadckdihgklaaDoor.QStr Go.Proofs.YtebadckdihgklaaDoor.QLaws Go.Proofs.YtebadckdihgklaaDoor.QMark Go.Proofs.YtebadckdihgklaaDoor.QTok Go.Proofs.YtebadckdihgklaaDoor.QLex
theorem eqTok_l (xs : List TK) (hx : xs.length ≤ 3000) : ∀ (d i k : Nat), i + d = xs.length → d < k → laws_eqTokS.l0 k xs xs (i : Int) = some true
  | 0, i, k, hd, hk => by
    obtain ⟨k, rfl⟩ : ∃ m, k = m + 1 := ⟨k - 1, by omega⟩
    rw [laws_eqTokS.l0, if_neg (by omega)]
  | d + 1, i, k, hd, hk => by
    obtain ⟨k, rfl⟩ : ∃ m, k = m + 1 := ⟨k - 1, by omega⟩
    rw [laws_eqTokS.l0, if_pos (by omega), if_pos (by omega), if_pos (by omega)]
    unfold laws_eqTok.f
    rw [if_pos rfl, if_pos rfl, if_pos rfl, Option.bind_some, if_pos rfl, step_i (by omega), eqTok_l xs hx d (i + 1) k (by omega) (by omega)]
theorem eqTok_f (xs : List TK) (hx : xs.length ≤ 3000) (k : Nat) (hk : 3000 < k) : laws_eqTokS.f k xs xs = some true := by
  unfold laws_eqTokS.f
  rw [if_pos rfl]
  exact eqTok_l xs hx xs.length 0 k (by omega) (by omega)
def mk3 (c j : Nat) : TK := ⟨((c + 3 * j : Nat) : Int), B (mt (c + 3 * j + 1)), ((c + 3 * j + 1 + 1 : Nat) : Int)⟩
def marks3 (c n : Nat) : List TK := (List.range n).map (mk3 c)
theorem marks3_len (c n : Nat) : (marks3 c n).length = n := by simp [marks3]
theorem marks3_succ (c n : Nat) : marks3 c (n + 1) = marks3 c n ++ [mk3 c n] := by simp [marks3, List.range_succ]
theorem marks3_get (c n i : Nat) (h : i < (marks3 c n).length) : (marks3 c n)[i] = mk3 c i := by simp [marks3]
theorem rdK_set (xs : List TK) (i : Nat) (h : i < xs.length) (v : TK) : rd_T54 (xs.set i v) (i : Int) = v := by
  rw [rdK_get _ i (by rw [List.length_set]; exact h), List.getElem_set_self]
theorem mark3_l (c n : Nat) (hc : c + 3 * n < 900000000) : ∀ (d i k : Nat) (rest : List TK), i + d = n → rest.length = d → d + 21 < k → laws_markTokS.l0 k (marks3 c i ++ rest) ((c + 3 * i : Nat) : Int) (i : Int) = some (((c + 3 * n : Nat) : Int), marks3 c n)
  | 0, i, k, rest, hd, hr, hk => by
    obtain ⟨k, rfl⟩ : ∃ m, k = m + 1 := ⟨k - 1, by omega⟩
    have hr0 : rest = [] := List.length_eq_zero_iff.1 hr
    have hi : i = n := by omega
    rw [hr0, List.append_nil, hi, laws_markTokS.l0, if_neg (by rw [marks3_len]; omega)]
  | d + 1, i, k, [], hd, hr, hk => by simp at hr
  | d + 1, i, k, x :: rest, hd, hr, hk => by
    obtain ⟨k, rfl⟩ : ∃ m, k = m + 1 := ⟨k - 1, by omega⟩
    have hlt : i < (marks3 c i ++ x :: rest).length := by simp only [List.length_append, marks3_len, List.length_cons]; omega
    have hset : ∀ v, (marks3 c i ++ x :: rest).set i v = marks3 c i ++ v :: rest := by
      intro v
      rw [List.set_append_right _ _ (by rw [marks3_len]; omega), marks3_len, Nat.sub_self, List.set_cons_zero]
    have s1 : wrap64 (((c + 3 * i : Nat) : Int) + 1) = ((c + 3 * i + 1 : Nat) : Int) := step_i (by omega)
    have s2 : wrap64 (((c + 3 * i + 1 : Nat) : Int) + 1) = ((c + 3 * i + 1 + 1 : Nat) : Int) := step_i (by omega)
    have s3 : wrap64 (((c + 3 * i + 1 + 1 : Nat) : Int) + 1) = ((c + 3 * (i + 1) : Nat) : Int) := by clear s1 s2; rw [step_i (by omega), show c + 3 * i + 1 + 1 + 1 = c + 3 * (i + 1) by omega]
    have s4 : wrap64 ((i : Int) + 1) = ((i + 1 : Nat) : Int) := step_i (by omega)
    have hgo := mark3_l c n hc d (i + 1) k rest (by omega) (by simpa using hr) (by omega)
    have q1 : (i : Int) < ((marks3 c i ++ x :: rest).length : Int) := Int.ofNat_lt.2 hlt
    have q2 : (0 : Int) ≤ (i : Int) := Int.natCast_nonneg _
    have hm := mark_f (c + 3 * i + 1) (by omega) k (by omega)
    rw [laws_markTokS.l0, if_pos q1, if_pos q2, Option.bind_some, s1, hm, Option.bind_some, Option.bind_some, s2, s3, s4, show ((i : Int)).toNat = i from rfl, rdK_set _ i hlt, rdK_set _ i (by rw [List.length_set]; exact hlt), List.set_set, List.set_set, hset]
    rw [marks3_succ, List.append_assoc, List.singleton_append] at hgo
    exact hgo
theorem held3_l (c n : Nat) (hc : c + 3 * n < 900000000) : ∀ (d i k : Nat), i + d = n → d + 21 < k → laws_heldTokS.l0 k (marks3 c n) ((c + 3 * i : Nat) : Int) (i : Int) = some ((c + 3 * n : Nat) : Int)
  | 0, i, k, hd, hk => by
    obtain ⟨k, rfl⟩ : ∃ m, k = m + 1 := ⟨k - 1, by omega⟩
    rw [laws_heldTokS.l0, if_neg (by rw [marks3_len]; omega), show i = n by omega]
  | d + 1, i, k, hd, hk => by
    obtain ⟨k, rfl⟩ : ∃ m, k = m + 1 := ⟨k - 1, by omega⟩
    have hlt : i < (marks3 c n).length := by rw [marks3_len]; omega
    have s1 : wrap64 (((c + 3 * i : Nat) : Int) + 1) = ((c + 3 * i + 1 : Nat) : Int) := step_i (by omega)
    have s2 : wrap64 (((c + 3 * i + 1 : Nat) : Int) + 1) = ((c + 3 * i + 1 + 1 : Nat) : Int) := step_i (by omega)
    have s3 : wrap64 (((c + 3 * i + 1 + 1 : Nat) : Int) + 1) = ((c + 3 * (i + 1) : Nat) : Int) := by clear s1 s2; rw [step_i (by omega), show c + 3 * i + 1 + 1 + 1 = c + 3 * (i + 1) by omega]
    have s4 : wrap64 ((i : Int) + 1) = ((i + 1 : Nat) : Int) := step_i (by omega)
    have hgo := held3_l c n hc d (i + 1) k (by omega) (by omega)
    have q1 : (i : Int) < ((marks3 c n).length : Int) := Int.ofNat_lt.2 hlt
    have q2 : (0 : Int) ≤ (i : Int) := Int.natCast_nonneg _
    have hm := mark_f (c + 3 * i + 1) (by omega) k (by omega)
    rw [laws_heldTokS.l0, if_pos q1, if_pos q2, rdK_get _ i hlt, marks3_get, s1, hm, s2, s3, s4]
    unfold mk3
    rw [if_pos rfl, Option.bind_some, if_pos rfl, if_pos rfl]
    exact hgo
theorem mark3_f (xs : List TK) (hn : xs.length ≤ 3000) (k : Nat) (hk : 3100 < k) : laws_markTokS.f k xs 1 = some (((1 + 3 * xs.length : Nat) : Int), marks3 1 xs.length) := by
  have := mark3_l 1 xs.length (by omega) xs.length 0 k xs (by omega) rfl (by omega)
  unfold laws_markTokS.f
  simpa [marks3] using this
theorem held3_f (n : Nat) (hn : n ≤ 3000) (k : Nat) (hk : 3100 < k) : laws_heldTokS.f k (marks3 1 n) 1 = some ((1 + 3 * n : Nat) : Int) := by
  unfold laws_heldTokS.f
  exact held3_l 1 n (by omega) n 0 k (by omega) (by omega)
theorem FnExactTokens : laws_FnExactTokens.Pure := by
  intro a _
  obtain ⟨K, hK⟩ : ∃ K : Nat, K = 100000 := ⟨_, rfl⟩
  refine ⟨K + 2, ?_⟩
  unfold laws_FnExactTokens.f
  by_cases hb : (a.size : Int) > 1048576
  · rw [if_pos hb]
  rw [if_neg hb]
  have ha := L_length a
  have h1 : ∀ k, 40000 < k → impl_Tokens.f k a = some (toks (L a)) := fun k hk => by
    have := impl_Tokens_f (L a) (by omega) k hk
    rwa [B_L] at this
  have h2 := spec_tokens_f (L a) (by omega) (K + 2) (by omega)
  rw [B_L] at h2
  have hn := toks_len (L a)
  generalize toks (L a) = x at h1 h2 hn
  rw [h2, Option.bind_some, h1 _ (by omega), Option.bind_some, eqTok_f _ hn _ (by omega), Option.bind_some, if_pos rfl, if_pos rfl, bne_self_eq_false, laws_FnExactTokens.j0, if_neg (by decide), mark3_f _ hn _ (by omega), Option.bind_some]
  simp only []
  rw [held3_f _ hn _ (by omega), Option.bind_some, if_neg (by omega), if_pos rfl, h1 _ (by omega), Option.bind_some, eqTok_f _ hn _ (by omega), Option.bind_some, if_pos rfl, if_pos rfl, bne_self_eq_false, laws_FnExactTokens.j1, if_neg (by decide), held3_f _ hn _ (by omega), Option.bind_some, if_neg (by omega), if_pos rfl]
end Go.Proofs.YtebadckdihgklaaDoor.Pure

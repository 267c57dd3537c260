-- Cut by prune.py, a program of this session, out of the texts of this claim: Lean checks it.
import Derived.Test.YtebadckdihgklaaDoorVtaPbx22
import Derived.Test.YtebadckdihgklaaDoorVtaQLex
import Derived.Test.YtebadckdihgklaaDoorVtaQDraw2
namespace Go.Proofs.YtebadckdihgklaaDoor.Pure
open Go.RowKit Go.Proofs.YtebadckdihgklaaDoor.Pb Go.Proofs.YtebadckdihgklaaDoorW.PrintWords Go.Proofs.YtebadckdihgklaaDoorW.PrintLast Go.Proofs.YtebadckdihgklaaDoor.QStr Go.Proofs.YtebadckdihgklaaDoor.QLaws Go.Proofs.YtebadckdihgklaaDoor.QCur Go.Proofs.YtebadckdihgklaaDoor.QDraw2 Go.Proofs.YtebadckdihgklaaDoor.QTok Go.Proofs.YtebadckdihgklaaDoor.QLex
theorem rdK_get (xs : List TK) (i : Nat) (h : i < xs.length) : rd_T54 xs (i : Int) = xs[i] := by
  unfold rd_T54
  rw [show ((i : Int)).toNat = i from rfl, List.getD_eq_getElem?_getD, List.getElem?_eq_getElem h]
  rfl
/-- Tokens that stand in a text, one behind another. -/
def Stand (l : List UInt8) : Nat → List TK → Prop
  | _, [] => True
  | e, t :: ts => ∃ a n : Nat, t.f2 = (a : Int) ∧ e ≤ a ∧ a + n ≤ l.length ∧ t.f1 = B ((l.drop a).take n) ∧ Stand l (a + n) ts
theorem stand_mono (l : List UInt8) {e f : Nat} (h : e ≤ f) : ∀ ts, Stand l f ts → Stand l e ts
  | [], _ => by rw [Stand]; trivial
  | t :: ts, hs => by
    rw [Stand] at hs ⊢
    obtain ⟨a, n, h1, h2, h3⟩ := hs
    exact ⟨a, n, h1, by omega, h3⟩
theorem cons1_fst (tk : TK) (x : List TK × Int × Int) : (cons1 tk x).1 = [] ∨ (cons1 tk x).1 = tk :: x.1 := by
  unfold cons1
  split
  · exact .inr rfl
  · exact .inl rfl
theorem lex_stand (l : List UInt8) : ∀ (d i : Nat), i ≤ l.length → Stand l i (lex d (l.drop i) i).1
  | 0, i, hi => by rw [lex, Stand]; trivial
  | d + 1, i, hi => by
    by_cases hlt : i < l.length
    · have hdrop := List.drop_eq_getElem_cons hlt
      have hlen : (l.drop i).length = l.length - i := List.length_drop
      rw [hdrop] at hlen ⊢
      rw [lex]
      by_cases hb : isBl l[i] = true
      · rw [if_pos hb]
        exact stand_mono l (by omega) _ (lex_stand l d (i + 1) (by omega))
      rw [if_neg hb]
      by_cases hc : (l[i] == 47 && (l.drop (i + 1)).head? == some 47) = true
      · have hcl := cmt_le (l[i] :: l.drop (i + 1))
        rw [if_pos hc]
        have hgo := lex_stand l d (i + cmt (l[i] :: l.drop (i + 1))) (by omega)
        rw [← hdrop, List.drop_drop]
        rw [← hdrop] at hgo
        exact stand_mono l (by omega) _ hgo
      rw [if_neg hc]
      by_cases hz : (tok1 (l[i] :: l.drop (i + 1))).2.2 = 0
      · obtain ⟨n, hn, hn1, hn2⟩ := tok1_ok _ _ hz
        rw [if_pos hz, hn, show ((n : Int)).toNat = n from rfl]
        rcases cons1_fst ⟨(tok1 (l[i] :: l.drop (i + 1))).1, B ((l[i] :: l.drop (i + 1)).take n), (i : Int)⟩ (lex d ((l[i] :: l.drop (i + 1)).drop n) (i + n)) with h | h
        · rw [h, Stand]; trivial
        · have hgo := lex_stand l d (i + n) (by omega)
          rw [h, Stand]
          refine ⟨i, n, rfl, Nat.le_refl _, by omega, by rw [hdrop], ?_⟩
          rw [← hdrop, List.drop_drop]
          exact hgo
      · rw [if_neg hz, Stand]; trivial
    · rw [List.drop_of_length_le (by omega), lex_nil, Stand]; trivial
theorem lex_len : ∀ (d : Nat) (l : List UInt8) (a : Nat), (lex d l a).1.length ≤ d
  | 0, l, a => by rw [lex]; simp
  | d + 1, [], a => by rw [lex]; simp
  | d + 1, c :: r, a => by
    rw [lex]
    by_cases hb : isBl c = true
    · rw [if_pos hb]; have := lex_len d r (a + 1); omega
    rw [if_neg hb]
    by_cases hc : (c == 47 && r.head? == some 47) = true
    · rw [if_pos hc]; have := lex_len d ((c :: r).drop (cmt (c :: r))) (a + cmt (c :: r)); omega
    rw [if_neg hc]
    by_cases hz : (tok1 (c :: r)).2.2 = 0
    · rw [if_pos hz]
      rcases cons1_fst ⟨(tok1 (c :: r)).1, B ((c :: r).take (tok1 (c :: r)).2.1.toNat), (a : Int)⟩ (lex d ((c :: r).drop (tok1 (c :: r)).2.1.toNat) (a + (tok1 (c :: r)).2.1.toNat)) with h | h
      · rw [h]; simp
      · rw [h]
        have := lex_len d ((c :: r).drop (tok1 (c :: r)).2.1.toNat) (a + (tok1 (c :: r)).2.1.toNat)
        simp only [List.length_cons]
        omega
    · rw [if_neg hz]; simp
theorem toks_len (l : List UInt8) : (toks l).1.length ≤ 3000 := by
  unfold toks
  split
  · simp
  · have := lex_len l.length l 0; omega
theorem toks_stand (l : List UInt8) : Stand l 0 (toks l).1 := by
  unfold toks
  split
  · rw [Stand]; trivial
  · have := lex_stand l l.length 0 (by omega)
    rwa [List.drop_zero] at this
theorem toks_good (l : List UInt8) : (toks l).2.2 ≠ 0 → (toks l).1 = [] := by
  unfold toks
  split
  · intro _; rfl
  · exact (lex_good _ _ _).2
theorem impl_Tokens_f (l : List UInt8) (hl : l.length ≤ 1000000000) (k : Nat) (hk : 40000 < k) : impl_Tokens.f k (B l) = some (toks l) := by
  unfold impl_Tokens.f
  rw [tokens_f l hl k hk, Option.bind_some]
theorem ftok_l (l : List UInt8) (hl : l.length ≤ 1000000) (ts : List TK) (hn : ts.length ≤ 3000) (c : Int) (hc : c ≠ 0 → ts = []) : ∀ (d i e k : Nat), i + d = ts.length → d < k → e ≤ l.length → Stand l e (ts.drop i) →
    laws_FnTokens.l0 k (B l) ts c (e : Int) (i : Int) = some true
  | 0, i, e, k, hd, hk, he, hs => by
    obtain ⟨k, rfl⟩ : ∃ m, k = m + 1 := ⟨k - 1, by omega⟩
    rw [laws_FnTokens.l0, if_neg (by omega)]
    by_cases h : c = 0
    · rw [if_pos h]
    · rw [if_neg h, hc h]; rfl
  | d + 1, i, e, k, hd, hk, he, hs => by
    obtain ⟨k, rfl⟩ : ∃ m, k = m + 1 := ⟨k - 1, by omega⟩
    have hlt : i < ts.length := by omega
    rw [List.drop_eq_getElem_cons hlt, Stand] at hs
    obtain ⟨a, n, h1, h2, h3, h4, h5⟩ := hs
    have hsz : (B ((l.drop a).take n)).size = n := by rw [size_B, List.length_take, List.length_drop]; omega
    have hgo := ftok_l l hl ts hn c hc d (i + 1) (a + n) k (by omega) (by omega) (by omega) h5
    have w1 : wrap64 (((B l).size : Int) - (a : Int)) = ((l.length - a : Nat) : Int) := by rw [size_B, wrapS (by omega) (by omega)]; omega
    have w2 : wrap64 ((a : Int) + (n : Int)) = ((a + n : Nat) : Int) := by clear w1; rw [wrapS (by omega) (by omega)]; omega
    have q1 : ¬ ((a : Int) < (e : Int)) := by clear w1 w2; omega
    have q2 : ¬ (((l.length - a : Nat) : Int) < (n : Int)) := by clear w1 w2; omega
    have q3 : (0 : Int) ≤ (a : Int) := Int.natCast_nonneg _
    have q4 : (a : Int) ≤ ((a + n : Nat) : Int) := by clear w1 w2; omega
    have q5 : ((a + n : Nat) : Int) ≤ ((B l).size : Int) := by rw [size_B]; clear w1 w2; omega
    have q6 : (i : Int) < (ts.length : Int) := by clear w1 w2; omega
    have q7 : (0 : Int) ≤ (i : Int) := Int.natCast_nonneg _
    have q8 : wrap64 ((i : Int) + 1) = ((i + 1 : Nat) : Int) := step_i (by clear w1 w2; omega)
    rw [laws_FnTokens.l0, if_pos q6, if_pos q7, rdK_get ts i hlt, h1, h4, hsz, w1, w2, if_neg q1, if_neg q2, if_pos q3, if_pos q4, if_pos q5, show ((a : Int)).toNat = a from rfl, show (((a + n : Nat) : Int)).toNat = a + n from rfl, cut_at, if_pos rfl, q8]
    exact hgo
theorem FnTokens : laws_FnTokens.Pure := by
  intro l hl
  have hl := byt_of hl
  obtain ⟨K, hK⟩ : ∃ K : Nat, K = 100000 := ⟨_, rfl⟩
  refine ⟨K + 1, ?_⟩
  unfold laws_FnTokens.f laws_big.f
  rw [Option.bind_some]
  by_cases hb : decide ((l.length : Int) > 1048576) = true
  · rw [if_pos hb]
  rw [if_neg hb]
  obtain ⟨s, ho, hc⟩ := open_f l
  obtain ⟨u, a1, s1, hu, hus, _⟩ := source_f hl hc (by omega) (K + 1) (by omega)
  have hd : spec_DrawTokens.f (K + 1) l = some u := by
    unfold spec_DrawTokens.f
    rw [ho, Option.bind_some]
    simp only []
    rw [hu, Option.bind_some]
  have h1 := impl_Tokens_f (L u) (by rw [L_length]; omega) (K + 1) (by omega)
  have h2 := spec_tokens_f (L u) (by rw [L_length]; omega) (K + 1) (by omega)
  rw [B_L] at h1 h2
  rw [hd, Option.bind_some, h1, Option.bind_some, h2, Option.bind_some, if_pos rfl, if_pos rfl, bne_self_eq_false, laws_FnTokens.j0, if_neg (by decide)]
  have hn := toks_len (L u)
  have := ftok_l (L u) (by rw [L_length]; omega) (toks (L u)).1 hn (toks (L u)).2.2 (toks_good _) (toks (L u)).1.length 0 0 K (by omega) (by omega) (by omega) (by rw [List.drop_zero]; exact toks_stand _)
  rw [B_L] at this
  exact this
end Go.Proofs.YtebadckdihgklaaDoor.Pure

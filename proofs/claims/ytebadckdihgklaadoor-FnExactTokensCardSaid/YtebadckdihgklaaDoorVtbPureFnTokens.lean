-- Cut by prune.py, a program of this session, out of the texts of this claim: Lean checks it.
import Derived.Test.YtebadckdihgklaaDoorVtbPbx21
import Derived.Test.YtebadckdihgklaaDoorVtbQLex
import Derived.Test.YtebadckdihgklaaDoorVtbQDraw
import Derived.Test.YtebadckdihgklaaDoorVtbPbx6
namespace Go.Proofs.YtebadckdihgklaaDoor.Pure
open Go.RowKit Go.Proofs.YtebadckdihgklaaDoor.Pb Go.Proofs.YtebadckdihgklaaDoorW.PrintWords Go.Proofs.YtebadckdihgklaaDoorW.PrintLast Go.Proofs.YtebadckdihgklaaDoor.QStr Go.Proofs.YtebadckdihgklaaDoor.QLaws Go.Proofs.YtebadckdihgklaaDoor.QCur Go.Proofs.YtebadckdihgklaaDoor.QTok Go.Proofs.YtebadckdihgklaaDoor.QLex
theorem rdK_get (xs : List TK) (i : Nat) (h : i < xs.length) : rd_T54 xs (i : Int) = xs[i] := by
  unfold rd_T54
  rw [show ((i : Int)).toNat = i from rfl, List.getD_eq_getElem?_getD, List.getElem?_eq_getElem h]
  rfl
theorem cons1_fst (tk : TK) (x : List TK × Int × Int) : (cons1 tk x).1 = [] ∨ (cons1 tk x).1 = tk :: x.1 := by
  unfold cons1
  split
  · exact .inr rfl
  · exact .inl rfl
theorem lex_len : ∀ (d : Nat) (l : List UInt8) (a : Nat), (lex d l a).1.length ≤ d
  | 0, l, a => by rw [lex]; simp
  | d + 1, [], a => by rw [lex]; simp
  | d + 1, c :: r, a => by
    rw [lex]
    by_cases hb : isBl c = true
    · rw [if_pos hb]; have := lex_len d r (a + 1); omega
    rw [if_neg hb]
    by_cases hc : (c == 47 && r.head? == some 47) = true
    · rw [if_pos hc]; have := lex_len d ((c :: r).drop (cmt (c :: r))) (a + cmt (c :: r)); omega
    rw [if_neg hc]
    by_cases hz : (tok1 (c :: r)).2.2 = 0
    · rw [if_pos hz]
      rcases cons1_fst ⟨(tok1 (c :: r)).1, B ((c :: r).take (tok1 (c :: r)).2.1.toNat), (a : Int)⟩ (lex d ((c :: r).drop (tok1 (c :: r)).2.1.toNat) (a + (tok1 (c :: r)).2.1.toNat)) with h | h
      · rw [h]; simp
      · rw [h]
        have := lex_len d ((c :: r).drop (tok1 (c :: r)).2.1.toNat) (a + (tok1 (c :: r)).2.1.toNat)
        simp only [List.length_cons]
        omega
    · rw [if_neg hz]; simp
theorem toks_len (l : List UInt8) : (toks l).1.length ≤ 3000 := by
  unfold toks
  split
  · simp
  · have := lex_len l.length l 0; omega
theorem impl_Tokens_f (l : List UInt8) (hl : l.length ≤ 1000000000) (k : Nat) (hk : 40000 < k) : impl_Tokens.f k (B l) = some (toks l) := by
  unfold impl_Tokens.f
  rw [tokens_f l hl k hk, Option.bind_some]
end Go.Proofs.YtebadckdihgklaaDoor.Pure

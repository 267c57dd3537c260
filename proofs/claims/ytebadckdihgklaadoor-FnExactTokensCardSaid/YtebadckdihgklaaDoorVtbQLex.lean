-- Cut by prune.py, a program of this session, out of the texts of this claim: Lean checks it.
import Derived.Test.YtebadckdihgklaaDoorVtbQTok
import Derived.Test.YtebadckdihgklaaDoorVtbPbx6
import Derived.Test.YtebadckdihgklaaDoorVtbPbx21
namespace Go.Proofs.YtebadckdihgklaaDoor.QLex
open Go.RowKit Go.Proofs.YtebadckdihgklaaDoor.Pb Go.Proofs.YtebadckdihgklaaDoorW.PrintWords Go.Proofs.YtebadckdihgklaaDoorW.PrintLast Go.Proofs.YtebadckdihgklaaDoor.QStr Go.Proofs.YtebadckdihgklaaDoor.QTm Go.Proofs.YtebadckdihgklaaDoor.QPrs Go.Proofs.YtebadckdihgklaaDoor.QNumb Go.Proofs.YtebadckdihgklaaDoor.QImpl Go.Proofs.YtebadckdihgklaaDoor.QKind Go.Proofs.YtebadckdihgklaaDoor.QLaws Go.Proofs.YtebadckdihgklaaDoor.QTok
abbrev TK := S54
def isBl (c : UInt8) : Bool := c == 32 || c == 9 || c == 10 || c == 13
/-- How long a remark is. -/
def cmt (l : List UInt8) : Nat := (l.takeWhile (· != 10)).length
theorem cmt_le (l : List UInt8) : cmt l ≤ l.length := takeWhile_le l
def cons1 (tk : TK) (x : List TK × Int × Int) : List TK × Int × Int := if x.2.2 = 0 then (tk :: x.1, 0, 0) else ([], x.2.1, x.2.2)
/-- The tokens, with their places from a on; or no tokens, a place and a code. -/
noncomputable def lex : Nat → List UInt8 → Nat → List TK × Int × Int
  | 0, _, _ => ([], 0, 0)
  | _ + 1, [], _ => ([], 0, 0)
  | d + 1, c :: r, a =>
    if isBl c = true then lex d r (a + 1)
    else if (c == 47 && r.head? == some 47) = true then lex d ((c :: r).drop (cmt (c :: r))) (a + cmt (c :: r))
    else if (tok1 (c :: r)).2.2 = 0 then cons1 ⟨(tok1 (c :: r)).1, B ((c :: r).take (tok1 (c :: r)).2.1.toNat), (a : Int)⟩ (lex d ((c :: r).drop (tok1 (c :: r)).2.1.toNat) (a + (tok1 (c :: r)).2.1.toNat))
    else ([], (a : Int), (tok1 (c :: r)).2.2)
def fin (out : List TK) (x : List TK × Int × Int) : List TK × Int × Int := if x.2.2 = 0 then (out ++ x.1, 0, 0) else ([], x.2.1, x.2.2)
theorem fin_cons1 (out : List TK) (tk : TK) (x : List TK × Int × Int) : fin out (cons1 tk x) = fin (out ++ [tk]) x := by
  unfold fin cons1
  by_cases h : x.2.2 = 0
  · rw [if_pos h, if_pos rfl, if_pos h]
    simp
  · rw [if_neg h, if_neg h, if_neg h]
theorem fin_nil (out : List TK) : fin out ([], 0, 0) = (out, 0, 0) := by
  unfold fin
  rw [if_pos rfl, List.append_nil]
theorem fin_bad (out : List TK) (a c : Int) (h : c ≠ 0) : fin out ([], a, c) = ([], a, c) := by
  unfold fin
  rw [if_neg h]
theorem lex_nil (d a : Nat) : lex d [] a = ([], 0, 0) := by
  cases d <;> rw [lex]
theorem blank (c : UInt8) : Lib.indexByte [32, 9, 10, 13] ((c.toNat : Int)).toNat.toUInt8 ≥ 0 ↔ isBl c = true := by
  have e : ((c.toNat : Int)).toNat.toUInt8 = c := by
    rw [show ((c.toNat : Int)).toNat = c.toNat from rfl]
    exact UInt8.ofNat_toNat
  rw [e]
  unfold isBl
  by_cases h1 : c = 32
  · subst h1; decide
  by_cases h2 : c = 9
  · subst h2; decide
  by_cases h3 : c = 10
  · subst h3; decide
  by_cases h4 : c = 13
  · subst h4; decide
  have g1 : ¬ 32 = c := fun h => h1 h.symm
  have g2 : ¬ 9 = c := fun h => h2 h.symm
  have g3 : ¬ 10 = c := fun h => h3 h.symm
  have g4 : ¬ 13 = c := fun h => h4 h.symm
  simp [Lib.indexByte, h1, h2, h3, h4, g1, g2, g3, g4]
theorem cut_at (l : List UInt8) (i n : Nat) : (B l).extract i (i + n) = B ((l.drop i).take n) := by
  rw [extract_B, List.drop_take, Nat.add_sub_cancel_left]
theorem icmt (l : List UInt8) (hl : l.length ≤ 3000) (out : List TK) : ∀ (d i k : Nat), i ≤ l.length → l.length - i = d → d + 1 < k →
    impl_tokens.l1 k (B l) out (i : Int) = impl_tokens.l0 (k - (cmt (l.drop i) + 1)) (B l) out ((i + cmt (l.drop i) : Nat) : Int)
  | 0, i, k, hi, hd, hk => by
    obtain ⟨k, rfl⟩ : ∃ m, k = m + 1 := ⟨k - 1, by omega⟩
    have e : cmt (l.drop i) = 0 := by unfold cmt; rw [List.drop_of_length_le (by omega)]; rfl
    rw [impl_tokens.l1, if_neg (by rw [size_B]; omega), e]
    rfl
  | d + 1, i, k, hi, hd, hk => by
    obtain ⟨k, rfl⟩ : ∃ m, k = m + 1 := ⟨k - 1, by omega⟩
    have hlt : i < l.length := by omega
    have ih := icmt l hl out d (i + 1) k (by omega) (by omega) (by omega)
    rw [impl_tokens.l1, if_pos (by rw [size_B]; omega), if_pos (by omega), bt_B l i hlt]
    have hc : cmt (l.drop i) = if l[i] = 10 then 0 else cmt (l.drop (i + 1)) + 1 := by
      unfold cmt
      rw [takeWhile_step l i hlt]
      by_cases h : l[i] = 10
      · rw [if_pos h, if_neg (by simp [h])]; rfl
      · rw [if_neg h, if_pos (by simpa using h)]; rfl
    by_cases h : l[i] = 10
    · rw [if_pos h] at hc
      rw [if_pos (by rw [h]; rfl), hc]
      rfl
    · rw [if_neg h] at hc
      rw [if_neg (show ¬ ((_ : Int) = 10) from u8_ne (b := 10) h), step_i (by omega), ih, hc, show k + 1 - (cmt (l.drop (i + 1)) + 1 + 1) = k - (cmt (l.drop (i + 1)) + 1) by omega, show i + 1 + cmt (l.drop (i + 1)) = i + (cmt (l.drop (i + 1)) + 1) by omega]
theorem cmt_pos {c : UInt8} {r : List UInt8} (h : (c == 47 && r.head? == some 47) = true) : 1 ≤ cmt (c :: r) := by
  rw [Bool.and_eq_true, beq_iff_eq] at h
  unfold cmt
  rw [List.takeWhile_cons, if_pos (by rw [h.1]; rfl), List.length_cons]
  omega
theorem ilex (l : List UInt8) (hl : l.length ≤ 3000) : ∀ (d i k : Nat) (out : List TK), i ≤ l.length → l.length - i ≤ d → out.length ≤ i → 20000 + 4 * (l.length - i) < k →
    impl_tokens.l0 k (B l) out (i : Int) = some (fin out (lex d (l.drop i) i))
  | d, i, k, out, hi, hd, ho, hk => by
    obtain ⟨k, rfl⟩ : ∃ m, k = m + 1 := ⟨k - 1, by omega⟩
    by_cases hlt : i < l.length
    · obtain ⟨d, rfl⟩ : ∃ m, d = m + 1 := ⟨d - 1, by omega⟩
      have hdrop := List.drop_eq_getElem_cons hlt
      have hlen : (l.drop i).length = l.length - i := List.length_drop
      rw [impl_tokens.l0, if_pos (by rw [size_B]; omega), if_pos (by omega), bt_B l i hlt]
      unfold strings_IndexByte.f strings_HasPrefix.f
      rw [Option.bind_some, show ((⟨#[32, 9, 10, 13]⟩ : ByteArray)).data.toList = [32, 9, 10, 13] from rfl, show ((⟨#[47, 47]⟩ : ByteArray)).data.toList = [47, 47] from rfl, show ((i : Int)).toNat = i from rfl, extract_from, data_B, Option.bind_some, step_i (by omega)]
      rw [hdrop] at hlen ⊢
      rw [hp2, lex]
      by_cases hb : isBl l[i] = true
      · rw [if_pos ((blank _).2 hb), if_pos hb]
        exact ilex l hl d (i + 1) k out (by omega) (by omega) (by omega) (by omega)
      rw [if_neg (fun h => hb ((blank _).1 h)), if_neg hb, if_pos (by rw [size_B]; omega)]
      by_cases hc : (l[i] == 47 && (l.drop (i + 1)).head? == some 47) = true
      · have hcp := cmt_pos hc
        have hcl := cmt_le (l[i] :: l.drop (i + 1))
        rw [if_pos hc, if_pos hc, icmt l hl out (l.length - i) i k (by omega) rfl (by omega), hdrop]
        have hgo := ilex l hl d (i + cmt (l[i] :: l.drop (i + 1))) (k - (cmt (l[i] :: l.drop (i + 1)) + 1)) out (by omega) (by omega) (by omega) (by omega)
        rw [hgo, ← hdrop, List.drop_drop]
      rw [if_neg hc, if_neg hc, tokenAt_f l[i] (l.drop (i + 1)) (by omega) k (by omega), Option.bind_some]
      by_cases hz : (tok1 (l[i] :: l.drop (i + 1))).2.2 = 0
      · obtain ⟨n, hn, hn1, hn2⟩ := tok1_ok _ _ hz
        have hw : wrap64 ((i : Int) + (n : Int)) = ((i + n : Nat) : Int) := by rw [wrapS (by omega) (by omega)]; omega
        have q1 : (i : Int) ≤ ((i + n : Nat) : Int) := by clear hw hn; omega
        have q2 : ((i + n : Nat) : Int) ≤ ((B l).size : Int) := by rw [size_B]; clear hw hn; omega
        have hgo := ilex l hl d (i + n) k (out ++ [⟨(tok1 (l[i] :: l.drop (i + 1))).1, B ((l[i] :: l.drop (i + 1)).take n), (i : Int)⟩]) (by clear hw hn; omega) (by clear hw hn; omega) (by rw [List.length_append]; simp only [List.length_cons, List.length_nil]; clear hw hn; omega) (by clear hw hn; omega)
        rw [if_pos hz, if_pos hz, hn, hw, if_pos q1, if_pos q2, if_pos (by clear hw hn; omega), show (((i + n : Nat) : Int)).toNat = i + n from rfl, cut_at, hdrop, show ((n : Int)).toNat = n from rfl, fin_cons1, hgo, ← hdrop, List.drop_drop]
      · rw [if_neg hz, if_neg hz, fin_bad _ _ _ hz]
    · rw [impl_tokens.l0, if_neg (by rw [size_B]; omega), List.drop_of_length_le (by omega), lex_nil, fin_nil]
/-- What Tokens answers. -/
noncomputable def toks (l : List UInt8) : List TK × Int × Int := if l.length > 3000 then ([], 0, 1) else lex l.length l 0
theorem lex_fin (x : List TK × Int × Int) (h : x.2.2 = 0 → x.2.1 = 0) (h2 : x.2.2 ≠ 0 → x.1 = []) : fin [] x = x := by
  unfold fin
  obtain ⟨a, b, c⟩ := x
  simp only at h h2 ⊢
  by_cases hc : c = 0
  · rw [if_pos hc, h hc, hc]; rfl
  · rw [if_neg hc, h2 hc]
theorem cons1_good (tk : TK) (x : List TK × Int × Int) : ((cons1 tk x).2.2 = 0 → (cons1 tk x).2.1 = 0) ∧ ((cons1 tk x).2.2 ≠ 0 → (cons1 tk x).1 = []) := by
  unfold cons1
  by_cases h : x.2.2 = 0
  · rw [if_pos h]
    exact ⟨fun _ => rfl, fun h => absurd rfl h⟩
  · rw [if_neg h]
    exact ⟨fun h' => absurd h' h, fun _ => rfl⟩
theorem lex_good : ∀ (d : Nat) (l : List UInt8) (a : Nat), ((lex d l a).2.2 = 0 → (lex d l a).2.1 = 0) ∧ ((lex d l a).2.2 ≠ 0 → (lex d l a).1 = [])
  | 0, l, a => by rw [lex]; exact ⟨fun _ => rfl, fun h => absurd rfl h⟩
  | d + 1, [], a => by rw [lex]; exact ⟨fun _ => rfl, fun h => absurd rfl h⟩
  | d + 1, c :: r, a => by
    rw [lex]
    by_cases hb : isBl c = true
    · rw [if_pos hb]; exact lex_good d r (a + 1)
    rw [if_neg hb]
    by_cases hc : (c == 47 && r.head? == some 47) = true
    · rw [if_pos hc]; exact lex_good d _ _
    rw [if_neg hc]
    by_cases hz : (tok1 (c :: r)).2.2 = 0
    · rw [if_pos hz]; exact cons1_good _ _
    · rw [if_neg hz]; exact ⟨fun h => absurd h hz, fun _ => rfl⟩
theorem tokens_f (l : List UInt8) (hl : l.length ≤ 1000000000) (k : Nat) (hk : 40000 < k) : impl_tokens.f k (B l) = some (toks l) := by
  unfold impl_tokens.f toks
  by_cases h : l.length > 3000
  · rw [if_pos (by rw [size_B]; omega), if_pos h]
  · rw [if_neg (by rw [size_B]; omega), if_neg h]
    have := ilex l (by omega) l.length 0 k [] (by omega) (by omega) (by simp) (by omega)
    rw [List.drop_zero, lex_fin _ (lex_good _ _ _).1 (lex_good _ _ _).2] at this
    exact this
theorem scmt (l : List UInt8) (hl : l.length ≤ 3000) (out : List TK) : ∀ (d i k : Nat), i ≤ l.length → l.length - i = d → d + 1 < k →
    spec_Tokens.l1 k (B l) [] out (i : Int) = spec_Tokens.l0 (k - (cmt (l.drop i) + 1)) (B l) [] out ((i + cmt (l.drop i) : Nat) : Int)
  | 0, i, k, hi, hd, hk => by
    obtain ⟨k, rfl⟩ : ∃ m, k = m + 1 := ⟨k - 1, by omega⟩
    have e : cmt (l.drop i) = 0 := by unfold cmt; rw [List.drop_of_length_le (by omega)]; rfl
    rw [spec_Tokens.l1, if_neg (by rw [size_B]; omega), e]
    rfl
  | d + 1, i, k, hi, hd, hk => by
    obtain ⟨k, rfl⟩ : ∃ m, k = m + 1 := ⟨k - 1, by omega⟩
    have hlt : i < l.length := by omega
    have ih := scmt l hl out d (i + 1) k (by omega) (by omega) (by omega)
    rw [spec_Tokens.l1, if_pos (by rw [size_B]; omega), if_pos (by omega), bt_B l i hlt]
    have hc : cmt (l.drop i) = if l[i] = 10 then 0 else cmt (l.drop (i + 1)) + 1 := by
      unfold cmt
      rw [takeWhile_step l i hlt]
      by_cases h : l[i] = 10
      · rw [if_pos h, if_neg (by simp [h])]; rfl
      · rw [if_neg h, if_pos (by simpa using h)]; rfl
    by_cases h : l[i] = 10
    · rw [if_pos h] at hc
      rw [if_pos (by rw [h]; rfl), hc]
      rfl
    · rw [if_neg h] at hc
      rw [if_neg (show ¬ ((_ : Int) = 10) from u8_ne (b := 10) h), step_i (by omega), ih, hc, show k + 1 - (cmt (l.drop (i + 1)) + 1 + 1) = k - (cmt (l.drop (i + 1)) + 1) by omega, show i + 1 + cmt (l.drop (i + 1)) = i + (cmt (l.drop (i + 1)) + 1) by omega]
theorem sname (l : List UInt8) (hl : l.length ≤ 3000) (out : List TK) (i : Nat) (x8 y0 : Int) (y1 : ByteArray) (y2 : Int) : ∀ (d j k : Nat), j ≤ l.length → l.length - j = d → d + 1 < k →
    spec_Tokens.l2 k (B l) [] out (i : Int) x8 (j : Int) y0 y1 y2 = spec_Tokens.j6 (k - (((l.drop j).takeWhile isWrd).length + 1)) (B l) [] out (i : Int) x8 ((j + ((l.drop j).takeWhile isWrd).length : Nat) : Int) y0 y1 y2
  | 0, j, k, hj, hd, hk => by
    obtain ⟨k, rfl⟩ : ∃ m, k = m + 1 := ⟨k - 1, by omega⟩
    have e : ((l.drop j).takeWhile isWrd).length = 0 := by rw [List.drop_of_length_le (by omega)]; rfl
    rw [spec_Tokens.l2, if_neg (by rw [size_B]; omega), e]
    rfl
  | d + 1, j, k, hj, hd, hk => by
    obtain ⟨k, rfl⟩ : ∃ m, k = m + 1 := ⟨k - 1, by omega⟩
    have hlt : j < l.length := by omega
    have ih := sname l hl out i x8 y0 y1 y2 d (j + 1) k (by omega) (by omega) (by omega)
    rw [spec_Tokens.l2, if_pos (by rw [size_B]; omega), if_pos (by omega), bt_B l j hlt, letter_f, Option.bind_some, takeWhile_step l j hlt]
    by_cases h : isWrd l[j] = true
    · rw [if_pos h, if_pos h, step_i (by omega), ih, List.length_cons, show k + 1 - (((l.drop (j + 1)).takeWhile isWrd).length + 1 + 1) = k - (((l.drop (j + 1)).takeWhile isWrd).length + 1) by omega, show j + 1 + ((l.drop (j + 1)).takeWhile isWrd).length = j + (((l.drop (j + 1)).takeWhile isWrd).length + 1) by omega]
    · rw [if_neg h, if_neg h]
      rfl
theorem sdigs (l : List UInt8) (hl : l.length ≤ 3000) (out : List TK) (ho : out.length ≤ 3000) (i : Nat) (y0 : Int) (y1 : ByteArray) : ∀ (d j k : Nat), i ≤ j → j ≤ l.length → l.length - j = d → d + 50 < k →
    spec_Tokens.l3 k (B l) [] out (i : Int) (j : Int) y0 y1 (i : Int) = (if (numB ((l.drop i).take (j + ((l.drop j).takeWhile isDig).length - i))).2 = true then spec_Tokens.l0 (k - (((l.drop j).takeWhile isDig).length + 1)) (B l) [] (out ++ [⟨3, B ((l.drop i).take (j + ((l.drop j).takeWhile isDig).length - i)), (i : Int)⟩]) ((j + ((l.drop j).takeWhile isDig).length : Nat) : Int) else some ([], (i : Int), 4))
  | 0, j, k, hij, hj, hd, hk => by
    obtain ⟨k, rfl⟩ : ∃ m, k = m + 1 := ⟨k - 1, by omega⟩
    have e : ((l.drop j).takeWhile isDig).length = 0 := by rw [List.drop_of_length_le (by omega)]; rfl
    have hx : (B l).extract i j = B ((l.drop i).take (j - i)) := by rw [show j = i + (j - i) by omega, cut_at, Nat.add_sub_cancel_left]
    rw [spec_Tokens.l3, if_neg (by rw [size_B]; omega), if_pos (by omega), if_pos (by omega), if_pos (by rw [size_B]; omega), show ((i : Int)).toNat = i from rfl, show ((j : Int)).toNat = j from rfl, hx, number_f _ (by rw [List.length_take, List.length_drop]; omega) k (by omega), Option.bind_some, e, Nat.add_zero]
    by_cases hv : (numB ((l.drop i).take (j - i))).2 = true
    · rw [if_pos hv, if_pos hv, if_pos (by omega)]
      rfl
    · rw [if_neg hv, if_neg hv]
  | d + 1, j, k, hij, hj, hd, hk => by
    obtain ⟨k, rfl⟩ : ∃ m, k = m + 1 := ⟨k - 1, by omega⟩
    have hlt : j < l.length := by omega
    have ih := sdigs l hl out ho i y0 y1 d (j + 1) k (by omega) (by omega) (by omega) (by omega)
    have hx : (B l).extract i j = B ((l.drop i).take (j - i)) := by rw [show j = i + (j - i) by omega, cut_at, Nat.add_sub_cancel_left]
    rw [spec_Tokens.l3, if_pos (by rw [size_B]; omega), if_pos (by omega), bt_B l j hlt, digit_f, Option.bind_some, takeWhile_step l j hlt]
    by_cases h : isDig l[j] = true
    · rw [if_pos h, if_pos h, step_i (by omega), ih, List.length_cons, show k + 1 - (((l.drop (j + 1)).takeWhile isDig).length + 1 + 1) = k - (((l.drop (j + 1)).takeWhile isDig).length + 1) by omega, show j + 1 + ((l.drop (j + 1)).takeWhile isDig).length = j + (((l.drop (j + 1)).takeWhile isDig).length + 1) by omega]
    · rw [if_neg h, if_neg h, if_pos (by omega), if_pos (by omega), if_pos (by rw [size_B]; omega), show ((i : Int)).toNat = i from rfl, show ((j : Int)).toNat = j from rfl, hx, number_f _ (by rw [List.length_take, List.length_drop]; omega) k (by omega), Option.bind_some, List.length_nil, Nat.add_zero]
      by_cases hv : (numB ((l.drop i).take (j - i))).2 = true
      · rw [if_pos hv, if_pos hv, if_pos (by omega)]
        rfl
      · rw [if_neg hv, if_neg hv]
/-- How many bytes stand ahead of the closing sign. -/
def qn (l : List UInt8) : Nat := (l.takeWhile (· != 34)).length
theorem ssym (l : List UInt8) (hl : l.length ≤ 3000) (out : List TK) (ho : out.length ≤ 3000) (i : Nat) (y0 : Int) (y1 : ByteArray) : ∀ (d j k : Nat), i ≤ j → j ≤ l.length → l.length - j = d → d + 12200 < k →
    spec_Tokens.l4 k (B l) [] out (i : Int) (j : Int) y0 y1 (i : Int) = (if j + qn (l.drop j) < l.length ∧ kd (prs ((l.drop i).take (j + qn (l.drop j) + 1 - i))) = 2 then spec_Tokens.l0 (k - (qn (l.drop j) + 1)) (B l) [] (out ++ [⟨4, B ((l.drop i).take (j + qn (l.drop j) + 1 - i)), (i : Int)⟩]) ((j + qn (l.drop j) + 1 : Nat) : Int) else some ([], (i : Int), 3))
  | 0, j, k, hij, hj, hd, hk => by
    obtain ⟨k, rfl⟩ : ∃ m, k = m + 1 := ⟨k - 1, by omega⟩
    rw [spec_Tokens.l4, if_neg (by rw [size_B]; omega), if_pos (by rw [size_B]; omega), if_neg (by omega)]
  | d + 1, j, k, hij, hj, hd, hk => by
    obtain ⟨k, rfl⟩ : ∃ m, k = m + 1 := ⟨k - 1, by omega⟩
    have hlt : j < l.length := by omega
    have ih := ssym l hl out ho i y0 y1 d (j + 1) k (by omega) (by omega) (by omega) (by omega)
    have hq : qn (l.drop j) = if l[j] = 34 then 0 else qn (l.drop (j + 1)) + 1 := by
      unfold qn
      rw [takeWhile_step l j hlt]
      by_cases h : l[j] = 34
      · rw [if_pos h, if_neg (by simp [h])]; rfl
      · rw [if_neg h, if_pos (by simpa using h)]; rfl
    have hx : (B l).extract i (j + 1) = B ((l.drop i).take (j + 1 - i)) := by rw [show j + 1 = i + (j + 1 - i) by omega, cut_at, Nat.add_sub_cancel_left]
    rw [spec_Tokens.l4, if_pos (by rw [size_B]; omega), if_pos (by omega), bt_B l j hlt, step_i (by omega)]
    by_cases h : l[j] = 34
    · rw [if_pos h] at hq
      rw [if_pos (by rw [h]; rfl), if_neg (by rw [size_B]; omega), if_pos (by omega), if_pos (by omega), if_pos (by rw [size_B]; omega), show ((i : Int)).toNat = i from rfl, show (((j + 1 : Nat) : Int)).toNat = j + 1 from rfl, hx, spec_kind _ _ rfl (by rw [List.length_take, List.length_drop]; omega) k (by rw [List.length_take, List.length_drop]; omega), Option.bind_some, hq, Nat.add_zero]
      by_cases h2 : kd (prs ((l.drop i).take (j + 1 - i))) = 2
      · rw [if_pos h2, if_pos (show out.length < 4398046511104 by omega), if_pos ⟨hlt, h2⟩]
        rfl
      · rw [if_neg h2, if_neg (fun h => h2 h.2)]
    · rw [if_neg h] at hq
      rw [if_neg (show ¬ ((_ : Int) = 34) from u8_ne (b := 34) h), ih, hq, show k + 1 - (qn (l.drop (j + 1)) + 1 + 1) = k - (qn (l.drop (j + 1)) + 1) by omega, show j + 1 + qn (l.drop (j + 1)) = j + (qn (l.drop (j + 1)) + 1) by omega]
theorem let_parts (c : UInt8) : isLet c = (isSm c || isBg c) := by
  rw [Bool.eq_iff_iff]
  simp only [isLet, isSm, isBg]
theorem slex (l : List UInt8) (hl : l.length ≤ 3000) : ∀ (d i k : Nat) (out : List TK), i ≤ l.length → l.length - i ≤ d → out.length ≤ i → 20000 + 10 * (l.length - i) < k →
    spec_Tokens.l0 k (B l) [] out (i : Int) = some (fin out (lex d (l.drop i) i))
  | d, i, k, out, hi, hd, ho, hk => by
    obtain ⟨k, rfl⟩ : ∃ m, k = m + 4 := ⟨k - 4, by omega⟩
    by_cases hlt : i < l.length
    · obtain ⟨d, rfl⟩ : ∃ m, d = m + 1 := ⟨d - 1, by omega⟩
      have hdrop := List.drop_eq_getElem_cons hlt
      have hlen : (l.drop i).length = l.length - i := List.length_drop
      have hxi : (B l).extract i (B l).size = B (l.drop i) := extract_from l i
      have hj1 : spec_Tokens.l0 (k + 4) (B l) [] out (i : Int) = spec_Tokens.j1 (k + 3) (B l) [] out (i : Int) ((l[i].toNat : Nat) : Int) ((i + 1 : Nat) : Int) (isBl l[i]) 0 (⟨#[]⟩ : ByteArray) (i : Int) := by
        rw [spec_Tokens.l0, if_pos (by rw [size_B]; omega), if_pos (by omega), bt_B l i hlt, step_i (by omega)]
        unfold isBl
        by_cases h1 : l[i] = 32
        · rw [if_pos (by rw [h1]; rfl), h1]; rfl
        rw [if_neg (show ¬ ((_ : Int) = 32) from u8_ne (b := 32) h1)]
        by_cases h2 : l[i] = 9
        · rw [if_pos (by rw [h2]; rfl), h2]; rfl
        rw [if_neg (show ¬ ((_ : Int) = 9) from u8_ne (b := 9) h2)]
        by_cases h3 : l[i] = 10
        · rw [if_pos (by rw [h3]; rfl), h3]; rfl
        rw [if_neg (show ¬ ((_ : Int) = 10) from u8_ne (b := 10) h3), beq_eq_false_iff_ne.2 h1, beq_eq_false_iff_ne.2 h2, beq_eq_false_iff_ne.2 h3, Bool.false_or, Bool.false_or, Bool.false_or]
        congr 1
        rw [Bool.eq_iff_iff, beq_iff_eq, beq_iff_eq]
        constructor
        · intro h; exact UInt8.toNat_inj.1 (by rw [show (13 : UInt8).toNat = 13 from rfl]; omega)
        · intro h; rw [h]; rfl
      have hj2 : isBl l[i] = false → spec_Tokens.j1 (k + 3) (B l) [] out (i : Int) ((l[i].toNat : Nat) : Int) ((i + 1 : Nat) : Int) (isBl l[i]) 0 (⟨#[]⟩ : ByteArray) (i : Int) = spec_Tokens.j2 (k + 2) (B l) [] out (i : Int) ((l[i].toNat : Nat) : Int) ((i + 1 : Nat) : Int) (l[i] == 47 && (l.drop (i + 1)).head? == some 47) 0 (⟨#[]⟩ : ByteArray) (i : Int) := by
        intro hb
        rw [hb, spec_Tokens.j1, if_neg (by decide), step_i (by omega)]
        by_cases h1 : l[i] = 47
        · rw [if_pos (by rw [h1]; rfl), beq_iff_eq.2 h1, Bool.true_and]
          by_cases h2 : i + 1 < l.length
          · rw [if_pos (by rw [size_B]; omega), if_pos (by omega), bt_B l (i + 1) h2, List.drop_eq_getElem_cons h2, List.head?_cons]
            congr 1
            rw [Bool.eq_iff_iff, beq_iff_eq, beq_iff_eq, Option.some.injEq]
            constructor
            · intro h; exact UInt8.toNat_inj.1 (by rw [show (47 : UInt8).toNat = 47 from rfl]; omega)
            · intro h; rw [h]; rfl
          · rw [if_neg (by rw [size_B]; omega), List.drop_of_length_le (by omega)]
            rfl
        · rw [if_neg (show ¬ ((_ : Int) = 47) from u8_ne (b := 47) h1), beq_eq_false_iff_ne.2 h1, Bool.false_and]
      rw [hj1, hdrop, lex]
      by_cases hb : isBl l[i] = true
      · rw [if_pos hb, spec_Tokens.j1, if_pos hb, step_i (by omega)]
        exact slex l hl d (i + 1) (k + 2) out (by omega) (by omega) (by omega) (by omega)
      rw [hj2 (Bool.eq_false_iff.2 hb), if_neg hb, spec_Tokens.j2]
      by_cases hc : (l[i] == 47 && (l.drop (i + 1)).head? == some 47) = true
      · have hcp := cmt_pos hc
        have hcl := cmt_le (l[i] :: l.drop (i + 1))
        rw [hdrop] at hlen
        rw [if_pos hc, if_pos hc, scmt l hl out (l.length - i) i (k + 1) (by omega) rfl (by omega), hdrop]
        have hgo := slex l hl d (i + cmt (l[i] :: l.drop (i + 1))) (k + 1 - (cmt (l[i] :: l.drop (i + 1)) + 1)) out (by omega) (by omega) (by omega) (by omega)
        rw [hgo, ← hdrop, List.drop_drop]
      rw [if_neg hc, if_neg hc, small_f, Option.bind_some, big_f, Option.bind_some]
      have hj4 : (if isSm l[i] = true then spec_Tokens.j4 (k + 1) (B l) [] out (i : Int) ((l[i].toNat : Nat) : Int) ((i + 1 : Nat) : Int) true 0 (⟨#[]⟩ : ByteArray) (i : Int) else spec_Tokens.j4 (k + 1) (B l) [] out (i : Int) ((l[i].toNat : Nat) : Int) ((i + 1 : Nat) : Int) (isBg l[i]) 0 (⟨#[]⟩ : ByteArray) (i : Int)) = spec_Tokens.j4 (k + 1) (B l) [] out (i : Int) ((l[i].toNat : Nat) : Int) ((i + 1 : Nat) : Int) (isLet l[i]) 0 (⟨#[]⟩ : ByteArray) (i : Int) := by
        rw [let_parts]
        cases isSm l[i] <;> simp
      rw [hj4, spec_Tokens.j4, tok1]
      have next : ∀ (kk n : Nat) (ty : Int), 1 ≤ n → n ≤ (l.drop i).length → 20000 + 10 * (l.length - (i + n)) < kk →
          spec_Tokens.l0 kk (B l) [] (out ++ [⟨ty, B ((l.drop i).take n), (i : Int)⟩]) ((i + n : Nat) : Int) = some (fin out (cons1 ⟨ty, B ((l[i] :: l.drop (i + 1)).take n), (i : Int)⟩ (lex d ((l[i] :: l.drop (i + 1)).drop n) (i + n)))) := by
        intro kk n ty h1 h2 h3
        have hgo := slex l hl d (i + n) kk (out ++ [⟨ty, B ((l.drop i).take n), (i : Int)⟩]) (by omega) (by omega) (by rw [List.length_append]; simp only [List.length_cons, List.length_nil]; omega) h3
        rw [hgo, fin_cons1, ← hdrop, List.drop_drop]
      by_cases h1 : isLet l[i] = true
      · have hn : nmLen (l[i] :: l.drop (i + 1)) = ((l.drop (i + 1)).takeWhile isWrd).length + 1 := by rw [nmLen, if_pos h1]
        have hnl := nmLen_le (l[i] :: l.drop (i + 1))
        rw [hn] at hnl
        rw [← hdrop] at hnl
        rw [if_pos h1, if_pos h1, sname l hl out i _ _ _ _ (l.length - (i + 1)) (i + 1) k (by omega) rfl (by omega), hn]
        generalize ((l.drop (i + 1)).takeWhile isWrd).length = m at hnl ⊢
        obtain ⟨kk, hkk⟩ : ∃ kk, k - (m + 1) = kk + 1 := ⟨k - (m + 1) - 1, by omega⟩
        have hw : wrap64 (((i + 1 + m : Nat) : Int) - (i : Int)) = ((m + 1 : Nat) : Int) := by rw [wrapS (by omega) (by omega)]; omega
        rw [hkk, spec_Tokens.j6, hw]
        clear hw
        by_cases h20 : m + 1 > 20
        · rw [if_pos (by omega), if_pos h20, if_neg (by decide), fin_bad _ _ _ (by decide)]
        · have hx : (B l).extract i (i + 1 + m) = B ((l.drop i).take (m + 1)) := by rw [show i + 1 + m = i + (m + 1) by omega, cut_at]
          have hnx := fun ty => next kk (m + 1) ty (by omega) (by omega) (by omega)
          rw [show i + (m + 1) = i + 1 + m by omega] at hnx
          have g1 : (0 : Int) ≤ (i : Int) := Int.natCast_nonneg _
          have g2 : (i : Int) ≤ ((i + 1 + m : Nat) : Int) := by omega
          have g3 : ((i + 1 + m : Nat) : Int) ≤ ((B l).size : Int) := by rw [size_B]; omega
          have g4 : out.length < 4398046511104 := by omega
          rw [if_neg (by omega), if_neg h20, big_f, Option.bind_some]
          by_cases h97 : 97 ≤ l[i].toNat
          · have hbg : isBg l[i] = false := by simp only [isBg, Bool.and_eq_false_iff, decide_eq_false_iff_not]; omega
            rw [hbg, if_neg (show ¬ (false = true) by decide), if_pos h97, if_pos g1, if_pos g2, if_pos g3, if_pos g4, if_pos (by rfl), show ((i : Int)).toNat = i from rfl, show (((i + 1 + m : Nat) : Int)).toNat = i + 1 + m from rfl, hx, show (((m + 1 : Nat) : Int)).toNat = m + 1 from rfl, show i + (m + 1) = i + 1 + m by omega]
            exact hnx 1
          · have hbg : isBg l[i] = true := by
              simp only [isLet, Bool.or_eq_true, Bool.and_eq_true, decide_eq_true_eq] at h1
              simp only [isBg, Bool.and_eq_true, decide_eq_true_eq]
              omega
            rw [hbg, if_pos (show true = true from rfl), if_neg h97, if_pos g1, if_pos g2, if_pos g3, if_pos g4, if_pos (by rfl), show ((i : Int)).toNat = i from rfl, show (((i + 1 + m : Nat) : Int)).toNat = i + 1 + m from rfl, hx, show (((m + 1 : Nat) : Int)).toNat = m + 1 from rfl, show i + (m + 1) = i + 1 + m by omega]
            exact hnx 2
      rw [if_neg h1, if_neg h1, digit_f, Option.bind_some]
      by_cases h2 : isDig l[i] = true
      · have htw : ((l[i] :: l.drop (i + 1)).takeWhile isDig) = l[i] :: (l.drop (i + 1)).takeWhile isDig := by rw [List.takeWhile_cons, if_pos h2]
        have htl := takeWhile_le (p := isDig) (l[i] :: l.drop (i + 1))
        have htk := takeWhile_take (p := isDig) (l[i] :: l.drop (i + 1))
        rw [htw, List.length_cons, ← hdrop] at htl
        rw [htw, List.length_cons, ← hdrop] at htk
        rw [if_pos h2, if_pos h2, sdigs l hl out (by omega) i _ _ (l.length - (i + 1)) (i + 1) k (by omega) (by omega) rfl (by omega), htw, List.length_cons]
        generalize hm : ((l.drop (i + 1)).takeWhile isDig).length = m at htl htk ⊢
        rw [show i + 1 + m - i = m + 1 by omega, ← htk]
        by_cases h3 : kd (prs ((l.drop i).take (m + 1))) = 1
        · rw [if_pos ((kd_num _).1 h3), if_pos h3, if_pos (by rfl), show (((m + 1 : Nat) : Int)).toNat = m + 1 from rfl]
          have := next (k - (m + 1)) (m + 1) 3 (by omega) (by omega) (by omega)
          rw [show i + (m + 1) = i + 1 + m by omega] at this
          rw [show i + (m + 1) = i + 1 + m by omega]
          exact this
        · rw [if_neg (fun h => h3 ((kd_num _).2 h)), if_neg h3, if_neg (by decide), fin_bad _ _ _ (by decide)]
      rw [if_neg h2, if_neg h2]
      by_cases h3 : l[i] = 34
      · have hse : syEnd (l.drop (i + 1)) = qn (l.drop (i + 1)) + 2 := rfl
        rw [if_pos (by rw [h3]; rfl), if_pos h3, ssym l hl out (by omega) i _ _ (l.length - (i + 1)) (i + 1) k (by omega) (by omega) rfl (by omega), hse]
        generalize qn (l.drop (i + 1)) = m
        rw [show i + 1 + m + 1 - i = m + 2 by omega, hdrop, h3]
        have hcond : (i + 1 + m < l.length ∧ kd (prs ((34 :: l.drop (i + 1)).take (m + 2))) = 2) ↔ (m + 2 ≤ (34 :: l.drop (i + 1)).length ∧ kd (prs ((34 :: l.drop (i + 1)).take (m + 2))) = 2) := by
          rw [List.length_cons, List.length_drop]
          constructor
          · rintro ⟨a, b⟩; exact ⟨by omega, b⟩
          · rintro ⟨a, b⟩; exact ⟨by omega, b⟩
        by_cases h4 : m + 2 ≤ (34 :: l.drop (i + 1)).length ∧ kd (prs ((34 :: l.drop (i + 1)).take (m + 2))) = 2
        · have h5 : m + 2 ≤ (l.drop i).length := by rw [hdrop, h3]; exact h4.1
          have := next (k - (m + 1)) (m + 2) 4 (by omega) h5 (by omega)
          rw [hdrop, h3, show i + (m + 2) = i + 1 + m + 1 by omega] at this
          rw [if_pos (hcond.2 h4), if_pos h4, if_pos (by rfl), show (((m + 2 : Nat) : Int)).toNat = m + 2 from rfl, show i + (m + 2) = i + 1 + m + 1 by omega]
          exact this
        · rw [if_neg (fun h => h4 (hcond.1 h)), if_neg h4, if_neg (by decide), fin_bad _ _ _ (by decide)]
      rw [if_neg (show ¬ ((_ : Int) = 34) from u8_ne (b := 34) h3), if_neg h3, if_pos (by omega), if_pos (by rw [size_B]; omega), show ((i : Int)).toNat = i from rfl, hxi, hdrop, sign_f l[i] (l.drop (i + 1)) (by rw [List.length_drop]; omega) k (by omega), Option.bind_some, toList_B]
      have hsl := sgn_le (l[i] :: l.drop (i + 1))
      by_cases h4 : sgn (l[i] :: l.drop (i + 1)) = 0
      · rw [if_pos (by rw [h4]; rfl), if_pos h4, if_neg (by decide), fin_bad _ _ _ (by decide)]
      · have hsz : (B ((l[i] :: l.drop (i + 1)).take (sgn (l[i] :: l.drop (i + 1))))).size = sgn (l[i] :: l.drop (i + 1)) := by rw [size_B, List.length_take]; omega
        rw [if_neg (fun h => h4 (by have := congrArg List.length h; rw [List.length_take, List.length_nil] at this; omega)), hsz, if_neg h4]
        have hnx := next k (sgn (l[i] :: l.drop (i + 1))) 5 (by omega) (by rw [hdrop]; exact hsl) (by omega)
        rw [← hdrop] at hsl hnx ⊢
        generalize sgn (l.drop i) = m at hsl h4 hnx ⊢
        have hw : wrap64 ((i : Int) + (m : Int)) = ((i + m : Nat) : Int) := by rw [wrapS (by omega) (by omega)]; omega
        have q1 : (i : Int) ≤ ((i + m : Nat) : Int) := by clear hw; omega
        have q2 : ((i + m : Nat) : Int) ≤ ((B l).size : Int) := by rw [size_B]; clear hw; omega
        rw [hw, if_pos q1, if_pos q2, if_pos (by clear hw; omega), show (((i + m : Nat) : Int)).toNat = i + m from rfl, cut_at, if_pos (by rfl), show ((m : Int)).toNat = m from rfl]
        exact hnx
    · rw [spec_Tokens.l0, if_neg (by rw [size_B]; omega), List.drop_of_length_le (by omega), lex_nil, fin_nil]
theorem spec_tokens_f (l : List UInt8) (hl : l.length ≤ 1000000000) (k : Nat) (hk : 60000 < k) : spec_Tokens.f k (B l) = some (toks l) := by
  unfold spec_Tokens.f toks
  rw [Option.bind_some]
  by_cases h : l.length > 3000
  · rw [if_pos (by rw [size_B]; omega), if_pos h]
  · rw [if_neg (by rw [size_B]; omega), if_neg h]
    have := slex l (by omega) l.length 0 k [] (by omega) (by omega) (by simp) (by omega)
    rw [List.drop_zero, lex_fin _ (lex_good _ _ _).1 (lex_good _ _ _).2] at this
    exact this
end Go.Proofs.YtebadckdihgklaaDoor.QLex

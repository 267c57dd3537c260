-- Cut by prune.py, a program of this session, out of the texts of this claim: Lean checks it.
import Derived.Test.YtebadckdihgklaaDoorVtbQKind
import Derived.Test.YtebadckdihgklaaDoorVtbQLaws
import Derived.Test.YtebadckdihgklaaDoorVtbPbx6
namespace Go.Proofs.YtebadckdihgklaaDoor.QTok
set_option linter.unusedSimpArgs false
open Go.RowKit Go.Proofs.YtebadckdihgklaaDoor.Pb Go.Proofs.YtebadckdihgklaaDoorW.PrintWords Go.Proofs.YtebadckdihgklaaDoorW.PrintLast Go.Proofs.YtebadckdihgklaaDoor.QStr Go.Proofs.YtebadckdihgklaaDoor.QTm Go.Proofs.YtebadckdihgklaaDoor.QPrs Go.Proofs.YtebadckdihgklaaDoor.QNumb Go.Proofs.YtebadckdihgklaaDoor.QImpl Go.Proofs.YtebadckdihgklaaDoor.QKind Go.Proofs.YtebadckdihgklaaDoor.QLaws
theorem dec0 (v : Int) (hw : ¬ v < 0) (h : v ≤ 1000000) : (Lib.itoa v).length ≤ 8 := by
  rw [itoa_pos hw]
  have := dec_len v.toNat 6 (by omega)
  omega
theorem itoa_short (v : Int) (h : -1000000 ≤ v ∧ v ≤ 1000000) : (Lib.itoa v).length ≤ 8 := by
  by_cases hw : v < 0
  · rw [itoa_neg hw, List.length_cons]
    have := dec_len v.natAbs 6 (by omega)
    omega
  · exact dec0 v hw h.2
/-- A text is a number's in both ways of asking. -/
theorem kd_num (s : List UInt8) : kd (prs s) = 1 ↔ (numB s).2 = true := by
  constructor
  · intro h
    cases hp : prs s with
    | none => rw [hp] at h; cases h
    | some t =>
      obtain ⟨h1, h2, _⟩ := prs_some.1 hp
      rw [hp] at h
      cases t with
      | num v =>
        rw [ok_num] at h1
        rw [rnd_num] at h2
        rw [← h2, numB_itoa v h1]
      | sym b => simp [kd, kind] at h
      | con nm ts => simp [kd, kind] at h
  · intro h
    obtain ⟨h1, h2, h3⟩ := numB_true h
    have h4 := itoa_short _ ⟨h1, h2⟩
    rw [← h3] at h4
    rw [prs_some.2 ⟨(ok_num _).2 ⟨h1, h2⟩, by rw [rnd_num]; exact h3.symm, by omega⟩]
    rfl
theorem hp1 (c x : UInt8) (r : List UInt8) : Lib.hasPrefix (c :: r) [x] = (c == x) := by
  unfold Lib.hasPrefix
  simp only [List.isPrefixOf, Bool.and_true]
  rw [Bool.eq_iff_iff, beq_iff_eq, beq_iff_eq]
  exact eq_comm
theorem hp2 (c x y : UInt8) (r : List UInt8) : Lib.hasPrefix (c :: r) [x, y] = (c == x && r.head? == some y) := by
  unfold Lib.hasPrefix
  cases r with
  | nil =>
    simp only [List.isPrefixOf, List.head?_nil]
    rw [Bool.and_false]
    cases (c == x) <;> rfl
  | cons d r =>
    simp only [List.isPrefixOf, Bool.and_true, List.head?_cons]
    rw [Bool.eq_iff_iff, Bool.and_eq_true, Bool.and_eq_true, beq_iff_eq, beq_iff_eq, beq_iff_eq, beq_iff_eq, Option.some.injEq]
    constructor
    · rintro ⟨h1, h2⟩; exact ⟨h1.symm, h2.symm⟩
    · rintro ⟨h1, h2⟩; exact ⟨h1.symm, h2.symm⟩
def isOne (c : UInt8) : Bool := c == 40 || c == 41 || c == 44 || c == 46 || c == 33 || c == 61 || c == 60 || c == 43 || c == 45 || c == 42 || c == 124 || c == 95
/-- The length of the sign at the front, 0 for none. -/
def sgn : List UInt8 → Nat
  | [] => 0
  | c :: r => if (c == 58 && r.head? == some 45) = true then 2 else if (c == 33 && r.head? == some 61) = true then 2 else if (c == 60 && r.head? == some 61) = true then 2 else if isOne c = true then 1 else 0
theorem sgn_le (l : List UInt8) : sgn l ≤ l.length := by
  cases l with
  | nil => simp [sgn]
  | cons c r =>
    have two : ∀ y, (r.head? == some y) = true → 2 ≤ (c :: r).length := by
      intro y h
      cases r with
      | nil => simp at h
      | cons d r => simp
    rw [sgn]
    by_cases h1 : (c == 58 && r.head? == some 45) = true
    · rw [if_pos h1]; rw [Bool.and_eq_true] at h1; exact two _ h1.2
    · rw [if_neg h1]
      by_cases h2 : (c == 33 && r.head? == some 61) = true
      · rw [if_pos h2]; rw [Bool.and_eq_true] at h2; exact two _ h2.2
      · rw [if_neg h2]
        by_cases h3 : (c == 60 && r.head? == some 61) = true
        · rw [if_pos h3]; rw [Bool.and_eq_true] at h3; exact two _ h3.2
        · rw [if_neg h3]
          split <;> simp
def findP (l : List UInt8) : List (List UInt8) → Int × Int × Int
  | [] => (0, 0, 2)
  | y :: ys => if Lib.hasPrefix l y = true then (5, ((y.length : Nat) : Int), 0) else findP l ys
theorem findP_cons (l y : List UInt8) (ys : List (List UInt8)) : findP l (y :: ys) = if Lib.hasPrefix l y = true then (5, ((y.length : Nat) : Int), 0) else findP l ys := by rw [findP]
def signs : List (List UInt8) := [[58, 45], [33, 61], [60, 61], [40], [41], [44], [46], [33], [61], [60], [43], [45], [42], [124], [95]]
theorem find_l (l : List UInt8) (ys : List (List UInt8)) (hn : ys.length ≤ 1000) : ∀ (d i k : Nat), i + d = ys.length → d < k → impl_tokenAt.l1 k (B l) (ys.map B) (ys.length : Int) (i : Int) = some (findP l (ys.drop i))
  | 0, i, k, hd, hk => by
    obtain ⟨k, rfl⟩ : ∃ m, k = m + 1 := ⟨k - 1, by omega⟩
    rw [impl_tokenAt.l1, if_neg (by omega), List.drop_of_length_le (by omega), findP]
  | d + 1, i, k, hd, hk => by
    obtain ⟨k, rfl⟩ : ∃ m, k = m + 1 := ⟨k - 1, by omega⟩
    have hlt : i < ys.length := by omega
    have hg : rdOf ByteArray.empty (ys.map B) (i : Int) = B ys[i] := by rw [rdOf_get _ i (by rw [List.length_map]; exact hlt), List.getElem_map]
    unfold strings_HasPrefix.f at *
    rw [impl_tokenAt.l1, if_pos (by omega), if_pos (by omega), if_pos (by rw [List.length_map]; omega), hg]
    unfold strings_HasPrefix.f
    rw [Option.bind_some, data_B, data_B, size_B, step_i (by omega), find_l l ys hn d (i + 1) k (by omega) (by omega), List.drop_eq_getElem_cons hlt, findP_cons]
    split <;> rfl
theorem find_sgn (c : UInt8) (r : List UInt8) : findP (c :: r) signs = if sgn (c :: r) = 0 then (0, 0, 2) else (5, ((sgn (c :: r) : Nat) : Int), 0) := by
  unfold signs
  rw [findP_cons, hp2, sgn]
  by_cases h1 : (c == 58 && r.head? == some 45) = true
  · rw [if_pos h1, if_pos h1]; rfl
  rw [if_neg h1, if_neg h1, findP_cons, hp2]
  by_cases h2 : (c == 33 && r.head? == some 61) = true
  · rw [if_pos h2, if_pos h2]; rfl
  rw [if_neg h2, if_neg h2, findP_cons, hp2]
  by_cases h3 : (c == 60 && r.head? == some 61) = true
  · rw [if_pos h3, if_pos h3]; rfl
  rw [if_neg h3, if_neg h3]
  clear h1 h2 h3
  rw [findP_cons, hp1]
  by_cases e40 : (c == 40) = true
  · rw [if_pos e40, if_pos (show isOne c = true by unfold isOne; simp only [e40, Bool.true_or, Bool.or_true])]; rfl
  rw [if_neg e40]
  rw [findP_cons, hp1]
  by_cases e41 : (c == 41) = true
  · rw [if_pos e41, if_pos (show isOne c = true by unfold isOne; simp only [e41, Bool.true_or, Bool.or_true])]; rfl
  rw [if_neg e41]
  rw [findP_cons, hp1]
  by_cases e44 : (c == 44) = true
  · rw [if_pos e44, if_pos (show isOne c = true by unfold isOne; simp only [e44, Bool.true_or, Bool.or_true])]; rfl
  rw [if_neg e44]
  rw [findP_cons, hp1]
  by_cases e46 : (c == 46) = true
  · rw [if_pos e46, if_pos (show isOne c = true by unfold isOne; simp only [e46, Bool.true_or, Bool.or_true])]; rfl
  rw [if_neg e46]
  rw [findP_cons, hp1]
  by_cases e33 : (c == 33) = true
  · rw [if_pos e33, if_pos (show isOne c = true by unfold isOne; simp only [e33, Bool.true_or, Bool.or_true])]; rfl
  rw [if_neg e33]
  rw [findP_cons, hp1]
  by_cases e61 : (c == 61) = true
  · rw [if_pos e61, if_pos (show isOne c = true by unfold isOne; simp only [e61, Bool.true_or, Bool.or_true])]; rfl
  rw [if_neg e61]
  rw [findP_cons, hp1]
  by_cases e60 : (c == 60) = true
  · rw [if_pos e60, if_pos (show isOne c = true by unfold isOne; simp only [e60, Bool.true_or, Bool.or_true])]; rfl
  rw [if_neg e60]
  rw [findP_cons, hp1]
  by_cases e43 : (c == 43) = true
  · rw [if_pos e43, if_pos (show isOne c = true by unfold isOne; simp only [e43, Bool.true_or, Bool.or_true])]; rfl
  rw [if_neg e43]
  rw [findP_cons, hp1]
  by_cases e45 : (c == 45) = true
  · rw [if_pos e45, if_pos (show isOne c = true by unfold isOne; simp only [e45, Bool.true_or, Bool.or_true])]; rfl
  rw [if_neg e45]
  rw [findP_cons, hp1]
  by_cases e42 : (c == 42) = true
  · rw [if_pos e42, if_pos (show isOne c = true by unfold isOne; simp only [e42, Bool.true_or, Bool.or_true])]; rfl
  rw [if_neg e42]
  rw [findP_cons, hp1]
  by_cases e124 : (c == 124) = true
  · rw [if_pos e124, if_pos (show isOne c = true by unfold isOne; simp only [e124, Bool.true_or, Bool.or_true])]; rfl
  rw [if_neg e124]
  rw [findP_cons, hp1]
  by_cases e95 : (c == 95) = true
  · rw [if_pos e95, if_pos (show isOne c = true by unfold isOne; simp only [e95, Bool.true_or, Bool.or_true])]; rfl
  rw [if_neg e95]
  have hn : isOne c = false := by unfold isOne; simp only [Bool.eq_false_iff.2 e40, Bool.eq_false_iff.2 e41, Bool.eq_false_iff.2 e44, Bool.eq_false_iff.2 e46, Bool.eq_false_iff.2 e33, Bool.eq_false_iff.2 e61, Bool.eq_false_iff.2 e60, Bool.eq_false_iff.2 e43, Bool.eq_false_iff.2 e45, Bool.eq_false_iff.2 e42, Bool.eq_false_iff.2 e124, Bool.eq_false_iff.2 e95, Bool.or_false]
  rw [hn, findP]
  rfl
theorem sign_j0 (c : UInt8) (r : List UInt8) (hr : r.length ≤ 1000000) (k : Nat) : spec_l03Sign.j0 (k + 1) (B (c :: r)) = some (B (if isOne c = true then [c] else [])) := by
  have h0 : (0 : Int) < ((B (c :: r)).size : Int) := by rw [size_B]; simp only [List.length_cons]; omega
  have h1 : (1 : Int) ≤ ((B (c :: r)).size : Int) := by rw [size_B]; simp only [List.length_cons]; omega
  have hb : bt (B (c :: r)) 0 = (c.toNat : Int) := bt_B (c :: r) 0 (by simp)
  have hx : (B (c :: r)).extract 0 1 = B [c] := by rw [extract_B]; rfl
  rw [spec_l03Sign.j0, if_pos h0, hb, hx]
  by_cases e40 : c = 40
  · rw [if_pos (by rw [e40]; rfl), if_pos (by decide), if_pos h1, if_pos (show isOne c = true by rw [e40]; decide)]
  rw [if_neg (show ¬ ((_ : Int) = 40) from u8_ne (b := 40) e40)]
  by_cases e41 : c = 41
  · rw [if_pos (by rw [e41]; rfl), if_pos (by decide), if_pos h1, if_pos (show isOne c = true by rw [e41]; decide)]
  rw [if_neg (show ¬ ((_ : Int) = 41) from u8_ne (b := 41) e41)]
  by_cases e44 : c = 44
  · rw [if_pos (by rw [e44]; rfl), if_pos (by decide), if_pos h1, if_pos (show isOne c = true by rw [e44]; decide)]
  rw [if_neg (show ¬ ((_ : Int) = 44) from u8_ne (b := 44) e44)]
  by_cases e46 : c = 46
  · rw [if_pos (by rw [e46]; rfl), if_pos (by decide), if_pos h1, if_pos (show isOne c = true by rw [e46]; decide)]
  rw [if_neg (show ¬ ((_ : Int) = 46) from u8_ne (b := 46) e46)]
  by_cases e33 : c = 33
  · rw [if_pos (by rw [e33]; rfl), if_pos (by decide), if_pos h1, if_pos (show isOne c = true by rw [e33]; decide)]
  rw [if_neg (show ¬ ((_ : Int) = 33) from u8_ne (b := 33) e33)]
  by_cases e61 : c = 61
  · rw [if_pos (by rw [e61]; rfl), if_pos (by decide), if_pos h1, if_pos (show isOne c = true by rw [e61]; decide)]
  rw [if_neg (show ¬ ((_ : Int) = 61) from u8_ne (b := 61) e61)]
  by_cases e60 : c = 60
  · rw [if_pos (by rw [e60]; rfl), if_pos (by decide), if_pos h1, if_pos (show isOne c = true by rw [e60]; decide)]
  rw [if_neg (show ¬ ((_ : Int) = 60) from u8_ne (b := 60) e60)]
  by_cases e43 : c = 43
  · rw [if_pos (by rw [e43]; rfl), if_pos (by decide), if_pos h1, if_pos (show isOne c = true by rw [e43]; decide)]
  rw [if_neg (show ¬ ((_ : Int) = 43) from u8_ne (b := 43) e43)]
  by_cases e45 : c = 45
  · rw [if_pos (by rw [e45]; rfl), if_pos (by decide), if_pos h1, if_pos (show isOne c = true by rw [e45]; decide)]
  rw [if_neg (show ¬ ((_ : Int) = 45) from u8_ne (b := 45) e45)]
  by_cases e42 : c = 42
  · rw [if_pos (by rw [e42]; rfl), if_pos (by decide), if_pos h1, if_pos (show isOne c = true by rw [e42]; decide)]
  rw [if_neg (show ¬ ((_ : Int) = 42) from u8_ne (b := 42) e42)]
  by_cases e124 : c = 124
  · rw [if_pos (by rw [e124]; rfl), if_pos (by decide), if_pos h1, if_pos (show isOne c = true by rw [e124]; decide)]
  rw [if_neg (show ¬ ((_ : Int) = 124) from u8_ne (b := 124) e124)]
  by_cases e95 : c = 95
  · rw [if_pos (by rw [e95]; rfl), if_pos (by decide), if_pos h1, if_pos (show isOne c = true by rw [e95]; decide)]
  rw [if_neg (show ¬ ((_ : Int) = 95) from u8_ne (b := 95) e95)]
  have hn : isOne c = false := by unfold isOne; simp only [beq_eq_false_iff_ne.2 e40, beq_eq_false_iff_ne.2 e41, beq_eq_false_iff_ne.2 e44, beq_eq_false_iff_ne.2 e46, beq_eq_false_iff_ne.2 e33, beq_eq_false_iff_ne.2 e61, beq_eq_false_iff_ne.2 e60, beq_eq_false_iff_ne.2 e43, beq_eq_false_iff_ne.2 e45, beq_eq_false_iff_ne.2 e42, beq_eq_false_iff_ne.2 e124, beq_eq_false_iff_ne.2 e95, Bool.or_false]
  rw [hn]
  rfl
theorem sign_f (c : UInt8) (r : List UInt8) (hr : r.length ≤ 1000000) (k : Nat) (hk : 0 < k) : spec_l03Sign.f k (B (c :: r)) = some (B ((c :: r).take (sgn (c :: r)))) := by
  obtain ⟨k, rfl⟩ : ∃ m, k = m + 1 := ⟨k - 1, by omega⟩
  have one_ : (if isOne c = true then [c] else []) = (c :: r).take (if isOne c = true then 1 else 0) := by split <;> rfl
  unfold spec_l03Sign.f
  rw [sign_j0 c r hr k]
  cases r with
  | nil =>
    rw [if_neg (by rw [size_B]; simp), one_, sgn]
    simp only [List.head?_nil, show ((none : Option UInt8) == some 45) = false from rfl, show ((none : Option UInt8) == some 61) = false from rfl, Bool.and_false, Bool.false_eq_true, if_false]
  | cons d r =>
    have hx : (B (c :: d :: r)).extract 0 2 = B [c, d] := by rw [extract_B]; rfl
    rw [if_pos (by rw [size_B]; simp only [List.length_cons]; omega), if_pos (by decide), if_pos (by rw [size_B]; simp only [List.length_cons]; omega), hx, toList_B, sgn]
    have key : ∀ x y : UInt8, ([c, d] = [x, y]) ↔ (c == x && (d :: r).head? == some y) = true := by
      intro x y
      rw [List.head?_cons, Bool.and_eq_true, beq_iff_eq, beq_iff_eq, Option.some.injEq]
      simp
    by_cases h1 : (c == 58 && (d :: r).head? == some 45) = true
    · rw [if_pos ((key _ _).2 h1), if_pos h1]; rfl
    rw [if_neg (fun h => h1 ((key _ _).1 h)), if_neg h1]
    by_cases h2 : (c == 33 && (d :: r).head? == some 61) = true
    · rw [if_pos ((key _ _).2 h2), if_pos h2]; rfl
    rw [if_neg (fun h => h2 ((key _ _).1 h)), if_neg h2]
    by_cases h3 : (c == 60 && (d :: r).head? == some 61) = true
    · rw [if_pos ((key _ _).2 h3), if_pos h3]; rfl
    rw [if_neg (fun h => h3 ((key _ _).1 h)), if_neg h3, one_]
/-- Where a symbol that begins here would end: behind the next closing sign. -/
def syEnd (r : List UInt8) : Nat := (r.takeWhile (· != 34)).length + 2
theorem symN_f (r : List UInt8) (hr : r.length ≤ 1000000) (k : Nat) (hk : 60 < k) : impl_symbolLong.f k (B (34 :: r)) = some (if syEnd r ≤ (34 :: r).length ∧ kd (prs ((34 :: r).take (syEnd r))) = 2 then ((syEnd r : Nat) : Int) else 0) := by
  unfold impl_symbolLong.f
  rw [show (1 : Int) = ((1 : Nat) : Int) from rfl]
  have first : ∀ j, 1 ≤ j → (∃ h : j < (34 :: r).length, (34 :: r)[j] = 34) → (∀ q, 1 ≤ q → q < j → ∀ h : q < (34 :: r).length, isSy (34 :: r)[q] = true) → syEnd r = j + 1 := by
    intro j hj ⟨h1, h2⟩ h3
    obtain ⟨j, rfl⟩ : ∃ m, j = m + 1 := ⟨j - 1, by omega⟩
    have hjl : j < r.length := by simpa using h1
    have hj34 : r[j] = 34 := by simpa using h2
    have hr2 : r = r.take j ++ r[j] :: r.drop (j + 1) := by rw [List.getElem_cons_drop, List.take_append_drop]
    have htw : r.takeWhile (· != 34) = r.take j := by
      conv => lhs; rw [hr2]
      apply takeWhile_append_stop
      · intro x hx
        obtain ⟨q, hq, rfl⟩ := List.getElem_of_mem hx
        have hq2 : q < j := by rw [List.length_take] at hq; omega
        have := h3 (q + 1) (by omega) (by omega) (by simp; omega)
        simp only [List.getElem_cons_succ] at this
        rw [List.getElem_take]
        simp only [isSy, Bool.and_eq_true, decide_eq_true_eq] at this
        rw [bne_iff_ne]
        intro e
        rw [e] at this
        exact absurd rfl this.1.2
      · intro y hy
        simp only [List.head?_cons, Option.some.injEq] at hy
        rw [← hy, hj34]
        rfl
    unfold syEnd
    rw [htw, List.length_take]
    omega
  rcases symbolLong_l (34 :: r) (by simp only [List.length_cons]; omega) 21 1 k (by omega) (by omega) (by omega) with ⟨j, h1, h2, h3, h5, h6⟩ | ⟨h5, h6⟩
  · have he := first j h1 h3 h5
    obtain ⟨h3, h4⟩ := h3
    obtain ⟨e1, e2, e3⟩ := sym_parts (34 :: r) j h3 ⟨r, rfl⟩ h1 h4
    rw [h6, he, if_pos]
    refine ⟨by omega, ?_⟩
    have hok : Ok (.sym (((34 :: r).take j).drop 1)) := by
      refine (ok_sym _).2 ⟨by omega, ?_⟩
      intro x hx
      obtain ⟨q, hq, rfl⟩ := List.getElem_of_mem hx
      rw [e3] at hq
      have : (((34 :: r).take j).drop 1)[q]'(by rw [e3]; exact hq) = (34 :: r)[q + 1]'(by omega) := by
        rw [List.getElem_drop, List.getElem_take]
        congr 1
        omega
      rw [this]
      exact h5 (q + 1) (by omega) (by omega) (by omega)
    have ht : (34 :: r).take (j + 1) = rnd (.sym (((34 :: r).take j).drop 1)) := by
      rw [← e2]
      conv => lhs; rhs; rw [e1]
      exact List.take_left
    rw [ht, prs_rnd hok (by rw [e2]; omega)]
    rfl
  · rw [h6, if_neg]
    rintro ⟨g1, g2⟩
    apply h5
    cases hp : prs ((34 :: r).take (syEnd r)) with
    | none => rw [hp] at g2; cases g2
    | some t =>
      obtain ⟨q1, q2, q3⟩ := prs_some.1 hp
      rw [hp] at g2
      cases t with
      | num v => simp [kd, kind] at g2
      | con nm ts => simp [kd, kind] at g2
      | sym b =>
        rw [ok_sym] at q1
        rw [rnd_sym] at q2
        have hlen := congrArg List.length q2
        simp only [List.length_cons, List.length_append, List.length_nil, List.length_take] at hlen
        simp only [List.length_cons] at g1
        have hse : syEnd r = b.length + 2 := by omega
        have hget : ∀ q (hq : q < b.length), ∀ h : q + 1 < (34 :: r).length, (34 :: r)[q + 1] = b[q] := by
          intro q hq h
          have h9 : ((34 :: r).take (syEnd r))[q + 1]? = (34 :: (b ++ [34]))[q + 1]? := by rw [q2]
          rw [List.getElem?_take_of_lt (by omega), List.getElem?_eq_getElem h, List.getElem?_cons_succ, List.getElem?_append_left hq, List.getElem?_eq_getElem hq] at h9
          injection h9
        refine ⟨b.length + 1, by omega, by omega, ⟨by simp only [List.length_cons]; omega, ?_⟩, ?_⟩
        · have h9 : ((34 :: r).take (syEnd r))[b.length + 1]? = (34 :: (b ++ [34]))[b.length + 1]? := by rw [q2]
          rw [List.getElem?_take_of_lt (by omega), List.getElem?_eq_getElem (by simp only [List.length_cons]; omega), List.getElem?_cons_succ, List.getElem?_append_right (Nat.le_refl _), Nat.sub_self] at h9
          injection h9
        · intro q hq1 hq2 hq3
          obtain ⟨q, rfl⟩ : ∃ m, q = m + 1 := ⟨q - 1, by omega⟩
          rw [hget q (by omega) hq3]
          exact q1.2 _ (List.getElem_mem _)
noncomputable def tok1 : List UInt8 → Int × Int × Int
  | [] => (0, 0, 2)
  | c :: r =>
    if isLet c = true then (if nmLen (c :: r) > 20 then (0, 0, 2) else (if 97 ≤ c.toNat then 1 else 2, ((nmLen (c :: r) : Nat) : Int), 0))
    else if isDig c = true then (if kd (prs ((c :: r).takeWhile isDig)) = 1 then (3, ((((c :: r).takeWhile isDig).length : Nat) : Int), 0) else (0, 0, 4))
    else if c = 34 then (if syEnd r ≤ (34 :: r).length ∧ kd (prs ((34 :: r).take (syEnd r))) = 2 then (4, ((syEnd r : Nat) : Int), 0) else (0, 0, 3))
    else if sgn (c :: r) = 0 then (0, 0, 2) else (5, ((sgn (c :: r) : Nat) : Int), 0)
theorem tokNum_l (l : List UInt8) (hl : l.length ≤ 1000000) : ∀ (d i k : Nat), i ≤ l.length → l.length - i = d → d + 4 * l.length + 62 < k →
    impl_tokenAt.l0 k (B l) (i : Int) = some (if kd (prs (l.take (i + ((l.drop i).takeWhile isDig).length))) = 1 then (3, ((i + ((l.drop i).takeWhile isDig).length : Nat) : Int), 0) else (0, 0, 4))
  | 0, i, k, hi, hd, hk => by
    obtain ⟨k, rfl⟩ : ∃ m, k = m + 1 := ⟨k - 1, by omega⟩
    have e : i = l.length := by omega
    have hko := kindOf_f (l.take i) (by rw [List.length_take]; omega) k (by rw [List.length_take]; omega)
    rw [impl_tokenAt.l0, if_neg (by rw [size_B]; omega), if_pos (by omega), if_pos (by rw [size_B]; omega), show ((i : Int)).toNat = i from rfl, extract_to, hko, Option.bind_some, show (l.drop i).takeWhile isDig = [] by rw [e, List.drop_length]; rfl]
    simp only [List.length_nil, Nat.add_zero]
    split <;> rfl
  | d + 1, i, k, hi, hd, hk => by
    obtain ⟨k, rfl⟩ : ∃ m, k = m + 1 := ⟨k - 1, by omega⟩
    have hlt : i < l.length := by omega
    have hko := kindOf_f (l.take i) (by rw [List.length_take]; omega) k (by rw [List.length_take]; omega)
    rw [impl_tokenAt.l0, if_pos (by rw [size_B]; omega), if_pos (by omega), bt_B l i hlt, isDigit_f, Option.bind_some, takeWhile_step l i hlt]
    by_cases hw : isDig l[i] = true
    · rw [if_pos hw, if_pos hw, step_i (by omega), tokNum_l l hl d (i + 1) k (by omega) (by omega) (by omega), List.length_cons, show i + 1 + ((l.drop (i + 1)).takeWhile isDig).length = i + (((l.drop (i + 1)).takeWhile isDig).length + 1) by omega]
    · rw [if_neg hw, if_neg hw, if_pos (by rw [size_B]; omega), show ((i : Int)).toNat = i from rfl, extract_to, hko, Option.bind_some]
      simp only [List.length_nil, Nat.add_zero]
      split <;> rfl
theorem tokenAt_f (c : UInt8) (r : List UInt8) (hl : (c :: r).length ≤ 1000000) (k : Nat) (hk : 5 * (c :: r).length + 100 < k) : impl_tokenAt.f k (B (c :: r)) = some (tok1 (c :: r)) := by
  have hb : bt (B (c :: r)) 0 = (c.toNat : Int) := bt_B (c :: r) 0 (by simp)
  have hpos : (0 : Int) < ((B (c :: r)).size : Int) := by rw [size_B]; simp only [List.length_cons]; omega
  unfold impl_tokenAt.f
  rw [nameLong_f _ (by omega) k (by omega), Option.bind_some, tok1, hb]
  by_cases h1 : isLet c = true
  · have hn : nmLen (c :: r) = (r.takeWhile isWrd).length + 1 := by rw [nmLen, if_pos h1]
    rw [if_pos (by omega), if_pos h1]
    by_cases h20 : nmLen (c :: r) > 20
    · rw [if_pos (by omega), if_pos h20]
    · rw [if_neg (by omega), if_neg h20, if_pos hpos]
      by_cases h97 : 97 ≤ c.toNat
      · rw [if_pos (by omega), if_pos h97]
      · rw [if_neg (by omega), if_neg h97]
  have hn : nmLen (c :: r) = 0 := by rw [nmLen, if_neg h1]
  rw [hn, if_neg (by omega), if_neg h1, if_pos hpos, isDigit_f, Option.bind_some]
  by_cases h2 : isDig c = true
  · have := tokNum_l (c :: r) hl (c :: r).length 0 k (by omega) (by omega) (by omega)
    rw [if_pos h2, if_pos h2, show (0 : Int) = ((0 : Nat) : Int) from rfl, this]
    simp only [Nat.zero_add, List.drop_zero]
    rw [takeWhile_take]
    rfl
  rw [if_neg h2, if_neg h2]
  by_cases h3 : c = 34
  · subst h3
    rw [if_pos (by rfl), if_pos rfl, symN_f r (by simp only [List.length_cons] at hl; omega) k (by omega), Option.bind_some]
    by_cases h4 : syEnd r ≤ (34 :: r).length ∧ kd (prs ((34 :: r).take (syEnd r))) = 2
    · rw [if_pos h4, if_pos h4, if_pos (by unfold syEnd; omega)]
    · rw [if_neg h4, if_neg h4, if_neg (by omega)]
  rw [if_neg (show ¬ ((_ : Int) = 34) from u8_ne (b := 34) h3), if_neg h3, Option.bind_some]
  have := find_l (c :: r) signs (by decide) signs.length 0 k (by omega) (by have : signs.length = 15 := rfl; omega)
  rw [List.drop_zero, find_sgn] at this
  exact this
theorem tok1_ok (c : UInt8) (r : List UInt8) (h : (tok1 (c :: r)).2.2 = 0) : ∃ n : Nat, (tok1 (c :: r)).2.1 = (n : Int) ∧ 1 ≤ n ∧ n ≤ (c :: r).length := by
  rw [tok1] at h ⊢
  by_cases h1 : isLet c = true
  · rw [if_pos h1] at h ⊢
    by_cases h20 : nmLen (c :: r) > 20
    · rw [if_pos h20] at h; cases h
    · rw [if_neg h20]
      refine ⟨_, rfl, ?_, nmLen_le _⟩
      rw [nmLen, if_pos h1]
      omega
  rw [if_neg h1] at h ⊢
  by_cases h2 : isDig c = true
  · rw [if_pos h2] at h ⊢
    by_cases h3 : kd (prs ((c :: r).takeWhile isDig)) = 1
    · rw [if_pos h3]
      refine ⟨_, rfl, ?_, takeWhile_le _⟩
      rw [List.takeWhile_cons, if_pos h2, List.length_cons]
      omega
    · rw [if_neg h3] at h; cases h
  rw [if_neg h2] at h ⊢
  by_cases h3 : c = 34
  · rw [if_pos h3] at h ⊢
    by_cases h4 : syEnd r ≤ (34 :: r).length ∧ kd (prs ((34 :: r).take (syEnd r))) = 2
    · rw [if_pos h4]
      exact ⟨_, rfl, by unfold syEnd; omega, h4.1⟩
    · rw [if_neg h4] at h; cases h
  rw [if_neg h3] at h ⊢
  by_cases h4 : sgn (c :: r) = 0
  · rw [if_pos h4] at h; cases h
  · rw [if_neg h4]
    exact ⟨_, rfl, by omega, sgn_le _⟩
end Go.Proofs.YtebadckdihgklaaDoor.QTok

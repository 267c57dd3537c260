-- Cut by prune.py, a program of this session, out of the texts of this claim: Lean checks it.
import Derived.Test.YtebadckdihgklaaDoorVraQTup
import Derived.Test.YtebadckdihgklaaDoorVraQParts
import Derived.Test.YtebadckdihgklaaDoorVraQLaws
import Derived.Test.YtebadckdihgklaaDoorVraPbx0
import Derived.Test.YtebadckdihgklaaDoorVraPbx7
namespace Go.Proofs.YtebadckdihgklaaDoor.QRel
open Go.RowKit Go.Proofs.YtebadckdihgklaaDoor.Pb Go.Proofs.YtebadckdihgklaaDoorW.PrintWords Go.Proofs.YtebadckdihgklaaDoorW.PrintLast Go.Proofs.YtebadckdihgklaaDoor.QStr Go.Proofs.YtebadckdihgklaaDoor.QTm Go.Proofs.YtebadckdihgklaaDoor.QPrs Go.Proofs.YtebadckdihgklaaDoor.QNumb Go.Proofs.YtebadckdihgklaaDoor.QKind Go.Proofs.YtebadckdihgklaaDoor.QParts Go.Proofs.YtebadckdihgklaaDoor.QLaws Go.Proofs.YtebadckdihgklaaDoor.QCmp Go.Proofs.YtebadckdihgklaaDoor.QTup Go.Proofs.YtebadckdihgklaaDoor.QImpl
/-- The terms that texts are, if all are terms. -/
noncomputable def prsL : List ByteArray → Option Row
  | [] => some []
  | x :: l => match prs (L x) with
    | none => none
    | some t => match prsL l with
      | none => none
      | some ts => some (t :: ts)
def enc (ts : Row) : List ByteArray := ts.map rB
noncomputable def isTup (l : List ByteArray) : Option Row := if l.length ≤ 6 then prsL l else none
theorem idx_l (l : List ByteArray) (hs : ∀ x ∈ l, x.size ≤ 1048576) (hn : l.length ≤ 1000) : ∀ (d i k : Nat), i + d = l.length → 4194500 + d < k →
    ∃ r, slices_IndexFunc_string_string_impl_isTuple_1.l0 k l (l.length : Int) (i : Int) = some r ∧ (r ≥ 0 ↔ prsL (l.drop i) = none)
  | 0, i, k, hd, hk => by
    obtain ⟨k, rfl⟩ : ∃ m, k = m + 1 := ⟨k - 1, by omega⟩
    refine ⟨-1, by rw [slices_IndexFunc_string_string_impl_isTuple_1.l0, if_neg (by omega)], ?_⟩
    rw [List.drop_of_length_le (by omega), prsL]
    simp
  | d + 1, i, k, hd, hk => by
    obtain ⟨k, rfl⟩ : ∃ m, k = m + 1 := ⟨k - 1, by omega⟩
    have hlt : i < l.length := by omega
    have hz := hs _ (List.getElem_mem hlt)
    have hko := kindOf_f (L l[i]) (by rw [L_length]; omega) k (by rw [L_length]; omega)
    rw [B_L] at hko
    rw [slices_IndexFunc_string_string_impl_isTuple_1.l0, if_pos (by omega), if_pos (by omega), if_pos (by omega), rdOf_get l i hlt]
    unfold impl_isTuple_1.f
    rw [hko, Option.bind_some, Option.bind_some, List.drop_eq_getElem_cons hlt, prsL]
    cases hp : prs (L l[i]) with
    | none => exact ⟨_, by rw [show (kd none == 0) = true from rfl, if_pos rfl], by simp⟩
    | some t =>
      have kt := kind_pos t
      obtain ⟨r, h1, h2⟩ := idx_l l hs hn d (i + 1) k (by omega) (by omega)
      refine ⟨r, by rw [show (kd (some t) == 0) = false by rw [beq_eq_false_iff_ne]; simp only [kd]; omega, if_neg (by decide), step_i (by omega), h1], ?_⟩
      rw [h2]
      cases prsL (l.drop (i + 1)) <;> simp
theorem isTuple_f (l : List ByteArray) (hs : ∀ x ∈ l, x.size ≤ 1048576) (k : Nat) (hk : 4200000 < k) : impl_isTuple.f k l = some (isTup l).isSome := by
  unfold impl_isTuple.f isTup
  by_cases h : l.length ≤ 6
  · rw [if_pos (by omega), if_pos h]
    obtain ⟨r, h1, h2⟩ := idx_l l hs (by omega) l.length 0 k (by omega) (by omega)
    unfold slices_ContainsFunc_string_string_impl_isTuple_1.f slices_IndexFunc_string_string_impl_isTuple_1.f
    rw [show (0 : Int) = ((0 : Nat) : Int) from rfl, h1, Option.bind_some, Option.bind_some]
    rw [List.drop_zero] at h2
    congr 1
    rw [Bool.eq_iff_iff, Bool.not_eq_true', decide_eq_false_iff_not, show ((0 : Nat) : Int) = 0 from rfl, h2]
    cases prsL l <;> simp
  · rw [if_neg (by omega), if_neg h]
    rfl
theorem stuple_l (l : List ByteArray) (hs : ∀ x ∈ l, x.size ≤ 1048576) (hn : l.length ≤ 1000) : ∀ (d i k : Nat), i + d = l.length → 4194500 + d < k →
    spec_TupleOk.l0 k (i : Int) l = some (prsL (l.drop i)).isSome
  | 0, i, k, hd, hk => by
    obtain ⟨k, rfl⟩ : ∃ m, k = m + 1 := ⟨k - 1, by omega⟩
    rw [spec_TupleOk.l0, if_neg (by omega), List.drop_of_length_le (by omega), prsL]
    rfl
  | d + 1, i, k, hd, hk => by
    obtain ⟨k, rfl⟩ : ∃ m, k = m + 1 := ⟨k - 1, by omega⟩
    have hlt : i < l.length := by omega
    have hz := hs _ (List.getElem_mem hlt)
    have hko := spec_kind _ (L l[i]) rfl (by rw [L_length]; omega) k (by rw [L_length]; omega)
    rw [B_L] at hko
    rw [spec_TupleOk.l0, if_pos (by omega), if_pos (by omega), rdOf_get l i hlt, hko, Option.bind_some, List.drop_eq_getElem_cons hlt, prsL]
    cases hp : prs (L l[i]) with
    | none => rw [if_pos (show kd none = 0 from rfl)]; rfl
    | some t =>
      have kt := kind_pos t
      rw [if_neg (by simp only [kd]; omega), step_i (by omega), stuple_l l hs hn d (i + 1) k (by omega) (by omega)]
      cases prsL (l.drop (i + 1)) <;> rfl
theorem tupleOk_f (l : List ByteArray) (hs : ∀ x ∈ l, x.size ≤ 1048576) (k : Nat) (hk : 4200000 < k) : spec_TupleOk.f k l = some (isTup l).isSome := by
  unfold spec_TupleOk.f isTup
  by_cases h : l.length ≤ 6
  · rw [if_neg (by omega), if_pos h]
    exact stuple_l l hs (by omega) l.length 0 k (by omega) (by omega)
  · rw [if_pos (by omega), if_neg h]
    rfl
end Go.Proofs.YtebadckdihgklaaDoor.QRel

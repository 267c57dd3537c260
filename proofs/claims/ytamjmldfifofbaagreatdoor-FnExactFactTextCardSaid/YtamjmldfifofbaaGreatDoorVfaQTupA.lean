-- Cut by prune.py, a program of this session, out of the texts of this claim: Lean checks it.
import Derived.Test.YtamjmldfifofbaaGreatDoorVfaQKind
import Derived.Test.YtamjmldfifofbaaGreatDoorVfaQLaws
import Derived.Test.YtamjmldfifofbaaGreatDoorVfaPfx11
import Derived.Test.YtamjmldfifofbaaGreatDoorVfaPfx5
namespace Go.Proofs.YtamjmldfifofbaaGreatDoor.QTupA
open Go.RowKit Go.Proofs.YtamjmldfifofbaaGreatDoor.Pf Go.Proofs.YtamjmldfifofbaaGreatDoorW.PrintWords Go.Proofs.YtamjmldfifofbaaGreatDoorW.PrintLast Go.Proofs.YtamjmldfifofbaaGreatDoor.QStr Go.Proofs.YtamjmldfifofbaaGreatDoor.QTm Go.Proofs.YtamjmldfifofbaaGreatDoor.QPrs Go.Proofs.YtamjmldfifofbaaGreatDoor.QKind Go.Proofs.YtamjmldfifofbaaGreatDoor.QLaws Go.Proofs.YtamjmldfifofbaaGreatDoor.QImpl
abbrev Row := List Tm
/-- A term of at most 200 bytes. -/
def Sh (t : Tm) : Prop := Ok t ∧ (rnd t).length ≤ 200
theorem sh_prs {t : Tm} (h : Sh t) : prs (rnd t) = some t := prs_rnd h.1 h.2
/-- The terms that texts are, if all are terms. -/
noncomputable def prsL : List ByteArray → Option Row
 | [] => some []
 | x :: l => match prs (L x) with
  | none => none
  | some t => match prsL l with
   | none => none
   | some ts => some (t :: ts)
def rBt (t : Tm) : ByteArray := B (rnd t)
def enc (ts : Row) : List ByteArray := ts.map rBt
theorem enc_len (ts : Row) : (enc ts).length = ts.length := List.length_map _
theorem prs_rBt {t : Tm} (h : Sh t) : prs (L (rBt t)) = some t := sh_prs h
theorem prsL_enc : ∀ (ts : Row),(∀ t ∈ ts,Sh t) → prsL (enc ts) = some ts
 | [],_ => rfl
 | t :: ts,h => by
  have h1 := prsL_enc ts (fun u hu => h u (by simp [hu]))
  show prsL (rBt t :: enc ts) = _
  rw [prsL,prs_rBt (h t (by simp)),h1]
theorem prsL_some : ∀ (l : List ByteArray) (ts : Row),prsL l = some ts → (∀ t ∈ ts,Sh t) ∧ l = enc ts
 | [],ts,h => by
  rw [prsL] at h
  injection h with h
  subst h
  exact ⟨fun t ht => (by cases ht),rfl⟩
 | x :: l,ts,h => by
  rw [prsL] at h
  cases hp : prs (L x) with
  | none => rw [hp] at h; cases h
  | some t =>
   cases hl : prsL l with
   | none => rw [hp,hl] at h; cases h
   | some us =>
    rw [hp,hl] at h
    injection h with h
    subst h
    obtain ⟨h1,h2⟩ := prsL_some l us hl
    obtain ⟨g1,g2,g3⟩ := prs_some.1 hp
    refine ⟨fun u hu => ?_, ?_⟩
    ·rcases List.mem_cons.1 hu with rfl | hu
     ·exact ⟨g1,by rw [g2]; exact g3⟩
     ·exact h1 u hu
    ·rw [h2]
     show x :: enc us = rBt t :: enc us
     rw [rBt,g2,B_L]
theorem prsL_iff {l : List ByteArray} {ts : Row} : prsL l = some ts ↔ (∀ t ∈ ts,Sh t) ∧ l = enc ts :=
 ⟨prsL_some l ts,fun ⟨h1,h2⟩ => by rw [h2]; exact prsL_enc ts h1⟩
noncomputable def isTup (l : List ByteArray) : Option Row := if l.length ≤ 6 then prsL l else none
theorem isTup_iff {l : List ByteArray} {ts : Row} : isTup l = some ts ↔ ts.length ≤ 6 ∧ (∀ t ∈ ts,Sh t) ∧ l = enc ts := by
 unfold isTup
 by_cases h : l.length ≤ 6
 ·rw [if_pos h,prsL_iff]
  constructor
  ·rintro ⟨h1,h2⟩
   exact ⟨by rw [h2,enc_len] at h; exact h,h1,h2⟩
  ·rintro ⟨_,h1,h2⟩
   exact ⟨h1,h2⟩
 ·rw [if_neg h]
  constructor
  ·intro h; cases h
  ·rintro ⟨h1,_,h2⟩
   rw [h2,enc_len] at h
   exact absurd h1 h
theorem idx_l (l : List ByteArray) (hs : ∀ x ∈ l,x.size ≤ 1048576) (hn : l.length ≤ 1000) : ∀ (d i k : Nat),i + d = l.length → 4194500 + d < k →
  ∃ r,z0_.l0 k l (l.length : Int) (i : Int) = some r ∧ (r ≥ 0 ↔ prsL (l.drop i) = none)
 | 0,i,k,hd,hk => by
  obtain ⟨k,rfl⟩ : ∃ m,k = m + 1 := ⟨k - 1,by omega⟩
  refine ⟨-1,by rw [z0_.l0,if_neg (by omega)], ?_⟩
  rw [List.drop_of_length_le (by omega),prsL]
  simp
 | d + 1,i,k,hd,hk => by
  obtain ⟨k,rfl⟩ : ∃ m,k = m + 1 := ⟨k - 1,by omega⟩
  have hlt : i < l.length := by omega
  have hz := hs _ (List.getElem_mem hlt)
  have hko := kindOf_f (L l[i]) (by rw [L_length]; omega) k (by rw [L_length]; omega)
  rw [B_L] at hko
  rw [z0_.l0,if_pos (by omega),if_pos (by omega),if_pos (by omega),rdOf_get l i hlt]
  unfold impl_isTuple_1.f
  rw [hko,Option.bind_some,Option.bind_some,List.drop_eq_getElem_cons hlt,prsL]
  cases hp : prs (L l[i]) with
  | none => exact ⟨_,by rw [show (kd none == 0) = true from rfl,if_pos rfl],by simp⟩
  | some t =>
   have kt := kind_pos t
   obtain ⟨r,h1,h2⟩ := idx_l l hs hn d (i + 1) k (by omega) (by omega)
   refine ⟨r,by rw [show (kd (some t) == 0) = false by rw [beq_eq_false_iff_ne]; simp only [kd]; omega,if_neg (by decide),step_i (by omega),h1], ?_⟩
   rw [h2]
   cases prsL (l.drop (i + 1)) <;> simp
theorem isTuple_f (l : List ByteArray) (hs : ∀ x ∈ l,x.size ≤ 1048576) (k : Nat) (hk : 4200000 < k) : impl_isTuple.f k l = some (isTup l).isSome := by
 unfold impl_isTuple.f isTup
 by_cases h : l.length ≤ 6
 ·rw [if_pos (by omega),if_pos h]
  obtain ⟨r,h1,h2⟩ := idx_l l hs (by omega) l.length 0 k (by omega) (by omega)
  unfold slices_ContainsFunc_string_string_impl_isTuple_1.f z0_.f
  rw [show (0 : Int) = ((0 : Nat) : Int) from rfl,h1,Option.bind_some,Option.bind_some]
  rw [List.drop_zero] at h2
  congr 1
  rw [Bool.eq_iff_iff,Bool.not_eq_true',decide_eq_false_iff_not,show ((0 : Nat) : Int) = 0 from rfl,h2]
  cases prsL l <;> simp
 ·rw [if_neg (by omega),if_neg h]
  rfl
theorem stuple_l (l : List ByteArray) (hs : ∀ x ∈ l,x.size ≤ 1048576) (hn : l.length ≤ 1000) : ∀ (d i k : Nat),i + d = l.length → 4194500 + d < k →
  spec_TupleOk.l0 k (i : Int) l = some (prsL (l.drop i)).isSome
 | 0,i,k,hd,hk => by
  obtain ⟨k,rfl⟩ : ∃ m,k = m + 1 := ⟨k - 1,by omega⟩
  rw [spec_TupleOk.l0,if_neg (by omega),List.drop_of_length_le (by omega),prsL]
  rfl
 | d + 1,i,k,hd,hk => by
  obtain ⟨k,rfl⟩ : ∃ m,k = m + 1 := ⟨k - 1,by omega⟩
  have hlt : i < l.length := by omega
  have hz := hs _ (List.getElem_mem hlt)
  have hko := spec_kind _ (L l[i]) rfl (by rw [L_length]; omega) k (by rw [L_length]; omega)
  rw [B_L] at hko
  rw [spec_TupleOk.l0,if_pos (by omega),if_pos (by omega),rdOf_get l i hlt,hko,Option.bind_some,List.drop_eq_getElem_cons hlt,prsL]
  cases hp : prs (L l[i]) with
  | none => rw [if_pos (show kd none = 0 from rfl)]; rfl
  | some t =>
   have kt := kind_pos t
   rw [if_neg (by simp only [kd]; omega),step_i (by omega),stuple_l l hs hn d (i + 1) k (by omega) (by omega)]
   cases prsL (l.drop (i + 1)) <;> rfl
theorem tupleOk_f (l : List ByteArray) (hs : ∀ x ∈ l,x.size ≤ 1048576) (k : Nat) (hk : 4200000 < k) : spec_TupleOk.f k l = some (isTup l).isSome := by
 unfold spec_TupleOk.f isTup
 by_cases h : l.length ≤ 6
 ·rw [if_neg (by omega),if_pos h]
  exact stuple_l l hs (by omega) l.length 0 k (by omega) (by omega)
 ·rw [if_pos (by omega),if_neg h]
  rfl
end Go.Proofs.YtamjmldfifofbaaGreatDoor.QTupA

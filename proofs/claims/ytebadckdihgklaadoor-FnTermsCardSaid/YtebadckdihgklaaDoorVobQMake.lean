-- Cut by prune.py, a program of this session, out of the texts of this claim: Lean checks it.
import Derived.Test.YtebadckdihgklaaDoorVobQSize
import Derived.Test.YtebadckdihgklaaDoorVobPbx7
import Derived.Test.YtebadckdihgklaaDoorVobPbx0
import Derived.Lib.Join
namespace Go.Proofs.YtebadckdihgklaaDoor.QMake
open Go.RowKit Go.Proofs.YtebadckdihgklaaDoor.Pb Go.Proofs.YtebadckdihgklaaDoorW.PrintWords Go.Proofs.YtebadckdihgklaaDoorW.PrintLast Go.Proofs.YtebadckdihgklaaDoor.QStr Go.Proofs.YtebadckdihgklaaDoor.QTm Go.Proofs.YtebadckdihgklaaDoor.QPrs Go.Proofs.YtebadckdihgklaaDoor.QScan Go.Proofs.YtebadckdihgklaaDoor.QNumb Go.Proofs.YtebadckdihgklaaDoor.QKind Go.Proofs.YtebadckdihgklaaDoor.QParts Go.Proofs.YtebadckdihgklaaDoor.QLaws Go.Proofs.YtebadckdihgklaaDoor.QSize
def full (nm : List UInt8) (qs : List (List UInt8)) : List UInt8 := if qs = [] then nm else nm ++ 40 :: (joinC qs ++ [41])
noncomputable def made (nm : List UInt8) (qs : List (List UInt8)) : ByteArray × Bool :=
  if nameB isBg nm = true ∧ qs.all (fun q => (prs q).isSome) = true ∧ (full nm qs).length ≤ 200 then (B (full nm qs), true) else (B [], false)
theorem join_joinC : ∀ (qs : List (List UInt8)), Lib.join qs [44] = joinC qs
  | [] => rfl
  | [a] => Lib.join_one a [44]
  | a :: b :: r => by
    have h := join_joinC (b :: r)
    rw [joinC_cons a (b :: r) (by simp), ← h, Lib.join_cons, Lib.join_cons, Lib.joinTail, List.map_cons, List.flatten_cons, Lib.joinTail]
    simp
theorem joinC_le (m : Nat) : ∀ (qs : List (List UInt8)), (∀ q ∈ qs, q.length ≤ m) → (joinC qs).length ≤ qs.length * (m + 1)
  | [], _ => by simp [joinC]
  | [a], h => by have := h a (by simp); simp only [joinC, List.length_cons, List.length_nil]; omega
  | a :: b :: r, h => by
    have h1 := h a (by simp)
    have h2 := joinC_le m (b :: r) (fun q hq => h q (by simp [hq]))
    rw [joinC_cons a (b :: r) (by simp)]
    simp only [List.length_append, List.length_cons] at h2 ⊢
    rw [Nat.add_mul (r.length + 1) 1]
    omega
theorem map_getB (qs : List (List UInt8)) (i : Nat) (h : i < qs.length) : rdOf ByteArray.empty (qs.map B) (i : Int) = B qs[i] := by
  rw [rdOf_get _ i (by rw [List.length_map]; exact h), List.getElem_map]
theorem conText_f (nm : List UInt8) (qs : List (List UInt8)) (hn : nm.length ≤ 1048576) (hc : qs.length ≤ 1048576) (hq : ∀ q ∈ qs, q.length ≤ 200) : impl_conText.f (B nm) (qs.map B) = some (B (full nm qs)) := by
  have hj := joinC_le 200 qs hq
  have hjl : (joinC qs).length ≤ 210763776 := by
    refine Nat.le_trans hj (Nat.le_trans (Nat.mul_le_mul_right 201 hc) (by decide))
  unfold impl_conText.f full
  by_cases h : qs = []
  · subst h
    rw [if_pos (by rfl), if_pos rfl]
  · have h0 : ¬ ((qs.map B).length : Int) = 0 := by
      rw [List.length_map]
      have := List.length_pos_iff.2 h
      omega
    have hm : (qs.map B).map (·.data.toList) = qs := by
      rw [List.map_map]
      exact List.map_id' qs
    unfold strings_Join.f
    rw [if_neg h0, if_neg h, if_pos (by rw [size_B]; omega), hm, show ((⟨#[44]⟩ : ByteArray)).data.toList = [44] from rfl, join_joinC, if_pos (by omega), if_pos (by rw [List.length_map]; omega), Option.bind_some,
      show ((⟨(joinC qs).toArray⟩ : ByteArray)) = B (joinC qs) from rfl, show ((⟨#[40]⟩ : ByteArray)) = B [40] from rfl, show ((⟨#[41]⟩ : ByteArray)) = B [41] from rfl, append_B, append_B, append_B,
      if_pos (by rw [size_B, size_B]; simp only [List.length_append, List.length_cons, List.length_nil]; omega), if_pos (by rw [size_B]; simp only [List.length_append, List.length_cons, List.length_nil]; omega)]
    congr 2
    simp
theorem make_l (nm : List UInt8) (qs : List (List UInt8)) (hn : nm.length ≤ 1048576) (hc : qs.length ≤ 1048576) (hq : ∀ q ∈ qs, q.length ≤ 1048576) :
    ∀ (d i k : Nat), i + d = qs.length → d + 5000000 < k → (qs.take i).all (fun q => (prs q).isSome) = true → impl_TermMake.l0 k (B nm) (qs.map B) (qs.map B) (qs.length : Int) (i : Int) = some (made nm qs)
  | 0, i, k, hd, hk, ha => by
    obtain ⟨k, rfl⟩ : ∃ m, k = m + 1 := ⟨k - 1, by omega⟩
    rw [List.take_of_length_le (by omega)] at ha
    have hq2 : ∀ q ∈ qs, q.length ≤ 200 := by
      intro q hm
      obtain ⟨t, ht⟩ := Option.isSome_iff_exists.1 (List.all_eq_true.1 ha q hm)
      exact (prs_some.1 ht).2.2
    rw [impl_TermMake.l0, if_neg (by omega), conText_f nm qs hn hc hq2, Option.bind_some, isBigName_f nm (by omega) k (by omega), Option.bind_some, made]
    by_cases hb : nameB isBg nm = true
    · rw [if_pos hb, size_B]
      by_cases h2 : (full nm qs).length ≤ 200
      · rw [if_neg (by omega), if_pos ⟨hb, ha, h2⟩]
      · rw [if_pos (by omega), if_neg (fun h => h2 h.2.2)]
        rfl
    · rw [if_neg hb, if_neg (fun h => hb h.1)]
      rfl
  | d + 1, i, k, hd, hk, ha => by
    obtain ⟨k, rfl⟩ : ∃ m, k = m + 1 := ⟨k - 1, by omega⟩
    have hlt : i < qs.length := by omega
    have hl := hq _ (List.getElem_mem hlt)
    rw [impl_TermMake.l0, if_pos (by omega), if_pos (by omega), if_pos (by rw [List.length_map]; omega), map_getB qs i hlt, kindOf_f qs[i] (by omega) k (by omega), Option.bind_some, step_i (by omega)]
    cases hp : prs qs[i] with
    | none =>
      rw [if_pos (show kd none = 0 from rfl), made, if_neg]
      · rfl
      · intro h
        have := List.all_eq_true.1 h.2.1 _ (List.getElem_mem hlt)
        rw [hp] at this
        cases this
    | some t =>
      have hk1 := kind_pos t
      rw [if_neg (by simp only [kd]; omega)]
      refine make_l nm qs hn hc hq d (i + 1) k (by omega) (by omega) ?_
      rw [List.take_succ_eq_append_getElem hlt, List.all_append, ha, List.all_cons, List.all_nil, hp]
      rfl
theorem impl_make_f (nm : List UInt8) (qs : List (List UInt8)) (hn : nm.length ≤ 1048576) (hc : qs.length ≤ 1048576) (hq : ∀ q ∈ qs, q.length ≤ 1048576) (k : Nat) (hk : 900001000 < k) : impl_TermMake.f k (B nm) (qs.map B) = some (made nm qs) := by
  unfold impl_TermMake.f
  rw [List.length_map]
  exact make_l nm qs hn hc hq qs.length 0 k (by omega) (by omega) (by simp)
end Go.Proofs.YtebadckdihgklaaDoor.QMake

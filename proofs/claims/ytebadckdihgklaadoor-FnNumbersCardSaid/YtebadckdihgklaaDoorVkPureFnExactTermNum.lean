-- Cut by prune.py, a program of this session, out of the texts of this claim: Lean checks it.
import Derived.Test.YtebadckdihgklaaDoorVkPbx5
import Derived.Test.YtebadckdihgklaaDoorVkQKind
namespace Go.Proofs.YtebadckdihgklaaDoor.Pure
open Go.RowKit Go.Proofs.YtebadckdihgklaaDoor.Pb Go.Proofs.YtebadckdihgklaaDoorW.PrintWords Go.Proofs.YtebadckdihgklaaDoorW.PrintLast Go.Proofs.YtebadckdihgklaaDoor.QStr Go.Proofs.YtebadckdihgklaaDoor.QTm Go.Proofs.YtebadckdihgklaaDoor.QPrs Go.Proofs.YtebadckdihgklaaDoor.QNumb
theorem termNum_f (s : List UInt8) (hs : s.length ≤ 281474976710656) (k : Nat) (hk : 4 * s.length + 60 < k) : impl_TermNum.f k (B s) = some (match prs s with | some (.num v) => (v, true) | _ => (0, false)) := by
  unfold impl_TermNum.f
  rw [kindOf_f s hs k hk, Option.bind_some]
  cases hp : prs s with
  | none => rfl
  | some t =>
    cases t with
    | sym b => rfl
    | con nm ts => rfl
    | num v =>
      obtain ⟨h1, h2, h3⟩ := prs_some.1 hp
      rw [ok_num] at h1
      rw [rnd_num] at h2
      rw [if_pos (show kd (some (Tm.num v)) = 1 from rfl)]
      unfold impl_numOf.f strconv_Atoi.f
      rw [if_pos (by rw [size_B]; exact hs), data_B, ← h2, atoi_itoa v h1.1 h1.2]
      rfl
theorem itoa_short (v : Int) (h : -1000000 ≤ v ∧ v ≤ 1000000) : (Lib.itoa v).length ≤ 8 := by
  by_cases hw : v < 0
  · rw [itoa_neg hw, List.length_cons]
    have := dec_len v.natAbs 6 (by omega)
    omega
  · rw [itoa_pos hw]
    have := dec_len v.toNat 6 (by omega)
    omega
theorem prs_numB (s : List UInt8) : (match prs s with | some (.num v) => (v, true) | _ => (0, false)) = if (numB s).2 = true then ((numB s).1, true) else (0, false) := by
  by_cases h : (numB s).2 = true
  · obtain ⟨h1, h2, h3⟩ := numB_true h
    rw [if_pos h]
    have h4 := itoa_short _ ⟨h1, h2⟩
    rw [← h3] at h4
    rw [prs_some.2 ⟨(ok_num _).2 ⟨h1, h2⟩, by rw [rnd_num]; exact h3.symm, by omega⟩]
  · rw [if_neg h]
    cases hp : prs s with
    | none => rfl
    | some t =>
      cases t with
      | sym b => rfl
      | con nm ts => rfl
      | num v =>
        exfalso
        obtain ⟨h1, h2, h3⟩ := prs_some.1 hp
        rw [ok_num] at h1
        rw [rnd_num] at h2
        rw [← h2, numB_itoa v h1] at h
        exact h rfl
theorem FnExactTermNum : laws_FnExactTermNum.Pure := by
  intro a _
  refine ⟨4 * a.size + 100, ?_⟩
  unfold laws_FnExactTermNum.f spec_TermNum.f
  by_cases hb : (a.size : Int) > 1048576
  · rw [if_pos hb]
  rw [if_neg hb]
  have hs : (L a).length = a.size := L_length a
  have h1 := number_f (L a) (by omega) (4 * a.size + 100) (by omega)
  have h2 := termNum_f (L a) (by omega) (4 * a.size + 100) (by omega)
  rw [prs_numB] at h2
  rw [B_L] at h1 h2
  rw [h1, h2]
  by_cases h : (numB (L a)).2 = true
  · simp [h]
  · simp [h]
end Go.Proofs.YtebadckdihgklaaDoor.Pure

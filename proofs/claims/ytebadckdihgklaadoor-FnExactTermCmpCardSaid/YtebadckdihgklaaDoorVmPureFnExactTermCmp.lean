-- Cut by prune.py, a program of this session, out of the texts of this claim: Lean checks it.
import Derived.Test.YtebadckdihgklaaDoorVmPbx28
import Derived.Test.YtebadckdihgklaaDoorVmQCmp
namespace Go.Proofs.YtebadckdihgklaaDoor.Pure
open Go.RowKit Go.Proofs.YtebadckdihgklaaDoor.Pb Go.Proofs.YtebadckdihgklaaDoorW.PrintWords Go.Proofs.YtebadckdihgklaaDoorW.PrintLast Go.Proofs.YtebadckdihgklaaDoor.QStr Go.Proofs.YtebadckdihgklaaDoor.QTm Go.Proofs.YtebadckdihgklaaDoor.QPrs Go.Proofs.YtebadckdihgklaaDoor.QKind Go.Proofs.YtebadckdihgklaaDoor.QParts Go.Proofs.YtebadckdihgklaaDoor.QCmp
/-- What TermCmp answers. -/
noncomputable def cmpB (a b : List UInt8) : Int :=
  match prs a, prs b with
  | some t, some u => tcmp t u
  | _, _ => 2
theorem spec_termCmp_f (a b : List UInt8) (ha : a.length ≤ 1048576) (hb : b.length ≤ 1048576) (k : Nat) (hk : 6 * a.length + 6 * b.length + 200 < k) : spec_TermCmp.f k (B a) (B b) = some (cmpB a b) := by
  unfold spec_TermCmp.f cmpB
  rw [spec_kind _ a rfl (by omega) k (by omega), Option.bind_some]
  cases hp : prs a with
  | none => rw [if_pos (show kd none = 0 from rfl)]
  | some t =>
    have hkt := kind_pos t
    rw [if_neg (by simp only [kd]; omega), spec_kind _ b rfl (by omega) k (by omega), Option.bind_some]
    cases hp2 : prs b with
    | none => rw [if_pos (show kd none = 0 from rfl)]
    | some u =>
      have hku := kind_pos u
      obtain ⟨h1, h2, h3⟩ := prs_some.1 hp
      obtain ⟨h4, h5, h6⟩ := prs_some.1 hp2
      have e1 : B a = rB t := by rw [rB, h2]
      have e2 : B b = rB u := by rw [rB, h5]
      rw [if_neg (by simp only [kd]; omega), e1, e2, spec_cmp _ t u rfl h1 h4 (by rw [h2]; exact h3) (by rw [h5]; exact h6) k (by rw [h2, h5]; exact hk)]
      rfl
theorem impl_termCmp_f (a b : List UInt8) (ha : a.length ≤ 1048576) (hb : b.length ≤ 1048576) (k : Nat) (hk : 6 * a.length + 6 * b.length + 200 < k) : impl_TermCmp.f k (B a) (B b) = some (cmpB a b) := by
  unfold impl_TermCmp.f cmpB
  obtain ⟨k, rfl⟩ : ∃ m, k = m + 2 := ⟨k - 2, by omega⟩
  cases hp : prs a with
  | none => rw [impl_compareTerms.f, kindOf_f a (by omega) (k + 1) (by omega), Option.bind_some, kindOf_f b (by omega) (k + 1) (by omega), Option.bind_some, hp, if_pos (show kd none = 0 from rfl), impl_compareTerms.j0, if_pos rfl]; rfl
  | some t =>
    have hkt := kind_pos t
    cases hp2 : prs b with
    | none => rw [impl_compareTerms.f, kindOf_f a (by omega) (k + 1) (by omega), Option.bind_some, kindOf_f b (by omega) (k + 1) (by omega), Option.bind_some, hp, hp2, if_neg (by simp only [kd]; omega), show (kd none == 0) = true from rfl, impl_compareTerms.j0, if_pos rfl]; rfl
    | some u =>
      obtain ⟨h1, h2, h3⟩ := prs_some.1 hp
      obtain ⟨h4, h5, h6⟩ := prs_some.1 hp2
      have e1 : B a = rB t := by rw [rB, h2]
      have e2 : B b = rB u := by rw [rB, h5]
      rw [e1, e2, impl_cmp _ t u rfl h1 h4 (by rw [h2]; exact h3) (by rw [h5]; exact h6) (k + 2) (by rw [h2, h5]; exact hk)]
      rfl
theorem FnExactTermCmp : laws_FnExactTermCmp.Pure := by
  intro a b _ _
  refine ⟨6 * a.size + 6 * b.size + 201, ?_⟩
  unfold laws_FnExactTermCmp.f
  by_cases hb : (a.size : Int) > 1048576
  · rw [if_pos hb]
  rw [if_neg hb]
  by_cases hb2 : (b.size : Int) > 1048576
  · rw [if_pos hb2]
  rw [if_neg hb2]
  have hs : (L a).length = a.size := L_length a
  have hs2 : (L b).length = b.size := L_length b
  have h1 := spec_termCmp_f (L a) (L b) (by omega) (by omega) (6 * a.size + 6 * b.size + 201) (by omega)
  have h2 := impl_termCmp_f (L a) (L b) (by omega) (by omega) (6 * a.size + 6 * b.size + 201) (by omega)
  rw [B_L, B_L] at h1 h2
  rw [h1, h2, Option.bind_some, Option.bind_some, if_pos rfl]
end Go.Proofs.YtebadckdihgklaaDoor.Pure

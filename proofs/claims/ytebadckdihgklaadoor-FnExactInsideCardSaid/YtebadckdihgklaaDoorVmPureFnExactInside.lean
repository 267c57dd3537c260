-- Cut by prune.py, a program of this session, out of the texts of this claim: Lean checks it.
import Derived.Test.YtebadckdihgklaaDoorVmPbx13
import Derived.Test.YtebadckdihgklaaDoorVmQIns
namespace Go.Proofs.YtebadckdihgklaaDoor.Pure
open Go.RowKit Go.Proofs.YtebadckdihgklaaDoor.Pb Go.Proofs.YtebadckdihgklaaDoorW.PrintWords Go.Proofs.YtebadckdihgklaaDoorW.PrintLast Go.Proofs.YtebadckdihgklaaDoor.QStr Go.Proofs.YtebadckdihgklaaDoor.QTm Go.Proofs.YtebadckdihgklaaDoor.QPrs Go.Proofs.YtebadckdihgklaaDoor.QKind Go.Proofs.YtebadckdihgklaaDoor.QIns Go.Proofs.YtebadckdihgklaaDoor.QParts
theorem inside_both (a b : List UInt8) (ha : a.length ≤ 1048576) (hb : b.length ≤ 1048576) (k : Nat) (hk : 6 * a.length + 6 * b.length + 2000 < k) :
    ∃ r, spec_Inside.f k (B a) (B b) = some r ∧ impl_Inside.f k (B a) (B b) = some r := by
  unfold impl_Inside.f
  rw [kindOf_f a (by omega) k (by omega), kindOf_f b (by omega) k (by omega)]
  simp only [Option.bind_some]
  cases hpa : prs a with
  | none =>
    obtain ⟨k, rfl⟩ : ∃ m, k = m + 2 := ⟨k - 2, by omega⟩
    exact ⟨false, by rw [spec_Inside.f, spec_kind _ a rfl (by omega) (k + 1) (by omega), Option.bind_some, hpa, if_pos (show kd none = 0 from rfl), spec_Inside.j0, if_pos rfl], by rw [if_pos (show kd none = 0 from rfl)]⟩
  | some ta =>
    have hka := kind_pos ta
    obtain ⟨h3, h4, h5⟩ := prs_some.1 hpa
    rw [if_neg (by simp only [kd]; omega)]
    cases hpb : prs b with
    | none =>
      obtain ⟨k, rfl⟩ : ∃ m, k = m + 2 := ⟨k - 2, by omega⟩
      exact ⟨false, by rw [spec_Inside.f, spec_kind _ a rfl (by omega) (k + 1) (by omega), Option.bind_some, hpa, if_neg (by simp only [kd]; omega), spec_kind _ b rfl (by omega) (k + 1) (by omega), Option.bind_some, hpb, show (kd none == 0) = true from rfl, spec_Inside.j0, if_pos rfl], by rw [if_pos (show kd none = 0 from rfl)]⟩
    | some tb =>
      have hkb := kind_pos tb
      obtain ⟨h6, h7, h8⟩ := prs_some.1 hpb
      have e : B b = rB tb := by rw [rB, h7]
      rw [if_neg (by simp only [kd]; omega), e, inside_f a (by rw [hpa]; rfl) h5 _ tb rfl h6 (by rw [h7]; exact h8) k (by rw [h7]; omega), isInside_f a _ tb rfl h6 (by rw [h7]; exact h8) k (by rw [h7]; omega)]
      exact ⟨_, rfl, rfl⟩
theorem FnExactInside : laws_FnExactInside.Pure := by
  intro a b _ _
  refine ⟨6 * a.size + 6 * b.size + 2001, ?_⟩
  unfold laws_FnExactInside.f
  by_cases hb : (a.size : Int) > 1048576
  · rw [if_pos hb]
  rw [if_neg hb]
  by_cases hb2 : (b.size : Int) > 1048576
  · rw [if_pos hb2]
  rw [if_neg hb2]
  have hs : (L a).length = a.size := L_length a
  have hs2 : (L b).length = b.size := L_length b
  obtain ⟨r, h1, h2⟩ := inside_both (L a) (L b) (by omega) (by omega) (6 * a.size + 6 * b.size + 2001) (by omega)
  rw [B_L, B_L] at h1 h2
  rw [h1, h2]
  simp only [Option.bind_some]
  cases r <;> rfl
end Go.Proofs.YtebadckdihgklaaDoor.Pure

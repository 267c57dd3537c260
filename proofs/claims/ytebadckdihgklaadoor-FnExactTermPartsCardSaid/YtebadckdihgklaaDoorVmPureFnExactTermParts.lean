-- Cut by prune.py, a program of this session, out of the texts of this claim: Lean checks it.
import Derived.Test.YtebadckdihgklaaDoorVmPbx13
import Derived.Test.YtebadckdihgklaaDoorVmQParts
import Derived.Test.YtebadckdihgklaaDoorVmQSize
import Derived.Test.YtebadckdihgklaaDoorVmQMark
namespace Go.Proofs.YtebadckdihgklaaDoor.Pure
open Go.RowKit Go.Proofs.YtebadckdihgklaaDoor.Pb Go.Proofs.YtebadckdihgklaaDoorW.PrintWords Go.Proofs.YtebadckdihgklaaDoorW.PrintLast Go.Proofs.YtebadckdihgklaaDoor.QStr Go.Proofs.YtebadckdihgklaaDoor.QTm Go.Proofs.YtebadckdihgklaaDoor.QPrs Go.Proofs.YtebadckdihgklaaDoor.QKind Go.Proofs.YtebadckdihgklaaDoor.QParts Go.Proofs.YtebadckdihgklaaDoor.QLaws Go.Proofs.YtebadckdihgklaaDoor.QMark Go.Proofs.YtebadckdihgklaaDoor.QSize
theorem impl_parts_f (s : List UInt8) (hs : s.length ≤ 1048576) (k : Nat) (hk : 6 * s.length + 90 < k) : impl_TermParts.f k (B s) = some (partsB (prs s)) := by
  unfold impl_TermParts.f
  rw [kindOf_f s (by omega) k (by omega), Option.bind_some]
  cases hp : prs s with
  | none => rw [if_pos (show kd none = 0 from rfl)]; rfl
  | some t =>
    have hk1 := kind_pos t
    obtain ⟨h1, h2, h3⟩ := prs_some.1 hp
    rw [if_neg (by simp only [kd]; omega), ← h2, parts_f t h1 (by rw [h2]; omega) k (by rw [h2]; omega)]
    rfl
theorem partsB_len (s : List UInt8) : (partsB (prs s)).2.length ≤ 200 := by
  cases hp : prs s with
  | none => exact Nat.zero_le _
  | some t =>
    obtain ⟨h1, h2, h3⟩ := prs_some.1 hp
    have := (kids_len h1).2
    rw [h2] at this
    rw [partsB, List.length_map]
    omega
theorem FnExactTermParts : laws_FnExactTermParts.Pure := by
  intro a _
  refine ⟨6 * a.size + 2002, ?_⟩
  unfold laws_FnExactTermParts.f
  by_cases hb : (a.size : Int) > 1048576
  · rw [if_pos hb]
  rw [if_neg hb]
  have hs : (L a).length = a.size := L_length a
  have h1 : ∀ k, 6 * a.size + 90 < k → spec_TermParts.f k a = some (partsB (prs (L a))) := fun k hk => by
    have := spec_parts_f (L a) (by omega) k (by omega)
    rwa [B_L] at this
  have h2 : ∀ k, 6 * a.size + 90 < k → impl_TermParts.f k a = some (partsB (prs (L a))) := fun k hk => by
    have := impl_parts_f (L a) (by omega) k (by omega)
    rwa [B_L] at this
  have hn := partsB_len (L a)
  generalize partsB (prs (L a)) = p at h1 h2 hn
  have hm := fun k hk => markS_f 1 p.2 (by omega) k hk
  have hh := fun k hk => heldS_f 1 p.2.length (by omega) k hk
  rw [h1 _ (by omega), Option.bind_some, h2 _ (by omega), Option.bind_some, if_pos rfl, eqS_f p.2 (by omega) _ (by omega), Option.bind_some, Bool.not_true, laws_FnExactTermParts.j0, if_neg (by decide)]
  rw [show (1 : Int) = ((1 : Nat) : Int) from rfl, hm _ (by omega), Option.bind_some]
  simp only []
  rw [hh _ (by omega), Option.bind_some, if_neg (by omega), if_pos rfl, h2 _ (by omega), Option.bind_some, if_pos rfl, eqS_f p.2 (by omega) _ (by omega), Option.bind_some, Bool.not_true, laws_FnExactTermParts.j1, if_neg (by decide)]
  rw [show (1 : Int) = ((1 : Nat) : Int) from rfl, hh _ (by omega), Option.bind_some, if_neg (by omega), if_pos rfl]
end Go.Proofs.YtebadckdihgklaaDoor.Pure

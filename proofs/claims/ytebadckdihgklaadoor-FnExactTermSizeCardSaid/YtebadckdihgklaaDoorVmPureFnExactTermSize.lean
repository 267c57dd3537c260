-- Cut by prune.py, a program of this session, out of the texts of this claim: Lean checks it.
import Derived.Test.YtebadckdihgklaaDoorVmPbx13
import Derived.Test.YtebadckdihgklaaDoorVmQSize
namespace Go.Proofs.YtebadckdihgklaaDoor.Pure
open Go.RowKit Go.Proofs.YtebadckdihgklaaDoor.Pb Go.Proofs.YtebadckdihgklaaDoorW.PrintWords Go.Proofs.YtebadckdihgklaaDoorW.PrintLast Go.Proofs.YtebadckdihgklaaDoor.QStr Go.Proofs.YtebadckdihgklaaDoor.QTm Go.Proofs.YtebadckdihgklaaDoor.QPrs Go.Proofs.YtebadckdihgklaaDoor.QKind Go.Proofs.YtebadckdihgklaaDoor.QSize Go.Proofs.YtebadckdihgklaaDoor.QParts
theorem FnExactTermSize : laws_FnExactTermSize.Pure := by
  intro a _
  refine ⟨6 * a.size + 2000, ?_⟩
  unfold laws_FnExactTermSize.f impl_TermSize.f
  by_cases hb : (a.size : Int) > 1048576
  · rw [if_pos hb]
  rw [if_neg hb]
  have hs : (L a).length = a.size := L_length a
  have h2 := kindOf_f (L a) (by omega) (6 * a.size + 2000) (by omega)
  rw [B_L] at h2
  rw [h2, Option.bind_some]
  cases hp : prs (L a) with
  | none =>
    have h1 := spec_kind _ (L a) rfl (by omega) (6 * a.size + 1999) (by omega)
    rw [B_L, hp] at h1
    rw [show 6 * a.size + 2000 = (6 * a.size + 1999) + 1 from rfl, spec_TermSize.f, h1, Option.bind_some]
    rfl
  | some t =>
    obtain ⟨h3, h4, h5⟩ := prs_some.1 hp
    have hkp := kind_pos t
    have e : a = rB t := by rw [rB, h4, B_L]
    have h6 := termSize_f _ t rfl h3 (by rw [h4]; exact h5) (6 * a.size + 2000) (by rw [h4]; omega)
    have h7 := sizeOf_f _ t rfl h3 (by rw [h4]; exact h5) (6 * a.size + 2000) (by rw [h4]; omega)
    rw [← e] at h6 h7
    rw [h6, h7, if_neg (by simp only [kd]; omega)]
    simp only [Option.bind_some, if_true]
end Go.Proofs.YtebadckdihgklaaDoor.Pure

-- Cut by prune.py, a program of this session, out of the texts of this claim: Lean checks it.
import Derived.Test.YtebadckdihgklaaDoorVkPbx5
import Derived.Test.YtebadckdihgklaaDoorVkQKind
namespace Go.Proofs.YtebadckdihgklaaDoor.Pure
open Go.RowKit Go.Proofs.YtebadckdihgklaaDoor.Pb Go.Proofs.YtebadckdihgklaaDoorW.PrintWords Go.Proofs.YtebadckdihgklaaDoorW.PrintLast Go.Proofs.YtebadckdihgklaaDoor.QStr Go.Proofs.YtebadckdihgklaaDoor.QPrs Go.Proofs.YtebadckdihgklaaDoor.QKind
theorem FnExactTermKind : laws_FnExactTermKind.Pure := by
  intro a _
  refine ⟨4 * a.size + 100, ?_⟩
  unfold laws_FnExactTermKind.f impl_TermKind.f
  by_cases hb : (a.size : Int) > 1048576
  · rw [if_pos hb]
  rw [if_neg hb]
  have hs : (L a).length = a.size := L_length a
  have h1 := spec_kind _ (L a) rfl (by omega) (4 * a.size + 100) (by omega)
  have h2 := kindOf_f (L a) (by omega) (4 * a.size + 100) (by omega)
  rw [B_L] at h1 h2
  rw [h1, h2]
  simp only [Option.bind_some, if_true]
end Go.Proofs.YtebadckdihgklaaDoor.Pure

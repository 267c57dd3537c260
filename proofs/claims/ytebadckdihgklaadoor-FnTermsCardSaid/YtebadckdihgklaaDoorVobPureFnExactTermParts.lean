-- Cut by prune.py, a program of this session, out of the texts of this claim: Lean checks it.
import Derived.Test.YtebadckdihgklaaDoorVobPbx0
import Derived.Test.YtebadckdihgklaaDoorVobPbx7
import Derived.Test.YtebadckdihgklaaDoorVobQParts
import Derived.Test.YtebadckdihgklaaDoorVobQSize
import Derived.Test.YtebadckdihgklaaDoorVobQLaws
import Derived.Test.YtebadckdihgklaaDoorVobQNum
namespace Go.Proofs.YtebadckdihgklaaDoor.Pure
open Go.RowKit Go.Proofs.YtebadckdihgklaaDoor.Pb Go.Proofs.YtebadckdihgklaaDoorW.PrintWords Go.Proofs.YtebadckdihgklaaDoorW.PrintLast Go.Proofs.YtebadckdihgklaaDoor.QStr Go.Proofs.YtebadckdihgklaaDoor.QTm Go.Proofs.YtebadckdihgklaaDoor.QPrs Go.Proofs.YtebadckdihgklaaDoor.QKind Go.Proofs.YtebadckdihgklaaDoor.QParts Go.Proofs.YtebadckdihgklaaDoor.QLaws Go.Proofs.YtebadckdihgklaaDoor.QSize
theorem impl_parts_f (s : List UInt8) (hs : s.length ≤ 1048576) (k : Nat) (hk : 6 * s.length + 90 < k) : impl_TermParts.f k (B s) = some (partsB (prs s)) := by
  unfold impl_TermParts.f
  rw [kindOf_f s (by omega) k (by omega), Option.bind_some]
  cases hp : prs s with
  | none => rw [if_pos (show kd none = 0 from rfl)]; rfl
  | some t =>
    have hk1 := kind_pos t
    obtain ⟨h1, h2, h3⟩ := prs_some.1 hp
    rw [if_neg (by simp only [kd]; omega), ← h2, parts_f t h1 (by rw [h2]; omega) k (by rw [h2]; omega)]
    rfl
end Go.Proofs.YtebadckdihgklaaDoor.Pure

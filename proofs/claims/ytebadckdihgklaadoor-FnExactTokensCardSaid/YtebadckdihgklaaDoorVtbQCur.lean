-- Cut by prune.py, a program of this session, out of the texts of this claim: Lean checks it.
import Derived.Test.YtebadckdihgklaaDoorVtbQStr
import Derived.OpenShut
import Derived.Test.YtebadckdihgklaaDoorVtbPbx0
namespace Go.Proofs.YtebadckdihgklaaDoor.QCur
open Go.RowKit Go.Proofs.YtebadckdihgklaaDoor.Pb Go.Proofs.YtebadckdihgklaaDoorW.PrintWords Go.Proofs.YtebadckdihgklaaDoorW.PrintLast Go.Proofs.YtebadckdihgklaaDoor.QStr
/-- A drawer's place and seed. -/
def Cur (a s : Int) (n : Nat) : Prop := 0 ≤ a ∧ a ≤ n ∧ 0 ≤ s ∧ s ≤ 70000
theorem Cur.mono {a s : Int} {n m : Nat} (h : Cur a s n) (hm : n ≤ m) : Cur a s m := ⟨h.1, by have := h.2.1; omega, h.2.2.1, h.2.2.2⟩
end Go.Proofs.YtebadckdihgklaaDoor.QCur

-- Cut by prune.py, a program of this session, out of the texts of this claim: Lean checks it.
import Derived.Test.YtcckpjflbfofjaaVcdQGraph
import Derived.Test.YtcckpjflbfofjaaVcdQComp
import Derived.Test.YtcckpjflbfofjaaVcdPdx0
namespace Go.Proofs.Ytcckpjflbfofjaa.QGraphS
open Go.RowKit Go.Proofs.Ytcckpjflbfofjaa.Pd Go.Proofs.YtcckpjflbfofjaaW.PrintWords Go.Proofs.YtcckpjflbfofjaaW.PrintLast Go.Proofs.Ytcckpjflbfofjaa.QStr Go.Proofs.Ytcckpjflbfofjaa.QGraph
instance : DecidableEq A := fun x y => decidable_of_iff (x.f0 = y.f0 ∧ x.f1 = y.f1 ∧ x.f2 = y.f2) (by
 cases x
 cases y
 simp)
end Go.Proofs.Ytcckpjflbfofjaa.QGraphS

-- Cut by prune.py, a program of this session, out of the texts of this claim: Lean checks it.
import Derived.Test.YtkajecadkkgfmaaGreatDoorVkqQLaws
import Derived.Test.YtkajecadkkgfmaaGreatDoorVkqPnx0
namespace Go.Proofs.YtkajecadkkgfmaaGreatDoor.QLaw2
open Go.RowKit Go.Proofs.YtkajecadkkgfmaaGreatDoor.Pn Go.Proofs.YtkajecadkkgfmaaGreatDoorW.PrintWords Go.Proofs.YtkajecadkkgfmaaGreatDoorW.PrintLast Go.Proofs.YtkajecadkkgfmaaGreatDoor.QStr Go.Proofs.YtkajecadkkgfmaaGreatDoor.QLaws
/-- Few texts, none long. -/
def Few (xs:List ByteArray):Prop:=xs.length≤1048576∧∀ s∈xs,s.size≤1048576
end Go.Proofs.YtkajecadkkgfmaaGreatDoor.QLaw2

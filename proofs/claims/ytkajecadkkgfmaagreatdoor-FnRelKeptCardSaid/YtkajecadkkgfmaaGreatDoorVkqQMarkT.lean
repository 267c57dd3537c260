-- Cut by prune.py, a program of this session, out of the texts of this claim: Lean checks it.
import Derived.Test.YtkajecadkkgfmaaGreatDoorVkqQLaw3
import Derived.Test.YtkajecadkkgfmaaGreatDoorVkqQLaws
import Derived.Test.YtkajecadkkgfmaaGreatDoorVkqQNum
import Derived.Test.YtkajecadkkgfmaaGreatDoorVkqPnx0
namespace Go.Proofs.YtkajecadkkgfmaaGreatDoor.QMarkT
open Go.RowKit Go.Proofs.YtkajecadkkgfmaaGreatDoor.Pn Go.Proofs.YtkajecadkkgfmaaGreatDoorW.PrintWords Go.Proofs.YtkajecadkkgfmaaGreatDoorW.PrintLast Go.Proofs.YtkajecadkkgfmaaGreatDoor.QStr Go.Proofs.YtkajecadkkgfmaaGreatDoor.QLaws Go.Proofs.YtkajecadkkgfmaaGreatDoor.QLaw2 Go.Proofs.YtkajecadkkgfmaaGreatDoor.QLaw3
abbrev TI:=S36
/-- How many texts the rows have. -/
def tot:List TI→Nat
 | []=>0
 | r :: l=>r.f0.length + tot l
end Go.Proofs.YtkajecadkkgfmaaGreatDoor.QMarkT

-- Cut by prune.py, a program of this session, out of the texts of this claim: Lean checks it.
import Derived.Test.YtkajecadkkgfmaaGreatDoorVsqQLaw3
import Derived.Test.YtkajecadkkgfmaaGreatDoorVsqQLaws
import Derived.Test.YtkajecadkkgfmaaGreatDoorVsqQNum
import Derived.Test.YtkajecadkkgfmaaGreatDoorVsqPnx0
namespace Go.Proofs.YtkajecadkkgfmaaGreatDoor.QMarkT
open Go.RowKit Go.Proofs.YtkajecadkkgfmaaGreatDoor.Pn Go.Proofs.YtkajecadkkgfmaaGreatDoorW.PrintWords Go.Proofs.YtkajecadkkgfmaaGreatDoorW.PrintLast Go.Proofs.YtkajecadkkgfmaaGreatDoor.QStr Go.Proofs.YtkajecadkkgfmaaGreatDoor.QLaws Go.Proofs.YtkajecadkkgfmaaGreatDoor.QLaw2 Go.Proofs.YtkajecadkkgfmaaGreatDoor.QLaw3
abbrev TI:=S36
end Go.Proofs.YtkajecadkkgfmaaGreatDoor.QMarkT

-- Cut by prune.py, a program of this session, out of the texts of this claim: Lean checks it.
import Derived.Test.YtkajecadkkgfmaaGreatDoorVsqQIv
import Derived.Test.YtkajecadkkgfmaaGreatDoorVsqWWords
import Derived.Test.YtkajecadkkgfmaaGreatDoorProg
import Derived.Shelf.Spec.SlicesInsertGrow
set_option linter.unusedVariables false
set_option linter.unusedSimpArgs false
namespace Go.Proofs.YtkajecadkkgfmaaGreatDoor.QIns
open Go.RowKit Go.Shelf Go.Lib
section
open Go.Proofs.YtkajecadkkgfmaaGreatDoorW.PrintWords Go.Proofs.YtkajecadkkgfmaaGreatDoorW.PrintLast Go.Proofs.YtkajecadkkgfmaaGreatDoorW.PrintMore
def putAll (cur:Array Value):Nat→List Value→Array Value
 | _,[]=>cur
 | o,v :: r=>putAll (cur.setIfInBounds o v) (o + 1) r
end
end Go.Proofs.YtkajecadkkgfmaaGreatDoor.QIns

-- Cut by prune.py, a program of this session, out of the texts of this claim: Lean checks it.
import Derived.Test.YtkajecadkkgfmaaGreatDoorVkqQStr
import Derived.Test.YtkajecadkkgfmaaGreatDoorVkqPnx0
namespace Go.Proofs.YtkajecadkkgfmaaGreatDoor.QLaws
open Go.RowKit Go.Proofs.YtkajecadkkgfmaaGreatDoor.Pn Go.Proofs.YtkajecadkkgfmaaGreatDoorW.PrintWords Go.Proofs.YtkajecadkkgfmaaGreatDoorW.PrintLast Go.Proofs.YtkajecadkkgfmaaGreatDoor.QStr
theorem rdOf_get (xs:List ByteArray) (i:Nat) (h:i < xs.length):rdOf ByteArray.empty xs (i:Int)=xs[i]:=by
 unfold rdOf
 rw [show((i:Int)).toNat=i from rfl,List.getD_eq_getElem?_getD,List.getElem?_eq_getElem h]
 rfl
theorem step_i {i:Nat} (h:i≤281474976710656):wrap64 ((i:Int) + 1)=((i + 1:Nat):Int):=by
 rw [wrapS (by omega) (by omega)]
 omega
end Go.Proofs.YtkajecadkkgfmaaGreatDoor.QLaws

-- Cut by prune.py, a program of this session, out of the texts of this claim: Lean checks it.
import Derived.Test.YtkajecadkkgfmaaGreatDoorVkqQLaw2
import Derived.Test.YtkajecadkkgfmaaGreatDoorVkqPnx0
namespace Go.Proofs.YtkajecadkkgfmaaGreatDoor.QLaw3
open Go.RowKit Go.Proofs.YtkajecadkkgfmaaGreatDoor.Pn Go.Proofs.YtkajecadkkgfmaaGreatDoorW.PrintWords Go.Proofs.YtkajecadkkgfmaaGreatDoorW.PrintLast Go.Proofs.YtkajecadkkgfmaaGreatDoor.QStr Go.Proofs.YtkajecadkkgfmaaGreatDoor.QLaws Go.Proofs.YtkajecadkkgfmaaGreatDoor.QLaw2
abbrev TI:=S36
abbrev TL:=S27
theorem rdI_get (xs:List TI) (i:Nat) (h:i < xs.length):y24 xs (i:Int)=xs[i]:=by
 unfold y24
 rw [show((i:Int)).toNat=i from rfl,List.getD_eq_getElem?_getD,List.getElem?_eq_getElem h]
 rfl
def cv (a:TL):TI:=⟨a.f0⟩
def FewI (xs:List TI):Prop:=xs.length≤1048576∧∀ a∈xs,Few a.f0
end Go.Proofs.YtkajecadkkgfmaaGreatDoor.QLaw3

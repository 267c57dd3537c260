-- Cut by prune.py, a program of this session, out of the texts of this claim: Lean checks it.
import Derived.Test.YtebadckdihgklaaDoorVoaQStr
import Derived.Test.YtebadckdihgklaaDoorVoaPbx7
import Derived.Test.YtebadckdihgklaaDoorVoaPbx0
namespace Go.Proofs.YtebadckdihgklaaDoor.QLaws
open Go.RowKit Go.Proofs.YtebadckdihgklaaDoor.Pb Go.Proofs.YtebadckdihgklaaDoorW.PrintWords Go.Proofs.YtebadckdihgklaaDoorW.PrintLast Go.Proofs.YtebadckdihgklaaDoor.QStr
theorem rdOf_get (xs : List ByteArray) (i : Nat) (h : i < xs.length) : rdOf ByteArray.empty xs (i : Int) = xs[i] := by
 unfold rdOf
 rw [show ((i : Int)).toNat = i from rfl,List.getD_eq_getElem?_getD,List.getElem?_eq_getElem h]
 rfl
theorem step_i {i : Nat} (h : i ≤ 281474976710656) : wrap64 ((i : Int) + 1) = ((i + 1 : Nat) : Int) := by
 rw [wrapS (by omega) (by omega)]
 omega
end Go.Proofs.YtebadckdihgklaaDoor.QLaws

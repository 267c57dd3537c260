-- Cut by prune.py, a program of this session, out of the texts of this claim: Lean checks it.
import Derived.Test.YtcckpjflbfofjaaVclWTab
namespace Go.Proofs.YtcckpjflbfofjaaW.PrintLast
/-- Number i is listed too. -/
def up (b:Nat→Bool) (i:Nat):Nat→Bool:=fun j=>if j=i then true else b j
end Go.Proofs.YtcckpjflbfofjaaW.PrintLast

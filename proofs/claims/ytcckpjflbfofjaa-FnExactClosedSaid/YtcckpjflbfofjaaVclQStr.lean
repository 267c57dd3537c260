-- Cut by prune.py, a program of this session, out of the texts of this claim: Lean checks it.
import Derived.Test.YtcckpjflbfofjaaVclWWords
import Derived.Test.YtcckpjflbfofjaaVclWLast
import Derived.Lib.Strings
import Derived.Lib.AtoiAllCases
import Derived.Lib.ItoaNum
namespace Go.Proofs.Ytcckpjflbfofjaa.QStr
open Go.RowKit Go.Proofs.YtcckpjflbfofjaaW.PrintWords Go.Proofs.YtcckpjflbfofjaaW.PrintLast
def B (l:List UInt8):ByteArray:=⟨l.toArray⟩
def L (s:ByteArray):List UInt8:=s.data.toList
theorem wrapS {n:Int} (h0:-9223372036854775808≤n) (h1:n≤9223372036854775807):wrap64 n=n:=by
 unfold wrap64
 omega
end Go.Proofs.Ytcckpjflbfofjaa.QStr

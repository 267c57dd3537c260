-- Cut by prune.py.
import Derived.Test.YtkdabljlfbmpdaaVgrWWords
import Derived.Test.YtkdabljlfbmpdaaVgrWLast
import Derived.Lib.Strings
import Derived.Lib.AtoiAllCases
import Derived.Lib.ItoaNum
namespace Go.Proofs.Ytkdabljlfbmpdaa.QStr
open RowKit YtkdabljlfbmpdaaW.PrintWords YtkdabljlfbmpdaaW.PrintLast
def B (l:List UInt8):ByteArray:=⟨l.toArray⟩
def L (s:ByteArray):List UInt8:=s.data.toList
theorem B_L (s:ByteArray):B (L s)=s:=by cases s;rfl
theorem L_B (l:List UInt8):L (B l)=l:=rfl
theorem L_length (s:ByteArray):(L s).length=s.size:=rfl
theorem toList_B (l:List UInt8):(B l).toList=l:=ByteArray.toList_mk l
theorem y1 (l m:List UInt8):B l ++ B m=B (l ++ m):=by
 have h:(B l ++ B m).data=(B l).data ++ (B m).data:=ByteArray.data_append
 have e:∀ x:ByteArray,x=⟨x.data⟩:=fun x=>by cases x;rfl
 rw [e (B l ++ B m),h]
 simp [B]
theorem wrapS {n:Int} (h0:-9223372036854775808≤n) (h1:n≤9223372036854775807):wrap64 n=n:=by
 unfold wrap64
 omega
end Go.Proofs.Ytkdabljlfbmpdaa.QStr

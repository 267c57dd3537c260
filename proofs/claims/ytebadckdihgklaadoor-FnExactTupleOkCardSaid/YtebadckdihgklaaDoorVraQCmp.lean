-- Cut by prune.py, a program of this session, out of the texts of this claim: Lean checks it.
import Derived.Test.YtebadckdihgklaaDoorVraQParts
import Derived.Test.YtebadckdihgklaaDoorVraQLaws
import Derived.Test.YtebadckdihgklaaDoorVraPbx0
import Derived.Test.YtebadckdihgklaaDoorVraPbx7
namespace Go.Proofs.YtebadckdihgklaaDoor.QCmp
open Go.RowKit Go.Proofs.YtebadckdihgklaaDoor.Pb Go.Proofs.YtebadckdihgklaaDoorW.PrintWords Go.Proofs.YtebadckdihgklaaDoorW.PrintLast Go.Proofs.YtebadckdihgklaaDoor.QStr Go.Proofs.YtebadckdihgklaaDoor.QTm Go.Proofs.YtebadckdihgklaaDoor.QPrs Go.Proofs.YtebadckdihgklaaDoor.QNumb Go.Proofs.YtebadckdihgklaaDoor.QKind Go.Proofs.YtebadckdihgklaaDoor.QParts Go.Proofs.YtebadckdihgklaaDoor.QLaws
def ctx (a b : List UInt8) : Int := if Op.bytesLess a b = true then -1 else if Op.bytesLess b a = true then 1 else 0
def sg (n : Int) : Int := if n < 0 then -1 else if n > 0 then 1 else 0
mutual
def tcmp : Tm → Tm → Int
  | .num a, .num b => sg (a - b)
  | .sym a, .sym b => ctx a b
  | .con f p, .con g q => if f = g then (if p.length = q.length then tcmpL p q else sg ((p.length : Int) - (q.length : Int))) else ctx f g
  | t, u => sg ((kind t : Int) - (kind u : Int))
def tcmpL : List Tm → List Tm → Int
  | a :: p, b :: q => if tcmp a b = 0 then tcmpL p q else tcmp a b
  | [], _ => 0
  | _ :: _, [] => 0
end
end Go.Proofs.YtebadckdihgklaaDoor.QCmp

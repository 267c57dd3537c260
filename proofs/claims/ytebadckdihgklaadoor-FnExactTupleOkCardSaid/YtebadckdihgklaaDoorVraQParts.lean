-- Cut by prune.py, a program of this session, out of the texts of this claim: Lean checks it.
import Derived.Test.YtebadckdihgklaaDoorVraQKind
import Derived.Test.YtebadckdihgklaaDoorVraPbx0
import Derived.Test.YtebadckdihgklaaDoorVraPbx7
namespace Go.Proofs.YtebadckdihgklaaDoor.QParts
open Go.RowKit Go.Proofs.YtebadckdihgklaaDoor.Pb Go.Proofs.YtebadckdihgklaaDoorW.PrintWords Go.Proofs.YtebadckdihgklaaDoorW.PrintLast Go.Proofs.YtebadckdihgklaaDoor.QStr Go.Proofs.YtebadckdihgklaaDoor.QTm Go.Proofs.YtebadckdihgklaaDoor.QPrs Go.Proofs.YtebadckdihgklaaDoor.QScan Go.Proofs.YtebadckdihgklaaDoor.QNumb Go.Proofs.YtebadckdihgklaaDoor.QKind Go.Proofs.YtebadckdihgklaaDoor.QImpl
def hd : Tm → List UInt8
  | .con nm _ => nm
  | t => rnd t
def rB (t : Tm) : ByteArray := B (rnd t)
end Go.Proofs.YtebadckdihgklaaDoor.QParts

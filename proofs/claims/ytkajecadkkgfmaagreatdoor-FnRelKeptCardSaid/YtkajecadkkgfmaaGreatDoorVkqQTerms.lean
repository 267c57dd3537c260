-- Cut by prune.py, a program of this session, out of the texts of this claim: Lean checks it.
import Derived.Test.YtkajecadkkgfmaaGreatDoorVkqQSize
namespace Go.Proofs.YtkajecadkkgfmaaGreatDoor.QTerms
open Go.Proofs.YtkajecadkkgfmaaGreatDoor.QPrs Go.Proofs.YtkajecadkkgfmaaGreatDoor.QStr Go.Proofs.YtkajecadkkgfmaaGreatDoor.QTm Go.Proofs.YtkajecadkkgfmaaGreatDoor.QParts Go.Proofs.YtkajecadkkgfmaaGreatDoor.QSize
/-- A term of at most 200 bytes. -/
def Sh (t:Tm):Prop:=Ok t∧(rnd t).length≤200
theorem sh_prs {t:Tm} (h:Sh t):prs (rnd t)=some t:=prs_rnd h.1 h.2
end Go.Proofs.YtkajecadkkgfmaaGreatDoor.QTerms

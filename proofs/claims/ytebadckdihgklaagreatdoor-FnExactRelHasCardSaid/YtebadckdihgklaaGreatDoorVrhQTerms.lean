-- Cut by prune.py, a program of this session, out of the texts of this claim: Lean checks it.
import Derived.Test.YtebadckdihgklaaGreatDoorVrhQSize
namespace Go.Proofs.YtebadckdihgklaaGreatDoor.QTerms
open Go.Proofs.YtebadckdihgklaaGreatDoor.QPrs Go.Proofs.YtebadckdihgklaaGreatDoor.QStr Go.Proofs.YtebadckdihgklaaGreatDoor.QTm Go.Proofs.YtebadckdihgklaaGreatDoor.QParts Go.Proofs.YtebadckdihgklaaGreatDoor.QSize
/-- A term of at most 200 bytes. -/
def Sh (t : Tm) : Prop := Ok t ∧ (rnd t).length ≤ 200
theorem sh_prs {t : Tm} (h : Sh t) : prs (rnd t) = some t := prs_rnd h.1 h.2
end Go.Proofs.YtebadckdihgklaaGreatDoor.QTerms

-- Cut by prune.py, a program of this session, out of the texts of this claim: Lean checks it.
import Derived.Test.YtocmfolajckaeaaGreatDoorVlsQSize
namespace Go.Proofs.YtocmfolajckaeaaGreatDoor.QTerms
open Go.Proofs.YtocmfolajckaeaaGreatDoor.QPrs Go.Proofs.YtocmfolajckaeaaGreatDoor.QStr Go.Proofs.YtocmfolajckaeaaGreatDoor.QTm Go.Proofs.YtocmfolajckaeaaGreatDoor.QParts Go.Proofs.YtocmfolajckaeaaGreatDoor.QSize
/-- A term of at most 200 bytes. -/
def Sh (t : Tm) : Prop := Ok t ∧ (rnd t).length ≤ 200
theorem sh_prs {t : Tm} (h : Sh t) : prs (rnd t) = some t := prs_rnd h.1 h.2
end Go.Proofs.YtocmfolajckaeaaGreatDoor.QTerms

-- Cut by prune.py, a program of this session, out of the texts of this claim: Lean checks it.
import Derived.Test.YtebadckdihgklaaDoorVrdQSize
import Derived.Test.YtebadckdihgklaaDoorVrdPbx7
namespace Go.Proofs.YtebadckdihgklaaDoor.QTerms
open Go.Proofs.YtebadckdihgklaaDoor.QPrs Go.Proofs.YtebadckdihgklaaDoor.QStr Go.Proofs.YtebadckdihgklaaDoor.QTm Go.Proofs.YtebadckdihgklaaDoor.QParts Go.Proofs.YtebadckdihgklaaDoor.QSize
/-- A term of at most 200 bytes. -/
def Sh (t : Tm) : Prop := Ok t ∧ (rnd t).length ≤ 200
theorem sh_prs {t : Tm} (h : Sh t) : prs (rnd t) = some t := prs_rnd h.1 h.2
end Go.Proofs.YtebadckdihgklaaDoor.QTerms

-- Cut by prune.py, a program of this session, out of the texts of this claim: Lean checks it.
import Derived.Test.YtebadckdihgklaaDoorVrdQCmp
namespace Go.Proofs.YtebadckdihgklaaDoor.QTup
open Go.Proofs.YtebadckdihgklaaDoor.QStr Go.Proofs.YtebadckdihgklaaDoor.QTm Go.Proofs.YtebadckdihgklaaDoor.QCmp
def lcmp : List Tm → List Tm → Int
 | [],[] => 0
 | [],_ :: _ => -1
 | _ :: _,[] => 1
 | a :: p,b :: q => if tcmp a b = 0 then lcmp p q else tcmp a b
theorem lcmp_cons (a b : Tm) (p q : List Tm) : lcmp (a :: p) (b :: q) = if tcmp a b = 0 then lcmp p q else tcmp a b := by rw [lcmp]
abbrev Row := List Tm
/-- Where a row belongs. -/
def place (l : List Row) (t : Row) : Nat := (l.takeWhile fun a => decide (lcmp a t < 0)).length
open Classical in
noncomputable def put (l : List Row) (t : Row) : List Row × Bool := if t ∈ l then (l,false) else (l.take (place l t) ++ t :: l.drop (place l t),true)
end Go.Proofs.YtebadckdihgklaaDoor.QTup

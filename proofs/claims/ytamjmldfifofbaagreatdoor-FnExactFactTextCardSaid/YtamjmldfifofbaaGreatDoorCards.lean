/-
  DERIVED. GIVEN WITH THE SEED: THE CARDS: each row of YtamjmldfifofbaaGreatDoorRows.lean that lists a variable, with what it lists TIED to the program's text (the seventh form; the later family's looks); each row that meets fmt, with fmt's text TOLD by the authors' own Lean function (tested against real Go, not proved from fmt's source: count such statements apart). THE CARD IS WHAT COUNTS. Prove the row's statement (the work); the ties are given (YtamjmldfifofbaaGreatDoorTie.lean); close each card by the builder's one call (the guide's Derived/Test/ToyasCard.lean, 'card_holds'). Laid BY PROGRAM, IN A SANDBOX (cutbox-door.mjs). By AI agents, Wed Nov 11 2026. No macro, syntax, notation, axiom, sorry.
-/
import Derived.Test.YtamjmldfifofbaaGreatDoorRows
import GoSem.ClaimSeven
namespace Go.Proofs.YtamjmldfifofbaaGreatDoor
namespace Rows

/-- THE TIED CARD OF 'laws.FnExactFactText'. -/
def fnExactFactTextCard : Claim7 := { stood := { row := fnExactFactTextRow, standIns := [], harness := (true, "6fbdbde8f045ccbca6eeaf3ecb7a60c7d2bb3e8696258a2599ff5b882aa0ad63"), looks := true }, kinds := [], alts := [], laidByText := true, laidKinds := [.data, .data, .data, .sentinel, .sentinel], laidTests := true, laidLooks := .later }
def FnExactFactTextCardSaid : Prop := Claim7.holds Tryz.pinned (.plain (OpenSpec.ofChange fnExactFactTextSpec)) fnExactFactTextCard

/-- THE SECOND FORM's CARD OF 'laws.FnExactFactText'. -/
def fnExactFactTextUptoCard : Claim7 := { stood := { row := fnExactFactTextUptoRow, standIns := [], harness := (true, "6fbdbde8f045ccbca6eeaf3ecb7a60c7d2bb3e8696258a2599ff5b882aa0ad63"), looks := true }, kinds := [], alts := [], laidByText := true, laidKinds := [.data, .data, .data, .sentinel, .sentinel], laidTests := true, laidLooks := .later }
def FnExactFactTextUptoCardSaid : Prop := Claim7.holds Tryz.pinned (.plain (OpenSpec.upto fnExactFactTextSpec)) fnExactFactTextUptoCard
end Rows
end Go.Proofs.YtamjmldfifofbaaGreatDoor

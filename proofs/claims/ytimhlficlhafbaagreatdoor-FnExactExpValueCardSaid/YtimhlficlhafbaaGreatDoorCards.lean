/-
  DERIVED. GIVEN WITH THE SEED: THE CARDS: each row of YtimhlficlhafbaaGreatDoorRows.lean that lists a variable, with what it lists TIED to the program's text (the seventh form; the later family's looks); each row that meets fmt, with fmt's text TOLD by the authors' own Lean function (tested against real Go, not proved from fmt's source: count such statements apart). THE CARD IS WHAT COUNTS. Prove the row's statement (the work); the ties are given (YtimhlficlhafbaaGreatDoorTie.lean); close each card by the builder's one call (the guide's Derived/Test/ToyasCard.lean, 'card_holds'). Laid BY PROGRAM, IN A SANDBOX (cutbox-door.mjs). By AI agents, Wed Nov 11 2026. No macro, syntax, notation, axiom, sorry.
-/
import Derived.Test.YtimhlficlhafbaaGreatDoorRows
import GoSem.ClaimSeven
namespace Go.Proofs.YtimhlficlhafbaaGreatDoor
namespace Rows

/-- THE TIED CARD OF 'laws.FnExactExpValue'. -/
def fnExactExpValueCard : Claim7 := { stood := { row := fnExactExpValueRow, standIns := [], harness := (true, "47cc3cbb01414dbf5a8520ad7313e88609a43a27e7b17b5351cf69bd870270f5"), looks := true }, kinds := [], alts := [], laidByText := true, laidKinds := [.data, .data, .data, .sentinel, .sentinel], laidTests := true, laidLooks := .later }
def FnExactExpValueCardSaid : Prop := Claim7.holds Tryz.pinned (.plain (OpenSpec.ofChange fnExactExpValueSpec)) fnExactExpValueCard

/-- THE SECOND FORM's CARD OF 'laws.FnExactExpValue'. -/
def fnExactExpValueUptoCard : Claim7 := { stood := { row := fnExactExpValueUptoRow, standIns := [], harness := (true, "47cc3cbb01414dbf5a8520ad7313e88609a43a27e7b17b5351cf69bd870270f5"), looks := true }, kinds := [], alts := [], laidByText := true, laidKinds := [.data, .data, .data, .sentinel, .sentinel], laidTests := true, laidLooks := .later }
def FnExactExpValueUptoCardSaid : Prop := Claim7.holds Tryz.pinned (.plain (OpenSpec.upto fnExactExpValueSpec)) fnExactExpValueUptoCard
end Rows
end Go.Proofs.YtimhlficlhafbaaGreatDoor

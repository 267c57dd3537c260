/-
  DERIVED. GIVEN WITH THE SEED: THE CARDS: each row of YtkajecadkkgfmaaGreatDoorRows.lean that lists a variable, with what it lists TIED to the program's text (the seventh form; the later family's looks); each row that meets fmt, with fmt's text TOLD by the authors' own Lean function (tested against real Go, not proved from fmt's source: count such statements apart). THE CARD IS WHAT COUNTS. Prove the row's statement (the work); the ties are given (YtkajecadkkgfmaaGreatDoorTie.lean); close each card by the builder's one call (the guide's Derived/Test/ToyasCard.lean, 'card_holds'). Laid BY PROGRAM, IN A SANDBOX (cutbox-door.mjs). By AI agents, Wed Nov 11 2026. No macro, syntax, notation, axiom, sorry.
-/
import Derived.Test.YtkajecadkkgfmaaGreatDoorRows
import GoSem.ClaimSeven
namespace Go.Proofs.YtkajecadkkgfmaaGreatDoor
namespace Rows

/-- THE TIED CARD OF 'laws.FnExactRelPut'. -/
def fnExactRelPutCard : Claim7 := { stood := { row := fnExactRelPutRow, standIns := [], harness := (true, "962485caaa52689a68230c2e2e076c420942e632c739416ddabbd84c54e647e3"), looks := true }, kinds := [], alts := [], laidByText := true, laidKinds := [.data, .data, .data, .sentinel, .sentinel], laidTests := true, laidLooks := .later }
def FnExactRelPutCardSaid : Prop := Claim7.holds Tryz.pinned (.plain (OpenSpec.ofChange fnExactRelPutSpec)) fnExactRelPutCard

/-- THE TIED CARD OF 'laws.FnSought'. -/
def fnSoughtCard : Claim7 := { stood := { row := fnSoughtRow, standIns := [], harness := (true, "962485caaa52689a68230c2e2e076c420942e632c739416ddabbd84c54e647e3"), looks := true }, kinds := [], alts := [], laidByText := true, laidKinds := [.data, .data, .data, .sentinel, .sentinel], laidTests := true, laidLooks := .later }
def FnSoughtCardSaid : Prop := Claim7.holds Tryz.pinned (.plain (OpenSpec.ofChange fnSoughtSpec)) fnSoughtCard

/-- THE TIED CARD OF 'laws.FnRelKept'. -/
def fnRelKeptCard : Claim7 := { stood := { row := fnRelKeptRow, standIns := [], harness := (true, "962485caaa52689a68230c2e2e076c420942e632c739416ddabbd84c54e647e3"), looks := true }, kinds := [], alts := [], laidByText := true, laidKinds := [.data, .data, .data, .sentinel, .sentinel], laidTests := true, laidLooks := .later }
def FnRelKeptCardSaid : Prop := Claim7.holds Tryz.pinned (.plain (OpenSpec.ofChange fnRelKeptSpec)) fnRelKeptCard

/-- THE TIED CARD OF 'laws.FnExactRelJoin'. -/
def fnExactRelJoinCard : Claim7 := { stood := { row := fnExactRelJoinRow, standIns := [], harness := (true, "962485caaa52689a68230c2e2e076c420942e632c739416ddabbd84c54e647e3"), looks := true }, kinds := [], alts := [], laidByText := true, laidKinds := [.data, .data, .data, .sentinel, .sentinel], laidTests := true, laidLooks := .later }
def FnExactRelJoinCardSaid : Prop := Claim7.holds Tryz.pinned (.plain (OpenSpec.ofChange fnExactRelJoinSpec)) fnExactRelJoinCard

/-- THE TIED CARD OF 'laws.FnRelSets'. -/
def fnRelSetsCard : Claim7 := { stood := { row := fnRelSetsRow, standIns := [], harness := (true, "962485caaa52689a68230c2e2e076c420942e632c739416ddabbd84c54e647e3"), looks := true }, kinds := [], alts := [], laidByText := true, laidKinds := [.data, .data, .data, .sentinel, .sentinel], laidTests := true, laidLooks := .later }
def FnRelSetsCardSaid : Prop := Claim7.holds Tryz.pinned (.plain (OpenSpec.ofChange fnRelSetsSpec)) fnRelSetsCard

/-- THE SECOND FORM's CARD OF 'laws.FnExactRelPut'. -/
def fnExactRelPutUptoCard : Claim7 := { stood := { row := fnExactRelPutUptoRow, standIns := [], harness := (true, "962485caaa52689a68230c2e2e076c420942e632c739416ddabbd84c54e647e3"), looks := true }, kinds := [], alts := [], laidByText := true, laidKinds := [.data, .data, .data, .sentinel, .sentinel], laidTests := true, laidLooks := .later }
def FnExactRelPutUptoCardSaid : Prop := Claim7.holds Tryz.pinned (.plain (OpenSpec.upto fnExactRelPutSpec)) fnExactRelPutUptoCard

/-- THE SECOND FORM's CARD OF 'laws.FnSought'. -/
def fnSoughtUptoCard : Claim7 := { stood := { row := fnSoughtUptoRow, standIns := [], harness := (true, "962485caaa52689a68230c2e2e076c420942e632c739416ddabbd84c54e647e3"), looks := true }, kinds := [], alts := [], laidByText := true, laidKinds := [.data, .data, .data, .sentinel, .sentinel], laidTests := true, laidLooks := .later }
def FnSoughtUptoCardSaid : Prop := Claim7.holds Tryz.pinned (.plain (OpenSpec.upto fnSoughtSpec)) fnSoughtUptoCard

/-- THE SECOND FORM's CARD OF 'laws.FnRelKept'. -/
def fnRelKeptUptoCard : Claim7 := { stood := { row := fnRelKeptUptoRow, standIns := [], harness := (true, "962485caaa52689a68230c2e2e076c420942e632c739416ddabbd84c54e647e3"), looks := true }, kinds := [], alts := [], laidByText := true, laidKinds := [.data, .data, .data, .sentinel, .sentinel], laidTests := true, laidLooks := .later }
def FnRelKeptUptoCardSaid : Prop := Claim7.holds Tryz.pinned (.plain (OpenSpec.upto fnRelKeptSpec)) fnRelKeptUptoCard

/-- THE SECOND FORM's CARD OF 'laws.FnExactRelJoin'. -/
def fnExactRelJoinUptoCard : Claim7 := { stood := { row := fnExactRelJoinUptoRow, standIns := [], harness := (true, "962485caaa52689a68230c2e2e076c420942e632c739416ddabbd84c54e647e3"), looks := true }, kinds := [], alts := [], laidByText := true, laidKinds := [.data, .data, .data, .sentinel, .sentinel], laidTests := true, laidLooks := .later }
def FnExactRelJoinUptoCardSaid : Prop := Claim7.holds Tryz.pinned (.plain (OpenSpec.upto fnExactRelJoinSpec)) fnExactRelJoinUptoCard

/-- THE SECOND FORM's CARD OF 'laws.FnRelSets'. -/
def fnRelSetsUptoCard : Claim7 := { stood := { row := fnRelSetsUptoRow, standIns := [], harness := (true, "962485caaa52689a68230c2e2e076c420942e632c739416ddabbd84c54e647e3"), looks := true }, kinds := [], alts := [], laidByText := true, laidKinds := [.data, .data, .data, .sentinel, .sentinel], laidTests := true, laidLooks := .later }
def FnRelSetsUptoCardSaid : Prop := Claim7.holds Tryz.pinned (.plain (OpenSpec.upto fnRelSetsSpec)) fnRelSetsUptoCard
end Rows
end Go.Proofs.YtkajecadkkgfmaaGreatDoor

/-
  DERIVED. GIVEN WITH THE SEED: THE CARDS: each row of YtocmfolajckaeaaGreatDoorRows.lean that lists a variable, with what it lists TIED to the program's text (the seventh form; the later family's looks); each row that meets fmt, with fmt's text TOLD by the authors' own Lean function (tested against real Go, not proved from fmt's source: count such statements apart). THE CARD IS WHAT COUNTS. Prove the row's statement (the work); the ties are given (YtocmfolajckaeaaGreatDoorTie.lean); close each card by the builder's one call (the guide's Derived/Test/ToyasCard.lean, 'card_holds'). Laid BY PROGRAM, IN A SANDBOX (cutbox-door.mjs). By AI agents, Wed Nov 11 2026. No macro, syntax, notation, axiom, sorry.
-/
import Derived.Test.YtocmfolajckaeaaGreatDoorRows
import GoSem.ClaimSeven
namespace Go.Proofs.YtocmfolajckaeaaGreatDoor
namespace Rows

/-- THE TIED CARD OF 'laws.FnExactRelSeek'. -/
def fnExactRelSeekCard : Claim7 := { stood := { row := fnExactRelSeekRow, standIns := [], harness := (true, "823a4ddd640fc804075d47f40de274369c5942382006fda2ebb93001390b7a1f"), looks := true }, kinds := [], alts := [], laidByText := true, laidKinds := [.data, .data, .data, .sentinel, .sentinel], laidTests := true, laidLooks := .later }
def FnExactRelSeekCardSaid : Prop := Claim7.holds Tryz.pinned (.plain (OpenSpec.ofChange fnExactRelSeekSpec)) fnExactRelSeekCard

/-- THE TIED CARD OF 'laws.FnExactRelLess'. -/
def fnExactRelLessCard : Claim7 := { stood := { row := fnExactRelLessRow, standIns := [], harness := (true, "823a4ddd640fc804075d47f40de274369c5942382006fda2ebb93001390b7a1f"), looks := true }, kinds := [], alts := [], laidByText := true, laidKinds := [.data, .data, .data, .sentinel, .sentinel], laidTests := true, laidLooks := .later }
def FnExactRelLessCardSaid : Prop := Claim7.holds Tryz.pinned (.plain (OpenSpec.ofChange fnExactRelLessSpec)) fnExactRelLessCard

/-- THE TIED CARD OF 'laws.FnSought'. -/
def fnSoughtCard : Claim7 := { stood := { row := fnSoughtRow, standIns := [], harness := (true, "823a4ddd640fc804075d47f40de274369c5942382006fda2ebb93001390b7a1f"), looks := true }, kinds := [], alts := [], laidByText := true, laidKinds := [.data, .data, .data, .sentinel, .sentinel], laidTests := true, laidLooks := .later }
def FnSoughtCardSaid : Prop := Claim7.holds Tryz.pinned (.plain (OpenSpec.ofChange fnSoughtSpec)) fnSoughtCard

/-- THE TIED CARD OF 'laws.FnExactRelPut'. -/
def fnExactRelPutCard : Claim7 := { stood := { row := fnExactRelPutRow, standIns := [], harness := (true, "823a4ddd640fc804075d47f40de274369c5942382006fda2ebb93001390b7a1f"), looks := true }, kinds := [], alts := [], laidByText := true, laidKinds := [.data, .data, .data, .sentinel, .sentinel], laidTests := true, laidLooks := .later }
def FnExactRelPutCardSaid : Prop := Claim7.holds Tryz.pinned (.plain (OpenSpec.ofChange fnExactRelPutSpec)) fnExactRelPutCard

/-- THE SECOND FORM's CARD OF 'laws.FnExactRelSeek'. -/
def fnExactRelSeekUptoCard : Claim7 := { stood := { row := fnExactRelSeekUptoRow, standIns := [], harness := (true, "823a4ddd640fc804075d47f40de274369c5942382006fda2ebb93001390b7a1f"), looks := true }, kinds := [], alts := [], laidByText := true, laidKinds := [.data, .data, .data, .sentinel, .sentinel], laidTests := true, laidLooks := .later }
def FnExactRelSeekUptoCardSaid : Prop := Claim7.holds Tryz.pinned (.plain (OpenSpec.upto fnExactRelSeekSpec)) fnExactRelSeekUptoCard

/-- THE SECOND FORM's CARD OF 'laws.FnExactRelLess'. -/
def fnExactRelLessUptoCard : Claim7 := { stood := { row := fnExactRelLessUptoRow, standIns := [], harness := (true, "823a4ddd640fc804075d47f40de274369c5942382006fda2ebb93001390b7a1f"), looks := true }, kinds := [], alts := [], laidByText := true, laidKinds := [.data, .data, .data, .sentinel, .sentinel], laidTests := true, laidLooks := .later }
def FnExactRelLessUptoCardSaid : Prop := Claim7.holds Tryz.pinned (.plain (OpenSpec.upto fnExactRelLessSpec)) fnExactRelLessUptoCard

/-- THE SECOND FORM's CARD OF 'laws.FnSought'. -/
def fnSoughtUptoCard : Claim7 := { stood := { row := fnSoughtUptoRow, standIns := [], harness := (true, "823a4ddd640fc804075d47f40de274369c5942382006fda2ebb93001390b7a1f"), looks := true }, kinds := [], alts := [], laidByText := true, laidKinds := [.data, .data, .data, .sentinel, .sentinel], laidTests := true, laidLooks := .later }
def FnSoughtUptoCardSaid : Prop := Claim7.holds Tryz.pinned (.plain (OpenSpec.upto fnSoughtSpec)) fnSoughtUptoCard

/-- THE SECOND FORM's CARD OF 'laws.FnExactRelPut'. -/
def fnExactRelPutUptoCard : Claim7 := { stood := { row := fnExactRelPutUptoRow, standIns := [], harness := (true, "823a4ddd640fc804075d47f40de274369c5942382006fda2ebb93001390b7a1f"), looks := true }, kinds := [], alts := [], laidByText := true, laidKinds := [.data, .data, .data, .sentinel, .sentinel], laidTests := true, laidLooks := .later }
def FnExactRelPutUptoCardSaid : Prop := Claim7.holds Tryz.pinned (.plain (OpenSpec.upto fnExactRelPutSpec)) fnExactRelPutUptoCard
end Rows
end Go.Proofs.YtocmfolajckaeaaGreatDoor

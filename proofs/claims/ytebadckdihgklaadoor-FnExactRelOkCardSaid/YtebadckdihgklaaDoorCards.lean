/-
  DERIVED. GIVEN WITH THE SEED: THE CARDS: each row of YtebadckdihgklaaDoorRows.lean that lists a variable, with what it lists TIED to the program's text (the seventh form; the later family's looks); each row that meets fmt, with fmt's text TOLD by the authors' own Lean function (tested against real Go, not proved from fmt's source: count such statements apart). THE CARD IS WHAT COUNTS. Prove the row's statement (the work); the ties are given (YtebadckdihgklaaDoorTie.lean); close each card by the builder's one call (the guide's Derived/Test/ToyasCard.lean, 'card_holds'). Laid BY PROGRAM, IN A SANDBOX (cutbox-door.mjs). By AI agents, Wed Nov 11 2026. No macro, syntax, notation, axiom, sorry.
-/
import Derived.Test.YtebadckdihgklaaDoorRows
import GoSem.ClaimSeven
namespace Go.Proofs.YtebadckdihgklaaDoor
namespace Rows

/-- THE TIED CARD OF 'laws.FnExactNumText'. -/
def fnExactNumTextCard : Claim7 := { stood := { row := fnExactNumTextRow, standIns := [], harness := (true, "91ce6658fdab65eb4172cfbdec358e0b214c768fae4aae822e667134bf860ef5"), looks := true }, kinds := [], alts := [], laidByText := true, laidKinds := [.data, .data, .data], laidTests := true, laidLooks := .later }
def FnExactNumTextCardSaid : Prop := Claim7.holds Tryd.pinned (.plain (OpenSpec.ofChange fnExactNumTextSpec)) fnExactNumTextCard

/-- THE TIED CARD OF 'laws.FnExactNumTerm'. -/
def fnExactNumTermCard : Claim7 := { stood := { row := fnExactNumTermRow, standIns := [], harness := (true, "91ce6658fdab65eb4172cfbdec358e0b214c768fae4aae822e667134bf860ef5"), looks := true }, kinds := [], alts := [], laidByText := true, laidKinds := [.data, .data, .data], laidTests := true, laidLooks := .later }
def FnExactNumTermCardSaid : Prop := Claim7.holds Tryd.pinned (.plain (OpenSpec.ofChange fnExactNumTermSpec)) fnExactNumTermCard

/-- THE TIED CARD OF 'laws.FnNumbers'. -/
def fnNumbersCard : Claim7 := { stood := { row := fnNumbersRow, standIns := [], harness := (true, "91ce6658fdab65eb4172cfbdec358e0b214c768fae4aae822e667134bf860ef5"), looks := true }, kinds := [], alts := [], laidByText := true, laidKinds := [.data, .data, .data, .sentinel, .sentinel], laidTests := true, laidLooks := .later }
def FnNumbersCardSaid : Prop := Claim7.holds Tryd.pinned (.plain (OpenSpec.ofChange fnNumbersSpec)) fnNumbersCard

/-- THE TIED CARD OF 'laws.FnExactTermNum'. -/
def fnExactTermNumCard : Claim7 := { stood := { row := fnExactTermNumRow, standIns := [], harness := (true, "91ce6658fdab65eb4172cfbdec358e0b214c768fae4aae822e667134bf860ef5"), looks := true }, kinds := [], alts := [], laidByText := true, laidKinds := [.data, .data, .data, .sentinel, .sentinel], laidTests := true, laidLooks := .later }
def FnExactTermNumCardSaid : Prop := Claim7.holds Tryd.pinned (.plain (OpenSpec.ofChange fnExactTermNumSpec)) fnExactTermNumCard

/-- THE TIED CARD OF 'laws.FnExactTermKind'. -/
def fnExactTermKindCard : Claim7 := { stood := { row := fnExactTermKindRow, standIns := [], harness := (true, "91ce6658fdab65eb4172cfbdec358e0b214c768fae4aae822e667134bf860ef5"), looks := true }, kinds := [], alts := [], laidByText := true, laidKinds := [.data, .data, .data, .sentinel, .sentinel], laidTests := true, laidLooks := .later }
def FnExactTermKindCardSaid : Prop := Claim7.holds Tryd.pinned (.plain (OpenSpec.ofChange fnExactTermKindSpec)) fnExactTermKindCard

/-- THE TIED CARD OF 'laws.FnExactTupleOk'. -/
def fnExactTupleOkCard : Claim7 := { stood := { row := fnExactTupleOkRow, standIns := [], harness := (true, "91ce6658fdab65eb4172cfbdec358e0b214c768fae4aae822e667134bf860ef5"), looks := true }, kinds := [], alts := [], laidByText := true, laidKinds := [.data, .data, .data, .sentinel, .sentinel], laidTests := true, laidLooks := .later }
def FnExactTupleOkCardSaid : Prop := Claim7.holds Tryd.pinned (.plain (OpenSpec.ofChange fnExactTupleOkSpec)) fnExactTupleOkCard

/-- THE TIED CARD OF 'laws.FnExactTermMake'. -/
def fnExactTermMakeCard : Claim7 := { stood := { row := fnExactTermMakeRow, standIns := [], harness := (true, "91ce6658fdab65eb4172cfbdec358e0b214c768fae4aae822e667134bf860ef5"), looks := true }, kinds := [], alts := [], laidByText := true, laidKinds := [.data, .data, .data, .sentinel, .sentinel], laidTests := true, laidLooks := .later }
def FnExactTermMakeCardSaid : Prop := Claim7.holds Tryd.pinned (.plain (OpenSpec.ofChange fnExactTermMakeSpec)) fnExactTermMakeCard

/-- THE TIED CARD OF 'laws.FnExactInside'. -/
def fnExactInsideCard : Claim7 := { stood := { row := fnExactInsideRow, standIns := [], harness := (true, "91ce6658fdab65eb4172cfbdec358e0b214c768fae4aae822e667134bf860ef5"), looks := true }, kinds := [], alts := [], laidByText := true, laidKinds := [.data, .data, .data, .sentinel, .sentinel], laidTests := true, laidLooks := .later }
def FnExactInsideCardSaid : Prop := Claim7.holds Tryd.pinned (.plain (OpenSpec.ofChange fnExactInsideSpec)) fnExactInsideCard

/-- THE TIED CARD OF 'laws.FnExactTermSize'. -/
def fnExactTermSizeCard : Claim7 := { stood := { row := fnExactTermSizeRow, standIns := [], harness := (true, "91ce6658fdab65eb4172cfbdec358e0b214c768fae4aae822e667134bf860ef5"), looks := true }, kinds := [], alts := [], laidByText := true, laidKinds := [.data, .data, .data, .sentinel, .sentinel], laidTests := true, laidLooks := .later }
def FnExactTermSizeCardSaid : Prop := Claim7.holds Tryd.pinned (.plain (OpenSpec.ofChange fnExactTermSizeSpec)) fnExactTermSizeCard

/-- THE TIED CARD OF 'laws.FnExactTermParts'. -/
def fnExactTermPartsCard : Claim7 := { stood := { row := fnExactTermPartsRow, standIns := [], harness := (true, "91ce6658fdab65eb4172cfbdec358e0b214c768fae4aae822e667134bf860ef5"), looks := true }, kinds := [], alts := [], laidByText := true, laidKinds := [.data, .data, .data, .sentinel, .sentinel], laidTests := true, laidLooks := .later }
def FnExactTermPartsCardSaid : Prop := Claim7.holds Tryd.pinned (.plain (OpenSpec.ofChange fnExactTermPartsSpec)) fnExactTermPartsCard

/-- THE TIED CARD OF 'laws.FnTokens'. -/
def fnTokensCard : Claim7 := { stood := { row := fnTokensRow, standIns := [], harness := (true, "91ce6658fdab65eb4172cfbdec358e0b214c768fae4aae822e667134bf860ef5"), looks := true }, kinds := [], alts := [], laidByText := true, laidKinds := [.data, .data, .data, .sentinel, .sentinel], laidTests := true, laidLooks := .later }
def FnTokensCardSaid : Prop := Claim7.holds Tryd.pinned (.plain (OpenSpec.ofChange fnTokensSpec)) fnTokensCard

/-- THE TIED CARD OF 'laws.FnExactTokens'. -/
def fnExactTokensCard : Claim7 := { stood := { row := fnExactTokensRow, standIns := [], harness := (true, "91ce6658fdab65eb4172cfbdec358e0b214c768fae4aae822e667134bf860ef5"), looks := true }, kinds := [], alts := [], laidByText := true, laidKinds := [.data, .data, .data, .sentinel, .sentinel], laidTests := true, laidLooks := .later }
def FnExactTokensCardSaid : Prop := Claim7.holds Tryd.pinned (.plain (OpenSpec.ofChange fnExactTokensSpec)) fnExactTokensCard

/-- THE TIED CARD OF 'laws.FnExactTermCmp'. -/
def fnExactTermCmpCard : Claim7 := { stood := { row := fnExactTermCmpRow, standIns := [], harness := (true, "91ce6658fdab65eb4172cfbdec358e0b214c768fae4aae822e667134bf860ef5"), looks := true }, kinds := [], alts := [], laidByText := true, laidKinds := [.data, .data, .data, .sentinel, .sentinel], laidTests := true, laidLooks := .later }
def FnExactTermCmpCardSaid : Prop := Claim7.holds Tryd.pinned (.plain (OpenSpec.ofChange fnExactTermCmpSpec)) fnExactTermCmpCard

/-- THE TIED CARD OF 'laws.FnTerms'. -/
def fnTermsCard : Claim7 := { stood := { row := fnTermsRow, standIns := [], harness := (true, "91ce6658fdab65eb4172cfbdec358e0b214c768fae4aae822e667134bf860ef5"), looks := true }, kinds := [], alts := [], laidByText := true, laidKinds := [.data, .data, .data, .sentinel, .sentinel], laidTests := true, laidLooks := .later }
def FnTermsCardSaid : Prop := Claim7.holds Tryd.pinned (.plain (OpenSpec.ofChange fnTermsSpec)) fnTermsCard

/-- THE TIED CARD OF 'laws.FnTermOrder'. -/
def fnTermOrderCard : Claim7 := { stood := { row := fnTermOrderRow, standIns := [], harness := (true, "91ce6658fdab65eb4172cfbdec358e0b214c768fae4aae822e667134bf860ef5"), looks := true }, kinds := [], alts := [], laidByText := true, laidKinds := [.data, .data, .data, .sentinel, .sentinel], laidTests := true, laidLooks := .later }
def FnTermOrderCardSaid : Prop := Claim7.holds Tryd.pinned (.plain (OpenSpec.ofChange fnTermOrderSpec)) fnTermOrderCard

/-- THE TIED CARD OF 'laws.FnExactTupleCmp'. -/
def fnExactTupleCmpCard : Claim7 := { stood := { row := fnExactTupleCmpRow, standIns := [], harness := (true, "91ce6658fdab65eb4172cfbdec358e0b214c768fae4aae822e667134bf860ef5"), looks := true }, kinds := [], alts := [], laidByText := true, laidKinds := [.data, .data, .data, .sentinel, .sentinel], laidTests := true, laidLooks := .later }
def FnExactTupleCmpCardSaid : Prop := Claim7.holds Tryd.pinned (.plain (OpenSpec.ofChange fnExactTupleCmpSpec)) fnExactTupleCmpCard

/-- THE TIED CARD OF 'laws.FnExactRelOk'. -/
def fnExactRelOkCard : Claim7 := { stood := { row := fnExactRelOkRow, standIns := [], harness := (true, "91ce6658fdab65eb4172cfbdec358e0b214c768fae4aae822e667134bf860ef5"), looks := true }, kinds := [], alts := [], laidByText := true, laidKinds := [.data, .data, .data, .sentinel, .sentinel], laidTests := true, laidLooks := .later }
def FnExactRelOkCardSaid : Prop := Claim7.holds Tryd.pinned (.plain (OpenSpec.ofChange fnExactRelOkSpec)) fnExactRelOkCard

/-- THE SECOND FORM's CARD OF 'laws.FnExactNumText'. -/
def fnExactNumTextUptoCard : Claim7 := { stood := { row := fnExactNumTextUptoRow, standIns := [], harness := (true, "91ce6658fdab65eb4172cfbdec358e0b214c768fae4aae822e667134bf860ef5"), looks := true }, kinds := [], alts := [], laidByText := true, laidKinds := [.data, .data, .data], laidTests := true, laidLooks := .later }
def FnExactNumTextUptoCardSaid : Prop := Claim7.holds Tryd.pinned (.plain (OpenSpec.upto fnExactNumTextSpec)) fnExactNumTextUptoCard

/-- THE SECOND FORM's CARD OF 'laws.FnExactNumTerm'. -/
def fnExactNumTermUptoCard : Claim7 := { stood := { row := fnExactNumTermUptoRow, standIns := [], harness := (true, "91ce6658fdab65eb4172cfbdec358e0b214c768fae4aae822e667134bf860ef5"), looks := true }, kinds := [], alts := [], laidByText := true, laidKinds := [.data, .data, .data], laidTests := true, laidLooks := .later }
def FnExactNumTermUptoCardSaid : Prop := Claim7.holds Tryd.pinned (.plain (OpenSpec.upto fnExactNumTermSpec)) fnExactNumTermUptoCard

/-- THE SECOND FORM's CARD OF 'laws.FnNumbers'. -/
def fnNumbersUptoCard : Claim7 := { stood := { row := fnNumbersUptoRow, standIns := [], harness := (true, "91ce6658fdab65eb4172cfbdec358e0b214c768fae4aae822e667134bf860ef5"), looks := true }, kinds := [], alts := [], laidByText := true, laidKinds := [.data, .data, .data, .sentinel, .sentinel], laidTests := true, laidLooks := .later }
def FnNumbersUptoCardSaid : Prop := Claim7.holds Tryd.pinned (.plain (OpenSpec.upto fnNumbersSpec)) fnNumbersUptoCard

/-- THE SECOND FORM's CARD OF 'laws.FnExactTermNum'. -/
def fnExactTermNumUptoCard : Claim7 := { stood := { row := fnExactTermNumUptoRow, standIns := [], harness := (true, "91ce6658fdab65eb4172cfbdec358e0b214c768fae4aae822e667134bf860ef5"), looks := true }, kinds := [], alts := [], laidByText := true, laidKinds := [.data, .data, .data, .sentinel, .sentinel], laidTests := true, laidLooks := .later }
def FnExactTermNumUptoCardSaid : Prop := Claim7.holds Tryd.pinned (.plain (OpenSpec.upto fnExactTermNumSpec)) fnExactTermNumUptoCard

/-- THE SECOND FORM's CARD OF 'laws.FnExactTermKind'. -/
def fnExactTermKindUptoCard : Claim7 := { stood := { row := fnExactTermKindUptoRow, standIns := [], harness := (true, "91ce6658fdab65eb4172cfbdec358e0b214c768fae4aae822e667134bf860ef5"), looks := true }, kinds := [], alts := [], laidByText := true, laidKinds := [.data, .data, .data, .sentinel, .sentinel], laidTests := true, laidLooks := .later }
def FnExactTermKindUptoCardSaid : Prop := Claim7.holds Tryd.pinned (.plain (OpenSpec.upto fnExactTermKindSpec)) fnExactTermKindUptoCard

/-- THE SECOND FORM's CARD OF 'laws.FnExactTupleOk'. -/
def fnExactTupleOkUptoCard : Claim7 := { stood := { row := fnExactTupleOkUptoRow, standIns := [], harness := (true, "91ce6658fdab65eb4172cfbdec358e0b214c768fae4aae822e667134bf860ef5"), looks := true }, kinds := [], alts := [], laidByText := true, laidKinds := [.data, .data, .data, .sentinel, .sentinel], laidTests := true, laidLooks := .later }
def FnExactTupleOkUptoCardSaid : Prop := Claim7.holds Tryd.pinned (.plain (OpenSpec.upto fnExactTupleOkSpec)) fnExactTupleOkUptoCard

/-- THE SECOND FORM's CARD OF 'laws.FnExactTermMake'. -/
def fnExactTermMakeUptoCard : Claim7 := { stood := { row := fnExactTermMakeUptoRow, standIns := [], harness := (true, "91ce6658fdab65eb4172cfbdec358e0b214c768fae4aae822e667134bf860ef5"), looks := true }, kinds := [], alts := [], laidByText := true, laidKinds := [.data, .data, .data, .sentinel, .sentinel], laidTests := true, laidLooks := .later }
def FnExactTermMakeUptoCardSaid : Prop := Claim7.holds Tryd.pinned (.plain (OpenSpec.upto fnExactTermMakeSpec)) fnExactTermMakeUptoCard

/-- THE SECOND FORM's CARD OF 'laws.FnExactInside'. -/
def fnExactInsideUptoCard : Claim7 := { stood := { row := fnExactInsideUptoRow, standIns := [], harness := (true, "91ce6658fdab65eb4172cfbdec358e0b214c768fae4aae822e667134bf860ef5"), looks := true }, kinds := [], alts := [], laidByText := true, laidKinds := [.data, .data, .data, .sentinel, .sentinel], laidTests := true, laidLooks := .later }
def FnExactInsideUptoCardSaid : Prop := Claim7.holds Tryd.pinned (.plain (OpenSpec.upto fnExactInsideSpec)) fnExactInsideUptoCard

/-- THE SECOND FORM's CARD OF 'laws.FnExactTermSize'. -/
def fnExactTermSizeUptoCard : Claim7 := { stood := { row := fnExactTermSizeUptoRow, standIns := [], harness := (true, "91ce6658fdab65eb4172cfbdec358e0b214c768fae4aae822e667134bf860ef5"), looks := true }, kinds := [], alts := [], laidByText := true, laidKinds := [.data, .data, .data, .sentinel, .sentinel], laidTests := true, laidLooks := .later }
def FnExactTermSizeUptoCardSaid : Prop := Claim7.holds Tryd.pinned (.plain (OpenSpec.upto fnExactTermSizeSpec)) fnExactTermSizeUptoCard

/-- THE SECOND FORM's CARD OF 'laws.FnExactTermParts'. -/
def fnExactTermPartsUptoCard : Claim7 := { stood := { row := fnExactTermPartsUptoRow, standIns := [], harness := (true, "91ce6658fdab65eb4172cfbdec358e0b214c768fae4aae822e667134bf860ef5"), looks := true }, kinds := [], alts := [], laidByText := true, laidKinds := [.data, .data, .data, .sentinel, .sentinel], laidTests := true, laidLooks := .later }
def FnExactTermPartsUptoCardSaid : Prop := Claim7.holds Tryd.pinned (.plain (OpenSpec.upto fnExactTermPartsSpec)) fnExactTermPartsUptoCard

/-- THE SECOND FORM's CARD OF 'laws.FnTokens'. -/
def fnTokensUptoCard : Claim7 := { stood := { row := fnTokensUptoRow, standIns := [], harness := (true, "91ce6658fdab65eb4172cfbdec358e0b214c768fae4aae822e667134bf860ef5"), looks := true }, kinds := [], alts := [], laidByText := true, laidKinds := [.data, .data, .data, .sentinel, .sentinel], laidTests := true, laidLooks := .later }
def FnTokensUptoCardSaid : Prop := Claim7.holds Tryd.pinned (.plain (OpenSpec.upto fnTokensSpec)) fnTokensUptoCard

/-- THE SECOND FORM's CARD OF 'laws.FnExactTokens'. -/
def fnExactTokensUptoCard : Claim7 := { stood := { row := fnExactTokensUptoRow, standIns := [], harness := (true, "91ce6658fdab65eb4172cfbdec358e0b214c768fae4aae822e667134bf860ef5"), looks := true }, kinds := [], alts := [], laidByText := true, laidKinds := [.data, .data, .data, .sentinel, .sentinel], laidTests := true, laidLooks := .later }
def FnExactTokensUptoCardSaid : Prop := Claim7.holds Tryd.pinned (.plain (OpenSpec.upto fnExactTokensSpec)) fnExactTokensUptoCard

/-- THE SECOND FORM's CARD OF 'laws.FnExactTermCmp'. -/
def fnExactTermCmpUptoCard : Claim7 := { stood := { row := fnExactTermCmpUptoRow, standIns := [], harness := (true, "91ce6658fdab65eb4172cfbdec358e0b214c768fae4aae822e667134bf860ef5"), looks := true }, kinds := [], alts := [], laidByText := true, laidKinds := [.data, .data, .data, .sentinel, .sentinel], laidTests := true, laidLooks := .later }
def FnExactTermCmpUptoCardSaid : Prop := Claim7.holds Tryd.pinned (.plain (OpenSpec.upto fnExactTermCmpSpec)) fnExactTermCmpUptoCard

/-- THE SECOND FORM's CARD OF 'laws.FnTerms'. -/
def fnTermsUptoCard : Claim7 := { stood := { row := fnTermsUptoRow, standIns := [], harness := (true, "91ce6658fdab65eb4172cfbdec358e0b214c768fae4aae822e667134bf860ef5"), looks := true }, kinds := [], alts := [], laidByText := true, laidKinds := [.data, .data, .data, .sentinel, .sentinel], laidTests := true, laidLooks := .later }
def FnTermsUptoCardSaid : Prop := Claim7.holds Tryd.pinned (.plain (OpenSpec.upto fnTermsSpec)) fnTermsUptoCard

/-- THE SECOND FORM's CARD OF 'laws.FnTermOrder'. -/
def fnTermOrderUptoCard : Claim7 := { stood := { row := fnTermOrderUptoRow, standIns := [], harness := (true, "91ce6658fdab65eb4172cfbdec358e0b214c768fae4aae822e667134bf860ef5"), looks := true }, kinds := [], alts := [], laidByText := true, laidKinds := [.data, .data, .data, .sentinel, .sentinel], laidTests := true, laidLooks := .later }
def FnTermOrderUptoCardSaid : Prop := Claim7.holds Tryd.pinned (.plain (OpenSpec.upto fnTermOrderSpec)) fnTermOrderUptoCard

/-- THE SECOND FORM's CARD OF 'laws.FnExactTupleCmp'. -/
def fnExactTupleCmpUptoCard : Claim7 := { stood := { row := fnExactTupleCmpUptoRow, standIns := [], harness := (true, "91ce6658fdab65eb4172cfbdec358e0b214c768fae4aae822e667134bf860ef5"), looks := true }, kinds := [], alts := [], laidByText := true, laidKinds := [.data, .data, .data, .sentinel, .sentinel], laidTests := true, laidLooks := .later }
def FnExactTupleCmpUptoCardSaid : Prop := Claim7.holds Tryd.pinned (.plain (OpenSpec.upto fnExactTupleCmpSpec)) fnExactTupleCmpUptoCard

/-- THE SECOND FORM's CARD OF 'laws.FnExactRelOk'. -/
def fnExactRelOkUptoCard : Claim7 := { stood := { row := fnExactRelOkUptoRow, standIns := [], harness := (true, "91ce6658fdab65eb4172cfbdec358e0b214c768fae4aae822e667134bf860ef5"), looks := true }, kinds := [], alts := [], laidByText := true, laidKinds := [.data, .data, .data, .sentinel, .sentinel], laidTests := true, laidLooks := .later }
def FnExactRelOkUptoCardSaid : Prop := Claim7.holds Tryd.pinned (.plain (OpenSpec.upto fnExactRelOkSpec)) fnExactRelOkUptoCard
end Rows
end Go.Proofs.YtebadckdihgklaaDoor

/-
  DERIVED. GIVEN WITH THE SEED: THE CARDS: each row of YtkphnakihjiebaaDoorRows.lean that lists a variable, with what it lists TIED to the program's text (the seventh form; the later family's looks); each row that meets fmt, with fmt's text TOLD by the authors' own Lean function (tested against real Go, not proved from fmt's source: count such statements apart). THE CARD IS WHAT COUNTS. Prove the row's statement (the work); the ties are given (YtkphnakihjiebaaDoorTie.lean); close each card by the builder's one call (the guide's Derived/Test/ToyasCard.lean, 'card_holds'). Laid BY PROGRAM, IN A SANDBOX (cutbox-door.mjs). By AI agents, Wed Nov 11 2026. No macro, syntax, notation, axiom, sorry.
-/
import Derived.Test.YtkphnakihjiebaaDoorRows
import GoSem.ClaimSeven
namespace Go.Proofs.YtkphnakihjiebaaDoor
namespace Rows

/-- THE TIED CARD OF 'laws.FnExactIsSuffixSet'. -/
def fnExactIsSuffixSetCard : Claim7 := { stood := { row := fnExactIsSuffixSetRow, standIns := [], harness := (true, "33ebc060f428c4a0ed9380abb561d95861c61640101c4331ff04a36f83cf049d"), looks := false }, kinds := [], alts := [], laidByText := true, laidKinds := [.data, .pinned], laidTests := true, laidLooks := .later }
def FnExactIsSuffixSetCardSaid : Prop := Claim7.holds Tryd.pinned (.plain (OpenSpec.ofChange fnExactIsSuffixSetSpec)) fnExactIsSuffixSetCard

/-- THE TIED CARD OF 'laws.FnExactIsTwoSided'. -/
def fnExactIsTwoSidedCard : Claim7 := { stood := { row := fnExactIsTwoSidedRow, standIns := [], harness := (true, "33ebc060f428c4a0ed9380abb561d95861c61640101c4331ff04a36f83cf049d"), looks := false }, kinds := [], alts := [], laidByText := true, laidKinds := [.data, .pinned], laidTests := true, laidLooks := .later }
def FnExactIsTwoSidedCardSaid : Prop := Claim7.holds Tryd.pinned (.plain (OpenSpec.ofChange fnExactIsTwoSidedSpec)) fnExactIsTwoSidedCard

/-- THE TIED CARD OF 'laws.FnExactIsPartFree'. -/
def fnExactIsPartFreeCard : Claim7 := { stood := { row := fnExactIsPartFreeRow, standIns := [], harness := (true, "33ebc060f428c4a0ed9380abb561d95861c61640101c4331ff04a36f83cf049d"), looks := false }, kinds := [], alts := [], laidByText := true, laidKinds := [.data, .pinned], laidTests := true, laidLooks := .later }
def FnExactIsPartFreeCardSaid : Prop := Claim7.holds Tryd.pinned (.plain (OpenSpec.ofChange fnExactIsPartFreeSpec)) fnExactIsPartFreeCard

/-- THE TIED CARD OF 'laws.FnExactCommonRoot'. -/
def fnExactCommonRootCard : Claim7 := { stood := { row := fnExactCommonRootRow, standIns := [], harness := (true, "33ebc060f428c4a0ed9380abb561d95861c61640101c4331ff04a36f83cf049d"), looks := false }, kinds := [], alts := [], laidByText := true, laidKinds := [.data, .pinned], laidTests := true, laidLooks := .later }
def FnExactCommonRootCardSaid : Prop := Claim7.holds Tryd.pinned (.plain (OpenSpec.ofChange fnExactCommonRootSpec)) fnExactCommonRootCard

/-- THE TIED CARD OF 'laws.FnExactIsPrimitive'. -/
def fnExactIsPrimitiveCard : Claim7 := { stood := { row := fnExactIsPrimitiveRow, standIns := [], harness := (true, "33ebc060f428c4a0ed9380abb561d95861c61640101c4331ff04a36f83cf049d"), looks := false }, kinds := [], alts := [], laidByText := true, laidKinds := [.data, .pinned], laidTests := true, laidLooks := .later }
def FnExactIsPrimitiveCardSaid : Prop := Claim7.holds Tryd.pinned (.plain (OpenSpec.ofChange fnExactIsPrimitiveSpec)) fnExactIsPrimitiveCard

/-- THE TIED CARD OF 'laws.FnExactRootOf'. -/
def fnExactRootOfCard : Claim7 := { stood := { row := fnExactRootOfRow, standIns := [], harness := (true, "33ebc060f428c4a0ed9380abb561d95861c61640101c4331ff04a36f83cf049d"), looks := false }, kinds := [], alts := [], laidByText := true, laidKinds := [.data, .pinned], laidTests := true, laidLooks := .later }
def FnExactRootOfCardSaid : Prop := Claim7.holds Tryd.pinned (.plain (OpenSpec.ofChange fnExactRootOfSpec)) fnExactRootOfCard

/-- THE TIED CARD OF 'laws.FnExactSetOf'. -/
def fnExactSetOfCard : Claim7 := { stood := { row := fnExactSetOfRow, standIns := [], harness := (true, "33ebc060f428c4a0ed9380abb561d95861c61640101c4331ff04a36f83cf049d"), looks := false }, kinds := [], alts := [], laidByText := true, laidKinds := [.data, .pinned], laidTests := true, laidLooks := .later }
def FnExactSetOfCardSaid : Prop := Claim7.holds Tryd.pinned (.plain (OpenSpec.ofChange fnExactSetOfSpec)) fnExactSetOfCard

/-- THE TIED CARD OF 'laws.FnExactInnerWords'. -/
def fnExactInnerWordsCard : Claim7 := { stood := { row := fnExactInnerWordsRow, standIns := [], harness := (true, "33ebc060f428c4a0ed9380abb561d95861c61640101c4331ff04a36f83cf049d"), looks := false }, kinds := [], alts := [], laidByText := true, laidKinds := [.data, .pinned], laidTests := true, laidLooks := .later }
def FnExactInnerWordsCardSaid : Prop := Claim7.holds Tryd.pinned (.plain (OpenSpec.ofChange fnExactInnerWordsSpec)) fnExactInnerWordsCard

/-- THE TIED CARD OF 'laws.FnExactReverseSet'. -/
def fnExactReverseSetCard : Claim7 := { stood := { row := fnExactReverseSetRow, standIns := [], harness := (true, "33ebc060f428c4a0ed9380abb561d95861c61640101c4331ff04a36f83cf049d"), looks := false }, kinds := [], alts := [], laidByText := true, laidKinds := [.data, .pinned], laidTests := true, laidLooks := .later }
def FnExactReverseSetCardSaid : Prop := Claim7.holds Tryd.pinned (.plain (OpenSpec.ofChange fnExactReverseSetSpec)) fnExactReverseSetCard

/-- THE TIED CARD OF 'laws.FnExactLeftQuotient'. -/
def fnExactLeftQuotientCard : Claim7 := { stood := { row := fnExactLeftQuotientRow, standIns := [], harness := (true, "33ebc060f428c4a0ed9380abb561d95861c61640101c4331ff04a36f83cf049d"), looks := false }, kinds := [], alts := [], laidByText := true, laidKinds := [.data, .pinned], laidTests := true, laidLooks := .later }
def FnExactLeftQuotientCardSaid : Prop := Claim7.holds Tryd.pinned (.plain (OpenSpec.ofChange fnExactLeftQuotientSpec)) fnExactLeftQuotientCard

/-- THE TIED CARD OF 'laws.FnExactJoinSets'. -/
def fnExactJoinSetsCard : Claim7 := { stood := { row := fnExactJoinSetsRow, standIns := [], harness := (true, "33ebc060f428c4a0ed9380abb561d95861c61640101c4331ff04a36f83cf049d"), looks := false }, kinds := [], alts := [], laidByText := true, laidKinds := [.data, .pinned], laidTests := true, laidLooks := .later }
def FnExactJoinSetsCardSaid : Prop := Claim7.holds Tryd.pinned (.plain (OpenSpec.ofChange fnExactJoinSetsSpec)) fnExactJoinSetsCard

/-- THE SECOND FORM's CARD OF 'laws.FnExactIsSuffixSet'. -/
def fnExactIsSuffixSetUptoCard : Claim7 := { stood := { row := fnExactIsSuffixSetUptoRow, standIns := [], harness := (true, "33ebc060f428c4a0ed9380abb561d95861c61640101c4331ff04a36f83cf049d"), looks := false }, kinds := [], alts := [], laidByText := true, laidKinds := [.data, .pinned], laidTests := true, laidLooks := .later }
def FnExactIsSuffixSetUptoCardSaid : Prop := Claim7.holds Tryd.pinned (.plain (OpenSpec.upto fnExactIsSuffixSetSpec)) fnExactIsSuffixSetUptoCard

/-- THE SECOND FORM's CARD OF 'laws.FnExactIsTwoSided'. -/
def fnExactIsTwoSidedUptoCard : Claim7 := { stood := { row := fnExactIsTwoSidedUptoRow, standIns := [], harness := (true, "33ebc060f428c4a0ed9380abb561d95861c61640101c4331ff04a36f83cf049d"), looks := false }, kinds := [], alts := [], laidByText := true, laidKinds := [.data, .pinned], laidTests := true, laidLooks := .later }
def FnExactIsTwoSidedUptoCardSaid : Prop := Claim7.holds Tryd.pinned (.plain (OpenSpec.upto fnExactIsTwoSidedSpec)) fnExactIsTwoSidedUptoCard

/-- THE SECOND FORM's CARD OF 'laws.FnExactIsPartFree'. -/
def fnExactIsPartFreeUptoCard : Claim7 := { stood := { row := fnExactIsPartFreeUptoRow, standIns := [], harness := (true, "33ebc060f428c4a0ed9380abb561d95861c61640101c4331ff04a36f83cf049d"), looks := false }, kinds := [], alts := [], laidByText := true, laidKinds := [.data, .pinned], laidTests := true, laidLooks := .later }
def FnExactIsPartFreeUptoCardSaid : Prop := Claim7.holds Tryd.pinned (.plain (OpenSpec.upto fnExactIsPartFreeSpec)) fnExactIsPartFreeUptoCard

/-- THE SECOND FORM's CARD OF 'laws.FnExactCommonRoot'. -/
def fnExactCommonRootUptoCard : Claim7 := { stood := { row := fnExactCommonRootUptoRow, standIns := [], harness := (true, "33ebc060f428c4a0ed9380abb561d95861c61640101c4331ff04a36f83cf049d"), looks := false }, kinds := [], alts := [], laidByText := true, laidKinds := [.data, .pinned], laidTests := true, laidLooks := .later }
def FnExactCommonRootUptoCardSaid : Prop := Claim7.holds Tryd.pinned (.plain (OpenSpec.upto fnExactCommonRootSpec)) fnExactCommonRootUptoCard

/-- THE SECOND FORM's CARD OF 'laws.FnExactIsPrimitive'. -/
def fnExactIsPrimitiveUptoCard : Claim7 := { stood := { row := fnExactIsPrimitiveUptoRow, standIns := [], harness := (true, "33ebc060f428c4a0ed9380abb561d95861c61640101c4331ff04a36f83cf049d"), looks := false }, kinds := [], alts := [], laidByText := true, laidKinds := [.data, .pinned], laidTests := true, laidLooks := .later }
def FnExactIsPrimitiveUptoCardSaid : Prop := Claim7.holds Tryd.pinned (.plain (OpenSpec.upto fnExactIsPrimitiveSpec)) fnExactIsPrimitiveUptoCard

/-- THE SECOND FORM's CARD OF 'laws.FnExactRootOf'. -/
def fnExactRootOfUptoCard : Claim7 := { stood := { row := fnExactRootOfUptoRow, standIns := [], harness := (true, "33ebc060f428c4a0ed9380abb561d95861c61640101c4331ff04a36f83cf049d"), looks := false }, kinds := [], alts := [], laidByText := true, laidKinds := [.data, .pinned], laidTests := true, laidLooks := .later }
def FnExactRootOfUptoCardSaid : Prop := Claim7.holds Tryd.pinned (.plain (OpenSpec.upto fnExactRootOfSpec)) fnExactRootOfUptoCard

/-- THE SECOND FORM's CARD OF 'laws.FnExactSetOf'. -/
def fnExactSetOfUptoCard : Claim7 := { stood := { row := fnExactSetOfUptoRow, standIns := [], harness := (true, "33ebc060f428c4a0ed9380abb561d95861c61640101c4331ff04a36f83cf049d"), looks := false }, kinds := [], alts := [], laidByText := true, laidKinds := [.data, .pinned], laidTests := true, laidLooks := .later }
def FnExactSetOfUptoCardSaid : Prop := Claim7.holds Tryd.pinned (.plain (OpenSpec.upto fnExactSetOfSpec)) fnExactSetOfUptoCard

/-- THE SECOND FORM's CARD OF 'laws.FnExactInnerWords'. -/
def fnExactInnerWordsUptoCard : Claim7 := { stood := { row := fnExactInnerWordsUptoRow, standIns := [], harness := (true, "33ebc060f428c4a0ed9380abb561d95861c61640101c4331ff04a36f83cf049d"), looks := false }, kinds := [], alts := [], laidByText := true, laidKinds := [.data, .pinned], laidTests := true, laidLooks := .later }
def FnExactInnerWordsUptoCardSaid : Prop := Claim7.holds Tryd.pinned (.plain (OpenSpec.upto fnExactInnerWordsSpec)) fnExactInnerWordsUptoCard

/-- THE SECOND FORM's CARD OF 'laws.FnExactReverseSet'. -/
def fnExactReverseSetUptoCard : Claim7 := { stood := { row := fnExactReverseSetUptoRow, standIns := [], harness := (true, "33ebc060f428c4a0ed9380abb561d95861c61640101c4331ff04a36f83cf049d"), looks := false }, kinds := [], alts := [], laidByText := true, laidKinds := [.data, .pinned], laidTests := true, laidLooks := .later }
def FnExactReverseSetUptoCardSaid : Prop := Claim7.holds Tryd.pinned (.plain (OpenSpec.upto fnExactReverseSetSpec)) fnExactReverseSetUptoCard

/-- THE SECOND FORM's CARD OF 'laws.FnExactLeftQuotient'. -/
def fnExactLeftQuotientUptoCard : Claim7 := { stood := { row := fnExactLeftQuotientUptoRow, standIns := [], harness := (true, "33ebc060f428c4a0ed9380abb561d95861c61640101c4331ff04a36f83cf049d"), looks := false }, kinds := [], alts := [], laidByText := true, laidKinds := [.data, .pinned], laidTests := true, laidLooks := .later }
def FnExactLeftQuotientUptoCardSaid : Prop := Claim7.holds Tryd.pinned (.plain (OpenSpec.upto fnExactLeftQuotientSpec)) fnExactLeftQuotientUptoCard

/-- THE SECOND FORM's CARD OF 'laws.FnExactJoinSets'. -/
def fnExactJoinSetsUptoCard : Claim7 := { stood := { row := fnExactJoinSetsUptoRow, standIns := [], harness := (true, "33ebc060f428c4a0ed9380abb561d95861c61640101c4331ff04a36f83cf049d"), looks := false }, kinds := [], alts := [], laidByText := true, laidKinds := [.data, .pinned], laidTests := true, laidLooks := .later }
def FnExactJoinSetsUptoCardSaid : Prop := Claim7.holds Tryd.pinned (.plain (OpenSpec.upto fnExactJoinSetsSpec)) fnExactJoinSetsUptoCard
end Rows
end Go.Proofs.YtkphnakihjiebaaDoor

/-
  DERIVED. GIVEN WITH THE SEED: THE CARDS: each row of YtmopadfhddmgfaaDoorRows.lean that lists a variable, with what it lists TIED to the program's text (the seventh form; the later family's looks); each row that meets fmt, with fmt's text TOLD by the authors' own Lean function (tested against real Go, not proved from fmt's source: count such statements apart). THE CARD IS WHAT COUNTS. Prove the row's statement (the work); the ties are given (YtmopadfhddmgfaaDoorTie.lean); close each card by the builder's one call (the guide's Derived/Test/ToyasCard.lean, 'card_holds'). Laid BY PROGRAM, IN A SANDBOX (cutbox-door.mjs). By AI agents, Wed Nov 11 2026. No macro, syntax, notation, axiom, sorry.
-/
import Derived.Test.YtmopadfhddmgfaaDoorRows
import GoSem.ClaimSeven
namespace Go.Proofs.YtmopadfhddmgfaaDoor
namespace Rows

/-- THE TIED CARD OF 'laws.FnExactReplaceLetters'. -/
def fnExactReplaceLettersCard : Claim7 := { stood := { row := fnExactReplaceLettersRow, standIns := [], harness := (true, "b62f260ea5f9338ce5e8b82dc9fd3307b890f0cf7e58f750cd6473fa81c11f15"), looks := false }, kinds := [], alts := [], laidByText := true, laidKinds := [.data, .pinned], laidTests := true, laidLooks := .later }
def FnExactReplaceLettersCardSaid : Prop := Claim7.holds Tryd.pinned (.plain (OpenSpec.ofChange fnExactReplaceLettersSpec)) fnExactReplaceLettersCard

/-- THE TIED CARD OF 'laws.FnExactPutBehind'. -/
def fnExactPutBehindCard : Claim7 := { stood := { row := fnExactPutBehindRow, standIns := [], harness := (true, "b62f260ea5f9338ce5e8b82dc9fd3307b890f0cf7e58f750cd6473fa81c11f15"), looks := false }, kinds := [], alts := [], laidByText := true, laidKinds := [.data, .pinned], laidTests := true, laidLooks := .later }
def FnExactPutBehindCardSaid : Prop := Claim7.holds Tryd.pinned (.plain (OpenSpec.ofChange fnExactPutBehindSpec)) fnExactPutBehindCard

/-- THE TIED CARD OF 'laws.FnExactLevelsOf'. -/
def fnExactLevelsOfCard : Claim7 := { stood := { row := fnExactLevelsOfRow, standIns := [], harness := (true, "b62f260ea5f9338ce5e8b82dc9fd3307b890f0cf7e58f750cd6473fa81c11f15"), looks := false }, kinds := [], alts := [], laidByText := true, laidKinds := [.data, .pinned], laidTests := true, laidLooks := .later }
def FnExactLevelsOfCardSaid : Prop := Claim7.holds Tryd.pinned (.plain (OpenSpec.ofChange fnExactLevelsOfSpec)) fnExactLevelsOfCard

/-- THE TIED CARD OF 'laws.FnExactIsCode'. -/
def fnExactIsCodeCard : Claim7 := { stood := { row := fnExactIsCodeRow, standIns := [], harness := (true, "b62f260ea5f9338ce5e8b82dc9fd3307b890f0cf7e58f750cd6473fa81c11f15"), looks := false }, kinds := [], alts := [], laidByText := true, laidKinds := [.data, .pinned], laidTests := true, laidLooks := .later }
def FnExactIsCodeCardSaid : Prop := Claim7.holds Tryd.pinned (.plain (OpenSpec.ofChange fnExactIsCodeSpec)) fnExactIsCodeCard

/-- THE TIED CARD OF 'laws.FnExactFirstRefused'. -/
def fnExactFirstRefusedCard : Claim7 := { stood := { row := fnExactFirstRefusedRow, standIns := [], harness := (true, "b62f260ea5f9338ce5e8b82dc9fd3307b890f0cf7e58f750cd6473fa81c11f15"), looks := false }, kinds := [], alts := [], laidByText := true, laidKinds := [.data, .pinned], laidTests := true, laidLooks := .later }
def FnExactFirstRefusedCardSaid : Prop := Claim7.holds Tryd.pinned (.plain (OpenSpec.ofChange fnExactFirstRefusedSpec)) fnExactFirstRefusedCard

/-- THE TIED CARD OF 'laws.FnExactShrinkPrefix'. -/
def fnExactShrinkPrefixCard : Claim7 := { stood := { row := fnExactShrinkPrefixRow, standIns := [], harness := (true, "b62f260ea5f9338ce5e8b82dc9fd3307b890f0cf7e58f750cd6473fa81c11f15"), looks := false }, kinds := [], alts := [], laidByText := true, laidKinds := [.data, .pinned], laidTests := true, laidLooks := .later }
def FnExactShrinkPrefixCardSaid : Prop := Claim7.holds Tryd.pinned (.plain (OpenSpec.ofChange fnExactShrinkPrefixSpec)) fnExactShrinkPrefixCard

/-- THE TIED CARD OF 'laws.FnExactStatesOf'. -/
def fnExactStatesOfCard : Claim7 := { stood := { row := fnExactStatesOfRow, standIns := [], harness := (true, "b62f260ea5f9338ce5e8b82dc9fd3307b890f0cf7e58f750cd6473fa81c11f15"), looks := false }, kinds := [], alts := [], laidByText := true, laidKinds := [.data, .pinned], laidTests := true, laidLooks := .later }
def FnExactStatesOfCardSaid : Prop := Claim7.holds Tryd.pinned (.plain (OpenSpec.ofChange fnExactStatesOfSpec)) fnExactStatesOfCard

/-- THE TIED CARD OF 'laws.FnExactShortestDouble'. -/
def fnExactShortestDoubleCard : Claim7 := { stood := { row := fnExactShortestDoubleRow, standIns := [], harness := (true, "b62f260ea5f9338ce5e8b82dc9fd3307b890f0cf7e58f750cd6473fa81c11f15"), looks := false }, kinds := [], alts := [], laidByText := true, laidKinds := [.data, .pinned], laidTests := true, laidLooks := .later }
def FnExactShortestDoubleCardSaid : Prop := Claim7.holds Tryd.pinned (.plain (OpenSpec.ofChange fnExactShortestDoubleSpec)) fnExactShortestDoubleCard

/-- THE TIED CARD OF 'laws.FnExactTwoReadings'. -/
def fnExactTwoReadingsCard : Claim7 := { stood := { row := fnExactTwoReadingsRow, standIns := [], harness := (true, "b62f260ea5f9338ce5e8b82dc9fd3307b890f0cf7e58f750cd6473fa81c11f15"), looks := false }, kinds := [], alts := [], laidByText := true, laidKinds := [.data, .pinned], laidTests := true, laidLooks := .later }
def FnExactTwoReadingsCardSaid : Prop := Claim7.holds Tryd.pinned (.plain (OpenSpec.ofChange fnExactTwoReadingsSpec)) fnExactTwoReadingsCard

/-- THE SECOND FORM's CARD OF 'laws.FnExactReplaceLetters'. -/
def fnExactReplaceLettersUptoCard : Claim7 := { stood := { row := fnExactReplaceLettersUptoRow, standIns := [], harness := (true, "b62f260ea5f9338ce5e8b82dc9fd3307b890f0cf7e58f750cd6473fa81c11f15"), looks := false }, kinds := [], alts := [], laidByText := true, laidKinds := [.data, .pinned], laidTests := true, laidLooks := .later }
def FnExactReplaceLettersUptoCardSaid : Prop := Claim7.holds Tryd.pinned (.plain (OpenSpec.upto fnExactReplaceLettersSpec)) fnExactReplaceLettersUptoCard

/-- THE SECOND FORM's CARD OF 'laws.FnExactPutBehind'. -/
def fnExactPutBehindUptoCard : Claim7 := { stood := { row := fnExactPutBehindUptoRow, standIns := [], harness := (true, "b62f260ea5f9338ce5e8b82dc9fd3307b890f0cf7e58f750cd6473fa81c11f15"), looks := false }, kinds := [], alts := [], laidByText := true, laidKinds := [.data, .pinned], laidTests := true, laidLooks := .later }
def FnExactPutBehindUptoCardSaid : Prop := Claim7.holds Tryd.pinned (.plain (OpenSpec.upto fnExactPutBehindSpec)) fnExactPutBehindUptoCard

/-- THE SECOND FORM's CARD OF 'laws.FnExactLevelsOf'. -/
def fnExactLevelsOfUptoCard : Claim7 := { stood := { row := fnExactLevelsOfUptoRow, standIns := [], harness := (true, "b62f260ea5f9338ce5e8b82dc9fd3307b890f0cf7e58f750cd6473fa81c11f15"), looks := false }, kinds := [], alts := [], laidByText := true, laidKinds := [.data, .pinned], laidTests := true, laidLooks := .later }
def FnExactLevelsOfUptoCardSaid : Prop := Claim7.holds Tryd.pinned (.plain (OpenSpec.upto fnExactLevelsOfSpec)) fnExactLevelsOfUptoCard

/-- THE SECOND FORM's CARD OF 'laws.FnExactIsCode'. -/
def fnExactIsCodeUptoCard : Claim7 := { stood := { row := fnExactIsCodeUptoRow, standIns := [], harness := (true, "b62f260ea5f9338ce5e8b82dc9fd3307b890f0cf7e58f750cd6473fa81c11f15"), looks := false }, kinds := [], alts := [], laidByText := true, laidKinds := [.data, .pinned], laidTests := true, laidLooks := .later }
def FnExactIsCodeUptoCardSaid : Prop := Claim7.holds Tryd.pinned (.plain (OpenSpec.upto fnExactIsCodeSpec)) fnExactIsCodeUptoCard

/-- THE SECOND FORM's CARD OF 'laws.FnExactFirstRefused'. -/
def fnExactFirstRefusedUptoCard : Claim7 := { stood := { row := fnExactFirstRefusedUptoRow, standIns := [], harness := (true, "b62f260ea5f9338ce5e8b82dc9fd3307b890f0cf7e58f750cd6473fa81c11f15"), looks := false }, kinds := [], alts := [], laidByText := true, laidKinds := [.data, .pinned], laidTests := true, laidLooks := .later }
def FnExactFirstRefusedUptoCardSaid : Prop := Claim7.holds Tryd.pinned (.plain (OpenSpec.upto fnExactFirstRefusedSpec)) fnExactFirstRefusedUptoCard

/-- THE SECOND FORM's CARD OF 'laws.FnExactShrinkPrefix'. -/
def fnExactShrinkPrefixUptoCard : Claim7 := { stood := { row := fnExactShrinkPrefixUptoRow, standIns := [], harness := (true, "b62f260ea5f9338ce5e8b82dc9fd3307b890f0cf7e58f750cd6473fa81c11f15"), looks := false }, kinds := [], alts := [], laidByText := true, laidKinds := [.data, .pinned], laidTests := true, laidLooks := .later }
def FnExactShrinkPrefixUptoCardSaid : Prop := Claim7.holds Tryd.pinned (.plain (OpenSpec.upto fnExactShrinkPrefixSpec)) fnExactShrinkPrefixUptoCard

/-- THE SECOND FORM's CARD OF 'laws.FnExactStatesOf'. -/
def fnExactStatesOfUptoCard : Claim7 := { stood := { row := fnExactStatesOfUptoRow, standIns := [], harness := (true, "b62f260ea5f9338ce5e8b82dc9fd3307b890f0cf7e58f750cd6473fa81c11f15"), looks := false }, kinds := [], alts := [], laidByText := true, laidKinds := [.data, .pinned], laidTests := true, laidLooks := .later }
def FnExactStatesOfUptoCardSaid : Prop := Claim7.holds Tryd.pinned (.plain (OpenSpec.upto fnExactStatesOfSpec)) fnExactStatesOfUptoCard

/-- THE SECOND FORM's CARD OF 'laws.FnExactShortestDouble'. -/
def fnExactShortestDoubleUptoCard : Claim7 := { stood := { row := fnExactShortestDoubleUptoRow, standIns := [], harness := (true, "b62f260ea5f9338ce5e8b82dc9fd3307b890f0cf7e58f750cd6473fa81c11f15"), looks := false }, kinds := [], alts := [], laidByText := true, laidKinds := [.data, .pinned], laidTests := true, laidLooks := .later }
def FnExactShortestDoubleUptoCardSaid : Prop := Claim7.holds Tryd.pinned (.plain (OpenSpec.upto fnExactShortestDoubleSpec)) fnExactShortestDoubleUptoCard

/-- THE SECOND FORM's CARD OF 'laws.FnExactTwoReadings'. -/
def fnExactTwoReadingsUptoCard : Claim7 := { stood := { row := fnExactTwoReadingsUptoRow, standIns := [], harness := (true, "b62f260ea5f9338ce5e8b82dc9fd3307b890f0cf7e58f750cd6473fa81c11f15"), looks := false }, kinds := [], alts := [], laidByText := true, laidKinds := [.data, .pinned], laidTests := true, laidLooks := .later }
def FnExactTwoReadingsUptoCardSaid : Prop := Claim7.holds Tryd.pinned (.plain (OpenSpec.upto fnExactTwoReadingsSpec)) fnExactTwoReadingsUptoCard
end Rows
end Go.Proofs.YtmopadfhddmgfaaDoor

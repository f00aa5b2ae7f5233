/-
  DERIVED. GIVEN WITH THE SEED: THE CARDS: each row of YthdecnghjhdfhaaDoorRows.lean that lists a variable, with what it lists TIED to the program's text (the seventh form; the later family's looks); each row that meets fmt, with fmt's text TOLD by the authors' own Lean function (tested against real Go, not proved from fmt's source: count such statements apart). THE CARD IS WHAT COUNTS. Prove the row's statement (the work); the ties are given (YthdecnghjhdfhaaDoorTie.lean); close each card by the builder's one call (the guide's Derived/Test/ToyasCard.lean, 'card_holds'). Laid BY PROGRAM, IN A SANDBOX (cutbox-door.mjs). By AI agents, Wed Nov 11 2026. No macro, syntax, notation, axiom, sorry.
-/
import Derived.Test.YthdecnghjhdfhaaDoorRows
import GoSem.ClaimSeven
namespace Go.Proofs.YthdecnghjhdfhaaDoor
namespace Rows

/-- THE TIED CARD OF 'laws.FnExactCountIn'. -/
def fnExactCountInCard : Claim7 := { stood := { row := fnExactCountInRow, standIns := [], harness := (true, "c787459e6c45cee4532e0d53a46946f014436b5603cc8091f548de2dfddfad7c"), looks := false }, kinds := [], alts := [], laidByText := true, laidKinds := [.data, .pinned], laidTests := true, laidLooks := .later }
def FnExactCountInCardSaid : Prop := Claim7.holds Tryd.pinned (.plain (OpenSpec.ofChange fnExactCountInSpec)) fnExactCountInCard

/-- THE TIED CARD OF 'laws.FnExactPeriodsOf'. -/
def fnExactPeriodsOfCard : Claim7 := { stood := { row := fnExactPeriodsOfRow, standIns := [], harness := (true, "c787459e6c45cee4532e0d53a46946f014436b5603cc8091f548de2dfddfad7c"), looks := false }, kinds := [], alts := [], laidByText := true, laidKinds := [.data, .pinned], laidTests := true, laidLooks := .later }
def FnExactPeriodsOfCardSaid : Prop := Claim7.holds Tryd.pinned (.plain (OpenSpec.ofChange fnExactPeriodsOfSpec)) fnExactPeriodsOfCard

/-- THE TIED CARD OF 'laws.FnExactBordersOf'. -/
def fnExactBordersOfCard : Claim7 := { stood := { row := fnExactBordersOfRow, standIns := [], harness := (true, "c787459e6c45cee4532e0d53a46946f014436b5603cc8091f548de2dfddfad7c"), looks := false }, kinds := [], alts := [], laidByText := true, laidKinds := [.data, .pinned], laidTests := true, laidLooks := .later }
def FnExactBordersOfCardSaid : Prop := Claim7.holds Tryd.pinned (.plain (OpenSpec.ofChange fnExactBordersOfSpec)) fnExactBordersOfCard

/-- THE TIED CARD OF 'laws.FnExactLessWord'. -/
def fnExactLessWordCard : Claim7 := { stood := { row := fnExactLessWordRow, standIns := [], harness := (true, "c787459e6c45cee4532e0d53a46946f014436b5603cc8091f548de2dfddfad7c"), looks := false }, kinds := [], alts := [], laidByText := true, laidKinds := [.data, .pinned], laidTests := true, laidLooks := .later }
def FnExactLessWordCardSaid : Prop := Claim7.holds Tryd.pinned (.plain (OpenSpec.ofChange fnExactLessWordSpec)) fnExactLessWordCard

/-- THE TIED CARD OF 'laws.FnExactIsSet'. -/
def fnExactIsSetCard : Claim7 := { stood := { row := fnExactIsSetRow, standIns := [], harness := (true, "c787459e6c45cee4532e0d53a46946f014436b5603cc8091f548de2dfddfad7c"), looks := false }, kinds := [], alts := [], laidByText := true, laidKinds := [.data, .pinned], laidTests := true, laidLooks := .later }
def FnExactIsSetCardSaid : Prop := Claim7.holds Tryd.pinned (.plain (OpenSpec.ofChange fnExactIsSetSpec)) fnExactIsSetCard

/-- THE TIED CARD OF 'laws.FnExactConcat'. -/
def fnExactConcatCard : Claim7 := { stood := { row := fnExactConcatRow, standIns := [], harness := (true, "c787459e6c45cee4532e0d53a46946f014436b5603cc8091f548de2dfddfad7c"), looks := false }, kinds := [], alts := [], laidByText := true, laidKinds := [.data, .pinned], laidTests := true, laidLooks := .later }
def FnExactConcatCardSaid : Prop := Claim7.holds Tryd.pinned (.plain (OpenSpec.ofChange fnExactConcatSpec)) fnExactConcatCard

/-- THE TIED CARD OF 'laws.FnExactCommonDivisor'. -/
def fnExactCommonDivisorCard : Claim7 := { stood := { row := fnExactCommonDivisorRow, standIns := [], harness := (true, "c787459e6c45cee4532e0d53a46946f014436b5603cc8091f548de2dfddfad7c"), looks := false }, kinds := [], alts := [], laidByText := true, laidKinds := [.data, .pinned], laidTests := true, laidLooks := .later }
def FnExactCommonDivisorCardSaid : Prop := Claim7.holds Tryd.pinned (.plain (OpenSpec.ofChange fnExactCommonDivisorSpec)) fnExactCommonDivisorCard

/-- THE TIED CARD OF 'laws.FnExactIsPrefixSet'. -/
def fnExactIsPrefixSetCard : Claim7 := { stood := { row := fnExactIsPrefixSetRow, standIns := [], harness := (true, "c787459e6c45cee4532e0d53a46946f014436b5603cc8091f548de2dfddfad7c"), looks := false }, kinds := [], alts := [], laidByText := true, laidKinds := [.data, .pinned], laidTests := true, laidLooks := .later }
def FnExactIsPrefixSetCardSaid : Prop := Claim7.holds Tryd.pinned (.plain (OpenSpec.ofChange fnExactIsPrefixSetSpec)) fnExactIsPrefixSetCard

/-- THE TIED CARD OF 'laws.FnExactWithoutWord'. -/
def fnExactWithoutWordCard : Claim7 := { stood := { row := fnExactWithoutWordRow, standIns := [], harness := (true, "c787459e6c45cee4532e0d53a46946f014436b5603cc8091f548de2dfddfad7c"), looks := false }, kinds := [], alts := [], laidByText := true, laidKinds := [.data, .pinned], laidTests := true, laidLooks := .later }
def FnExactWithoutWordCardSaid : Prop := Claim7.holds Tryd.pinned (.plain (OpenSpec.ofChange fnExactWithoutWordSpec)) fnExactWithoutWordCard

/-- THE TIED CARD OF 'laws.FnExactLettersOf'. -/
def fnExactLettersOfCard : Claim7 := { stood := { row := fnExactLettersOfRow, standIns := [], harness := (true, "c787459e6c45cee4532e0d53a46946f014436b5603cc8091f548de2dfddfad7c"), looks := false }, kinds := [], alts := [], laidByText := true, laidKinds := [.data, .pinned], laidTests := true, laidLooks := .later }
def FnExactLettersOfCardSaid : Prop := Claim7.holds Tryd.pinned (.plain (OpenSpec.ofChange fnExactLettersOfSpec)) fnExactLettersOfCard

/-- THE TIED CARD OF 'laws.FnExactLengthsOf'. -/
def fnExactLengthsOfCard : Claim7 := { stood := { row := fnExactLengthsOfRow, standIns := [], harness := (true, "c787459e6c45cee4532e0d53a46946f014436b5603cc8091f548de2dfddfad7c"), looks := false }, kinds := [], alts := [], laidByText := true, laidKinds := [.data, .pinned], laidTests := true, laidLooks := .later }
def FnExactLengthsOfCardSaid : Prop := Claim7.holds Tryd.pinned (.plain (OpenSpec.ofChange fnExactLengthsOfSpec)) fnExactLengthsOfCard

/-- THE TIED CARD OF 'laws.FnExactSetText'. -/
def fnExactSetTextCard : Claim7 := { stood := { row := fnExactSetTextRow, standIns := [], harness := (true, "c787459e6c45cee4532e0d53a46946f014436b5603cc8091f548de2dfddfad7c"), looks := false }, kinds := [], alts := [], laidByText := true, laidKinds := [.data, .pinned], laidTests := true, laidLooks := .later }
def FnExactSetTextCardSaid : Prop := Claim7.holds Tryd.pinned (.plain (OpenSpec.ofChange fnExactSetTextSpec)) fnExactSetTextCard

/-- THE SECOND FORM's CARD OF 'laws.FnExactCountIn'. -/
def fnExactCountInUptoCard : Claim7 := { stood := { row := fnExactCountInUptoRow, standIns := [], harness := (true, "c787459e6c45cee4532e0d53a46946f014436b5603cc8091f548de2dfddfad7c"), looks := false }, kinds := [], alts := [], laidByText := true, laidKinds := [.data, .pinned], laidTests := true, laidLooks := .later }
def FnExactCountInUptoCardSaid : Prop := Claim7.holds Tryd.pinned (.plain (OpenSpec.upto fnExactCountInSpec)) fnExactCountInUptoCard

/-- THE SECOND FORM's CARD OF 'laws.FnExactPeriodsOf'. -/
def fnExactPeriodsOfUptoCard : Claim7 := { stood := { row := fnExactPeriodsOfUptoRow, standIns := [], harness := (true, "c787459e6c45cee4532e0d53a46946f014436b5603cc8091f548de2dfddfad7c"), looks := false }, kinds := [], alts := [], laidByText := true, laidKinds := [.data, .pinned], laidTests := true, laidLooks := .later }
def FnExactPeriodsOfUptoCardSaid : Prop := Claim7.holds Tryd.pinned (.plain (OpenSpec.upto fnExactPeriodsOfSpec)) fnExactPeriodsOfUptoCard

/-- THE SECOND FORM's CARD OF 'laws.FnExactBordersOf'. -/
def fnExactBordersOfUptoCard : Claim7 := { stood := { row := fnExactBordersOfUptoRow, standIns := [], harness := (true, "c787459e6c45cee4532e0d53a46946f014436b5603cc8091f548de2dfddfad7c"), looks := false }, kinds := [], alts := [], laidByText := true, laidKinds := [.data, .pinned], laidTests := true, laidLooks := .later }
def FnExactBordersOfUptoCardSaid : Prop := Claim7.holds Tryd.pinned (.plain (OpenSpec.upto fnExactBordersOfSpec)) fnExactBordersOfUptoCard

/-- THE SECOND FORM's CARD OF 'laws.FnExactLessWord'. -/
def fnExactLessWordUptoCard : Claim7 := { stood := { row := fnExactLessWordUptoRow, standIns := [], harness := (true, "c787459e6c45cee4532e0d53a46946f014436b5603cc8091f548de2dfddfad7c"), looks := false }, kinds := [], alts := [], laidByText := true, laidKinds := [.data, .pinned], laidTests := true, laidLooks := .later }
def FnExactLessWordUptoCardSaid : Prop := Claim7.holds Tryd.pinned (.plain (OpenSpec.upto fnExactLessWordSpec)) fnExactLessWordUptoCard

/-- THE SECOND FORM's CARD OF 'laws.FnExactIsSet'. -/
def fnExactIsSetUptoCard : Claim7 := { stood := { row := fnExactIsSetUptoRow, standIns := [], harness := (true, "c787459e6c45cee4532e0d53a46946f014436b5603cc8091f548de2dfddfad7c"), looks := false }, kinds := [], alts := [], laidByText := true, laidKinds := [.data, .pinned], laidTests := true, laidLooks := .later }
def FnExactIsSetUptoCardSaid : Prop := Claim7.holds Tryd.pinned (.plain (OpenSpec.upto fnExactIsSetSpec)) fnExactIsSetUptoCard

/-- THE SECOND FORM's CARD OF 'laws.FnExactConcat'. -/
def fnExactConcatUptoCard : Claim7 := { stood := { row := fnExactConcatUptoRow, standIns := [], harness := (true, "c787459e6c45cee4532e0d53a46946f014436b5603cc8091f548de2dfddfad7c"), looks := false }, kinds := [], alts := [], laidByText := true, laidKinds := [.data, .pinned], laidTests := true, laidLooks := .later }
def FnExactConcatUptoCardSaid : Prop := Claim7.holds Tryd.pinned (.plain (OpenSpec.upto fnExactConcatSpec)) fnExactConcatUptoCard

/-- THE SECOND FORM's CARD OF 'laws.FnExactCommonDivisor'. -/
def fnExactCommonDivisorUptoCard : Claim7 := { stood := { row := fnExactCommonDivisorUptoRow, standIns := [], harness := (true, "c787459e6c45cee4532e0d53a46946f014436b5603cc8091f548de2dfddfad7c"), looks := false }, kinds := [], alts := [], laidByText := true, laidKinds := [.data, .pinned], laidTests := true, laidLooks := .later }
def FnExactCommonDivisorUptoCardSaid : Prop := Claim7.holds Tryd.pinned (.plain (OpenSpec.upto fnExactCommonDivisorSpec)) fnExactCommonDivisorUptoCard

/-- THE SECOND FORM's CARD OF 'laws.FnExactIsPrefixSet'. -/
def fnExactIsPrefixSetUptoCard : Claim7 := { stood := { row := fnExactIsPrefixSetUptoRow, standIns := [], harness := (true, "c787459e6c45cee4532e0d53a46946f014436b5603cc8091f548de2dfddfad7c"), looks := false }, kinds := [], alts := [], laidByText := true, laidKinds := [.data, .pinned], laidTests := true, laidLooks := .later }
def FnExactIsPrefixSetUptoCardSaid : Prop := Claim7.holds Tryd.pinned (.plain (OpenSpec.upto fnExactIsPrefixSetSpec)) fnExactIsPrefixSetUptoCard

/-- THE SECOND FORM's CARD OF 'laws.FnExactWithoutWord'. -/
def fnExactWithoutWordUptoCard : Claim7 := { stood := { row := fnExactWithoutWordUptoRow, standIns := [], harness := (true, "c787459e6c45cee4532e0d53a46946f014436b5603cc8091f548de2dfddfad7c"), looks := false }, kinds := [], alts := [], laidByText := true, laidKinds := [.data, .pinned], laidTests := true, laidLooks := .later }
def FnExactWithoutWordUptoCardSaid : Prop := Claim7.holds Tryd.pinned (.plain (OpenSpec.upto fnExactWithoutWordSpec)) fnExactWithoutWordUptoCard

/-- THE SECOND FORM's CARD OF 'laws.FnExactLettersOf'. -/
def fnExactLettersOfUptoCard : Claim7 := { stood := { row := fnExactLettersOfUptoRow, standIns := [], harness := (true, "c787459e6c45cee4532e0d53a46946f014436b5603cc8091f548de2dfddfad7c"), looks := false }, kinds := [], alts := [], laidByText := true, laidKinds := [.data, .pinned], laidTests := true, laidLooks := .later }
def FnExactLettersOfUptoCardSaid : Prop := Claim7.holds Tryd.pinned (.plain (OpenSpec.upto fnExactLettersOfSpec)) fnExactLettersOfUptoCard

/-- THE SECOND FORM's CARD OF 'laws.FnExactLengthsOf'. -/
def fnExactLengthsOfUptoCard : Claim7 := { stood := { row := fnExactLengthsOfUptoRow, standIns := [], harness := (true, "c787459e6c45cee4532e0d53a46946f014436b5603cc8091f548de2dfddfad7c"), looks := false }, kinds := [], alts := [], laidByText := true, laidKinds := [.data, .pinned], laidTests := true, laidLooks := .later }
def FnExactLengthsOfUptoCardSaid : Prop := Claim7.holds Tryd.pinned (.plain (OpenSpec.upto fnExactLengthsOfSpec)) fnExactLengthsOfUptoCard

/-- THE SECOND FORM's CARD OF 'laws.FnExactSetText'. -/
def fnExactSetTextUptoCard : Claim7 := { stood := { row := fnExactSetTextUptoRow, standIns := [], harness := (true, "c787459e6c45cee4532e0d53a46946f014436b5603cc8091f548de2dfddfad7c"), looks := false }, kinds := [], alts := [], laidByText := true, laidKinds := [.data, .pinned], laidTests := true, laidLooks := .later }
def FnExactSetTextUptoCardSaid : Prop := Claim7.holds Tryd.pinned (.plain (OpenSpec.upto fnExactSetTextSpec)) fnExactSetTextUptoCard
end Rows
end Go.Proofs.YthdecnghjhdfhaaDoor

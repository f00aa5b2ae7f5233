/-
  DERIVED. GIVEN WITH THE SEED: THE CARDS: each row of YtgokegndboknfaaDoorRows.lean that lists a variable, with what it lists TIED to the program's text (the seventh form; the later family's looks); each row that meets fmt, with fmt's text TOLD by the authors' own Lean function (tested against real Go, not proved from fmt's source: count such statements apart). THE CARD IS WHAT COUNTS. Prove the row's statement (the work); the ties are given (YtgokegndboknfaaDoorTie.lean); close each card by the builder's one call (the guide's Derived/Test/ToyasCard.lean, 'card_holds'). Laid BY PROGRAM, IN A SANDBOX (cutbox-door.mjs). By AI agents, Wed Nov 11 2026. No macro, syntax, notation, axiom, sorry.
-/
import Derived.Test.YtgokegndboknfaaDoorRows
import GoSem.ClaimSeven
namespace Go.Proofs.YtgokegndboknfaaDoor
namespace Rows

/-- THE TIED CARD OF 'laws.FnExactShortestDouble'. -/
def fnExactShortestDoubleCard : Claim7 := { stood := { row := fnExactShortestDoubleRow, standIns := [], harness := (true, "b8b6a218379e3f6fae69c84b6de2f8802e162dd9b54e2982f2416f483c0c35ed"), looks := false }, kinds := [], alts := [], laidByText := true, laidKinds := [.data, .pinned], laidTests := true, laidLooks := .later }
def FnExactShortestDoubleCardSaid : Prop := Claim7.holds Tryd.pinned (.plain (OpenSpec.ofChange fnExactShortestDoubleSpec)) fnExactShortestDoubleCard

/-- THE TIED CARD OF 'laws.FnExactTwoReadings'. -/
def fnExactTwoReadingsCard : Claim7 := { stood := { row := fnExactTwoReadingsRow, standIns := [], harness := (true, "b8b6a218379e3f6fae69c84b6de2f8802e162dd9b54e2982f2416f483c0c35ed"), looks := false }, kinds := [], alts := [], laidByText := true, laidKinds := [.data, .pinned], laidTests := true, laidLooks := .later }
def FnExactTwoReadingsCardSaid : Prop := Claim7.holds Tryd.pinned (.plain (OpenSpec.ofChange fnExactTwoReadingsSpec)) fnExactTwoReadingsCard

/-- THE TIED CARD OF 'laws.FnExactShrinkPrefix'. -/
def fnExactShrinkPrefixCard : Claim7 := { stood := { row := fnExactShrinkPrefixRow, standIns := [], harness := (true, "b8b6a218379e3f6fae69c84b6de2f8802e162dd9b54e2982f2416f483c0c35ed"), looks := false }, kinds := [], alts := [], laidByText := true, laidKinds := [.data, .pinned], laidTests := true, laidLooks := .later }
def FnExactShrinkPrefixCardSaid : Prop := Claim7.holds Tryd.pinned (.plain (OpenSpec.ofChange fnExactShrinkPrefixSpec)) fnExactShrinkPrefixCard

/-- THE SECOND FORM's CARD OF 'laws.FnExactShortestDouble'. -/
def fnExactShortestDoubleUptoCard : Claim7 := { stood := { row := fnExactShortestDoubleUptoRow, standIns := [], harness := (true, "b8b6a218379e3f6fae69c84b6de2f8802e162dd9b54e2982f2416f483c0c35ed"), looks := false }, kinds := [], alts := [], laidByText := true, laidKinds := [.data, .pinned], laidTests := true, laidLooks := .later }
def FnExactShortestDoubleUptoCardSaid : Prop := Claim7.holds Tryd.pinned (.plain (OpenSpec.upto fnExactShortestDoubleSpec)) fnExactShortestDoubleUptoCard

/-- THE SECOND FORM's CARD OF 'laws.FnExactTwoReadings'. -/
def fnExactTwoReadingsUptoCard : Claim7 := { stood := { row := fnExactTwoReadingsUptoRow, standIns := [], harness := (true, "b8b6a218379e3f6fae69c84b6de2f8802e162dd9b54e2982f2416f483c0c35ed"), looks := false }, kinds := [], alts := [], laidByText := true, laidKinds := [.data, .pinned], laidTests := true, laidLooks := .later }
def FnExactTwoReadingsUptoCardSaid : Prop := Claim7.holds Tryd.pinned (.plain (OpenSpec.upto fnExactTwoReadingsSpec)) fnExactTwoReadingsUptoCard

/-- THE SECOND FORM's CARD OF 'laws.FnExactShrinkPrefix'. -/
def fnExactShrinkPrefixUptoCard : Claim7 := { stood := { row := fnExactShrinkPrefixUptoRow, standIns := [], harness := (true, "b8b6a218379e3f6fae69c84b6de2f8802e162dd9b54e2982f2416f483c0c35ed"), looks := false }, kinds := [], alts := [], laidByText := true, laidKinds := [.data, .pinned], laidTests := true, laidLooks := .later }
def FnExactShrinkPrefixUptoCardSaid : Prop := Claim7.holds Tryd.pinned (.plain (OpenSpec.upto fnExactShrinkPrefixSpec)) fnExactShrinkPrefixUptoCard
end Rows
end Go.Proofs.YtgokegndboknfaaDoor

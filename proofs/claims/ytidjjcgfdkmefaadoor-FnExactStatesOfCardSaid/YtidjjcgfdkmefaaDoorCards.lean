/-
  DERIVED. GIVEN WITH THE SEED: THE CARDS: each row of YtidjjcgfdkmefaaDoorRows.lean that lists a variable, with what it lists TIED to the program's text (the seventh form; the later family's looks); each row that meets fmt, with fmt's text TOLD by the authors' own Lean function (tested against real Go, not proved from fmt's source: count such statements apart). THE CARD IS WHAT COUNTS. Prove the row's statement (the work); the ties are given (YtidjjcgfdkmefaaDoorTie.lean); close each card by the builder's one call (the guide's Derived/Test/ToyasCard.lean, 'card_holds'). Laid BY PROGRAM, IN A SANDBOX (cutbox-door.mjs). By AI agents, Wed Nov 11 2026. No macro, syntax, notation, axiom, sorry.
-/
import Derived.Test.YtidjjcgfdkmefaaDoorRows
import GoSem.ClaimSeven
namespace Go.Proofs.YtidjjcgfdkmefaaDoor
namespace Rows

/-- THE TIED CARD OF 'laws.FnExactStatesOf'. -/
def fnExactStatesOfCard : Claim7 := { stood := { row := fnExactStatesOfRow, standIns := [], harness := (true, "a0ad9ff0190be58d22ce0eb0dfdb0be99cfbf6ab3d0ed59b42bac43281386347"), looks := false }, kinds := [], alts := [], laidByText := true, laidKinds := [.data, .pinned], laidTests := true, laidLooks := .later }
def FnExactStatesOfCardSaid : Prop := Claim7.holds Tryd.pinned (.plain (OpenSpec.ofChange fnExactStatesOfSpec)) fnExactStatesOfCard

/-- THE TIED CARD OF 'laws.FnExactShortestDouble'. -/
def fnExactShortestDoubleCard : Claim7 := { stood := { row := fnExactShortestDoubleRow, standIns := [], harness := (true, "a0ad9ff0190be58d22ce0eb0dfdb0be99cfbf6ab3d0ed59b42bac43281386347"), looks := false }, kinds := [], alts := [], laidByText := true, laidKinds := [.data, .pinned], laidTests := true, laidLooks := .later }
def FnExactShortestDoubleCardSaid : Prop := Claim7.holds Tryd.pinned (.plain (OpenSpec.ofChange fnExactShortestDoubleSpec)) fnExactShortestDoubleCard

/-- THE TIED CARD OF 'laws.FnExactAllReadings'. -/
def fnExactAllReadingsCard : Claim7 := { stood := { row := fnExactAllReadingsRow, standIns := [], harness := (true, "a0ad9ff0190be58d22ce0eb0dfdb0be99cfbf6ab3d0ed59b42bac43281386347"), looks := false }, kinds := [], alts := [], laidByText := true, laidKinds := [.data, .pinned], laidTests := true, laidLooks := .later }
def FnExactAllReadingsCardSaid : Prop := Claim7.holds Tryd.pinned (.plain (OpenSpec.ofChange fnExactAllReadingsSpec)) fnExactAllReadingsCard

/-- THE TIED CARD OF 'laws.FnExactTwoReadings'. -/
def fnExactTwoReadingsCard : Claim7 := { stood := { row := fnExactTwoReadingsRow, standIns := [], harness := (true, "a0ad9ff0190be58d22ce0eb0dfdb0be99cfbf6ab3d0ed59b42bac43281386347"), looks := false }, kinds := [], alts := [], laidByText := true, laidKinds := [.data, .pinned], laidTests := true, laidLooks := .later }
def FnExactTwoReadingsCardSaid : Prop := Claim7.holds Tryd.pinned (.plain (OpenSpec.ofChange fnExactTwoReadingsSpec)) fnExactTwoReadingsCard

/-- THE TIED CARD OF 'laws.FnExactLevelsOf'. -/
def fnExactLevelsOfCard : Claim7 := { stood := { row := fnExactLevelsOfRow, standIns := [], harness := (true, "a0ad9ff0190be58d22ce0eb0dfdb0be99cfbf6ab3d0ed59b42bac43281386347"), looks := false }, kinds := [], alts := [], laidByText := true, laidKinds := [.data, .pinned], laidTests := true, laidLooks := .later }
def FnExactLevelsOfCardSaid : Prop := Claim7.holds Tryd.pinned (.plain (OpenSpec.ofChange fnExactLevelsOfSpec)) fnExactLevelsOfCard

/-- THE TIED CARD OF 'laws.FnExactShrinkPrefix'. -/
def fnExactShrinkPrefixCard : Claim7 := { stood := { row := fnExactShrinkPrefixRow, standIns := [], harness := (true, "a0ad9ff0190be58d22ce0eb0dfdb0be99cfbf6ab3d0ed59b42bac43281386347"), looks := false }, kinds := [], alts := [], laidByText := true, laidKinds := [.data, .pinned], laidTests := true, laidLooks := .later }
def FnExactShrinkPrefixCardSaid : Prop := Claim7.holds Tryd.pinned (.plain (OpenSpec.ofChange fnExactShrinkPrefixSpec)) fnExactShrinkPrefixCard

/-- THE SECOND FORM's CARD OF 'laws.FnExactStatesOf'. -/
def fnExactStatesOfUptoCard : Claim7 := { stood := { row := fnExactStatesOfUptoRow, standIns := [], harness := (true, "a0ad9ff0190be58d22ce0eb0dfdb0be99cfbf6ab3d0ed59b42bac43281386347"), looks := false }, kinds := [], alts := [], laidByText := true, laidKinds := [.data, .pinned], laidTests := true, laidLooks := .later }
def FnExactStatesOfUptoCardSaid : Prop := Claim7.holds Tryd.pinned (.plain (OpenSpec.upto fnExactStatesOfSpec)) fnExactStatesOfUptoCard

/-- THE SECOND FORM's CARD OF 'laws.FnExactShortestDouble'. -/
def fnExactShortestDoubleUptoCard : Claim7 := { stood := { row := fnExactShortestDoubleUptoRow, standIns := [], harness := (true, "a0ad9ff0190be58d22ce0eb0dfdb0be99cfbf6ab3d0ed59b42bac43281386347"), looks := false }, kinds := [], alts := [], laidByText := true, laidKinds := [.data, .pinned], laidTests := true, laidLooks := .later }
def FnExactShortestDoubleUptoCardSaid : Prop := Claim7.holds Tryd.pinned (.plain (OpenSpec.upto fnExactShortestDoubleSpec)) fnExactShortestDoubleUptoCard

/-- THE SECOND FORM's CARD OF 'laws.FnExactAllReadings'. -/
def fnExactAllReadingsUptoCard : Claim7 := { stood := { row := fnExactAllReadingsUptoRow, standIns := [], harness := (true, "a0ad9ff0190be58d22ce0eb0dfdb0be99cfbf6ab3d0ed59b42bac43281386347"), looks := false }, kinds := [], alts := [], laidByText := true, laidKinds := [.data, .pinned], laidTests := true, laidLooks := .later }
def FnExactAllReadingsUptoCardSaid : Prop := Claim7.holds Tryd.pinned (.plain (OpenSpec.upto fnExactAllReadingsSpec)) fnExactAllReadingsUptoCard

/-- THE SECOND FORM's CARD OF 'laws.FnExactTwoReadings'. -/
def fnExactTwoReadingsUptoCard : Claim7 := { stood := { row := fnExactTwoReadingsUptoRow, standIns := [], harness := (true, "a0ad9ff0190be58d22ce0eb0dfdb0be99cfbf6ab3d0ed59b42bac43281386347"), looks := false }, kinds := [], alts := [], laidByText := true, laidKinds := [.data, .pinned], laidTests := true, laidLooks := .later }
def FnExactTwoReadingsUptoCardSaid : Prop := Claim7.holds Tryd.pinned (.plain (OpenSpec.upto fnExactTwoReadingsSpec)) fnExactTwoReadingsUptoCard

/-- THE SECOND FORM's CARD OF 'laws.FnExactLevelsOf'. -/
def fnExactLevelsOfUptoCard : Claim7 := { stood := { row := fnExactLevelsOfUptoRow, standIns := [], harness := (true, "a0ad9ff0190be58d22ce0eb0dfdb0be99cfbf6ab3d0ed59b42bac43281386347"), looks := false }, kinds := [], alts := [], laidByText := true, laidKinds := [.data, .pinned], laidTests := true, laidLooks := .later }
def FnExactLevelsOfUptoCardSaid : Prop := Claim7.holds Tryd.pinned (.plain (OpenSpec.upto fnExactLevelsOfSpec)) fnExactLevelsOfUptoCard

/-- THE SECOND FORM's CARD OF 'laws.FnExactShrinkPrefix'. -/
def fnExactShrinkPrefixUptoCard : Claim7 := { stood := { row := fnExactShrinkPrefixUptoRow, standIns := [], harness := (true, "a0ad9ff0190be58d22ce0eb0dfdb0be99cfbf6ab3d0ed59b42bac43281386347"), looks := false }, kinds := [], alts := [], laidByText := true, laidKinds := [.data, .pinned], laidTests := true, laidLooks := .later }
def FnExactShrinkPrefixUptoCardSaid : Prop := Claim7.holds Tryd.pinned (.plain (OpenSpec.upto fnExactShrinkPrefixSpec)) fnExactShrinkPrefixUptoCard
end Rows
end Go.Proofs.YtidjjcgfdkmefaaDoor

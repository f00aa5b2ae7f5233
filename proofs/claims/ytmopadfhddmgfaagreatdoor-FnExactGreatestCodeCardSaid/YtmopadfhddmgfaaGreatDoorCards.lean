/-
  DERIVED. GIVEN WITH THE SEED: THE CARDS: each row of YtmopadfhddmgfaaGreatDoorRows.lean that lists a variable, with what it lists TIED to the program's text (the seventh form; the later family's looks); each row that meets fmt, with fmt's text TOLD by the authors' own Lean function (tested against real Go, not proved from fmt's source: count such statements apart). THE CARD IS WHAT COUNTS. Prove the row's statement (the work); the ties are given (YtmopadfhddmgfaaGreatDoorTie.lean); close each card by the builder's one call (the guide's Derived/Test/ToyasCard.lean, 'card_holds'). Laid BY PROGRAM, IN A SANDBOX (cutbox-door.mjs). By AI agents, Wed Nov 11 2026. No macro, syntax, notation, axiom, sorry.
-/
import Derived.Test.YtmopadfhddmgfaaGreatDoorRows
import GoSem.ClaimSeven
namespace Go.Proofs.YtmopadfhddmgfaaGreatDoor
namespace Rows

/-- THE TIED CARD OF 'laws.FnExactDanglingOf'. -/
def fnExactDanglingOfCard : Claim7 := { stood := { row := fnExactDanglingOfRow, standIns := [], harness := (true, "5835481402def071d55d54b4b922bc87a8ecef5b2799018cb76027987850edb7"), looks := false }, kinds := [], alts := [], laidByText := true, laidKinds := [.data, .pinned], laidTests := true, laidLooks := .later }
def FnExactDanglingOfCardSaid : Prop := Claim7.holds Tryz.pinned (.plain (OpenSpec.ofChange fnExactDanglingOfSpec)) fnExactDanglingOfCard

/-- THE TIED CARD OF 'laws.FnExactGreatestCode'. -/
def fnExactGreatestCodeCard : Claim7 := { stood := { row := fnExactGreatestCodeRow, standIns := [], harness := (true, "5835481402def071d55d54b4b922bc87a8ecef5b2799018cb76027987850edb7"), looks := false }, kinds := [], alts := [], laidByText := true, laidKinds := [.data, .pinned], laidTests := true, laidLooks := .later }
def FnExactGreatestCodeCardSaid : Prop := Claim7.holds Tryz.pinned (.plain (OpenSpec.ofChange fnExactGreatestCodeSpec)) fnExactGreatestCodeCard

/-- THE TIED CARD OF 'laws.FnExactFactorOver'. -/
def fnExactFactorOverCard : Claim7 := { stood := { row := fnExactFactorOverRow, standIns := [], harness := (true, "5835481402def071d55d54b4b922bc87a8ecef5b2799018cb76027987850edb7"), looks := false }, kinds := [], alts := [], laidByText := true, laidKinds := [.data, .pinned], laidTests := true, laidLooks := .later }
def FnExactFactorOverCardSaid : Prop := Claim7.holds Tryz.pinned (.plain (OpenSpec.ofChange fnExactFactorOverSpec)) fnExactFactorOverCard

/-- THE SECOND FORM's CARD OF 'laws.FnExactDanglingOf'. -/
def fnExactDanglingOfUptoCard : Claim7 := { stood := { row := fnExactDanglingOfUptoRow, standIns := [], harness := (true, "5835481402def071d55d54b4b922bc87a8ecef5b2799018cb76027987850edb7"), looks := false }, kinds := [], alts := [], laidByText := true, laidKinds := [.data, .pinned], laidTests := true, laidLooks := .later }
def FnExactDanglingOfUptoCardSaid : Prop := Claim7.holds Tryz.pinned (.plain (OpenSpec.upto fnExactDanglingOfSpec)) fnExactDanglingOfUptoCard

/-- THE SECOND FORM's CARD OF 'laws.FnExactGreatestCode'. -/
def fnExactGreatestCodeUptoCard : Claim7 := { stood := { row := fnExactGreatestCodeUptoRow, standIns := [], harness := (true, "5835481402def071d55d54b4b922bc87a8ecef5b2799018cb76027987850edb7"), looks := false }, kinds := [], alts := [], laidByText := true, laidKinds := [.data, .pinned], laidTests := true, laidLooks := .later }
def FnExactGreatestCodeUptoCardSaid : Prop := Claim7.holds Tryz.pinned (.plain (OpenSpec.upto fnExactGreatestCodeSpec)) fnExactGreatestCodeUptoCard

/-- THE SECOND FORM's CARD OF 'laws.FnExactFactorOver'. -/
def fnExactFactorOverUptoCard : Claim7 := { stood := { row := fnExactFactorOverUptoRow, standIns := [], harness := (true, "5835481402def071d55d54b4b922bc87a8ecef5b2799018cb76027987850edb7"), looks := false }, kinds := [], alts := [], laidByText := true, laidKinds := [.data, .pinned], laidTests := true, laidLooks := .later }
def FnExactFactorOverUptoCardSaid : Prop := Claim7.holds Tryz.pinned (.plain (OpenSpec.upto fnExactFactorOverSpec)) fnExactFactorOverUptoCard
end Rows
end Go.Proofs.YtmopadfhddmgfaaGreatDoor

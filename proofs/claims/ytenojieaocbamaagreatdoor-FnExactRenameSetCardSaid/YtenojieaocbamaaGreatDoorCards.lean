/-
  DERIVED. GIVEN WITH THE SEED: THE CARDS: each row of YtenojieaocbamaaGreatDoorRows.lean that lists a variable, with what it lists TIED to the program's text (the seventh form; the later family's looks); each row that meets fmt, with fmt's text TOLD by the authors' own Lean function (tested against real Go, not proved from fmt's source: count such statements apart). THE CARD IS WHAT COUNTS. Prove the row's statement (the work); the ties are given (YtenojieaocbamaaGreatDoorTie.lean); close each card by the builder's one call (the guide's Derived/Test/ToyasCard.lean, 'card_holds'). Laid BY PROGRAM, IN A SANDBOX (cutbox-door.mjs). By AI agents, Wed Nov 11 2026. No macro, syntax, notation, axiom, sorry.
-/
import Derived.Test.YtenojieaocbamaaGreatDoorRows
import GoSem.ClaimSeven
namespace Go.Proofs.YtenojieaocbamaaGreatDoor
namespace Rows

/-- THE TIED CARD OF 'laws.FnExactRenameSet'. -/
def fnExactRenameSetCard : Claim7 := { stood := { row := fnExactRenameSetRow, standIns := [], harness := (true, "7b4cf378ee1ce667991cd50a9ca6cc574e1c32912256e66e9383b08fffe00975"), looks := false }, kinds := [], alts := [], laidByText := true, laidKinds := [.data, .pinned], laidTests := true, laidLooks := .later }
def FnExactRenameSetCardSaid : Prop := Claim7.holds Tryz.pinned (.plain (OpenSpec.ofChange fnExactRenameSetSpec)) fnExactRenameSetCard

/-- THE SECOND FORM's CARD OF 'laws.FnExactRenameSet'. -/
def fnExactRenameSetUptoCard : Claim7 := { stood := { row := fnExactRenameSetUptoRow, standIns := [], harness := (true, "7b4cf378ee1ce667991cd50a9ca6cc574e1c32912256e66e9383b08fffe00975"), looks := false }, kinds := [], alts := [], laidByText := true, laidKinds := [.data, .pinned], laidTests := true, laidLooks := .later }
def FnExactRenameSetUptoCardSaid : Prop := Claim7.holds Tryz.pinned (.plain (OpenSpec.upto fnExactRenameSetSpec)) fnExactRenameSetUptoCard
end Rows
end Go.Proofs.YtenojieaocbamaaGreatDoor

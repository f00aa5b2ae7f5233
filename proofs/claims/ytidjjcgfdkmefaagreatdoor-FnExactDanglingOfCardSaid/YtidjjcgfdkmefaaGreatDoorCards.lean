/-
  DERIVED. GIVEN WITH THE SEED: THE CARDS: each row of YtidjjcgfdkmefaaGreatDoorRows.lean that lists a variable, with what it lists TIED to the program's text (the seventh form; the later family's looks); each row that meets fmt, with fmt's text TOLD by the authors' own Lean function (tested against real Go, not proved from fmt's source: count such statements apart). THE CARD IS WHAT COUNTS. Prove the row's statement (the work); the ties are given (YtidjjcgfdkmefaaGreatDoorTie.lean); close each card by the builder's one call (the guide's Derived/Test/ToyasCard.lean, 'card_holds'). Laid BY PROGRAM, IN A SANDBOX (cutbox-door.mjs). By AI agents, Wed Nov 11 2026. No macro, syntax, notation, axiom, sorry.
-/
import Derived.Test.YtidjjcgfdkmefaaGreatDoorRows
import GoSem.ClaimSeven
namespace Go.Proofs.YtidjjcgfdkmefaaGreatDoor
namespace Rows

/-- THE TIED CARD OF 'laws.FnExactFactorOver'. -/
def fnExactFactorOverCard : Claim7 := { stood := { row := fnExactFactorOverRow, standIns := [], harness := (true, "13260d084b8abc487ec1ed993de1c5ad6a81527f1e9fb5e238a5462c5fe8ca1d"), looks := false }, kinds := [], alts := [], laidByText := true, laidKinds := [.data, .pinned], laidTests := true, laidLooks := .later }
def FnExactFactorOverCardSaid : Prop := Claim7.holds Tryz.pinned (.plain (OpenSpec.ofChange fnExactFactorOverSpec)) fnExactFactorOverCard

/-- THE TIED CARD OF 'laws.FnExactDanglingOf'. -/
def fnExactDanglingOfCard : Claim7 := { stood := { row := fnExactDanglingOfRow, standIns := [], harness := (true, "13260d084b8abc487ec1ed993de1c5ad6a81527f1e9fb5e238a5462c5fe8ca1d"), looks := false }, kinds := [], alts := [], laidByText := true, laidKinds := [.data, .pinned], laidTests := true, laidLooks := .later }
def FnExactDanglingOfCardSaid : Prop := Claim7.holds Tryz.pinned (.plain (OpenSpec.ofChange fnExactDanglingOfSpec)) fnExactDanglingOfCard

/-- THE SECOND FORM's CARD OF 'laws.FnExactFactorOver'. -/
def fnExactFactorOverUptoCard : Claim7 := { stood := { row := fnExactFactorOverUptoRow, standIns := [], harness := (true, "13260d084b8abc487ec1ed993de1c5ad6a81527f1e9fb5e238a5462c5fe8ca1d"), looks := false }, kinds := [], alts := [], laidByText := true, laidKinds := [.data, .pinned], laidTests := true, laidLooks := .later }
def FnExactFactorOverUptoCardSaid : Prop := Claim7.holds Tryz.pinned (.plain (OpenSpec.upto fnExactFactorOverSpec)) fnExactFactorOverUptoCard

/-- THE SECOND FORM's CARD OF 'laws.FnExactDanglingOf'. -/
def fnExactDanglingOfUptoCard : Claim7 := { stood := { row := fnExactDanglingOfUptoRow, standIns := [], harness := (true, "13260d084b8abc487ec1ed993de1c5ad6a81527f1e9fb5e238a5462c5fe8ca1d"), looks := false }, kinds := [], alts := [], laidByText := true, laidKinds := [.data, .pinned], laidTests := true, laidLooks := .later }
def FnExactDanglingOfUptoCardSaid : Prop := Claim7.holds Tryz.pinned (.plain (OpenSpec.upto fnExactDanglingOfSpec)) fnExactDanglingOfUptoCard
end Rows
end Go.Proofs.YtidjjcgfdkmefaaGreatDoor

/-
  DERIVED. GIVEN WITH THE SEED: THE CARDS: each row of YtnfpcgjdpcmkcaaDoorRows.lean that lists a variable, with what it lists TIED to the program's text (the seventh form; the later family's looks); each row that meets fmt, with fmt's text TOLD by the authors' own Lean function (tested against real Go, not proved from fmt's source: count such statements apart). THE CARD IS WHAT COUNTS. Prove the row's statement (the work); the ties are given (YtnfpcgjdpcmkcaaDoorTie.lean); close each card by the builder's one call (the guide's Derived/Test/ToyasCard.lean, 'card_holds'). Laid BY PROGRAM, IN A SANDBOX (cutbox-door.mjs). By AI agents, Wed Nov 11 2026. No macro, syntax, notation, axiom, sorry.
-/
import Derived.Test.YtnfpcgjdpcmkcaaDoorRows
import GoSem.ClaimSeven
namespace Go.Proofs.YtnfpcgjdpcmkcaaDoor
namespace Rows

/-- THE TIED CARD OF 'laws.FnExactIsWord'. -/
def fnExactIsWordCard : Claim7 := { stood := { row := fnExactIsWordRow, standIns := [], harness := (true, "64a58ae1c24f7385ff716a544d8a292cee0d382552610df1363c7a01fe347e87"), looks := false }, kinds := [], alts := [], laidByText := true, laidKinds := [.data, .pinned], laidTests := true, laidLooks := .later }
def FnExactIsWordCardSaid : Prop := Claim7.holds Tryd.pinned (.plain (OpenSpec.ofChange fnExactIsWordSpec)) fnExactIsWordCard

/-- THE TIED CARD OF 'laws.FnExactBegins'. -/
def fnExactBeginsCard : Claim7 := { stood := { row := fnExactBeginsRow, standIns := [], harness := (true, "64a58ae1c24f7385ff716a544d8a292cee0d382552610df1363c7a01fe347e87"), looks := false }, kinds := [], alts := [], laidByText := true, laidKinds := [.data, .pinned], laidTests := true, laidLooks := .later }
def FnExactBeginsCardSaid : Prop := Claim7.holds Tryd.pinned (.plain (OpenSpec.ofChange fnExactBeginsSpec)) fnExactBeginsCard

/-- THE TIED CARD OF 'laws.FnExactEnds'. -/
def fnExactEndsCard : Claim7 := { stood := { row := fnExactEndsRow, standIns := [], harness := (true, "64a58ae1c24f7385ff716a544d8a292cee0d382552610df1363c7a01fe347e87"), looks := false }, kinds := [], alts := [], laidByText := true, laidKinds := [.data, .pinned], laidTests := true, laidLooks := .later }
def FnExactEndsCardSaid : Prop := Claim7.holds Tryd.pinned (.plain (OpenSpec.ofChange fnExactEndsSpec)) fnExactEndsCard

/-- THE SECOND FORM's CARD OF 'laws.FnExactIsWord'. -/
def fnExactIsWordUptoCard : Claim7 := { stood := { row := fnExactIsWordUptoRow, standIns := [], harness := (true, "64a58ae1c24f7385ff716a544d8a292cee0d382552610df1363c7a01fe347e87"), looks := false }, kinds := [], alts := [], laidByText := true, laidKinds := [.data, .pinned], laidTests := true, laidLooks := .later }
def FnExactIsWordUptoCardSaid : Prop := Claim7.holds Tryd.pinned (.plain (OpenSpec.upto fnExactIsWordSpec)) fnExactIsWordUptoCard

/-- THE SECOND FORM's CARD OF 'laws.FnExactBegins'. -/
def fnExactBeginsUptoCard : Claim7 := { stood := { row := fnExactBeginsUptoRow, standIns := [], harness := (true, "64a58ae1c24f7385ff716a544d8a292cee0d382552610df1363c7a01fe347e87"), looks := false }, kinds := [], alts := [], laidByText := true, laidKinds := [.data, .pinned], laidTests := true, laidLooks := .later }
def FnExactBeginsUptoCardSaid : Prop := Claim7.holds Tryd.pinned (.plain (OpenSpec.upto fnExactBeginsSpec)) fnExactBeginsUptoCard

/-- THE SECOND FORM's CARD OF 'laws.FnExactEnds'. -/
def fnExactEndsUptoCard : Claim7 := { stood := { row := fnExactEndsUptoRow, standIns := [], harness := (true, "64a58ae1c24f7385ff716a544d8a292cee0d382552610df1363c7a01fe347e87"), looks := false }, kinds := [], alts := [], laidByText := true, laidKinds := [.data, .pinned], laidTests := true, laidLooks := .later }
def FnExactEndsUptoCardSaid : Prop := Claim7.holds Tryd.pinned (.plain (OpenSpec.upto fnExactEndsSpec)) fnExactEndsUptoCard
end Rows
end Go.Proofs.YtnfpcgjdpcmkcaaDoor

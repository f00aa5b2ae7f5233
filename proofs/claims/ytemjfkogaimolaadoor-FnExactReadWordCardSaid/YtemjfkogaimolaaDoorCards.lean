/-
  DERIVED. GIVEN WITH THE SEED: THE CARDS: each row of YtemjfkogaimolaaDoorRows.lean that lists a variable, with what it lists TIED to the program's text (the seventh form; the later family's looks); each row that meets fmt, with fmt's text TOLD by the authors' own Lean function (tested against real Go, not proved from fmt's source: count such statements apart). THE CARD IS WHAT COUNTS. Prove the row's statement (the work); the ties are given (YtemjfkogaimolaaDoorTie.lean); close each card by the builder's one call (the guide's Derived/Test/ToyasCard.lean, 'card_holds'). Laid BY PROGRAM, IN A SANDBOX (cutbox-door.mjs). By AI agents, Wed Nov 11 2026. No macro, syntax, notation, axiom, sorry.
-/
import Derived.Test.YtemjfkogaimolaaDoorRows
import GoSem.ClaimSeven
namespace Go.Proofs.YtemjfkogaimolaaDoor
namespace Rows

/-- THE TIED CARD OF 'laws.FnExactReadWord'. -/
def fnExactReadWordCard : Claim7 := { stood := { row := fnExactReadWordRow, standIns := [], harness := (true, "e0a31fa45e1a2e005948e09b9cf82b6e1a43ad1c3a84f334a03b5995f67f4a23"), looks := false }, kinds := [], alts := [], laidByText := true, laidKinds := [.data, .pinned], laidTests := true, laidLooks := .later }
def FnExactReadWordCardSaid : Prop := Claim7.holds Tryd.pinned (.plain (OpenSpec.ofChange fnExactReadWordSpec)) fnExactReadWordCard

/-- THE TIED CARD OF 'laws.FnExactCountWritten'. -/
def fnExactCountWrittenCard : Claim7 := { stood := { row := fnExactCountWrittenRow, standIns := [], harness := (true, "e0a31fa45e1a2e005948e09b9cf82b6e1a43ad1c3a84f334a03b5995f67f4a23"), looks := false }, kinds := [], alts := [], laidByText := true, laidKinds := [.data, .pinned], laidTests := true, laidLooks := .later }
def FnExactCountWrittenCardSaid : Prop := Claim7.holds Tryd.pinned (.plain (OpenSpec.ofChange fnExactCountWrittenSpec)) fnExactCountWrittenCard

/-- THE SECOND FORM's CARD OF 'laws.FnExactReadWord'. -/
def fnExactReadWordUptoCard : Claim7 := { stood := { row := fnExactReadWordUptoRow, standIns := [], harness := (true, "e0a31fa45e1a2e005948e09b9cf82b6e1a43ad1c3a84f334a03b5995f67f4a23"), looks := false }, kinds := [], alts := [], laidByText := true, laidKinds := [.data, .pinned], laidTests := true, laidLooks := .later }
def FnExactReadWordUptoCardSaid : Prop := Claim7.holds Tryd.pinned (.plain (OpenSpec.upto fnExactReadWordSpec)) fnExactReadWordUptoCard

/-- THE SECOND FORM's CARD OF 'laws.FnExactCountWritten'. -/
def fnExactCountWrittenUptoCard : Claim7 := { stood := { row := fnExactCountWrittenUptoRow, standIns := [], harness := (true, "e0a31fa45e1a2e005948e09b9cf82b6e1a43ad1c3a84f334a03b5995f67f4a23"), looks := false }, kinds := [], alts := [], laidByText := true, laidKinds := [.data, .pinned], laidTests := true, laidLooks := .later }
def FnExactCountWrittenUptoCardSaid : Prop := Claim7.holds Tryd.pinned (.plain (OpenSpec.upto fnExactCountWrittenSpec)) fnExactCountWrittenUptoCard
end Rows
end Go.Proofs.YtemjfkogaimolaaDoor

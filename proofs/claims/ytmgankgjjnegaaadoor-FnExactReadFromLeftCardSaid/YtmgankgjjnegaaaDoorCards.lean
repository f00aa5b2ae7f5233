/-
  DERIVED. GIVEN WITH THE SEED: THE CARDS: each row of YtmgankgjjnegaaaDoorRows.lean that lists a variable, with what it lists TIED to the program's text (the seventh form; the later family's looks); each row that meets fmt, with fmt's text TOLD by the authors' own Lean function (tested against real Go, not proved from fmt's source: count such statements apart). THE CARD IS WHAT COUNTS. Prove the row's statement (the work); the ties are given (YtmgankgjjnegaaaDoorTie.lean); close each card by the builder's one call (the guide's Derived/Test/ToyasCard.lean, 'card_holds'). Laid BY PROGRAM, IN A SANDBOX (cutbox-door.mjs). By AI agents, Wed Nov 11 2026. No macro, syntax, notation, axiom, sorry.
-/
import Derived.Test.YtmgankgjjnegaaaDoorRows
import GoSem.ClaimSeven
namespace Go.Proofs.YtmgankgjjnegaaaDoor
namespace Rows

/-- THE TIED CARD OF 'laws.FnExactCountMessages'. -/
def fnExactCountMessagesCard : Claim7 := { stood := { row := fnExactCountMessagesRow, standIns := [], harness := (true, "0e2f0e57daf1f7f6410018f62d3af05b3df52b081865e888c05bd93bff659c12"), looks := false }, kinds := [], alts := [], laidByText := true, laidKinds := [.data, .pinned], laidTests := true, laidLooks := .later }
def FnExactCountMessagesCardSaid : Prop := Claim7.holds Tryd.pinned (.plain (OpenSpec.ofChange fnExactCountMessagesSpec)) fnExactCountMessagesCard

/-- THE TIED CARD OF 'laws.FnExactCountReadings'. -/
def fnExactCountReadingsCard : Claim7 := { stood := { row := fnExactCountReadingsRow, standIns := [], harness := (true, "0e2f0e57daf1f7f6410018f62d3af05b3df52b081865e888c05bd93bff659c12"), looks := false }, kinds := [], alts := [], laidByText := true, laidKinds := [.data, .pinned], laidTests := true, laidLooks := .later }
def FnExactCountReadingsCardSaid : Prop := Claim7.holds Tryd.pinned (.plain (OpenSpec.ofChange fnExactCountReadingsSpec)) fnExactCountReadingsCard

/-- THE TIED CARD OF 'laws.FnExactCanRead'. -/
def fnExactCanReadCard : Claim7 := { stood := { row := fnExactCanReadRow, standIns := [], harness := (true, "0e2f0e57daf1f7f6410018f62d3af05b3df52b081865e888c05bd93bff659c12"), looks := false }, kinds := [], alts := [], laidByText := true, laidKinds := [.data, .pinned], laidTests := true, laidLooks := .later }
def FnExactCanReadCardSaid : Prop := Claim7.holds Tryd.pinned (.plain (OpenSpec.ofChange fnExactCanReadSpec)) fnExactCanReadCard

/-- THE TIED CARD OF 'laws.FnExactIsUniquelyRead'. -/
def fnExactIsUniquelyReadCard : Claim7 := { stood := { row := fnExactIsUniquelyReadRow, standIns := [], harness := (true, "0e2f0e57daf1f7f6410018f62d3af05b3df52b081865e888c05bd93bff659c12"), looks := false }, kinds := [], alts := [], laidByText := true, laidKinds := [.data, .pinned], laidTests := true, laidLooks := .later }
def FnExactIsUniquelyReadCardSaid : Prop := Claim7.holds Tryd.pinned (.plain (OpenSpec.ofChange fnExactIsUniquelyReadSpec)) fnExactIsUniquelyReadCard

/-- THE TIED CARD OF 'laws.FnExactReadWord'. -/
def fnExactReadWordCard : Claim7 := { stood := { row := fnExactReadWordRow, standIns := [], harness := (true, "0e2f0e57daf1f7f6410018f62d3af05b3df52b081865e888c05bd93bff659c12"), looks := false }, kinds := [], alts := [], laidByText := true, laidKinds := [.data, .pinned], laidTests := true, laidLooks := .later }
def FnExactReadWordCardSaid : Prop := Claim7.holds Tryd.pinned (.plain (OpenSpec.ofChange fnExactReadWordSpec)) fnExactReadWordCard

/-- THE TIED CARD OF 'laws.FnExactAllReadings'. -/
def fnExactAllReadingsCard : Claim7 := { stood := { row := fnExactAllReadingsRow, standIns := [], harness := (true, "0e2f0e57daf1f7f6410018f62d3af05b3df52b081865e888c05bd93bff659c12"), looks := false }, kinds := [], alts := [], laidByText := true, laidKinds := [.data, .pinned], laidTests := true, laidLooks := .later }
def FnExactAllReadingsCardSaid : Prop := Claim7.holds Tryd.pinned (.plain (OpenSpec.ofChange fnExactAllReadingsSpec)) fnExactAllReadingsCard

/-- THE TIED CARD OF 'laws.FnExactCountWritten'. -/
def fnExactCountWrittenCard : Claim7 := { stood := { row := fnExactCountWrittenRow, standIns := [], harness := (true, "0e2f0e57daf1f7f6410018f62d3af05b3df52b081865e888c05bd93bff659c12"), looks := false }, kinds := [], alts := [], laidByText := true, laidKinds := [.data, .pinned], laidTests := true, laidLooks := .later }
def FnExactCountWrittenCardSaid : Prop := Claim7.holds Tryd.pinned (.plain (OpenSpec.ofChange fnExactCountWrittenSpec)) fnExactCountWrittenCard

/-- THE TIED CARD OF 'laws.FnExactWriteMessage'. -/
def fnExactWriteMessageCard : Claim7 := { stood := { row := fnExactWriteMessageRow, standIns := [], harness := (true, "0e2f0e57daf1f7f6410018f62d3af05b3df52b081865e888c05bd93bff659c12"), looks := false }, kinds := [], alts := [], laidByText := true, laidKinds := [.data, .pinned], laidTests := true, laidLooks := .later }
def FnExactWriteMessageCardSaid : Prop := Claim7.holds Tryd.pinned (.plain (OpenSpec.ofChange fnExactWriteMessageSpec)) fnExactWriteMessageCard

/-- THE TIED CARD OF 'laws.FnExactReadFromLeft'. -/
def fnExactReadFromLeftCard : Claim7 := { stood := { row := fnExactReadFromLeftRow, standIns := [], harness := (true, "0e2f0e57daf1f7f6410018f62d3af05b3df52b081865e888c05bd93bff659c12"), looks := false }, kinds := [], alts := [], laidByText := true, laidKinds := [.data, .pinned], laidTests := true, laidLooks := .later }
def FnExactReadFromLeftCardSaid : Prop := Claim7.holds Tryd.pinned (.plain (OpenSpec.ofChange fnExactReadFromLeftSpec)) fnExactReadFromLeftCard

/-- THE TIED CARD OF 'laws.FnExactIsCommaFree'. -/
def fnExactIsCommaFreeCard : Claim7 := { stood := { row := fnExactIsCommaFreeRow, standIns := [], harness := (true, "0e2f0e57daf1f7f6410018f62d3af05b3df52b081865e888c05bd93bff659c12"), looks := false }, kinds := [], alts := [], laidByText := true, laidKinds := [.data, .pinned], laidTests := true, laidLooks := .later }
def FnExactIsCommaFreeCardSaid : Prop := Claim7.holds Tryd.pinned (.plain (OpenSpec.ofChange fnExactIsCommaFreeSpec)) fnExactIsCommaFreeCard

/-- THE TIED CARD OF 'laws.FnExactFirstInside'. -/
def fnExactFirstInsideCard : Claim7 := { stood := { row := fnExactFirstInsideRow, standIns := [], harness := (true, "0e2f0e57daf1f7f6410018f62d3af05b3df52b081865e888c05bd93bff659c12"), looks := false }, kinds := [], alts := [], laidByText := true, laidKinds := [.data, .pinned], laidTests := true, laidLooks := .later }
def FnExactFirstInsideCardSaid : Prop := Claim7.holds Tryd.pinned (.plain (OpenSpec.ofChange fnExactFirstInsideSpec)) fnExactFirstInsideCard

/-- THE TIED CARD OF 'laws.FnExactParseSet'. -/
def fnExactParseSetCard : Claim7 := { stood := { row := fnExactParseSetRow, standIns := [], harness := (true, "0e2f0e57daf1f7f6410018f62d3af05b3df52b081865e888c05bd93bff659c12"), looks := false }, kinds := [], alts := [], laidByText := true, laidKinds := [.data, .pinned], laidTests := true, laidLooks := .later }
def FnExactParseSetCardSaid : Prop := Claim7.holds Tryd.pinned (.plain (OpenSpec.ofChange fnExactParseSetSpec)) fnExactParseSetCard

/-- THE SECOND FORM's CARD OF 'laws.FnExactCountMessages'. -/
def fnExactCountMessagesUptoCard : Claim7 := { stood := { row := fnExactCountMessagesUptoRow, standIns := [], harness := (true, "0e2f0e57daf1f7f6410018f62d3af05b3df52b081865e888c05bd93bff659c12"), looks := false }, kinds := [], alts := [], laidByText := true, laidKinds := [.data, .pinned], laidTests := true, laidLooks := .later }
def FnExactCountMessagesUptoCardSaid : Prop := Claim7.holds Tryd.pinned (.plain (OpenSpec.upto fnExactCountMessagesSpec)) fnExactCountMessagesUptoCard

/-- THE SECOND FORM's CARD OF 'laws.FnExactCountReadings'. -/
def fnExactCountReadingsUptoCard : Claim7 := { stood := { row := fnExactCountReadingsUptoRow, standIns := [], harness := (true, "0e2f0e57daf1f7f6410018f62d3af05b3df52b081865e888c05bd93bff659c12"), looks := false }, kinds := [], alts := [], laidByText := true, laidKinds := [.data, .pinned], laidTests := true, laidLooks := .later }
def FnExactCountReadingsUptoCardSaid : Prop := Claim7.holds Tryd.pinned (.plain (OpenSpec.upto fnExactCountReadingsSpec)) fnExactCountReadingsUptoCard

/-- THE SECOND FORM's CARD OF 'laws.FnExactCanRead'. -/
def fnExactCanReadUptoCard : Claim7 := { stood := { row := fnExactCanReadUptoRow, standIns := [], harness := (true, "0e2f0e57daf1f7f6410018f62d3af05b3df52b081865e888c05bd93bff659c12"), looks := false }, kinds := [], alts := [], laidByText := true, laidKinds := [.data, .pinned], laidTests := true, laidLooks := .later }
def FnExactCanReadUptoCardSaid : Prop := Claim7.holds Tryd.pinned (.plain (OpenSpec.upto fnExactCanReadSpec)) fnExactCanReadUptoCard

/-- THE SECOND FORM's CARD OF 'laws.FnExactIsUniquelyRead'. -/
def fnExactIsUniquelyReadUptoCard : Claim7 := { stood := { row := fnExactIsUniquelyReadUptoRow, standIns := [], harness := (true, "0e2f0e57daf1f7f6410018f62d3af05b3df52b081865e888c05bd93bff659c12"), looks := false }, kinds := [], alts := [], laidByText := true, laidKinds := [.data, .pinned], laidTests := true, laidLooks := .later }
def FnExactIsUniquelyReadUptoCardSaid : Prop := Claim7.holds Tryd.pinned (.plain (OpenSpec.upto fnExactIsUniquelyReadSpec)) fnExactIsUniquelyReadUptoCard

/-- THE SECOND FORM's CARD OF 'laws.FnExactReadWord'. -/
def fnExactReadWordUptoCard : Claim7 := { stood := { row := fnExactReadWordUptoRow, standIns := [], harness := (true, "0e2f0e57daf1f7f6410018f62d3af05b3df52b081865e888c05bd93bff659c12"), looks := false }, kinds := [], alts := [], laidByText := true, laidKinds := [.data, .pinned], laidTests := true, laidLooks := .later }
def FnExactReadWordUptoCardSaid : Prop := Claim7.holds Tryd.pinned (.plain (OpenSpec.upto fnExactReadWordSpec)) fnExactReadWordUptoCard

/-- THE SECOND FORM's CARD OF 'laws.FnExactAllReadings'. -/
def fnExactAllReadingsUptoCard : Claim7 := { stood := { row := fnExactAllReadingsUptoRow, standIns := [], harness := (true, "0e2f0e57daf1f7f6410018f62d3af05b3df52b081865e888c05bd93bff659c12"), looks := false }, kinds := [], alts := [], laidByText := true, laidKinds := [.data, .pinned], laidTests := true, laidLooks := .later }
def FnExactAllReadingsUptoCardSaid : Prop := Claim7.holds Tryd.pinned (.plain (OpenSpec.upto fnExactAllReadingsSpec)) fnExactAllReadingsUptoCard

/-- THE SECOND FORM's CARD OF 'laws.FnExactCountWritten'. -/
def fnExactCountWrittenUptoCard : Claim7 := { stood := { row := fnExactCountWrittenUptoRow, standIns := [], harness := (true, "0e2f0e57daf1f7f6410018f62d3af05b3df52b081865e888c05bd93bff659c12"), looks := false }, kinds := [], alts := [], laidByText := true, laidKinds := [.data, .pinned], laidTests := true, laidLooks := .later }
def FnExactCountWrittenUptoCardSaid : Prop := Claim7.holds Tryd.pinned (.plain (OpenSpec.upto fnExactCountWrittenSpec)) fnExactCountWrittenUptoCard

/-- THE SECOND FORM's CARD OF 'laws.FnExactWriteMessage'. -/
def fnExactWriteMessageUptoCard : Claim7 := { stood := { row := fnExactWriteMessageUptoRow, standIns := [], harness := (true, "0e2f0e57daf1f7f6410018f62d3af05b3df52b081865e888c05bd93bff659c12"), looks := false }, kinds := [], alts := [], laidByText := true, laidKinds := [.data, .pinned], laidTests := true, laidLooks := .later }
def FnExactWriteMessageUptoCardSaid : Prop := Claim7.holds Tryd.pinned (.plain (OpenSpec.upto fnExactWriteMessageSpec)) fnExactWriteMessageUptoCard

/-- THE SECOND FORM's CARD OF 'laws.FnExactReadFromLeft'. -/
def fnExactReadFromLeftUptoCard : Claim7 := { stood := { row := fnExactReadFromLeftUptoRow, standIns := [], harness := (true, "0e2f0e57daf1f7f6410018f62d3af05b3df52b081865e888c05bd93bff659c12"), looks := false }, kinds := [], alts := [], laidByText := true, laidKinds := [.data, .pinned], laidTests := true, laidLooks := .later }
def FnExactReadFromLeftUptoCardSaid : Prop := Claim7.holds Tryd.pinned (.plain (OpenSpec.upto fnExactReadFromLeftSpec)) fnExactReadFromLeftUptoCard

/-- THE SECOND FORM's CARD OF 'laws.FnExactIsCommaFree'. -/
def fnExactIsCommaFreeUptoCard : Claim7 := { stood := { row := fnExactIsCommaFreeUptoRow, standIns := [], harness := (true, "0e2f0e57daf1f7f6410018f62d3af05b3df52b081865e888c05bd93bff659c12"), looks := false }, kinds := [], alts := [], laidByText := true, laidKinds := [.data, .pinned], laidTests := true, laidLooks := .later }
def FnExactIsCommaFreeUptoCardSaid : Prop := Claim7.holds Tryd.pinned (.plain (OpenSpec.upto fnExactIsCommaFreeSpec)) fnExactIsCommaFreeUptoCard

/-- THE SECOND FORM's CARD OF 'laws.FnExactFirstInside'. -/
def fnExactFirstInsideUptoCard : Claim7 := { stood := { row := fnExactFirstInsideUptoRow, standIns := [], harness := (true, "0e2f0e57daf1f7f6410018f62d3af05b3df52b081865e888c05bd93bff659c12"), looks := false }, kinds := [], alts := [], laidByText := true, laidKinds := [.data, .pinned], laidTests := true, laidLooks := .later }
def FnExactFirstInsideUptoCardSaid : Prop := Claim7.holds Tryd.pinned (.plain (OpenSpec.upto fnExactFirstInsideSpec)) fnExactFirstInsideUptoCard

/-- THE SECOND FORM's CARD OF 'laws.FnExactParseSet'. -/
def fnExactParseSetUptoCard : Claim7 := { stood := { row := fnExactParseSetUptoRow, standIns := [], harness := (true, "0e2f0e57daf1f7f6410018f62d3af05b3df52b081865e888c05bd93bff659c12"), looks := false }, kinds := [], alts := [], laidByText := true, laidKinds := [.data, .pinned], laidTests := true, laidLooks := .later }
def FnExactParseSetUptoCardSaid : Prop := Claim7.holds Tryd.pinned (.plain (OpenSpec.upto fnExactParseSetSpec)) fnExactParseSetUptoCard
end Rows
end Go.Proofs.YtmgankgjjnegaaaDoor

/-
  NARROWER THAN 'FOR EVERY INPUT', by the rows' own cells (each row's printed sentence says how): FnExactCountMessages: laid · FnExactCountReadings: laid · FnExactCanRead: laid · FnExactIsUniquelyRead: laid · FnExactReadWord: laid · FnExactAllReadings: laid · FnExactCountWritten: laid · FnExactWriteMessage: laid · FnExactReadFromLeft: laid · FnExactIsCommaFree: laid · FnExactFirstInside: laid · FnExactParseSet: laid.
  DERIVED. THE GIVEN ROWS OF THIS SEAT. 12 by the template 'for every input the law returns true; each argument reads behind the call as it read before'; 0 by the template 'total and deterministic' (their statements: YtmgankgjjnegaaaDoorTotals.lean).
  GIVEN WITH THE SEED: the statements are not yours to turn. If you find one false, say at which input.
  Laid BY PROGRAM, IN A SANDBOX (cutbox-rows.mjs): the forced cells as the released guide's own fill.sh prints them over the translation cae7362c490e0113… (all of the seat's roots in one cut). By AI agents, Wed Nov 11 2026. No macro, syntax, notation, axiom, sorry.
-/
import Derived.Test.YtmgankgjjnegaaaDoorChecked
import GoSem.PinnedTables
import GoSem.Claim
import GoSem.ClaimJoined
import GoSem.ClaimMapViews
import Derived.JoinedTies
import Derived.KernelRfl
namespace Go.Proofs.YtmgankgjjnegaaaDoor
/- THE CELL 'sum', in the pinned program and in every row, IS THE sha256 OF THE DUMP (.gsa) THAT YtmgankgjjnegaaaDoorProg.lean LOADS. Nothing in Lean hashes anything: it is a label: what it is worth is what the hold of that sum in a sandbox is worth. -/
noncomputable def Tryd.pinned : Pinned := { name := "ytmgankgjjnegaaadoor", sum := "cae7362c490e0113b83de58cc267ce3cfc0c37bf82e5b928eabd2e5657130d85", checked := Tryd.checked }
namespace Rows
def none {H : Type} : Left H := { results := [], args := [] }

/- WHAT THE LISTED PACKAGE-LEVEL VARIABLES READ AS WHEN THE CALL BEGINS. Each datum BY PROGRAM (the guide's laid-datum.mjs) off the statement by which the dump's own 'gosem.cut.vars' lays the variable. In a bare row this is a premise. The card (YtmgankgjjnegaaaDoorCards.lean) ties it to the program's text. -/
def laid_unicode_utf8_acceptRanges {H : Type} : DataW H := .agg [.agg [.lit (.int .u8 128), .lit (.int .u8 191)], .agg [.lit (.int .u8 160), .lit (.int .u8 191)], .agg [.lit (.int .u8 128), .lit (.int .u8 159)], .agg [.lit (.int .u8 144), .lit (.int .u8 191)], .agg [.lit (.int .u8 128), .lit (.int .u8 143)], .agg [.lit (.int .u8 0), .lit (.int .u8 0)], .agg [.lit (.int .u8 0), .lit (.int .u8 0)], .agg [.lit (.int .u8 0), .lit (.int .u8 0)], .agg [.lit (.int .u8 0), .lit (.int .u8 0)], .agg [.lit (.int .u8 0), .lit (.int .u8 0)], .agg [.lit (.int .u8 0), .lit (.int .u8 0)], .agg [.lit (.int .u8 0), .lit (.int .u8 0)], .agg [.lit (.int .u8 0), .lit (.int .u8 0)], .agg [.lit (.int .u8 0), .lit (.int .u8 0)], .agg [.lit (.int .u8 0), .lit (.int .u8 0)], .agg [.lit (.int .u8 0), .lit (.int .u8 0)]]
/-- One of Go's own tables, pinned by name: the form's constant. -/
def laid_unicode_utf8_first : DataW Unit := Go.Pinned.utf8First

/-- 'laws.FnExactCountMessages': WHATEVER THE INPUT: true; the input reads as it did. -/
def fnExactCountMessagesSpec : ChangeSpec := { name := "fnExactCountMessages", fn := fun _ => fun
  | [d1, d2] => { results := [.lit (.bool true)], args := [d1, d2] }
  | _ => none }
def fnExactCountMessagesRow : OpenClaim := { program := "ytmgankgjjnegaaadoor", sum := "cae7362c490e0113b83de58cc267ce3cfc0c37bf82e5b928eabd2e5657130d85", func := "loop.example/g01164/laws.FnExactCountMessages", spec := "fnExactCountMessages", inPlace := ["internal/bytealg.IndexByteString", "internal/bytealg.IndexString", "internal/bytealg.abigen_runtime_cmpstring"], named := ["unicode/utf8.first", "unicode/utf8.acceptRanges", "internal/bytealg.MaxLen"], apart := false, laid := [("unicode/utf8.acceptRanges", laid_unicode_utf8_acceptRanges), ("unicode/utf8.first", laid_unicode_utf8_first)] }
def FnExactCountMessagesSaid : Prop := fnExactCountMessagesRow.holds Tryd.pinned (OpenSpec.ofChange fnExactCountMessagesSpec)

/-- ITS FALSE NEIGHBOUR: 'it returns false'. Refute it at one input. -/
def fnExactCountMessagesWrong : ChangeSpec := { name := "fnExactCountMessages", fn := fun _ => fun
  | [d1, d2] => { results := [.lit (.bool false)], args := [d1, d2] }
  | _ => none }
def FnExactCountMessagesWrongFalsely : Prop := fnExactCountMessagesRow.holds Tryd.pinned (OpenSpec.ofChange fnExactCountMessagesWrong)

/-- 'laws.FnExactCountReadings': WHATEVER THE INPUT: true; the input reads as it did. -/
def fnExactCountReadingsSpec : ChangeSpec := { name := "fnExactCountReadings", fn := fun _ => fun
  | [d1, d2] => { results := [.lit (.bool true)], args := [d1, d2] }
  | _ => none }
def fnExactCountReadingsRow : OpenClaim := { program := "ytmgankgjjnegaaadoor", sum := "cae7362c490e0113b83de58cc267ce3cfc0c37bf82e5b928eabd2e5657130d85", func := "loop.example/g01164/laws.FnExactCountReadings", spec := "fnExactCountReadings", inPlace := ["internal/bytealg.IndexByteString", "internal/bytealg.IndexString", "internal/bytealg.abigen_runtime_cmpstring"], named := ["unicode/utf8.first", "unicode/utf8.acceptRanges", "internal/bytealg.MaxLen"], apart := false, laid := [("unicode/utf8.acceptRanges", laid_unicode_utf8_acceptRanges), ("unicode/utf8.first", laid_unicode_utf8_first)] }
def FnExactCountReadingsSaid : Prop := fnExactCountReadingsRow.holds Tryd.pinned (OpenSpec.ofChange fnExactCountReadingsSpec)

/-- ITS FALSE NEIGHBOUR: 'it returns false'. Refute it at one input. -/
def fnExactCountReadingsWrong : ChangeSpec := { name := "fnExactCountReadings", fn := fun _ => fun
  | [d1, d2] => { results := [.lit (.bool false)], args := [d1, d2] }
  | _ => none }
def FnExactCountReadingsWrongFalsely : Prop := fnExactCountReadingsRow.holds Tryd.pinned (OpenSpec.ofChange fnExactCountReadingsWrong)

/-- 'laws.FnExactCanRead': WHATEVER THE INPUT: true; the input reads as it did. -/
def fnExactCanReadSpec : ChangeSpec := { name := "fnExactCanRead", fn := fun _ => fun
  | [d1, d2] => { results := [.lit (.bool true)], args := [d1, d2] }
  | _ => none }
def fnExactCanReadRow : OpenClaim := { program := "ytmgankgjjnegaaadoor", sum := "cae7362c490e0113b83de58cc267ce3cfc0c37bf82e5b928eabd2e5657130d85", func := "loop.example/g01164/laws.FnExactCanRead", spec := "fnExactCanRead", inPlace := ["internal/bytealg.IndexByteString", "internal/bytealg.IndexString", "internal/bytealg.abigen_runtime_cmpstring"], named := ["unicode/utf8.first", "unicode/utf8.acceptRanges", "internal/bytealg.MaxLen"], apart := false, laid := [("unicode/utf8.acceptRanges", laid_unicode_utf8_acceptRanges), ("unicode/utf8.first", laid_unicode_utf8_first)] }
def FnExactCanReadSaid : Prop := fnExactCanReadRow.holds Tryd.pinned (OpenSpec.ofChange fnExactCanReadSpec)

/-- ITS FALSE NEIGHBOUR: 'it returns false'. Refute it at one input. -/
def fnExactCanReadWrong : ChangeSpec := { name := "fnExactCanRead", fn := fun _ => fun
  | [d1, d2] => { results := [.lit (.bool false)], args := [d1, d2] }
  | _ => none }
def FnExactCanReadWrongFalsely : Prop := fnExactCanReadRow.holds Tryd.pinned (OpenSpec.ofChange fnExactCanReadWrong)

/-- 'laws.FnExactIsUniquelyRead': WHATEVER THE INPUT: true; the input reads as it did. -/
def fnExactIsUniquelyReadSpec : ChangeSpec := { name := "fnExactIsUniquelyRead", fn := fun _ => fun
  | [d1, d2] => { results := [.lit (.bool true)], args := [d1, d2] }
  | _ => none }
def fnExactIsUniquelyReadRow : OpenClaim := { program := "ytmgankgjjnegaaadoor", sum := "cae7362c490e0113b83de58cc267ce3cfc0c37bf82e5b928eabd2e5657130d85", func := "loop.example/g01164/laws.FnExactIsUniquelyRead", spec := "fnExactIsUniquelyRead", inPlace := ["internal/bytealg.IndexByteString", "internal/bytealg.IndexString", "internal/bytealg.abigen_runtime_cmpstring"], named := ["unicode/utf8.first", "unicode/utf8.acceptRanges", "internal/bytealg.MaxLen"], apart := false, laid := [("unicode/utf8.acceptRanges", laid_unicode_utf8_acceptRanges), ("unicode/utf8.first", laid_unicode_utf8_first)] }
def FnExactIsUniquelyReadSaid : Prop := fnExactIsUniquelyReadRow.holds Tryd.pinned (OpenSpec.ofChange fnExactIsUniquelyReadSpec)

/-- ITS FALSE NEIGHBOUR: 'it returns false'. Refute it at one input. -/
def fnExactIsUniquelyReadWrong : ChangeSpec := { name := "fnExactIsUniquelyRead", fn := fun _ => fun
  | [d1, d2] => { results := [.lit (.bool false)], args := [d1, d2] }
  | _ => none }
def FnExactIsUniquelyReadWrongFalsely : Prop := fnExactIsUniquelyReadRow.holds Tryd.pinned (OpenSpec.ofChange fnExactIsUniquelyReadWrong)

/-- 'laws.FnExactReadWord': WHATEVER THE INPUT: true; the input reads as it did. -/
def fnExactReadWordSpec : ChangeSpec := { name := "fnExactReadWord", fn := fun _ => fun
  | [d1, d2] => { results := [.lit (.bool true)], args := [d1, d2] }
  | _ => none }
def fnExactReadWordRow : OpenClaim := { program := "ytmgankgjjnegaaadoor", sum := "cae7362c490e0113b83de58cc267ce3cfc0c37bf82e5b928eabd2e5657130d85", func := "loop.example/g01164/laws.FnExactReadWord", spec := "fnExactReadWord", inPlace := ["internal/bytealg.IndexByteString", "internal/bytealg.IndexString", "internal/bytealg.abigen_runtime_cmpstring"], unfollowed := true, recurses := true, named := ["unicode/utf8.first", "unicode/utf8.acceptRanges", "internal/bytealg.MaxLen"], apart := false, laid := [("unicode/utf8.acceptRanges", laid_unicode_utf8_acceptRanges), ("unicode/utf8.first", laid_unicode_utf8_first)] }
def FnExactReadWordSaid : Prop := fnExactReadWordRow.holds Tryd.pinned (OpenSpec.ofChange fnExactReadWordSpec)

/-- ITS FALSE NEIGHBOUR: 'it returns false'. Refute it at one input. -/
def fnExactReadWordWrong : ChangeSpec := { name := "fnExactReadWord", fn := fun _ => fun
  | [d1, d2] => { results := [.lit (.bool false)], args := [d1, d2] }
  | _ => none }
def FnExactReadWordWrongFalsely : Prop := fnExactReadWordRow.holds Tryd.pinned (OpenSpec.ofChange fnExactReadWordWrong)

/-- 'laws.FnExactAllReadings': WHATEVER THE INPUT: true; the input reads as it did. -/
def fnExactAllReadingsSpec : ChangeSpec := { name := "fnExactAllReadings", fn := fun _ => fun
  | [d1, d2] => { results := [.lit (.bool true)], args := [d1, d2] }
  | _ => none }
def fnExactAllReadingsRow : OpenClaim := { program := "ytmgankgjjnegaaadoor", sum := "cae7362c490e0113b83de58cc267ce3cfc0c37bf82e5b928eabd2e5657130d85", func := "loop.example/g01164/laws.FnExactAllReadings", spec := "fnExactAllReadings", inPlace := ["internal/bytealg.IndexByteString", "internal/bytealg.IndexString", "internal/bytealg.abigen_runtime_cmpstring"], unfollowed := true, recurses := true, named := ["unicode/utf8.first", "unicode/utf8.acceptRanges", "internal/bytealg.MaxLen"], apart := false, laid := [("unicode/utf8.acceptRanges", laid_unicode_utf8_acceptRanges), ("unicode/utf8.first", laid_unicode_utf8_first)] }
def FnExactAllReadingsSaid : Prop := fnExactAllReadingsRow.holds Tryd.pinned (OpenSpec.ofChange fnExactAllReadingsSpec)

/-- ITS FALSE NEIGHBOUR: 'it returns false'. Refute it at one input. -/
def fnExactAllReadingsWrong : ChangeSpec := { name := "fnExactAllReadings", fn := fun _ => fun
  | [d1, d2] => { results := [.lit (.bool false)], args := [d1, d2] }
  | _ => none }
def FnExactAllReadingsWrongFalsely : Prop := fnExactAllReadingsRow.holds Tryd.pinned (OpenSpec.ofChange fnExactAllReadingsWrong)

/-- 'laws.FnExactCountWritten': WHATEVER THE INPUT: true; the input reads as it did. -/
def fnExactCountWrittenSpec : ChangeSpec := { name := "fnExactCountWritten", fn := fun _ => fun
  | [d1, d2] => { results := [.lit (.bool true)], args := [d1, d2] }
  | _ => none }
def fnExactCountWrittenRow : OpenClaim := { program := "ytmgankgjjnegaaadoor", sum := "cae7362c490e0113b83de58cc267ce3cfc0c37bf82e5b928eabd2e5657130d85", func := "loop.example/g01164/laws.FnExactCountWritten", spec := "fnExactCountWritten", inPlace := ["internal/bytealg.IndexByteString", "internal/bytealg.IndexString", "internal/bytealg.abigen_runtime_cmpstring"], recurses := true, named := ["unicode/utf8.first", "unicode/utf8.acceptRanges", "internal/bytealg.MaxLen"], apart := false, laid := [("unicode/utf8.acceptRanges", laid_unicode_utf8_acceptRanges), ("unicode/utf8.first", laid_unicode_utf8_first)] }
def FnExactCountWrittenSaid : Prop := fnExactCountWrittenRow.holds Tryd.pinned (OpenSpec.ofChange fnExactCountWrittenSpec)

/-- ITS FALSE NEIGHBOUR: 'it returns false'. Refute it at one input. -/
def fnExactCountWrittenWrong : ChangeSpec := { name := "fnExactCountWritten", fn := fun _ => fun
  | [d1, d2] => { results := [.lit (.bool false)], args := [d1, d2] }
  | _ => none }
def FnExactCountWrittenWrongFalsely : Prop := fnExactCountWrittenRow.holds Tryd.pinned (OpenSpec.ofChange fnExactCountWrittenWrong)

/-- 'laws.FnExactWriteMessage': WHATEVER THE INPUT: true; the input reads as it did. -/
def fnExactWriteMessageSpec : ChangeSpec := { name := "fnExactWriteMessage", fn := fun _ => fun
  | [d1, d2] => { results := [.lit (.bool true)], args := [d1, d2] }
  | _ => none }
def fnExactWriteMessageRow : OpenClaim := { program := "ytmgankgjjnegaaadoor", sum := "cae7362c490e0113b83de58cc267ce3cfc0c37bf82e5b928eabd2e5657130d85", func := "loop.example/g01164/laws.FnExactWriteMessage", spec := "fnExactWriteMessage", inPlace := ["internal/bytealg.IndexByteString", "internal/bytealg.IndexString", "internal/bytealg.abigen_runtime_cmpstring"], unfollowed := true, recurses := true, named := ["unicode/utf8.first", "unicode/utf8.acceptRanges", "internal/bytealg.MaxLen"], apart := false, laid := [("unicode/utf8.acceptRanges", laid_unicode_utf8_acceptRanges), ("unicode/utf8.first", laid_unicode_utf8_first)] }
def FnExactWriteMessageSaid : Prop := fnExactWriteMessageRow.holds Tryd.pinned (OpenSpec.ofChange fnExactWriteMessageSpec)

/-- ITS FALSE NEIGHBOUR: 'it returns false'. Refute it at one input. -/
def fnExactWriteMessageWrong : ChangeSpec := { name := "fnExactWriteMessage", fn := fun _ => fun
  | [d1, d2] => { results := [.lit (.bool false)], args := [d1, d2] }
  | _ => none }
def FnExactWriteMessageWrongFalsely : Prop := fnExactWriteMessageRow.holds Tryd.pinned (OpenSpec.ofChange fnExactWriteMessageWrong)

/-- 'laws.FnExactReadFromLeft': WHATEVER THE INPUT: true; the input reads as it did. -/
def fnExactReadFromLeftSpec : ChangeSpec := { name := "fnExactReadFromLeft", fn := fun _ => fun
  | [d1, d2] => { results := [.lit (.bool true)], args := [d1, d2] }
  | _ => none }
def fnExactReadFromLeftRow : OpenClaim := { program := "ytmgankgjjnegaaadoor", sum := "cae7362c490e0113b83de58cc267ce3cfc0c37bf82e5b928eabd2e5657130d85", func := "loop.example/g01164/laws.FnExactReadFromLeft", spec := "fnExactReadFromLeft", inPlace := ["internal/bytealg.IndexByteString", "internal/bytealg.IndexString", "internal/bytealg.abigen_runtime_cmpstring"], unfollowed := true, recurses := true, named := ["unicode/utf8.first", "unicode/utf8.acceptRanges", "internal/bytealg.MaxLen"], apart := false, laid := [("unicode/utf8.acceptRanges", laid_unicode_utf8_acceptRanges), ("unicode/utf8.first", laid_unicode_utf8_first)] }
def FnExactReadFromLeftSaid : Prop := fnExactReadFromLeftRow.holds Tryd.pinned (OpenSpec.ofChange fnExactReadFromLeftSpec)

/-- ITS FALSE NEIGHBOUR: 'it returns false'. Refute it at one input. -/
def fnExactReadFromLeftWrong : ChangeSpec := { name := "fnExactReadFromLeft", fn := fun _ => fun
  | [d1, d2] => { results := [.lit (.bool false)], args := [d1, d2] }
  | _ => none }
def FnExactReadFromLeftWrongFalsely : Prop := fnExactReadFromLeftRow.holds Tryd.pinned (OpenSpec.ofChange fnExactReadFromLeftWrong)

/-- 'laws.FnExactIsCommaFree': WHATEVER THE INPUT: true; the input reads as it did. -/
def fnExactIsCommaFreeSpec : ChangeSpec := { name := "fnExactIsCommaFree", fn := fun _ => fun
  | [d] => { results := [.lit (.bool true)], args := [d] }
  | _ => none }
def fnExactIsCommaFreeRow : OpenClaim := { program := "ytmgankgjjnegaaadoor", sum := "cae7362c490e0113b83de58cc267ce3cfc0c37bf82e5b928eabd2e5657130d85", func := "loop.example/g01164/laws.FnExactIsCommaFree", spec := "fnExactIsCommaFree", inPlace := ["internal/bytealg.IndexByteString", "internal/bytealg.IndexString", "internal/bytealg.abigen_runtime_cmpstring"], named := ["unicode/utf8.first", "unicode/utf8.acceptRanges", "internal/bytealg.MaxLen"], apart := false, laid := [("unicode/utf8.acceptRanges", laid_unicode_utf8_acceptRanges), ("unicode/utf8.first", laid_unicode_utf8_first)] }
def FnExactIsCommaFreeSaid : Prop := fnExactIsCommaFreeRow.holds Tryd.pinned (OpenSpec.ofChange fnExactIsCommaFreeSpec)

/-- ITS FALSE NEIGHBOUR: 'it returns false'. Refute it at one input. -/
def fnExactIsCommaFreeWrong : ChangeSpec := { name := "fnExactIsCommaFree", fn := fun _ => fun
  | [d] => { results := [.lit (.bool false)], args := [d] }
  | _ => none }
def FnExactIsCommaFreeWrongFalsely : Prop := fnExactIsCommaFreeRow.holds Tryd.pinned (OpenSpec.ofChange fnExactIsCommaFreeWrong)

/-- 'laws.FnExactFirstInside': WHATEVER THE INPUT: true; the input reads as it did. -/
def fnExactFirstInsideSpec : ChangeSpec := { name := "fnExactFirstInside", fn := fun _ => fun
  | [d] => { results := [.lit (.bool true)], args := [d] }
  | _ => none }
def fnExactFirstInsideRow : OpenClaim := { program := "ytmgankgjjnegaaadoor", sum := "cae7362c490e0113b83de58cc267ce3cfc0c37bf82e5b928eabd2e5657130d85", func := "loop.example/g01164/laws.FnExactFirstInside", spec := "fnExactFirstInside", inPlace := ["internal/bytealg.IndexByteString", "internal/bytealg.IndexString", "internal/bytealg.abigen_runtime_cmpstring"], named := ["unicode/utf8.first", "unicode/utf8.acceptRanges", "internal/bytealg.MaxLen"], apart := false, laid := [("unicode/utf8.acceptRanges", laid_unicode_utf8_acceptRanges), ("unicode/utf8.first", laid_unicode_utf8_first)] }
def FnExactFirstInsideSaid : Prop := fnExactFirstInsideRow.holds Tryd.pinned (OpenSpec.ofChange fnExactFirstInsideSpec)

/-- ITS FALSE NEIGHBOUR: 'it returns false'. Refute it at one input. -/
def fnExactFirstInsideWrong : ChangeSpec := { name := "fnExactFirstInside", fn := fun _ => fun
  | [d] => { results := [.lit (.bool false)], args := [d] }
  | _ => none }
def FnExactFirstInsideWrongFalsely : Prop := fnExactFirstInsideRow.holds Tryd.pinned (OpenSpec.ofChange fnExactFirstInsideWrong)

/-- 'laws.FnExactParseSet': WHATEVER THE INPUT: true; the input reads as it did. -/
def fnExactParseSetSpec : ChangeSpec := { name := "fnExactParseSet", fn := fun _ => fun
  | [d] => { results := [.lit (.bool true)], args := [d] }
  | _ => none }
def fnExactParseSetRow : OpenClaim := { program := "ytmgankgjjnegaaadoor", sum := "cae7362c490e0113b83de58cc267ce3cfc0c37bf82e5b928eabd2e5657130d85", func := "loop.example/g01164/laws.FnExactParseSet", spec := "fnExactParseSet", inPlace := ["internal/bytealg.CountString", "internal/bytealg.IndexByteString", "internal/bytealg.IndexString", "internal/bytealg.abigen_runtime_cmpstring"], named := ["unicode/utf8.first", "unicode/utf8.acceptRanges", "internal/bytealg.MaxLen"], apart := false, laid := [("unicode/utf8.acceptRanges", laid_unicode_utf8_acceptRanges), ("unicode/utf8.first", laid_unicode_utf8_first)] }
def FnExactParseSetSaid : Prop := fnExactParseSetRow.holds Tryd.pinned (OpenSpec.ofChange fnExactParseSetSpec)

/-- ITS FALSE NEIGHBOUR: 'it returns false'. Refute it at one input. -/
def fnExactParseSetWrong : ChangeSpec := { name := "fnExactParseSet", fn := fun _ => fun
  | [d] => { results := [.lit (.bool false)], args := [d] }
  | _ => none }
def FnExactParseSetWrongFalsely : Prop := fnExactParseSetRow.holds Tryd.pinned (OpenSpec.ofChange fnExactParseSetWrong)

/- THE SECOND FORM. 'bulk': how many values and letters a reading holds, each counted each time it is reached (what is shared counts as often as it is met; a slice's spare places count too). A statement '..UptoSaid' is the law's where the arguments, and the package variables that the reading takes, are together of bulk at most 1048576: NARROWER than '..Said'. Prove '..Said' where nothing that the law and all that it calls make is longer than what came in: it says more and counts as full. Else prove '..UptoSaid'. A law counts once. -/
mutual
def uptoBulk {H : Type} : DataW H → Nat
  | .lit (.string bytes) => bytes.length + 1
  | .lit _ => 1
  | .nil => 1
  | .ptr d => uptoBulk d + 1
  | .slice elems spare => uptoBulkAll elems + uptoBulkAll spare + 1
  | .agg parts => uptoBulkAll parts + 1
  | .iface _ d => uptoBulk d + 1
  | .map entries => uptoBulkEntries entries + 1
  | .held _ => 1
def uptoBulkAll {H : Type} : List (DataW H) → Nat
  | [] => 0
  | d :: r => uptoBulk d + uptoBulkAll r
def uptoBulkEntries {H : Type} : List (Lit × DataW H) → Nat
  | [] => 0
  | x :: r => uptoBulkEntry x + uptoBulkEntries r
def uptoBulkEntry {H : Type} : Lit × DataW H → Nat
  | (.string bytes, d) => bytes.length + uptoBulk d + 1
  | (_, d) => uptoBulk d + 1
 end
def uptoSmall : (H : Type) → List (DataW H) → Bool := fun _ ds => decide (uptoBulkAll ds ≤ 1048576)
def OpenSpec.upto (s : _root_.Go.ChangeSpec) : _root_.Go.OpenSpec := { _root_.Go.OpenSpec.ofChange s with cond := some uptoSmall }

/-- 'laws.FnExactCountMessages', WHERE WHAT IT READS IS OF BULK AT MOST 1048576: true; the input reads as it did. -/
def fnExactCountMessagesUptoRow : OpenClaim := { program := "ytmgankgjjnegaaadoor", sum := "cae7362c490e0113b83de58cc267ce3cfc0c37bf82e5b928eabd2e5657130d85", func := "loop.example/g01164/laws.FnExactCountMessages", spec := "fnExactCountMessages", inPlace := ["internal/bytealg.IndexByteString", "internal/bytealg.IndexString", "internal/bytealg.abigen_runtime_cmpstring"], named := ["unicode/utf8.first", "unicode/utf8.acceptRanges", "internal/bytealg.MaxLen"], apart := false, laid := [("unicode/utf8.acceptRanges", laid_unicode_utf8_acceptRanges), ("unicode/utf8.first", laid_unicode_utf8_first)], narrowed := true }
def FnExactCountMessagesUptoSaid : Prop := fnExactCountMessagesUptoRow.holds Tryd.pinned (OpenSpec.upto fnExactCountMessagesSpec)

/-- 'laws.FnExactCountReadings', WHERE WHAT IT READS IS OF BULK AT MOST 1048576: true; the input reads as it did. -/
def fnExactCountReadingsUptoRow : OpenClaim := { program := "ytmgankgjjnegaaadoor", sum := "cae7362c490e0113b83de58cc267ce3cfc0c37bf82e5b928eabd2e5657130d85", func := "loop.example/g01164/laws.FnExactCountReadings", spec := "fnExactCountReadings", inPlace := ["internal/bytealg.IndexByteString", "internal/bytealg.IndexString", "internal/bytealg.abigen_runtime_cmpstring"], named := ["unicode/utf8.first", "unicode/utf8.acceptRanges", "internal/bytealg.MaxLen"], apart := false, laid := [("unicode/utf8.acceptRanges", laid_unicode_utf8_acceptRanges), ("unicode/utf8.first", laid_unicode_utf8_first)], narrowed := true }
def FnExactCountReadingsUptoSaid : Prop := fnExactCountReadingsUptoRow.holds Tryd.pinned (OpenSpec.upto fnExactCountReadingsSpec)

/-- 'laws.FnExactCanRead', WHERE WHAT IT READS IS OF BULK AT MOST 1048576: true; the input reads as it did. -/
def fnExactCanReadUptoRow : OpenClaim := { program := "ytmgankgjjnegaaadoor", sum := "cae7362c490e0113b83de58cc267ce3cfc0c37bf82e5b928eabd2e5657130d85", func := "loop.example/g01164/laws.FnExactCanRead", spec := "fnExactCanRead", inPlace := ["internal/bytealg.IndexByteString", "internal/bytealg.IndexString", "internal/bytealg.abigen_runtime_cmpstring"], named := ["unicode/utf8.first", "unicode/utf8.acceptRanges", "internal/bytealg.MaxLen"], apart := false, laid := [("unicode/utf8.acceptRanges", laid_unicode_utf8_acceptRanges), ("unicode/utf8.first", laid_unicode_utf8_first)], narrowed := true }
def FnExactCanReadUptoSaid : Prop := fnExactCanReadUptoRow.holds Tryd.pinned (OpenSpec.upto fnExactCanReadSpec)

/-- 'laws.FnExactIsUniquelyRead', WHERE WHAT IT READS IS OF BULK AT MOST 1048576: true; the input reads as it did. -/
def fnExactIsUniquelyReadUptoRow : OpenClaim := { program := "ytmgankgjjnegaaadoor", sum := "cae7362c490e0113b83de58cc267ce3cfc0c37bf82e5b928eabd2e5657130d85", func := "loop.example/g01164/laws.FnExactIsUniquelyRead", spec := "fnExactIsUniquelyRead", inPlace := ["internal/bytealg.IndexByteString", "internal/bytealg.IndexString", "internal/bytealg.abigen_runtime_cmpstring"], named := ["unicode/utf8.first", "unicode/utf8.acceptRanges", "internal/bytealg.MaxLen"], apart := false, laid := [("unicode/utf8.acceptRanges", laid_unicode_utf8_acceptRanges), ("unicode/utf8.first", laid_unicode_utf8_first)], narrowed := true }
def FnExactIsUniquelyReadUptoSaid : Prop := fnExactIsUniquelyReadUptoRow.holds Tryd.pinned (OpenSpec.upto fnExactIsUniquelyReadSpec)

/-- 'laws.FnExactReadWord', WHERE WHAT IT READS IS OF BULK AT MOST 1048576: true; the input reads as it did. -/
def fnExactReadWordUptoRow : OpenClaim := { program := "ytmgankgjjnegaaadoor", sum := "cae7362c490e0113b83de58cc267ce3cfc0c37bf82e5b928eabd2e5657130d85", func := "loop.example/g01164/laws.FnExactReadWord", spec := "fnExactReadWord", inPlace := ["internal/bytealg.IndexByteString", "internal/bytealg.IndexString", "internal/bytealg.abigen_runtime_cmpstring"], unfollowed := true, recurses := true, named := ["unicode/utf8.first", "unicode/utf8.acceptRanges", "internal/bytealg.MaxLen"], apart := false, laid := [("unicode/utf8.acceptRanges", laid_unicode_utf8_acceptRanges), ("unicode/utf8.first", laid_unicode_utf8_first)], narrowed := true }
def FnExactReadWordUptoSaid : Prop := fnExactReadWordUptoRow.holds Tryd.pinned (OpenSpec.upto fnExactReadWordSpec)

/-- 'laws.FnExactAllReadings', WHERE WHAT IT READS IS OF BULK AT MOST 1048576: true; the input reads as it did. -/
def fnExactAllReadingsUptoRow : OpenClaim := { program := "ytmgankgjjnegaaadoor", sum := "cae7362c490e0113b83de58cc267ce3cfc0c37bf82e5b928eabd2e5657130d85", func := "loop.example/g01164/laws.FnExactAllReadings", spec := "fnExactAllReadings", inPlace := ["internal/bytealg.IndexByteString", "internal/bytealg.IndexString", "internal/bytealg.abigen_runtime_cmpstring"], unfollowed := true, recurses := true, named := ["unicode/utf8.first", "unicode/utf8.acceptRanges", "internal/bytealg.MaxLen"], apart := false, laid := [("unicode/utf8.acceptRanges", laid_unicode_utf8_acceptRanges), ("unicode/utf8.first", laid_unicode_utf8_first)], narrowed := true }
def FnExactAllReadingsUptoSaid : Prop := fnExactAllReadingsUptoRow.holds Tryd.pinned (OpenSpec.upto fnExactAllReadingsSpec)

/-- 'laws.FnExactCountWritten', WHERE WHAT IT READS IS OF BULK AT MOST 1048576: true; the input reads as it did. -/
def fnExactCountWrittenUptoRow : OpenClaim := { program := "ytmgankgjjnegaaadoor", sum := "cae7362c490e0113b83de58cc267ce3cfc0c37bf82e5b928eabd2e5657130d85", func := "loop.example/g01164/laws.FnExactCountWritten", spec := "fnExactCountWritten", inPlace := ["internal/bytealg.IndexByteString", "internal/bytealg.IndexString", "internal/bytealg.abigen_runtime_cmpstring"], recurses := true, named := ["unicode/utf8.first", "unicode/utf8.acceptRanges", "internal/bytealg.MaxLen"], apart := false, laid := [("unicode/utf8.acceptRanges", laid_unicode_utf8_acceptRanges), ("unicode/utf8.first", laid_unicode_utf8_first)], narrowed := true }
def FnExactCountWrittenUptoSaid : Prop := fnExactCountWrittenUptoRow.holds Tryd.pinned (OpenSpec.upto fnExactCountWrittenSpec)

/-- 'laws.FnExactWriteMessage', WHERE WHAT IT READS IS OF BULK AT MOST 1048576: true; the input reads as it did. -/
def fnExactWriteMessageUptoRow : OpenClaim := { program := "ytmgankgjjnegaaadoor", sum := "cae7362c490e0113b83de58cc267ce3cfc0c37bf82e5b928eabd2e5657130d85", func := "loop.example/g01164/laws.FnExactWriteMessage", spec := "fnExactWriteMessage", inPlace := ["internal/bytealg.IndexByteString", "internal/bytealg.IndexString", "internal/bytealg.abigen_runtime_cmpstring"], unfollowed := true, recurses := true, named := ["unicode/utf8.first", "unicode/utf8.acceptRanges", "internal/bytealg.MaxLen"], apart := false, laid := [("unicode/utf8.acceptRanges", laid_unicode_utf8_acceptRanges), ("unicode/utf8.first", laid_unicode_utf8_first)], narrowed := true }
def FnExactWriteMessageUptoSaid : Prop := fnExactWriteMessageUptoRow.holds Tryd.pinned (OpenSpec.upto fnExactWriteMessageSpec)

/-- 'laws.FnExactReadFromLeft', WHERE WHAT IT READS IS OF BULK AT MOST 1048576: true; the input reads as it did. -/
def fnExactReadFromLeftUptoRow : OpenClaim := { program := "ytmgankgjjnegaaadoor", sum := "cae7362c490e0113b83de58cc267ce3cfc0c37bf82e5b928eabd2e5657130d85", func := "loop.example/g01164/laws.FnExactReadFromLeft", spec := "fnExactReadFromLeft", inPlace := ["internal/bytealg.IndexByteString", "internal/bytealg.IndexString", "internal/bytealg.abigen_runtime_cmpstring"], unfollowed := true, recurses := true, named := ["unicode/utf8.first", "unicode/utf8.acceptRanges", "internal/bytealg.MaxLen"], apart := false, laid := [("unicode/utf8.acceptRanges", laid_unicode_utf8_acceptRanges), ("unicode/utf8.first", laid_unicode_utf8_first)], narrowed := true }
def FnExactReadFromLeftUptoSaid : Prop := fnExactReadFromLeftUptoRow.holds Tryd.pinned (OpenSpec.upto fnExactReadFromLeftSpec)

/-- 'laws.FnExactIsCommaFree', WHERE WHAT IT READS IS OF BULK AT MOST 1048576: true; the input reads as it did. -/
def fnExactIsCommaFreeUptoRow : OpenClaim := { program := "ytmgankgjjnegaaadoor", sum := "cae7362c490e0113b83de58cc267ce3cfc0c37bf82e5b928eabd2e5657130d85", func := "loop.example/g01164/laws.FnExactIsCommaFree", spec := "fnExactIsCommaFree", inPlace := ["internal/bytealg.IndexByteString", "internal/bytealg.IndexString", "internal/bytealg.abigen_runtime_cmpstring"], named := ["unicode/utf8.first", "unicode/utf8.acceptRanges", "internal/bytealg.MaxLen"], apart := false, laid := [("unicode/utf8.acceptRanges", laid_unicode_utf8_acceptRanges), ("unicode/utf8.first", laid_unicode_utf8_first)], narrowed := true }
def FnExactIsCommaFreeUptoSaid : Prop := fnExactIsCommaFreeUptoRow.holds Tryd.pinned (OpenSpec.upto fnExactIsCommaFreeSpec)

/-- 'laws.FnExactFirstInside', WHERE WHAT IT READS IS OF BULK AT MOST 1048576: true; the input reads as it did. -/
def fnExactFirstInsideUptoRow : OpenClaim := { program := "ytmgankgjjnegaaadoor", sum := "cae7362c490e0113b83de58cc267ce3cfc0c37bf82e5b928eabd2e5657130d85", func := "loop.example/g01164/laws.FnExactFirstInside", spec := "fnExactFirstInside", inPlace := ["internal/bytealg.IndexByteString", "internal/bytealg.IndexString", "internal/bytealg.abigen_runtime_cmpstring"], named := ["unicode/utf8.first", "unicode/utf8.acceptRanges", "internal/bytealg.MaxLen"], apart := false, laid := [("unicode/utf8.acceptRanges", laid_unicode_utf8_acceptRanges), ("unicode/utf8.first", laid_unicode_utf8_first)], narrowed := true }
def FnExactFirstInsideUptoSaid : Prop := fnExactFirstInsideUptoRow.holds Tryd.pinned (OpenSpec.upto fnExactFirstInsideSpec)

/-- 'laws.FnExactParseSet', WHERE WHAT IT READS IS OF BULK AT MOST 1048576: true; the input reads as it did. -/
def fnExactParseSetUptoRow : OpenClaim := { program := "ytmgankgjjnegaaadoor", sum := "cae7362c490e0113b83de58cc267ce3cfc0c37bf82e5b928eabd2e5657130d85", func := "loop.example/g01164/laws.FnExactParseSet", spec := "fnExactParseSet", inPlace := ["internal/bytealg.CountString", "internal/bytealg.IndexByteString", "internal/bytealg.IndexString", "internal/bytealg.abigen_runtime_cmpstring"], named := ["unicode/utf8.first", "unicode/utf8.acceptRanges", "internal/bytealg.MaxLen"], apart := false, laid := [("unicode/utf8.acceptRanges", laid_unicode_utf8_acceptRanges), ("unicode/utf8.first", laid_unicode_utf8_first)], narrowed := true }
def FnExactParseSetUptoSaid : Prop := fnExactParseSetUptoRow.holds Tryd.pinned (OpenSpec.upto fnExactParseSetSpec)

end Rows
end Go.Proofs.YtmgankgjjnegaaaDoor

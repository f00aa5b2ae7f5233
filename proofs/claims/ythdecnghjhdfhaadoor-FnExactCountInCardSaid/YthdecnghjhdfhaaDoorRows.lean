/-
  NARROWER THAN 'FOR EVERY INPUT', by the rows' own cells (each row's printed sentence says how): FnExactCountIn: laid · FnExactPeriodsOf: laid · FnExactBordersOf: laid · FnExactLessWord: laid · FnExactIsSet: laid · FnExactConcat: laid · FnExactCommonDivisor: laid · FnExactIsPrefixSet: laid · FnExactWithoutWord: laid · FnExactLettersOf: laid · FnExactLengthsOf: laid · FnExactSetText: laid.
  DERIVED. THE GIVEN ROWS OF THIS SEAT. 12 by the template 'for every input the law returns true; each argument reads behind the call as it read before'; 0 by the template 'total and deterministic' (their statements: YthdecnghjhdfhaaDoorTotals.lean).
  GIVEN WITH THE SEED: the statements are not yours to turn. If you find one false, say at which input.
  Laid BY PROGRAM, IN A SANDBOX (cutbox-rows.mjs): the forced cells as the released guide's own fill.sh prints them over the translation 7e0d5d9639444f60… (all of the seat's roots in one cut). By AI agents, Wed Nov 11 2026. No macro, syntax, notation, axiom, sorry.
-/
import Derived.Test.YthdecnghjhdfhaaDoorChecked
import GoSem.PinnedTables
import GoSem.Claim
import GoSem.ClaimJoined
import GoSem.ClaimMapViews
import Derived.JoinedTies
import Derived.KernelRfl
namespace Go.Proofs.YthdecnghjhdfhaaDoor
/- THE CELL 'sum', in the pinned program and in every row, IS THE sha256 OF THE DUMP (.gsa) THAT YthdecnghjhdfhaaDoorProg.lean LOADS. Nothing in Lean hashes anything: it is a label: what it is worth is what the hold of that sum in a sandbox is worth. -/
noncomputable def Tryd.pinned : Pinned := { name := "ythdecnghjhdfhaadoor", sum := "7e0d5d9639444f608e3b98d43489c316f73d07a4dcfe196546d8903a7f97a848", checked := Tryd.checked }
namespace Rows
def none {H : Type} : Left H := { results := [], args := [] }

/- WHAT THE LISTED PACKAGE-LEVEL VARIABLES READ AS WHEN THE CALL BEGINS. Each datum BY PROGRAM (the guide's laid-datum.mjs) off the statement by which the dump's own 'gosem.cut.vars' lays the variable. In a bare row this is a premise. The card (YthdecnghjhdfhaaDoorCards.lean) ties it to the program's text. -/
def laid_unicode_utf8_acceptRanges {H : Type} : DataW H := .agg [.agg [.lit (.int .u8 128), .lit (.int .u8 191)], .agg [.lit (.int .u8 160), .lit (.int .u8 191)], .agg [.lit (.int .u8 128), .lit (.int .u8 159)], .agg [.lit (.int .u8 144), .lit (.int .u8 191)], .agg [.lit (.int .u8 128), .lit (.int .u8 143)], .agg [.lit (.int .u8 0), .lit (.int .u8 0)], .agg [.lit (.int .u8 0), .lit (.int .u8 0)], .agg [.lit (.int .u8 0), .lit (.int .u8 0)], .agg [.lit (.int .u8 0), .lit (.int .u8 0)], .agg [.lit (.int .u8 0), .lit (.int .u8 0)], .agg [.lit (.int .u8 0), .lit (.int .u8 0)], .agg [.lit (.int .u8 0), .lit (.int .u8 0)], .agg [.lit (.int .u8 0), .lit (.int .u8 0)], .agg [.lit (.int .u8 0), .lit (.int .u8 0)], .agg [.lit (.int .u8 0), .lit (.int .u8 0)], .agg [.lit (.int .u8 0), .lit (.int .u8 0)]]
/-- One of Go's own tables, pinned by name: the form's constant. -/
def laid_unicode_utf8_first : DataW Unit := Go.Pinned.utf8First

/-- 'laws.FnExactCountIn': WHATEVER THE INPUT: true; the input reads as it did. -/
def fnExactCountInSpec : ChangeSpec := { name := "fnExactCountIn", fn := fun _ => fun
  | [d1, d2] => { results := [.lit (.bool true)], args := [d1, d2] }
  | _ => none }
def fnExactCountInRow : OpenClaim := { program := "ythdecnghjhdfhaadoor", sum := "7e0d5d9639444f608e3b98d43489c316f73d07a4dcfe196546d8903a7f97a848", func := "loop.example/g01164/laws.FnExactCountIn", spec := "fnExactCountIn", inPlace := ["internal/bytealg.IndexByteString", "internal/bytealg.IndexString"], named := ["unicode/utf8.first", "unicode/utf8.acceptRanges", "internal/bytealg.MaxLen"], apart := false, laid := [("unicode/utf8.acceptRanges", laid_unicode_utf8_acceptRanges), ("unicode/utf8.first", laid_unicode_utf8_first)] }
def FnExactCountInSaid : Prop := fnExactCountInRow.holds Tryd.pinned (OpenSpec.ofChange fnExactCountInSpec)

/-- ITS FALSE NEIGHBOUR: 'it returns false'. Refute it at one input. -/
def fnExactCountInWrong : ChangeSpec := { name := "fnExactCountIn", fn := fun _ => fun
  | [d1, d2] => { results := [.lit (.bool false)], args := [d1, d2] }
  | _ => none }
def FnExactCountInWrongFalsely : Prop := fnExactCountInRow.holds Tryd.pinned (OpenSpec.ofChange fnExactCountInWrong)

/-- 'laws.FnExactPeriodsOf': WHATEVER THE INPUT: true; the input reads as it did. -/
def fnExactPeriodsOfSpec : ChangeSpec := { name := "fnExactPeriodsOf", fn := fun _ => fun
  | [d] => { results := [.lit (.bool true)], args := [d] }
  | _ => none }
def fnExactPeriodsOfRow : OpenClaim := { program := "ythdecnghjhdfhaadoor", sum := "7e0d5d9639444f608e3b98d43489c316f73d07a4dcfe196546d8903a7f97a848", func := "loop.example/g01164/laws.FnExactPeriodsOf", spec := "fnExactPeriodsOf", inPlace := ["internal/bytealg.IndexByteString", "internal/bytealg.IndexString"], named := ["unicode/utf8.first", "unicode/utf8.acceptRanges", "internal/bytealg.MaxLen"], apart := false, laid := [("unicode/utf8.acceptRanges", laid_unicode_utf8_acceptRanges), ("unicode/utf8.first", laid_unicode_utf8_first)] }
def FnExactPeriodsOfSaid : Prop := fnExactPeriodsOfRow.holds Tryd.pinned (OpenSpec.ofChange fnExactPeriodsOfSpec)

/-- ITS FALSE NEIGHBOUR: 'it returns false'. Refute it at one input. -/
def fnExactPeriodsOfWrong : ChangeSpec := { name := "fnExactPeriodsOf", fn := fun _ => fun
  | [d] => { results := [.lit (.bool false)], args := [d] }
  | _ => none }
def FnExactPeriodsOfWrongFalsely : Prop := fnExactPeriodsOfRow.holds Tryd.pinned (OpenSpec.ofChange fnExactPeriodsOfWrong)

/-- 'laws.FnExactBordersOf': WHATEVER THE INPUT: true; the input reads as it did. -/
def fnExactBordersOfSpec : ChangeSpec := { name := "fnExactBordersOf", fn := fun _ => fun
  | [d] => { results := [.lit (.bool true)], args := [d] }
  | _ => none }
def fnExactBordersOfRow : OpenClaim := { program := "ythdecnghjhdfhaadoor", sum := "7e0d5d9639444f608e3b98d43489c316f73d07a4dcfe196546d8903a7f97a848", func := "loop.example/g01164/laws.FnExactBordersOf", spec := "fnExactBordersOf", inPlace := ["internal/bytealg.IndexByteString", "internal/bytealg.IndexString"], named := ["unicode/utf8.first", "unicode/utf8.acceptRanges", "internal/bytealg.MaxLen"], apart := false, laid := [("unicode/utf8.acceptRanges", laid_unicode_utf8_acceptRanges), ("unicode/utf8.first", laid_unicode_utf8_first)] }
def FnExactBordersOfSaid : Prop := fnExactBordersOfRow.holds Tryd.pinned (OpenSpec.ofChange fnExactBordersOfSpec)

/-- ITS FALSE NEIGHBOUR: 'it returns false'. Refute it at one input. -/
def fnExactBordersOfWrong : ChangeSpec := { name := "fnExactBordersOf", fn := fun _ => fun
  | [d] => { results := [.lit (.bool false)], args := [d] }
  | _ => none }
def FnExactBordersOfWrongFalsely : Prop := fnExactBordersOfRow.holds Tryd.pinned (OpenSpec.ofChange fnExactBordersOfWrong)

/-- 'laws.FnExactLessWord': WHATEVER THE INPUT: true; the input reads as it did. -/
def fnExactLessWordSpec : ChangeSpec := { name := "fnExactLessWord", fn := fun _ => fun
  | [d1, d2] => { results := [.lit (.bool true)], args := [d1, d2] }
  | _ => none }
def fnExactLessWordRow : OpenClaim := { program := "ythdecnghjhdfhaadoor", sum := "7e0d5d9639444f608e3b98d43489c316f73d07a4dcfe196546d8903a7f97a848", func := "loop.example/g01164/laws.FnExactLessWord", spec := "fnExactLessWord", inPlace := ["internal/bytealg.IndexByteString", "internal/bytealg.IndexString", "internal/bytealg.abigen_runtime_cmpstring"], named := ["unicode/utf8.first", "unicode/utf8.acceptRanges", "internal/bytealg.MaxLen"], apart := false, laid := [("unicode/utf8.acceptRanges", laid_unicode_utf8_acceptRanges), ("unicode/utf8.first", laid_unicode_utf8_first)] }
def FnExactLessWordSaid : Prop := fnExactLessWordRow.holds Tryd.pinned (OpenSpec.ofChange fnExactLessWordSpec)

/-- ITS FALSE NEIGHBOUR: 'it returns false'. Refute it at one input. -/
def fnExactLessWordWrong : ChangeSpec := { name := "fnExactLessWord", fn := fun _ => fun
  | [d1, d2] => { results := [.lit (.bool false)], args := [d1, d2] }
  | _ => none }
def FnExactLessWordWrongFalsely : Prop := fnExactLessWordRow.holds Tryd.pinned (OpenSpec.ofChange fnExactLessWordWrong)

/-- 'laws.FnExactIsSet': WHATEVER THE INPUT: true; the input reads as it did. -/
def fnExactIsSetSpec : ChangeSpec := { name := "fnExactIsSet", fn := fun _ => fun
  | [d] => { results := [.lit (.bool true)], args := [d] }
  | _ => none }
def fnExactIsSetRow : OpenClaim := { program := "ythdecnghjhdfhaadoor", sum := "7e0d5d9639444f608e3b98d43489c316f73d07a4dcfe196546d8903a7f97a848", func := "loop.example/g01164/laws.FnExactIsSet", spec := "fnExactIsSet", inPlace := ["internal/bytealg.IndexByteString", "internal/bytealg.IndexString", "internal/bytealg.abigen_runtime_cmpstring"], named := ["unicode/utf8.first", "unicode/utf8.acceptRanges", "internal/bytealg.MaxLen"], apart := false, laid := [("unicode/utf8.acceptRanges", laid_unicode_utf8_acceptRanges), ("unicode/utf8.first", laid_unicode_utf8_first)] }
def FnExactIsSetSaid : Prop := fnExactIsSetRow.holds Tryd.pinned (OpenSpec.ofChange fnExactIsSetSpec)

/-- ITS FALSE NEIGHBOUR: 'it returns false'. Refute it at one input. -/
def fnExactIsSetWrong : ChangeSpec := { name := "fnExactIsSet", fn := fun _ => fun
  | [d] => { results := [.lit (.bool false)], args := [d] }
  | _ => none }
def FnExactIsSetWrongFalsely : Prop := fnExactIsSetRow.holds Tryd.pinned (OpenSpec.ofChange fnExactIsSetWrong)

/-- 'laws.FnExactConcat': WHATEVER THE INPUT: true; the input reads as it did. -/
def fnExactConcatSpec : ChangeSpec := { name := "fnExactConcat", fn := fun _ => fun
  | [d] => { results := [.lit (.bool true)], args := [d] }
  | _ => none }
def fnExactConcatRow : OpenClaim := { program := "ythdecnghjhdfhaadoor", sum := "7e0d5d9639444f608e3b98d43489c316f73d07a4dcfe196546d8903a7f97a848", func := "loop.example/g01164/laws.FnExactConcat", spec := "fnExactConcat", inPlace := ["internal/bytealg.IndexByteString", "internal/bytealg.IndexString", "internal/abi.NoEscape", "internal/bytealg.MakeNoZero"], unfollowed := true, recurses := true, named := ["unicode/utf8.first", "unicode/utf8.acceptRanges", "internal/bytealg.MaxLen"], apart := false, laid := [("unicode/utf8.acceptRanges", laid_unicode_utf8_acceptRanges), ("unicode/utf8.first", laid_unicode_utf8_first)] }
def FnExactConcatSaid : Prop := fnExactConcatRow.holds Tryd.pinned (OpenSpec.ofChange fnExactConcatSpec)

/-- ITS FALSE NEIGHBOUR: 'it returns false'. Refute it at one input. -/
def fnExactConcatWrong : ChangeSpec := { name := "fnExactConcat", fn := fun _ => fun
  | [d] => { results := [.lit (.bool false)], args := [d] }
  | _ => none }
def FnExactConcatWrongFalsely : Prop := fnExactConcatRow.holds Tryd.pinned (OpenSpec.ofChange fnExactConcatWrong)

/-- 'laws.FnExactCommonDivisor': WHATEVER THE INPUT: true; the input reads as it did. -/
def fnExactCommonDivisorSpec : ChangeSpec := { name := "fnExactCommonDivisor", fn := fun _ => fun
  | [d] => { results := [.lit (.bool true)], args := [d] }
  | _ => none }
def fnExactCommonDivisorRow : OpenClaim := { program := "ythdecnghjhdfhaadoor", sum := "7e0d5d9639444f608e3b98d43489c316f73d07a4dcfe196546d8903a7f97a848", func := "loop.example/g01164/laws.FnExactCommonDivisor", spec := "fnExactCommonDivisor", inPlace := ["internal/bytealg.IndexByteString", "internal/bytealg.IndexString", "internal/bytealg.abigen_runtime_cmpstring"], named := ["unicode/utf8.first", "unicode/utf8.acceptRanges", "internal/bytealg.MaxLen"], apart := false, laid := [("unicode/utf8.acceptRanges", laid_unicode_utf8_acceptRanges), ("unicode/utf8.first", laid_unicode_utf8_first)] }
def FnExactCommonDivisorSaid : Prop := fnExactCommonDivisorRow.holds Tryd.pinned (OpenSpec.ofChange fnExactCommonDivisorSpec)

/-- ITS FALSE NEIGHBOUR: 'it returns false'. Refute it at one input. -/
def fnExactCommonDivisorWrong : ChangeSpec := { name := "fnExactCommonDivisor", fn := fun _ => fun
  | [d] => { results := [.lit (.bool false)], args := [d] }
  | _ => none }
def FnExactCommonDivisorWrongFalsely : Prop := fnExactCommonDivisorRow.holds Tryd.pinned (OpenSpec.ofChange fnExactCommonDivisorWrong)

/-- 'laws.FnExactIsPrefixSet': WHATEVER THE INPUT: true; the input reads as it did. -/
def fnExactIsPrefixSetSpec : ChangeSpec := { name := "fnExactIsPrefixSet", fn := fun _ => fun
  | [d] => { results := [.lit (.bool true)], args := [d] }
  | _ => none }
def fnExactIsPrefixSetRow : OpenClaim := { program := "ythdecnghjhdfhaadoor", sum := "7e0d5d9639444f608e3b98d43489c316f73d07a4dcfe196546d8903a7f97a848", func := "loop.example/g01164/laws.FnExactIsPrefixSet", spec := "fnExactIsPrefixSet", inPlace := ["internal/bytealg.IndexByteString", "internal/bytealg.IndexString", "internal/bytealg.abigen_runtime_cmpstring"], unfollowed := true, recurses := true, named := ["unicode/utf8.first", "unicode/utf8.acceptRanges", "internal/bytealg.MaxLen"], apart := false, laid := [("unicode/utf8.acceptRanges", laid_unicode_utf8_acceptRanges), ("unicode/utf8.first", laid_unicode_utf8_first)] }
def FnExactIsPrefixSetSaid : Prop := fnExactIsPrefixSetRow.holds Tryd.pinned (OpenSpec.ofChange fnExactIsPrefixSetSpec)

/-- ITS FALSE NEIGHBOUR: 'it returns false'. Refute it at one input. -/
def fnExactIsPrefixSetWrong : ChangeSpec := { name := "fnExactIsPrefixSet", fn := fun _ => fun
  | [d] => { results := [.lit (.bool false)], args := [d] }
  | _ => none }
def FnExactIsPrefixSetWrongFalsely : Prop := fnExactIsPrefixSetRow.holds Tryd.pinned (OpenSpec.ofChange fnExactIsPrefixSetWrong)

/-- 'laws.FnExactWithoutWord': WHATEVER THE INPUT: true; the input reads as it did. -/
def fnExactWithoutWordSpec : ChangeSpec := { name := "fnExactWithoutWord", fn := fun _ => fun
  | [d1, d2] => { results := [.lit (.bool true)], args := [d1, d2] }
  | _ => none }
def fnExactWithoutWordRow : OpenClaim := { program := "ythdecnghjhdfhaadoor", sum := "7e0d5d9639444f608e3b98d43489c316f73d07a4dcfe196546d8903a7f97a848", func := "loop.example/g01164/laws.FnExactWithoutWord", spec := "fnExactWithoutWord", inPlace := ["internal/bytealg.IndexByteString", "internal/bytealg.IndexString", "internal/bytealg.abigen_runtime_cmpstring"], named := ["unicode/utf8.first", "unicode/utf8.acceptRanges", "internal/bytealg.MaxLen"], apart := false, laid := [("unicode/utf8.acceptRanges", laid_unicode_utf8_acceptRanges), ("unicode/utf8.first", laid_unicode_utf8_first)] }
def FnExactWithoutWordSaid : Prop := fnExactWithoutWordRow.holds Tryd.pinned (OpenSpec.ofChange fnExactWithoutWordSpec)

/-- ITS FALSE NEIGHBOUR: 'it returns false'. Refute it at one input. -/
def fnExactWithoutWordWrong : ChangeSpec := { name := "fnExactWithoutWord", fn := fun _ => fun
  | [d1, d2] => { results := [.lit (.bool false)], args := [d1, d2] }
  | _ => none }
def FnExactWithoutWordWrongFalsely : Prop := fnExactWithoutWordRow.holds Tryd.pinned (OpenSpec.ofChange fnExactWithoutWordWrong)

/-- 'laws.FnExactLettersOf': WHATEVER THE INPUT: true; the input reads as it did. -/
def fnExactLettersOfSpec : ChangeSpec := { name := "fnExactLettersOf", fn := fun _ => fun
  | [d] => { results := [.lit (.bool true)], args := [d] }
  | _ => none }
def fnExactLettersOfRow : OpenClaim := { program := "ythdecnghjhdfhaadoor", sum := "7e0d5d9639444f608e3b98d43489c316f73d07a4dcfe196546d8903a7f97a848", func := "loop.example/g01164/laws.FnExactLettersOf", spec := "fnExactLettersOf", inPlace := ["internal/bytealg.IndexByteString", "internal/bytealg.IndexString", "internal/bytealg.CountString"], named := ["unicode/utf8.first", "unicode/utf8.acceptRanges", "internal/bytealg.MaxLen"], apart := false, laid := [("unicode/utf8.acceptRanges", laid_unicode_utf8_acceptRanges), ("unicode/utf8.first", laid_unicode_utf8_first)] }
def FnExactLettersOfSaid : Prop := fnExactLettersOfRow.holds Tryd.pinned (OpenSpec.ofChange fnExactLettersOfSpec)

/-- ITS FALSE NEIGHBOUR: 'it returns false'. Refute it at one input. -/
def fnExactLettersOfWrong : ChangeSpec := { name := "fnExactLettersOf", fn := fun _ => fun
  | [d] => { results := [.lit (.bool false)], args := [d] }
  | _ => none }
def FnExactLettersOfWrongFalsely : Prop := fnExactLettersOfRow.holds Tryd.pinned (OpenSpec.ofChange fnExactLettersOfWrong)

/-- 'laws.FnExactLengthsOf': WHATEVER THE INPUT: true; the input reads as it did. -/
def fnExactLengthsOfSpec : ChangeSpec := { name := "fnExactLengthsOf", fn := fun _ => fun
  | [d] => { results := [.lit (.bool true)], args := [d] }
  | _ => none }
def fnExactLengthsOfRow : OpenClaim := { program := "ythdecnghjhdfhaadoor", sum := "7e0d5d9639444f608e3b98d43489c316f73d07a4dcfe196546d8903a7f97a848", func := "loop.example/g01164/laws.FnExactLengthsOf", spec := "fnExactLengthsOf", inPlace := ["internal/bytealg.IndexByteString", "internal/bytealg.IndexString", "internal/bytealg.abigen_runtime_cmpstring"], named := ["unicode/utf8.first", "unicode/utf8.acceptRanges", "internal/bytealg.MaxLen"], apart := false, laid := [("unicode/utf8.acceptRanges", laid_unicode_utf8_acceptRanges), ("unicode/utf8.first", laid_unicode_utf8_first)] }
def FnExactLengthsOfSaid : Prop := fnExactLengthsOfRow.holds Tryd.pinned (OpenSpec.ofChange fnExactLengthsOfSpec)

/-- ITS FALSE NEIGHBOUR: 'it returns false'. Refute it at one input. -/
def fnExactLengthsOfWrong : ChangeSpec := { name := "fnExactLengthsOf", fn := fun _ => fun
  | [d] => { results := [.lit (.bool false)], args := [d] }
  | _ => none }
def FnExactLengthsOfWrongFalsely : Prop := fnExactLengthsOfRow.holds Tryd.pinned (OpenSpec.ofChange fnExactLengthsOfWrong)

/-- 'laws.FnExactSetText': WHATEVER THE INPUT: true; the input reads as it did. -/
def fnExactSetTextSpec : ChangeSpec := { name := "fnExactSetText", fn := fun _ => fun
  | [d] => { results := [.lit (.bool true)], args := [d] }
  | _ => none }
def fnExactSetTextRow : OpenClaim := { program := "ythdecnghjhdfhaadoor", sum := "7e0d5d9639444f608e3b98d43489c316f73d07a4dcfe196546d8903a7f97a848", func := "loop.example/g01164/laws.FnExactSetText", spec := "fnExactSetText", inPlace := ["internal/bytealg.IndexByteString", "internal/bytealg.IndexString", "internal/bytealg.abigen_runtime_cmpstring", "internal/abi.NoEscape", "internal/bytealg.MakeNoZero"], named := ["unicode/utf8.first", "unicode/utf8.acceptRanges", "internal/bytealg.MaxLen"], apart := false, laid := [("unicode/utf8.acceptRanges", laid_unicode_utf8_acceptRanges), ("unicode/utf8.first", laid_unicode_utf8_first)] }
def FnExactSetTextSaid : Prop := fnExactSetTextRow.holds Tryd.pinned (OpenSpec.ofChange fnExactSetTextSpec)

/-- ITS FALSE NEIGHBOUR: 'it returns false'. Refute it at one input. -/
def fnExactSetTextWrong : ChangeSpec := { name := "fnExactSetText", fn := fun _ => fun
  | [d] => { results := [.lit (.bool false)], args := [d] }
  | _ => none }
def FnExactSetTextWrongFalsely : Prop := fnExactSetTextRow.holds Tryd.pinned (OpenSpec.ofChange fnExactSetTextWrong)

/- THE SECOND FORM. 'bulk': how many values and letters a reading holds, each counted each time it is reached (what is shared counts as often as it is met; a slice's spare places count too). A statement '..UptoSaid' is the law's where the arguments, and the package variables that the reading takes, are together of bulk at most 1048576: NARROWER than '..Said'. Prove '..Said' where nothing that the law and all that it calls make is longer than what came in: it says more and counts as full. Else prove '..UptoSaid'. A law counts once. -/
mutual
def uptoBulk {H : Type} : DataW H → Nat
  | .lit (.string bytes) => bytes.length + 1
  | .lit _ => 1
  | .nil => 1
  | .ptr d => uptoBulk d + 1
  | .slice elems spare => uptoBulkAll elems + uptoBulkAll spare + 1
  | .agg parts => uptoBulkAll parts + 1
  | .iface _ d => uptoBulk d + 1
  | .map entries => uptoBulkEntries entries + 1
  | .held _ => 1
def uptoBulkAll {H : Type} : List (DataW H) → Nat
  | [] => 0
  | d :: r => uptoBulk d + uptoBulkAll r
def uptoBulkEntries {H : Type} : List (Lit × DataW H) → Nat
  | [] => 0
  | x :: r => uptoBulkEntry x + uptoBulkEntries r
def uptoBulkEntry {H : Type} : Lit × DataW H → Nat
  | (.string bytes, d) => bytes.length + uptoBulk d + 1
  | (_, d) => uptoBulk d + 1
 end
def uptoSmall : (H : Type) → List (DataW H) → Bool := fun _ ds => decide (uptoBulkAll ds ≤ 1048576)
def OpenSpec.upto (s : _root_.Go.ChangeSpec) : _root_.Go.OpenSpec := { _root_.Go.OpenSpec.ofChange s with cond := some uptoSmall }

/-- 'laws.FnExactCountIn', WHERE WHAT IT READS IS OF BULK AT MOST 1048576: true; the input reads as it did. -/
def fnExactCountInUptoRow : OpenClaim := { program := "ythdecnghjhdfhaadoor", sum := "7e0d5d9639444f608e3b98d43489c316f73d07a4dcfe196546d8903a7f97a848", func := "loop.example/g01164/laws.FnExactCountIn", spec := "fnExactCountIn", inPlace := ["internal/bytealg.IndexByteString", "internal/bytealg.IndexString"], named := ["unicode/utf8.first", "unicode/utf8.acceptRanges", "internal/bytealg.MaxLen"], apart := false, laid := [("unicode/utf8.acceptRanges", laid_unicode_utf8_acceptRanges), ("unicode/utf8.first", laid_unicode_utf8_first)], narrowed := true }
def FnExactCountInUptoSaid : Prop := fnExactCountInUptoRow.holds Tryd.pinned (OpenSpec.upto fnExactCountInSpec)

/-- 'laws.FnExactPeriodsOf', WHERE WHAT IT READS IS OF BULK AT MOST 1048576: true; the input reads as it did. -/
def fnExactPeriodsOfUptoRow : OpenClaim := { program := "ythdecnghjhdfhaadoor", sum := "7e0d5d9639444f608e3b98d43489c316f73d07a4dcfe196546d8903a7f97a848", func := "loop.example/g01164/laws.FnExactPeriodsOf", spec := "fnExactPeriodsOf", inPlace := ["internal/bytealg.IndexByteString", "internal/bytealg.IndexString"], named := ["unicode/utf8.first", "unicode/utf8.acceptRanges", "internal/bytealg.MaxLen"], apart := false, laid := [("unicode/utf8.acceptRanges", laid_unicode_utf8_acceptRanges), ("unicode/utf8.first", laid_unicode_utf8_first)], narrowed := true }
def FnExactPeriodsOfUptoSaid : Prop := fnExactPeriodsOfUptoRow.holds Tryd.pinned (OpenSpec.upto fnExactPeriodsOfSpec)

/-- 'laws.FnExactBordersOf', WHERE WHAT IT READS IS OF BULK AT MOST 1048576: true; the input reads as it did. -/
def fnExactBordersOfUptoRow : OpenClaim := { program := "ythdecnghjhdfhaadoor", sum := "7e0d5d9639444f608e3b98d43489c316f73d07a4dcfe196546d8903a7f97a848", func := "loop.example/g01164/laws.FnExactBordersOf", spec := "fnExactBordersOf", inPlace := ["internal/bytealg.IndexByteString", "internal/bytealg.IndexString"], named := ["unicode/utf8.first", "unicode/utf8.acceptRanges", "internal/bytealg.MaxLen"], apart := false, laid := [("unicode/utf8.acceptRanges", laid_unicode_utf8_acceptRanges), ("unicode/utf8.first", laid_unicode_utf8_first)], narrowed := true }
def FnExactBordersOfUptoSaid : Prop := fnExactBordersOfUptoRow.holds Tryd.pinned (OpenSpec.upto fnExactBordersOfSpec)

/-- 'laws.FnExactLessWord', WHERE WHAT IT READS IS OF BULK AT MOST 1048576: true; the input reads as it did. -/
def fnExactLessWordUptoRow : OpenClaim := { program := "ythdecnghjhdfhaadoor", sum := "7e0d5d9639444f608e3b98d43489c316f73d07a4dcfe196546d8903a7f97a848", func := "loop.example/g01164/laws.FnExactLessWord", spec := "fnExactLessWord", inPlace := ["internal/bytealg.IndexByteString", "internal/bytealg.IndexString", "internal/bytealg.abigen_runtime_cmpstring"], named := ["unicode/utf8.first", "unicode/utf8.acceptRanges", "internal/bytealg.MaxLen"], apart := false, laid := [("unicode/utf8.acceptRanges", laid_unicode_utf8_acceptRanges), ("unicode/utf8.first", laid_unicode_utf8_first)], narrowed := true }
def FnExactLessWordUptoSaid : Prop := fnExactLessWordUptoRow.holds Tryd.pinned (OpenSpec.upto fnExactLessWordSpec)

/-- 'laws.FnExactIsSet', WHERE WHAT IT READS IS OF BULK AT MOST 1048576: true; the input reads as it did. -/
def fnExactIsSetUptoRow : OpenClaim := { program := "ythdecnghjhdfhaadoor", sum := "7e0d5d9639444f608e3b98d43489c316f73d07a4dcfe196546d8903a7f97a848", func := "loop.example/g01164/laws.FnExactIsSet", spec := "fnExactIsSet", inPlace := ["internal/bytealg.IndexByteString", "internal/bytealg.IndexString", "internal/bytealg.abigen_runtime_cmpstring"], named := ["unicode/utf8.first", "unicode/utf8.acceptRanges", "internal/bytealg.MaxLen"], apart := false, laid := [("unicode/utf8.acceptRanges", laid_unicode_utf8_acceptRanges), ("unicode/utf8.first", laid_unicode_utf8_first)], narrowed := true }
def FnExactIsSetUptoSaid : Prop := fnExactIsSetUptoRow.holds Tryd.pinned (OpenSpec.upto fnExactIsSetSpec)

/-- 'laws.FnExactConcat', WHERE WHAT IT READS IS OF BULK AT MOST 1048576: true; the input reads as it did. -/
def fnExactConcatUptoRow : OpenClaim := { program := "ythdecnghjhdfhaadoor", sum := "7e0d5d9639444f608e3b98d43489c316f73d07a4dcfe196546d8903a7f97a848", func := "loop.example/g01164/laws.FnExactConcat", spec := "fnExactConcat", inPlace := ["internal/bytealg.IndexByteString", "internal/bytealg.IndexString", "internal/abi.NoEscape", "internal/bytealg.MakeNoZero"], unfollowed := true, recurses := true, named := ["unicode/utf8.first", "unicode/utf8.acceptRanges", "internal/bytealg.MaxLen"], apart := false, laid := [("unicode/utf8.acceptRanges", laid_unicode_utf8_acceptRanges), ("unicode/utf8.first", laid_unicode_utf8_first)], narrowed := true }
def FnExactConcatUptoSaid : Prop := fnExactConcatUptoRow.holds Tryd.pinned (OpenSpec.upto fnExactConcatSpec)

/-- 'laws.FnExactCommonDivisor', WHERE WHAT IT READS IS OF BULK AT MOST 1048576: true; the input reads as it did. -/
def fnExactCommonDivisorUptoRow : OpenClaim := { program := "ythdecnghjhdfhaadoor", sum := "7e0d5d9639444f608e3b98d43489c316f73d07a4dcfe196546d8903a7f97a848", func := "loop.example/g01164/laws.FnExactCommonDivisor", spec := "fnExactCommonDivisor", inPlace := ["internal/bytealg.IndexByteString", "internal/bytealg.IndexString", "internal/bytealg.abigen_runtime_cmpstring"], named := ["unicode/utf8.first", "unicode/utf8.acceptRanges", "internal/bytealg.MaxLen"], apart := false, laid := [("unicode/utf8.acceptRanges", laid_unicode_utf8_acceptRanges), ("unicode/utf8.first", laid_unicode_utf8_first)], narrowed := true }
def FnExactCommonDivisorUptoSaid : Prop := fnExactCommonDivisorUptoRow.holds Tryd.pinned (OpenSpec.upto fnExactCommonDivisorSpec)

/-- 'laws.FnExactIsPrefixSet', WHERE WHAT IT READS IS OF BULK AT MOST 1048576: true; the input reads as it did. -/
def fnExactIsPrefixSetUptoRow : OpenClaim := { program := "ythdecnghjhdfhaadoor", sum := "7e0d5d9639444f608e3b98d43489c316f73d07a4dcfe196546d8903a7f97a848", func := "loop.example/g01164/laws.FnExactIsPrefixSet", spec := "fnExactIsPrefixSet", inPlace := ["internal/bytealg.IndexByteString", "internal/bytealg.IndexString", "internal/bytealg.abigen_runtime_cmpstring"], unfollowed := true, recurses := true, named := ["unicode/utf8.first", "unicode/utf8.acceptRanges", "internal/bytealg.MaxLen"], apart := false, laid := [("unicode/utf8.acceptRanges", laid_unicode_utf8_acceptRanges), ("unicode/utf8.first", laid_unicode_utf8_first)], narrowed := true }
def FnExactIsPrefixSetUptoSaid : Prop := fnExactIsPrefixSetUptoRow.holds Tryd.pinned (OpenSpec.upto fnExactIsPrefixSetSpec)

/-- 'laws.FnExactWithoutWord', WHERE WHAT IT READS IS OF BULK AT MOST 1048576: true; the input reads as it did. -/
def fnExactWithoutWordUptoRow : OpenClaim := { program := "ythdecnghjhdfhaadoor", sum := "7e0d5d9639444f608e3b98d43489c316f73d07a4dcfe196546d8903a7f97a848", func := "loop.example/g01164/laws.FnExactWithoutWord", spec := "fnExactWithoutWord", inPlace := ["internal/bytealg.IndexByteString", "internal/bytealg.IndexString", "internal/bytealg.abigen_runtime_cmpstring"], named := ["unicode/utf8.first", "unicode/utf8.acceptRanges", "internal/bytealg.MaxLen"], apart := false, laid := [("unicode/utf8.acceptRanges", laid_unicode_utf8_acceptRanges), ("unicode/utf8.first", laid_unicode_utf8_first)], narrowed := true }
def FnExactWithoutWordUptoSaid : Prop := fnExactWithoutWordUptoRow.holds Tryd.pinned (OpenSpec.upto fnExactWithoutWordSpec)

/-- 'laws.FnExactLettersOf', WHERE WHAT IT READS IS OF BULK AT MOST 1048576: true; the input reads as it did. -/
def fnExactLettersOfUptoRow : OpenClaim := { program := "ythdecnghjhdfhaadoor", sum := "7e0d5d9639444f608e3b98d43489c316f73d07a4dcfe196546d8903a7f97a848", func := "loop.example/g01164/laws.FnExactLettersOf", spec := "fnExactLettersOf", inPlace := ["internal/bytealg.IndexByteString", "internal/bytealg.IndexString", "internal/bytealg.CountString"], named := ["unicode/utf8.first", "unicode/utf8.acceptRanges", "internal/bytealg.MaxLen"], apart := false, laid := [("unicode/utf8.acceptRanges", laid_unicode_utf8_acceptRanges), ("unicode/utf8.first", laid_unicode_utf8_first)], narrowed := true }
def FnExactLettersOfUptoSaid : Prop := fnExactLettersOfUptoRow.holds Tryd.pinned (OpenSpec.upto fnExactLettersOfSpec)

/-- 'laws.FnExactLengthsOf', WHERE WHAT IT READS IS OF BULK AT MOST 1048576: true; the input reads as it did. -/
def fnExactLengthsOfUptoRow : OpenClaim := { program := "ythdecnghjhdfhaadoor", sum := "7e0d5d9639444f608e3b98d43489c316f73d07a4dcfe196546d8903a7f97a848", func := "loop.example/g01164/laws.FnExactLengthsOf", spec := "fnExactLengthsOf", inPlace := ["internal/bytealg.IndexByteString", "internal/bytealg.IndexString", "internal/bytealg.abigen_runtime_cmpstring"], named := ["unicode/utf8.first", "unicode/utf8.acceptRanges", "internal/bytealg.MaxLen"], apart := false, laid := [("unicode/utf8.acceptRanges", laid_unicode_utf8_acceptRanges), ("unicode/utf8.first", laid_unicode_utf8_first)], narrowed := true }
def FnExactLengthsOfUptoSaid : Prop := fnExactLengthsOfUptoRow.holds Tryd.pinned (OpenSpec.upto fnExactLengthsOfSpec)

/-- 'laws.FnExactSetText', WHERE WHAT IT READS IS OF BULK AT MOST 1048576: true; the input reads as it did. -/
def fnExactSetTextUptoRow : OpenClaim := { program := "ythdecnghjhdfhaadoor", sum := "7e0d5d9639444f608e3b98d43489c316f73d07a4dcfe196546d8903a7f97a848", func := "loop.example/g01164/laws.FnExactSetText", spec := "fnExactSetText", inPlace := ["internal/bytealg.IndexByteString", "internal/bytealg.IndexString", "internal/bytealg.abigen_runtime_cmpstring", "internal/abi.NoEscape", "internal/bytealg.MakeNoZero"], named := ["unicode/utf8.first", "unicode/utf8.acceptRanges", "internal/bytealg.MaxLen"], apart := false, laid := [("unicode/utf8.acceptRanges", laid_unicode_utf8_acceptRanges), ("unicode/utf8.first", laid_unicode_utf8_first)], narrowed := true }
def FnExactSetTextUptoSaid : Prop := fnExactSetTextUptoRow.holds Tryd.pinned (OpenSpec.upto fnExactSetTextSpec)

end Rows
end Go.Proofs.YthdecnghjhdfhaaDoor

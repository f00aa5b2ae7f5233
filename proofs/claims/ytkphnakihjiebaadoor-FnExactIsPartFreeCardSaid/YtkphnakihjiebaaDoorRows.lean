/-
  NARROWER THAN 'FOR EVERY INPUT', by the rows' own cells (each row's printed sentence says how): FnExactIsSuffixSet: laid · FnExactIsTwoSided: laid · FnExactIsPartFree: laid · FnExactCommonRoot: laid · FnExactIsPrimitive: laid · FnExactRootOf: laid · FnExactSetOf: laid · FnExactInnerWords: laid · FnExactReverseSet: laid · FnExactLeftQuotient: laid · FnExactJoinSets: laid.
  DERIVED. THE GIVEN ROWS OF THIS SEAT. 11 by the template 'for every input the law returns true; each argument reads behind the call as it read before'; 0 by the template 'total and deterministic' (their statements: YtkphnakihjiebaaDoorTotals.lean).
  GIVEN WITH THE SEED: the statements are not yours to turn. If you find one false, say at which input.
  Laid BY PROGRAM, IN A SANDBOX (cutbox-rows.mjs): the forced cells as the released guide's own fill.sh prints them over the translation 6846282f728a1c40… (all of the seat's roots in one cut). By AI agents, Wed Nov 11 2026. No macro, syntax, notation, axiom, sorry.
-/
import Derived.Test.YtkphnakihjiebaaDoorChecked
import GoSem.PinnedTables
import GoSem.Claim
import GoSem.ClaimJoined
import GoSem.ClaimMapViews
import Derived.JoinedTies
import Derived.KernelRfl
namespace Go.Proofs.YtkphnakihjiebaaDoor
/- THE CELL 'sum', in the pinned program and in every row, IS THE sha256 OF THE DUMP (.gsa) THAT YtkphnakihjiebaaDoorProg.lean LOADS. Nothing in Lean hashes anything: it is a label: what it is worth is what the hold of that sum in a sandbox is worth. -/
noncomputable def Tryd.pinned : Pinned := { name := "ytkphnakihjiebaadoor", sum := "6846282f728a1c406b82c8f4a9a8495e5d0ddc54047a2a18c2b93be6fdeed033", checked := Tryd.checked }
namespace Rows
def none {H : Type} : Left H := { results := [], args := [] }

/- WHAT THE LISTED PACKAGE-LEVEL VARIABLES READ AS WHEN THE CALL BEGINS. Each datum BY PROGRAM (the guide's laid-datum.mjs) off the statement by which the dump's own 'gosem.cut.vars' lays the variable. In a bare row this is a premise. The card (YtkphnakihjiebaaDoorCards.lean) ties it to the program's text. -/
def laid_unicode_utf8_acceptRanges {H : Type} : DataW H := .agg [.agg [.lit (.int .u8 128), .lit (.int .u8 191)], .agg [.lit (.int .u8 160), .lit (.int .u8 191)], .agg [.lit (.int .u8 128), .lit (.int .u8 159)], .agg [.lit (.int .u8 144), .lit (.int .u8 191)], .agg [.lit (.int .u8 128), .lit (.int .u8 143)], .agg [.lit (.int .u8 0), .lit (.int .u8 0)], .agg [.lit (.int .u8 0), .lit (.int .u8 0)], .agg [.lit (.int .u8 0), .lit (.int .u8 0)], .agg [.lit (.int .u8 0), .lit (.int .u8 0)], .agg [.lit (.int .u8 0), .lit (.int .u8 0)], .agg [.lit (.int .u8 0), .lit (.int .u8 0)], .agg [.lit (.int .u8 0), .lit (.int .u8 0)], .agg [.lit (.int .u8 0), .lit (.int .u8 0)], .agg [.lit (.int .u8 0), .lit (.int .u8 0)], .agg [.lit (.int .u8 0), .lit (.int .u8 0)], .agg [.lit (.int .u8 0), .lit (.int .u8 0)]]
/-- One of Go's own tables, pinned by name: the form's constant. -/
def laid_unicode_utf8_first : DataW Unit := Go.Pinned.utf8First

/-- 'laws.FnExactIsSuffixSet': WHATEVER THE INPUT: true; the input reads as it did. -/
def fnExactIsSuffixSetSpec : ChangeSpec := { name := "fnExactIsSuffixSet", fn := fun _ => fun
  | [d] => { results := [.lit (.bool true)], args := [d] }
  | _ => none }
def fnExactIsSuffixSetRow : OpenClaim := { program := "ytkphnakihjiebaadoor", sum := "6846282f728a1c406b82c8f4a9a8495e5d0ddc54047a2a18c2b93be6fdeed033", func := "loop.example/g01164/laws.FnExactIsSuffixSet", spec := "fnExactIsSuffixSet", inPlace := ["internal/bytealg.IndexByteString", "internal/bytealg.IndexString", "internal/bytealg.abigen_runtime_cmpstring"], unfollowed := true, recurses := true, named := ["unicode/utf8.first", "unicode/utf8.acceptRanges", "internal/bytealg.MaxLen"], apart := false, laid := [("unicode/utf8.acceptRanges", laid_unicode_utf8_acceptRanges), ("unicode/utf8.first", laid_unicode_utf8_first)] }
def FnExactIsSuffixSetSaid : Prop := fnExactIsSuffixSetRow.holds Tryd.pinned (OpenSpec.ofChange fnExactIsSuffixSetSpec)

/-- ITS FALSE NEIGHBOUR: 'it returns false'. Refute it at one input. -/
def fnExactIsSuffixSetWrong : ChangeSpec := { name := "fnExactIsSuffixSet", fn := fun _ => fun
  | [d] => { results := [.lit (.bool false)], args := [d] }
  | _ => none }
def FnExactIsSuffixSetWrongFalsely : Prop := fnExactIsSuffixSetRow.holds Tryd.pinned (OpenSpec.ofChange fnExactIsSuffixSetWrong)

/-- 'laws.FnExactIsTwoSided': WHATEVER THE INPUT: true; the input reads as it did. -/
def fnExactIsTwoSidedSpec : ChangeSpec := { name := "fnExactIsTwoSided", fn := fun _ => fun
  | [d] => { results := [.lit (.bool true)], args := [d] }
  | _ => none }
def fnExactIsTwoSidedRow : OpenClaim := { program := "ytkphnakihjiebaadoor", sum := "6846282f728a1c406b82c8f4a9a8495e5d0ddc54047a2a18c2b93be6fdeed033", func := "loop.example/g01164/laws.FnExactIsTwoSided", spec := "fnExactIsTwoSided", inPlace := ["internal/bytealg.IndexByteString", "internal/bytealg.IndexString", "internal/bytealg.abigen_runtime_cmpstring"], unfollowed := true, recurses := true, named := ["unicode/utf8.first", "unicode/utf8.acceptRanges", "internal/bytealg.MaxLen"], apart := false, laid := [("unicode/utf8.acceptRanges", laid_unicode_utf8_acceptRanges), ("unicode/utf8.first", laid_unicode_utf8_first)] }
def FnExactIsTwoSidedSaid : Prop := fnExactIsTwoSidedRow.holds Tryd.pinned (OpenSpec.ofChange fnExactIsTwoSidedSpec)

/-- ITS FALSE NEIGHBOUR: 'it returns false'. Refute it at one input. -/
def fnExactIsTwoSidedWrong : ChangeSpec := { name := "fnExactIsTwoSided", fn := fun _ => fun
  | [d] => { results := [.lit (.bool false)], args := [d] }
  | _ => none }
def FnExactIsTwoSidedWrongFalsely : Prop := fnExactIsTwoSidedRow.holds Tryd.pinned (OpenSpec.ofChange fnExactIsTwoSidedWrong)

/-- 'laws.FnExactIsPartFree': WHATEVER THE INPUT: true; the input reads as it did. -/
def fnExactIsPartFreeSpec : ChangeSpec := { name := "fnExactIsPartFree", fn := fun _ => fun
  | [d] => { results := [.lit (.bool true)], args := [d] }
  | _ => none }
def fnExactIsPartFreeRow : OpenClaim := { program := "ytkphnakihjiebaadoor", sum := "6846282f728a1c406b82c8f4a9a8495e5d0ddc54047a2a18c2b93be6fdeed033", func := "loop.example/g01164/laws.FnExactIsPartFree", spec := "fnExactIsPartFree", inPlace := ["internal/bytealg.IndexByteString", "internal/bytealg.IndexString", "internal/bytealg.abigen_runtime_cmpstring"], unfollowed := true, recurses := true, named := ["unicode/utf8.first", "unicode/utf8.acceptRanges", "internal/bytealg.MaxLen"], apart := false, laid := [("unicode/utf8.acceptRanges", laid_unicode_utf8_acceptRanges), ("unicode/utf8.first", laid_unicode_utf8_first)] }
def FnExactIsPartFreeSaid : Prop := fnExactIsPartFreeRow.holds Tryd.pinned (OpenSpec.ofChange fnExactIsPartFreeSpec)

/-- ITS FALSE NEIGHBOUR: 'it returns false'. Refute it at one input. -/
def fnExactIsPartFreeWrong : ChangeSpec := { name := "fnExactIsPartFree", fn := fun _ => fun
  | [d] => { results := [.lit (.bool false)], args := [d] }
  | _ => none }
def FnExactIsPartFreeWrongFalsely : Prop := fnExactIsPartFreeRow.holds Tryd.pinned (OpenSpec.ofChange fnExactIsPartFreeWrong)

/-- 'laws.FnExactCommonRoot': WHATEVER THE INPUT: true; the input reads as it did. -/
def fnExactCommonRootSpec : ChangeSpec := { name := "fnExactCommonRoot", fn := fun _ => fun
  | [d1, d2] => { results := [.lit (.bool true)], args := [d1, d2] }
  | _ => none }
def fnExactCommonRootRow : OpenClaim := { program := "ytkphnakihjiebaadoor", sum := "6846282f728a1c406b82c8f4a9a8495e5d0ddc54047a2a18c2b93be6fdeed033", func := "loop.example/g01164/laws.FnExactCommonRoot", spec := "fnExactCommonRoot", inPlace := ["internal/bytealg.IndexByteString", "internal/bytealg.IndexString", "internal/abi.NoEscape", "internal/bytealg.MakeNoZero"], named := ["unicode/utf8.first", "unicode/utf8.acceptRanges", "internal/bytealg.MaxLen"], apart := false, laid := [("unicode/utf8.acceptRanges", laid_unicode_utf8_acceptRanges), ("unicode/utf8.first", laid_unicode_utf8_first)] }
def FnExactCommonRootSaid : Prop := fnExactCommonRootRow.holds Tryd.pinned (OpenSpec.ofChange fnExactCommonRootSpec)

/-- ITS FALSE NEIGHBOUR: 'it returns false'. Refute it at one input. -/
def fnExactCommonRootWrong : ChangeSpec := { name := "fnExactCommonRoot", fn := fun _ => fun
  | [d1, d2] => { results := [.lit (.bool false)], args := [d1, d2] }
  | _ => none }
def FnExactCommonRootWrongFalsely : Prop := fnExactCommonRootRow.holds Tryd.pinned (OpenSpec.ofChange fnExactCommonRootWrong)

/-- 'laws.FnExactIsPrimitive': WHATEVER THE INPUT: true; the input reads as it did. -/
def fnExactIsPrimitiveSpec : ChangeSpec := { name := "fnExactIsPrimitive", fn := fun _ => fun
  | [d] => { results := [.lit (.bool true)], args := [d] }
  | _ => none }
def fnExactIsPrimitiveRow : OpenClaim := { program := "ytkphnakihjiebaadoor", sum := "6846282f728a1c406b82c8f4a9a8495e5d0ddc54047a2a18c2b93be6fdeed033", func := "loop.example/g01164/laws.FnExactIsPrimitive", spec := "fnExactIsPrimitive", inPlace := ["internal/bytealg.IndexByteString", "internal/bytealg.IndexString", "internal/abi.NoEscape", "internal/bytealg.MakeNoZero"], named := ["unicode/utf8.first", "unicode/utf8.acceptRanges", "internal/bytealg.MaxLen"], apart := false, laid := [("unicode/utf8.acceptRanges", laid_unicode_utf8_acceptRanges), ("unicode/utf8.first", laid_unicode_utf8_first)] }
def FnExactIsPrimitiveSaid : Prop := fnExactIsPrimitiveRow.holds Tryd.pinned (OpenSpec.ofChange fnExactIsPrimitiveSpec)

/-- ITS FALSE NEIGHBOUR: 'it returns false'. Refute it at one input. -/
def fnExactIsPrimitiveWrong : ChangeSpec := { name := "fnExactIsPrimitive", fn := fun _ => fun
  | [d] => { results := [.lit (.bool false)], args := [d] }
  | _ => none }
def FnExactIsPrimitiveWrongFalsely : Prop := fnExactIsPrimitiveRow.holds Tryd.pinned (OpenSpec.ofChange fnExactIsPrimitiveWrong)

/-- 'laws.FnExactRootOf': WHATEVER THE INPUT: true; the input reads as it did. -/
def fnExactRootOfSpec : ChangeSpec := { name := "fnExactRootOf", fn := fun _ => fun
  | [d] => { results := [.lit (.bool true)], args := [d] }
  | _ => none }
def fnExactRootOfRow : OpenClaim := { program := "ytkphnakihjiebaadoor", sum := "6846282f728a1c406b82c8f4a9a8495e5d0ddc54047a2a18c2b93be6fdeed033", func := "loop.example/g01164/laws.FnExactRootOf", spec := "fnExactRootOf", inPlace := ["internal/bytealg.IndexByteString", "internal/bytealg.IndexString", "internal/abi.NoEscape", "internal/bytealg.MakeNoZero"], named := ["unicode/utf8.first", "unicode/utf8.acceptRanges", "internal/bytealg.MaxLen"], apart := false, laid := [("unicode/utf8.acceptRanges", laid_unicode_utf8_acceptRanges), ("unicode/utf8.first", laid_unicode_utf8_first)] }
def FnExactRootOfSaid : Prop := fnExactRootOfRow.holds Tryd.pinned (OpenSpec.ofChange fnExactRootOfSpec)

/-- ITS FALSE NEIGHBOUR: 'it returns false'. Refute it at one input. -/
def fnExactRootOfWrong : ChangeSpec := { name := "fnExactRootOf", fn := fun _ => fun
  | [d] => { results := [.lit (.bool false)], args := [d] }
  | _ => none }
def FnExactRootOfWrongFalsely : Prop := fnExactRootOfRow.holds Tryd.pinned (OpenSpec.ofChange fnExactRootOfWrong)

/-- 'laws.FnExactSetOf': WHATEVER THE INPUT: true; the input reads as it did. -/
def fnExactSetOfSpec : ChangeSpec := { name := "fnExactSetOf", fn := fun _ => fun
  | [d] => { results := [.lit (.bool true)], args := [d] }
  | _ => none }
def fnExactSetOfRow : OpenClaim := { program := "ytkphnakihjiebaadoor", sum := "6846282f728a1c406b82c8f4a9a8495e5d0ddc54047a2a18c2b93be6fdeed033", func := "loop.example/g01164/laws.FnExactSetOf", spec := "fnExactSetOf", inPlace := ["internal/bytealg.IndexByteString", "internal/bytealg.IndexString", "internal/bytealg.abigen_runtime_cmpstring"], unfollowed := true, recurses := true, named := ["unicode/utf8.first", "unicode/utf8.acceptRanges", "internal/bytealg.MaxLen"], apart := false, laid := [("unicode/utf8.acceptRanges", laid_unicode_utf8_acceptRanges), ("unicode/utf8.first", laid_unicode_utf8_first)] }
def FnExactSetOfSaid : Prop := fnExactSetOfRow.holds Tryd.pinned (OpenSpec.ofChange fnExactSetOfSpec)

/-- ITS FALSE NEIGHBOUR: 'it returns false'. Refute it at one input. -/
def fnExactSetOfWrong : ChangeSpec := { name := "fnExactSetOf", fn := fun _ => fun
  | [d] => { results := [.lit (.bool false)], args := [d] }
  | _ => none }
def FnExactSetOfWrongFalsely : Prop := fnExactSetOfRow.holds Tryd.pinned (OpenSpec.ofChange fnExactSetOfWrong)

/-- 'laws.FnExactInnerWords': WHATEVER THE INPUT: true; the input reads as it did. -/
def fnExactInnerWordsSpec : ChangeSpec := { name := "fnExactInnerWords", fn := fun _ => fun
  | [d] => { results := [.lit (.bool true)], args := [d] }
  | _ => none }
def fnExactInnerWordsRow : OpenClaim := { program := "ytkphnakihjiebaadoor", sum := "6846282f728a1c406b82c8f4a9a8495e5d0ddc54047a2a18c2b93be6fdeed033", func := "loop.example/g01164/laws.FnExactInnerWords", spec := "fnExactInnerWords", inPlace := ["internal/bytealg.IndexByteString", "internal/bytealg.IndexString", "internal/bytealg.abigen_runtime_cmpstring"], unfollowed := true, recurses := true, named := ["unicode/utf8.first", "unicode/utf8.acceptRanges", "internal/bytealg.MaxLen"], apart := false, laid := [("unicode/utf8.acceptRanges", laid_unicode_utf8_acceptRanges), ("unicode/utf8.first", laid_unicode_utf8_first)] }
def FnExactInnerWordsSaid : Prop := fnExactInnerWordsRow.holds Tryd.pinned (OpenSpec.ofChange fnExactInnerWordsSpec)

/-- ITS FALSE NEIGHBOUR: 'it returns false'. Refute it at one input. -/
def fnExactInnerWordsWrong : ChangeSpec := { name := "fnExactInnerWords", fn := fun _ => fun
  | [d] => { results := [.lit (.bool false)], args := [d] }
  | _ => none }
def FnExactInnerWordsWrongFalsely : Prop := fnExactInnerWordsRow.holds Tryd.pinned (OpenSpec.ofChange fnExactInnerWordsWrong)

/-- 'laws.FnExactReverseSet': WHATEVER THE INPUT: true; the input reads as it did. -/
def fnExactReverseSetSpec : ChangeSpec := { name := "fnExactReverseSet", fn := fun _ => fun
  | [d] => { results := [.lit (.bool true)], args := [d] }
  | _ => none }
def fnExactReverseSetRow : OpenClaim := { program := "ytkphnakihjiebaadoor", sum := "6846282f728a1c406b82c8f4a9a8495e5d0ddc54047a2a18c2b93be6fdeed033", func := "loop.example/g01164/laws.FnExactReverseSet", spec := "fnExactReverseSet", inPlace := ["internal/bytealg.IndexByteString", "internal/bytealg.IndexString", "internal/bytealg.abigen_runtime_cmpstring"], unfollowed := true, recurses := true, named := ["unicode/utf8.first", "unicode/utf8.acceptRanges", "internal/bytealg.MaxLen"], apart := false, laid := [("unicode/utf8.acceptRanges", laid_unicode_utf8_acceptRanges), ("unicode/utf8.first", laid_unicode_utf8_first)] }
def FnExactReverseSetSaid : Prop := fnExactReverseSetRow.holds Tryd.pinned (OpenSpec.ofChange fnExactReverseSetSpec)

/-- ITS FALSE NEIGHBOUR: 'it returns false'. Refute it at one input. -/
def fnExactReverseSetWrong : ChangeSpec := { name := "fnExactReverseSet", fn := fun _ => fun
  | [d] => { results := [.lit (.bool false)], args := [d] }
  | _ => none }
def FnExactReverseSetWrongFalsely : Prop := fnExactReverseSetRow.holds Tryd.pinned (OpenSpec.ofChange fnExactReverseSetWrong)

/-- 'laws.FnExactLeftQuotient': WHATEVER THE INPUT: true; the input reads as it did. -/
def fnExactLeftQuotientSpec : ChangeSpec := { name := "fnExactLeftQuotient", fn := fun _ => fun
  | [d1, d2] => { results := [.lit (.bool true)], args := [d1, d2] }
  | _ => none }
def fnExactLeftQuotientRow : OpenClaim := { program := "ytkphnakihjiebaadoor", sum := "6846282f728a1c406b82c8f4a9a8495e5d0ddc54047a2a18c2b93be6fdeed033", func := "loop.example/g01164/laws.FnExactLeftQuotient", spec := "fnExactLeftQuotient", inPlace := ["internal/bytealg.IndexByteString", "internal/bytealg.IndexString", "internal/bytealg.abigen_runtime_cmpstring"], unfollowed := true, recurses := true, named := ["unicode/utf8.first", "unicode/utf8.acceptRanges", "internal/bytealg.MaxLen"], apart := false, laid := [("unicode/utf8.acceptRanges", laid_unicode_utf8_acceptRanges), ("unicode/utf8.first", laid_unicode_utf8_first)] }
def FnExactLeftQuotientSaid : Prop := fnExactLeftQuotientRow.holds Tryd.pinned (OpenSpec.ofChange fnExactLeftQuotientSpec)

/-- ITS FALSE NEIGHBOUR: 'it returns false'. Refute it at one input. -/
def fnExactLeftQuotientWrong : ChangeSpec := { name := "fnExactLeftQuotient", fn := fun _ => fun
  | [d1, d2] => { results := [.lit (.bool false)], args := [d1, d2] }
  | _ => none }
def FnExactLeftQuotientWrongFalsely : Prop := fnExactLeftQuotientRow.holds Tryd.pinned (OpenSpec.ofChange fnExactLeftQuotientWrong)

/-- 'laws.FnExactJoinSets': WHATEVER THE INPUT: true; the input reads as it did. -/
def fnExactJoinSetsSpec : ChangeSpec := { name := "fnExactJoinSets", fn := fun _ => fun
  | [d1, d2] => { results := [.lit (.bool true)], args := [d1, d2] }
  | _ => none }
def fnExactJoinSetsRow : OpenClaim := { program := "ytkphnakihjiebaadoor", sum := "6846282f728a1c406b82c8f4a9a8495e5d0ddc54047a2a18c2b93be6fdeed033", func := "loop.example/g01164/laws.FnExactJoinSets", spec := "fnExactJoinSets", inPlace := ["internal/bytealg.IndexByteString", "internal/bytealg.IndexString", "internal/bytealg.abigen_runtime_cmpstring"], unfollowed := true, recurses := true, named := ["unicode/utf8.first", "unicode/utf8.acceptRanges", "internal/bytealg.MaxLen"], apart := false, laid := [("unicode/utf8.acceptRanges", laid_unicode_utf8_acceptRanges), ("unicode/utf8.first", laid_unicode_utf8_first)] }
def FnExactJoinSetsSaid : Prop := fnExactJoinSetsRow.holds Tryd.pinned (OpenSpec.ofChange fnExactJoinSetsSpec)

/-- ITS FALSE NEIGHBOUR: 'it returns false'. Refute it at one input. -/
def fnExactJoinSetsWrong : ChangeSpec := { name := "fnExactJoinSets", fn := fun _ => fun
  | [d1, d2] => { results := [.lit (.bool false)], args := [d1, d2] }
  | _ => none }
def FnExactJoinSetsWrongFalsely : Prop := fnExactJoinSetsRow.holds Tryd.pinned (OpenSpec.ofChange fnExactJoinSetsWrong)

/- THE SECOND FORM. 'bulk': how many values and letters a reading holds, each counted each time it is reached (what is shared counts as often as it is met; a slice's spare places count too). A statement '..UptoSaid' is the law's where the arguments, and the package variables that the reading takes, are together of bulk at most 1048576: NARROWER than '..Said'. Prove '..Said' where nothing that the law and all that it calls make is longer than what came in: it says more and counts as full. Else prove '..UptoSaid'. A law counts once. -/
mutual
def uptoBulk {H : Type} : DataW H → Nat
  | .lit (.string bytes) => bytes.length + 1
  | .lit _ => 1
  | .nil => 1
  | .ptr d => uptoBulk d + 1
  | .slice elems spare => uptoBulkAll elems + uptoBulkAll spare + 1
  | .agg parts => uptoBulkAll parts + 1
  | .iface _ d => uptoBulk d + 1
  | .map entries => uptoBulkEntries entries + 1
  | .held _ => 1
def uptoBulkAll {H : Type} : List (DataW H) → Nat
  | [] => 0
  | d :: r => uptoBulk d + uptoBulkAll r
def uptoBulkEntries {H : Type} : List (Lit × DataW H) → Nat
  | [] => 0
  | x :: r => uptoBulkEntry x + uptoBulkEntries r
def uptoBulkEntry {H : Type} : Lit × DataW H → Nat
  | (.string bytes, d) => bytes.length + uptoBulk d + 1
  | (_, d) => uptoBulk d + 1
 end
def uptoSmall : (H : Type) → List (DataW H) → Bool := fun _ ds => decide (uptoBulkAll ds ≤ 1048576)
def OpenSpec.upto (s : _root_.Go.ChangeSpec) : _root_.Go.OpenSpec := { _root_.Go.OpenSpec.ofChange s with cond := some uptoSmall }

/-- 'laws.FnExactIsSuffixSet', WHERE WHAT IT READS IS OF BULK AT MOST 1048576: true; the input reads as it did. -/
def fnExactIsSuffixSetUptoRow : OpenClaim := { program := "ytkphnakihjiebaadoor", sum := "6846282f728a1c406b82c8f4a9a8495e5d0ddc54047a2a18c2b93be6fdeed033", func := "loop.example/g01164/laws.FnExactIsSuffixSet", spec := "fnExactIsSuffixSet", inPlace := ["internal/bytealg.IndexByteString", "internal/bytealg.IndexString", "internal/bytealg.abigen_runtime_cmpstring"], unfollowed := true, recurses := true, named := ["unicode/utf8.first", "unicode/utf8.acceptRanges", "internal/bytealg.MaxLen"], apart := false, laid := [("unicode/utf8.acceptRanges", laid_unicode_utf8_acceptRanges), ("unicode/utf8.first", laid_unicode_utf8_first)], narrowed := true }
def FnExactIsSuffixSetUptoSaid : Prop := fnExactIsSuffixSetUptoRow.holds Tryd.pinned (OpenSpec.upto fnExactIsSuffixSetSpec)

/-- 'laws.FnExactIsTwoSided', WHERE WHAT IT READS IS OF BULK AT MOST 1048576: true; the input reads as it did. -/
def fnExactIsTwoSidedUptoRow : OpenClaim := { program := "ytkphnakihjiebaadoor", sum := "6846282f728a1c406b82c8f4a9a8495e5d0ddc54047a2a18c2b93be6fdeed033", func := "loop.example/g01164/laws.FnExactIsTwoSided", spec := "fnExactIsTwoSided", inPlace := ["internal/bytealg.IndexByteString", "internal/bytealg.IndexString", "internal/bytealg.abigen_runtime_cmpstring"], unfollowed := true, recurses := true, named := ["unicode/utf8.first", "unicode/utf8.acceptRanges", "internal/bytealg.MaxLen"], apart := false, laid := [("unicode/utf8.acceptRanges", laid_unicode_utf8_acceptRanges), ("unicode/utf8.first", laid_unicode_utf8_first)], narrowed := true }
def FnExactIsTwoSidedUptoSaid : Prop := fnExactIsTwoSidedUptoRow.holds Tryd.pinned (OpenSpec.upto fnExactIsTwoSidedSpec)

/-- 'laws.FnExactIsPartFree', WHERE WHAT IT READS IS OF BULK AT MOST 1048576: true; the input reads as it did. -/
def fnExactIsPartFreeUptoRow : OpenClaim := { program := "ytkphnakihjiebaadoor", sum := "6846282f728a1c406b82c8f4a9a8495e5d0ddc54047a2a18c2b93be6fdeed033", func := "loop.example/g01164/laws.FnExactIsPartFree", spec := "fnExactIsPartFree", inPlace := ["internal/bytealg.IndexByteString", "internal/bytealg.IndexString", "internal/bytealg.abigen_runtime_cmpstring"], unfollowed := true, recurses := true, named := ["unicode/utf8.first", "unicode/utf8.acceptRanges", "internal/bytealg.MaxLen"], apart := false, laid := [("unicode/utf8.acceptRanges", laid_unicode_utf8_acceptRanges), ("unicode/utf8.first", laid_unicode_utf8_first)], narrowed := true }
def FnExactIsPartFreeUptoSaid : Prop := fnExactIsPartFreeUptoRow.holds Tryd.pinned (OpenSpec.upto fnExactIsPartFreeSpec)

/-- 'laws.FnExactCommonRoot', WHERE WHAT IT READS IS OF BULK AT MOST 1048576: true; the input reads as it did. -/
def fnExactCommonRootUptoRow : OpenClaim := { program := "ytkphnakihjiebaadoor", sum := "6846282f728a1c406b82c8f4a9a8495e5d0ddc54047a2a18c2b93be6fdeed033", func := "loop.example/g01164/laws.FnExactCommonRoot", spec := "fnExactCommonRoot", inPlace := ["internal/bytealg.IndexByteString", "internal/bytealg.IndexString", "internal/abi.NoEscape", "internal/bytealg.MakeNoZero"], named := ["unicode/utf8.first", "unicode/utf8.acceptRanges", "internal/bytealg.MaxLen"], apart := false, laid := [("unicode/utf8.acceptRanges", laid_unicode_utf8_acceptRanges), ("unicode/utf8.first", laid_unicode_utf8_first)], narrowed := true }
def FnExactCommonRootUptoSaid : Prop := fnExactCommonRootUptoRow.holds Tryd.pinned (OpenSpec.upto fnExactCommonRootSpec)

/-- 'laws.FnExactIsPrimitive', WHERE WHAT IT READS IS OF BULK AT MOST 1048576: true; the input reads as it did. -/
def fnExactIsPrimitiveUptoRow : OpenClaim := { program := "ytkphnakihjiebaadoor", sum := "6846282f728a1c406b82c8f4a9a8495e5d0ddc54047a2a18c2b93be6fdeed033", func := "loop.example/g01164/laws.FnExactIsPrimitive", spec := "fnExactIsPrimitive", inPlace := ["internal/bytealg.IndexByteString", "internal/bytealg.IndexString", "internal/abi.NoEscape", "internal/bytealg.MakeNoZero"], named := ["unicode/utf8.first", "unicode/utf8.acceptRanges", "internal/bytealg.MaxLen"], apart := false, laid := [("unicode/utf8.acceptRanges", laid_unicode_utf8_acceptRanges), ("unicode/utf8.first", laid_unicode_utf8_first)], narrowed := true }
def FnExactIsPrimitiveUptoSaid : Prop := fnExactIsPrimitiveUptoRow.holds Tryd.pinned (OpenSpec.upto fnExactIsPrimitiveSpec)

/-- 'laws.FnExactRootOf', WHERE WHAT IT READS IS OF BULK AT MOST 1048576: true; the input reads as it did. -/
def fnExactRootOfUptoRow : OpenClaim := { program := "ytkphnakihjiebaadoor", sum := "6846282f728a1c406b82c8f4a9a8495e5d0ddc54047a2a18c2b93be6fdeed033", func := "loop.example/g01164/laws.FnExactRootOf", spec := "fnExactRootOf", inPlace := ["internal/bytealg.IndexByteString", "internal/bytealg.IndexString", "internal/abi.NoEscape", "internal/bytealg.MakeNoZero"], named := ["unicode/utf8.first", "unicode/utf8.acceptRanges", "internal/bytealg.MaxLen"], apart := false, laid := [("unicode/utf8.acceptRanges", laid_unicode_utf8_acceptRanges), ("unicode/utf8.first", laid_unicode_utf8_first)], narrowed := true }
def FnExactRootOfUptoSaid : Prop := fnExactRootOfUptoRow.holds Tryd.pinned (OpenSpec.upto fnExactRootOfSpec)

/-- 'laws.FnExactSetOf', WHERE WHAT IT READS IS OF BULK AT MOST 1048576: true; the input reads as it did. -/
def fnExactSetOfUptoRow : OpenClaim := { program := "ytkphnakihjiebaadoor", sum := "6846282f728a1c406b82c8f4a9a8495e5d0ddc54047a2a18c2b93be6fdeed033", func := "loop.example/g01164/laws.FnExactSetOf", spec := "fnExactSetOf", inPlace := ["internal/bytealg.IndexByteString", "internal/bytealg.IndexString", "internal/bytealg.abigen_runtime_cmpstring"], unfollowed := true, recurses := true, named := ["unicode/utf8.first", "unicode/utf8.acceptRanges", "internal/bytealg.MaxLen"], apart := false, laid := [("unicode/utf8.acceptRanges", laid_unicode_utf8_acceptRanges), ("unicode/utf8.first", laid_unicode_utf8_first)], narrowed := true }
def FnExactSetOfUptoSaid : Prop := fnExactSetOfUptoRow.holds Tryd.pinned (OpenSpec.upto fnExactSetOfSpec)

/-- 'laws.FnExactInnerWords', WHERE WHAT IT READS IS OF BULK AT MOST 1048576: true; the input reads as it did. -/
def fnExactInnerWordsUptoRow : OpenClaim := { program := "ytkphnakihjiebaadoor", sum := "6846282f728a1c406b82c8f4a9a8495e5d0ddc54047a2a18c2b93be6fdeed033", func := "loop.example/g01164/laws.FnExactInnerWords", spec := "fnExactInnerWords", inPlace := ["internal/bytealg.IndexByteString", "internal/bytealg.IndexString", "internal/bytealg.abigen_runtime_cmpstring"], unfollowed := true, recurses := true, named := ["unicode/utf8.first", "unicode/utf8.acceptRanges", "internal/bytealg.MaxLen"], apart := false, laid := [("unicode/utf8.acceptRanges", laid_unicode_utf8_acceptRanges), ("unicode/utf8.first", laid_unicode_utf8_first)], narrowed := true }
def FnExactInnerWordsUptoSaid : Prop := fnExactInnerWordsUptoRow.holds Tryd.pinned (OpenSpec.upto fnExactInnerWordsSpec)

/-- 'laws.FnExactReverseSet', WHERE WHAT IT READS IS OF BULK AT MOST 1048576: true; the input reads as it did. -/
def fnExactReverseSetUptoRow : OpenClaim := { program := "ytkphnakihjiebaadoor", sum := "6846282f728a1c406b82c8f4a9a8495e5d0ddc54047a2a18c2b93be6fdeed033", func := "loop.example/g01164/laws.FnExactReverseSet", spec := "fnExactReverseSet", inPlace := ["internal/bytealg.IndexByteString", "internal/bytealg.IndexString", "internal/bytealg.abigen_runtime_cmpstring"], unfollowed := true, recurses := true, named := ["unicode/utf8.first", "unicode/utf8.acceptRanges", "internal/bytealg.MaxLen"], apart := false, laid := [("unicode/utf8.acceptRanges", laid_unicode_utf8_acceptRanges), ("unicode/utf8.first", laid_unicode_utf8_first)], narrowed := true }
def FnExactReverseSetUptoSaid : Prop := fnExactReverseSetUptoRow.holds Tryd.pinned (OpenSpec.upto fnExactReverseSetSpec)

/-- 'laws.FnExactLeftQuotient', WHERE WHAT IT READS IS OF BULK AT MOST 1048576: true; the input reads as it did. -/
def fnExactLeftQuotientUptoRow : OpenClaim := { program := "ytkphnakihjiebaadoor", sum := "6846282f728a1c406b82c8f4a9a8495e5d0ddc54047a2a18c2b93be6fdeed033", func := "loop.example/g01164/laws.FnExactLeftQuotient", spec := "fnExactLeftQuotient", inPlace := ["internal/bytealg.IndexByteString", "internal/bytealg.IndexString", "internal/bytealg.abigen_runtime_cmpstring"], unfollowed := true, recurses := true, named := ["unicode/utf8.first", "unicode/utf8.acceptRanges", "internal/bytealg.MaxLen"], apart := false, laid := [("unicode/utf8.acceptRanges", laid_unicode_utf8_acceptRanges), ("unicode/utf8.first", laid_unicode_utf8_first)], narrowed := true }
def FnExactLeftQuotientUptoSaid : Prop := fnExactLeftQuotientUptoRow.holds Tryd.pinned (OpenSpec.upto fnExactLeftQuotientSpec)

/-- 'laws.FnExactJoinSets', WHERE WHAT IT READS IS OF BULK AT MOST 1048576: true; the input reads as it did. -/
def fnExactJoinSetsUptoRow : OpenClaim := { program := "ytkphnakihjiebaadoor", sum := "6846282f728a1c406b82c8f4a9a8495e5d0ddc54047a2a18c2b93be6fdeed033", func := "loop.example/g01164/laws.FnExactJoinSets", spec := "fnExactJoinSets", inPlace := ["internal/bytealg.IndexByteString", "internal/bytealg.IndexString", "internal/bytealg.abigen_runtime_cmpstring"], unfollowed := true, recurses := true, named := ["unicode/utf8.first", "unicode/utf8.acceptRanges", "internal/bytealg.MaxLen"], apart := false, laid := [("unicode/utf8.acceptRanges", laid_unicode_utf8_acceptRanges), ("unicode/utf8.first", laid_unicode_utf8_first)], narrowed := true }
def FnExactJoinSetsUptoSaid : Prop := fnExactJoinSetsUptoRow.holds Tryd.pinned (OpenSpec.upto fnExactJoinSetsSpec)

end Rows
end Go.Proofs.YtkphnakihjiebaaDoor

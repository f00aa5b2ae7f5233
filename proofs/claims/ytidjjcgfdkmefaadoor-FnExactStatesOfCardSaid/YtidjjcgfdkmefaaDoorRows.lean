/-
  NARROWER THAN 'FOR EVERY INPUT', by the rows' own cells (each row's printed sentence says how): FnExactStatesOf: laid · FnExactShortestDouble: laid · FnExactAllReadings: laid · FnExactTwoReadings: laid · FnExactLevelsOf: laid · FnExactShrinkPrefix: laid.
  DERIVED. THE GIVEN ROWS OF THIS SEAT. 6 by the template 'for every input the law returns true; each argument reads behind the call as it read before'; 0 by the template 'total and deterministic' (their statements: YtidjjcgfdkmefaaDoorTotals.lean).
  GIVEN WITH THE SEED: the statements are not yours to turn. If you find one false, say at which input.
  Laid BY PROGRAM, IN A SANDBOX (cutbox-rows.mjs): the forced cells as the released guide's own fill.sh prints them over the translation 9d9d307aaa2b5def… (all of the seat's roots in one cut). By AI agents, Wed Nov 11 2026. No macro, syntax, notation, axiom, sorry.
-/
import Derived.Test.YtidjjcgfdkmefaaDoorChecked
import GoSem.PinnedTables
import GoSem.Claim
import GoSem.ClaimJoined
import GoSem.ClaimMapViews
import Derived.JoinedTies
import Derived.KernelRfl
namespace Go.Proofs.YtidjjcgfdkmefaaDoor
/- THE CELL 'sum', in the pinned program and in every row, IS THE sha256 OF THE DUMP (.gsa) THAT YtidjjcgfdkmefaaDoorProg.lean LOADS. Nothing in Lean hashes anything: it is a label: what it is worth is what the hold of that sum in a sandbox is worth. -/
noncomputable def Tryd.pinned : Pinned := { name := "ytidjjcgfdkmefaadoor", sum := "9d9d307aaa2b5def2638a10f52ee9a14182c40f5472112f4dff6da230c1eeb55", checked := Tryd.checked }
namespace Rows
def none {H : Type} : Left H := { results := [], args := [] }

/- WHAT THE LISTED PACKAGE-LEVEL VARIABLES READ AS WHEN THE CALL BEGINS. Each datum BY PROGRAM (the guide's laid-datum.mjs) off the statement by which the dump's own 'gosem.cut.vars' lays the variable. In a bare row this is a premise. The card (YtidjjcgfdkmefaaDoorCards.lean) ties it to the program's text. -/
def laid_unicode_utf8_acceptRanges {H : Type} : DataW H := .agg [.agg [.lit (.int .u8 128), .lit (.int .u8 191)], .agg [.lit (.int .u8 160), .lit (.int .u8 191)], .agg [.lit (.int .u8 128), .lit (.int .u8 159)], .agg [.lit (.int .u8 144), .lit (.int .u8 191)], .agg [.lit (.int .u8 128), .lit (.int .u8 143)], .agg [.lit (.int .u8 0), .lit (.int .u8 0)], .agg [.lit (.int .u8 0), .lit (.int .u8 0)], .agg [.lit (.int .u8 0), .lit (.int .u8 0)], .agg [.lit (.int .u8 0), .lit (.int .u8 0)], .agg [.lit (.int .u8 0), .lit (.int .u8 0)], .agg [.lit (.int .u8 0), .lit (.int .u8 0)], .agg [.lit (.int .u8 0), .lit (.int .u8 0)], .agg [.lit (.int .u8 0), .lit (.int .u8 0)], .agg [.lit (.int .u8 0), .lit (.int .u8 0)], .agg [.lit (.int .u8 0), .lit (.int .u8 0)], .agg [.lit (.int .u8 0), .lit (.int .u8 0)]]
/-- One of Go's own tables, pinned by name: the form's constant. -/
def laid_unicode_utf8_first : DataW Unit := Go.Pinned.utf8First

/-- 'laws.FnExactStatesOf': WHATEVER THE INPUT: true; the input reads as it did. -/
def fnExactStatesOfSpec : ChangeSpec := { name := "fnExactStatesOf", fn := fun _ => fun
  | [d] => { results := [.lit (.bool true)], args := [d] }
  | _ => none }
def fnExactStatesOfRow : OpenClaim := { program := "ytidjjcgfdkmefaadoor", sum := "9d9d307aaa2b5def2638a10f52ee9a14182c40f5472112f4dff6da230c1eeb55", func := "loop.example/g01164/laws.FnExactStatesOf", spec := "fnExactStatesOf", inPlace := ["internal/bytealg.IndexByteString", "internal/bytealg.IndexString", "internal/bytealg.abigen_runtime_cmpstring"], unfollowed := true, recurses := true, named := ["unicode/utf8.first", "unicode/utf8.acceptRanges", "internal/bytealg.MaxLen"], apart := false, laid := [("unicode/utf8.acceptRanges", laid_unicode_utf8_acceptRanges), ("unicode/utf8.first", laid_unicode_utf8_first)] }
def FnExactStatesOfSaid : Prop := fnExactStatesOfRow.holds Tryd.pinned (OpenSpec.ofChange fnExactStatesOfSpec)

/-- ITS FALSE NEIGHBOUR: 'it returns false'. Refute it at one input. -/
def fnExactStatesOfWrong : ChangeSpec := { name := "fnExactStatesOf", fn := fun _ => fun
  | [d] => { results := [.lit (.bool false)], args := [d] }
  | _ => none }
def FnExactStatesOfWrongFalsely : Prop := fnExactStatesOfRow.holds Tryd.pinned (OpenSpec.ofChange fnExactStatesOfWrong)

/-- 'laws.FnExactShortestDouble': WHATEVER THE INPUT: true; the input reads as it did. -/
def fnExactShortestDoubleSpec : ChangeSpec := { name := "fnExactShortestDouble", fn := fun _ => fun
  | [d] => { results := [.lit (.bool true)], args := [d] }
  | _ => none }
def fnExactShortestDoubleRow : OpenClaim := { program := "ytidjjcgfdkmefaadoor", sum := "9d9d307aaa2b5def2638a10f52ee9a14182c40f5472112f4dff6da230c1eeb55", func := "loop.example/g01164/laws.FnExactShortestDouble", spec := "fnExactShortestDouble", inPlace := ["internal/bytealg.IndexByteString", "internal/bytealg.IndexString", "internal/bytealg.abigen_runtime_cmpstring"], unfollowed := true, recurses := true, named := ["unicode/utf8.first", "unicode/utf8.acceptRanges", "internal/bytealg.MaxLen"], apart := false, laid := [("unicode/utf8.acceptRanges", laid_unicode_utf8_acceptRanges), ("unicode/utf8.first", laid_unicode_utf8_first)] }
def FnExactShortestDoubleSaid : Prop := fnExactShortestDoubleRow.holds Tryd.pinned (OpenSpec.ofChange fnExactShortestDoubleSpec)

/-- ITS FALSE NEIGHBOUR: 'it returns false'. Refute it at one input. -/
def fnExactShortestDoubleWrong : ChangeSpec := { name := "fnExactShortestDouble", fn := fun _ => fun
  | [d] => { results := [.lit (.bool false)], args := [d] }
  | _ => none }
def FnExactShortestDoubleWrongFalsely : Prop := fnExactShortestDoubleRow.holds Tryd.pinned (OpenSpec.ofChange fnExactShortestDoubleWrong)

/-- 'laws.FnExactAllReadings': WHATEVER THE INPUT: true; the input reads as it did. -/
def fnExactAllReadingsSpec : ChangeSpec := { name := "fnExactAllReadings", fn := fun _ => fun
  | [d1, d2] => { results := [.lit (.bool true)], args := [d1, d2] }
  | _ => none }
def fnExactAllReadingsRow : OpenClaim := { program := "ytidjjcgfdkmefaadoor", sum := "9d9d307aaa2b5def2638a10f52ee9a14182c40f5472112f4dff6da230c1eeb55", func := "loop.example/g01164/laws.FnExactAllReadings", spec := "fnExactAllReadings", inPlace := ["internal/bytealg.IndexByteString", "internal/bytealg.IndexString", "internal/bytealg.abigen_runtime_cmpstring"], unfollowed := true, recurses := true, named := ["unicode/utf8.first", "unicode/utf8.acceptRanges", "internal/bytealg.MaxLen"], apart := false, laid := [("unicode/utf8.acceptRanges", laid_unicode_utf8_acceptRanges), ("unicode/utf8.first", laid_unicode_utf8_first)] }
def FnExactAllReadingsSaid : Prop := fnExactAllReadingsRow.holds Tryd.pinned (OpenSpec.ofChange fnExactAllReadingsSpec)

/-- ITS FALSE NEIGHBOUR: 'it returns false'. Refute it at one input. -/
def fnExactAllReadingsWrong : ChangeSpec := { name := "fnExactAllReadings", fn := fun _ => fun
  | [d1, d2] => { results := [.lit (.bool false)], args := [d1, d2] }
  | _ => none }
def FnExactAllReadingsWrongFalsely : Prop := fnExactAllReadingsRow.holds Tryd.pinned (OpenSpec.ofChange fnExactAllReadingsWrong)

/-- 'laws.FnExactTwoReadings': WHATEVER THE INPUT: true; the input reads as it did. -/
def fnExactTwoReadingsSpec : ChangeSpec := { name := "fnExactTwoReadings", fn := fun _ => fun
  | [d] => { results := [.lit (.bool true)], args := [d] }
  | _ => none }
def fnExactTwoReadingsRow : OpenClaim := { program := "ytidjjcgfdkmefaadoor", sum := "9d9d307aaa2b5def2638a10f52ee9a14182c40f5472112f4dff6da230c1eeb55", func := "loop.example/g01164/laws.FnExactTwoReadings", spec := "fnExactTwoReadings", inPlace := ["internal/bytealg.IndexByteString", "internal/bytealg.IndexString", "internal/bytealg.abigen_runtime_cmpstring"], unfollowed := true, recurses := true, named := ["unicode/utf8.first", "unicode/utf8.acceptRanges", "internal/bytealg.MaxLen"], apart := false, laid := [("unicode/utf8.acceptRanges", laid_unicode_utf8_acceptRanges), ("unicode/utf8.first", laid_unicode_utf8_first)] }
def FnExactTwoReadingsSaid : Prop := fnExactTwoReadingsRow.holds Tryd.pinned (OpenSpec.ofChange fnExactTwoReadingsSpec)

/-- ITS FALSE NEIGHBOUR: 'it returns false'. Refute it at one input. -/
def fnExactTwoReadingsWrong : ChangeSpec := { name := "fnExactTwoReadings", fn := fun _ => fun
  | [d] => { results := [.lit (.bool false)], args := [d] }
  | _ => none }
def FnExactTwoReadingsWrongFalsely : Prop := fnExactTwoReadingsRow.holds Tryd.pinned (OpenSpec.ofChange fnExactTwoReadingsWrong)

/-- 'laws.FnExactLevelsOf': WHATEVER THE INPUT: true; the input reads as it did. -/
def fnExactLevelsOfSpec : ChangeSpec := { name := "fnExactLevelsOf", fn := fun _ => fun
  | [d] => { results := [.lit (.bool true)], args := [d] }
  | _ => none }
def fnExactLevelsOfRow : OpenClaim := { program := "ytidjjcgfdkmefaadoor", sum := "9d9d307aaa2b5def2638a10f52ee9a14182c40f5472112f4dff6da230c1eeb55", func := "loop.example/g01164/laws.FnExactLevelsOf", spec := "fnExactLevelsOf", inPlace := ["internal/bytealg.IndexByteString", "internal/bytealg.IndexString", "internal/bytealg.abigen_runtime_cmpstring"], unfollowed := true, recurses := true, named := ["unicode/utf8.first", "unicode/utf8.acceptRanges", "internal/bytealg.MaxLen"], apart := false, laid := [("unicode/utf8.acceptRanges", laid_unicode_utf8_acceptRanges), ("unicode/utf8.first", laid_unicode_utf8_first)] }
def FnExactLevelsOfSaid : Prop := fnExactLevelsOfRow.holds Tryd.pinned (OpenSpec.ofChange fnExactLevelsOfSpec)

/-- ITS FALSE NEIGHBOUR: 'it returns false'. Refute it at one input. -/
def fnExactLevelsOfWrong : ChangeSpec := { name := "fnExactLevelsOf", fn := fun _ => fun
  | [d] => { results := [.lit (.bool false)], args := [d] }
  | _ => none }
def FnExactLevelsOfWrongFalsely : Prop := fnExactLevelsOfRow.holds Tryd.pinned (OpenSpec.ofChange fnExactLevelsOfWrong)

/-- 'laws.FnExactShrinkPrefix': WHATEVER THE INPUT: true; the input reads as it did. -/
def fnExactShrinkPrefixSpec : ChangeSpec := { name := "fnExactShrinkPrefix", fn := fun _ => fun
  | [d] => { results := [.lit (.bool true)], args := [d] }
  | _ => none }
def fnExactShrinkPrefixRow : OpenClaim := { program := "ytidjjcgfdkmefaadoor", sum := "9d9d307aaa2b5def2638a10f52ee9a14182c40f5472112f4dff6da230c1eeb55", func := "loop.example/g01164/laws.FnExactShrinkPrefix", spec := "fnExactShrinkPrefix", inPlace := ["internal/bytealg.IndexByteString", "internal/bytealg.IndexString", "internal/bytealg.abigen_runtime_cmpstring"], unfollowed := true, recurses := true, named := ["unicode/utf8.first", "unicode/utf8.acceptRanges", "internal/bytealg.MaxLen"], apart := false, laid := [("unicode/utf8.acceptRanges", laid_unicode_utf8_acceptRanges), ("unicode/utf8.first", laid_unicode_utf8_first)] }
def FnExactShrinkPrefixSaid : Prop := fnExactShrinkPrefixRow.holds Tryd.pinned (OpenSpec.ofChange fnExactShrinkPrefixSpec)

/-- ITS FALSE NEIGHBOUR: 'it returns false'. Refute it at one input. -/
def fnExactShrinkPrefixWrong : ChangeSpec := { name := "fnExactShrinkPrefix", fn := fun _ => fun
  | [d] => { results := [.lit (.bool false)], args := [d] }
  | _ => none }
def FnExactShrinkPrefixWrongFalsely : Prop := fnExactShrinkPrefixRow.holds Tryd.pinned (OpenSpec.ofChange fnExactShrinkPrefixWrong)

/- THE SECOND FORM. 'bulk': how many values and letters a reading holds, each counted each time it is reached (what is shared counts as often as it is met; a slice's spare places count too). A statement '..UptoSaid' is the law's where the arguments, and the package variables that the reading takes, are together of bulk at most 1048576: NARROWER than '..Said'. Prove '..Said' where nothing that the law and all that it calls make is longer than what came in: it says more and counts as full. Else prove '..UptoSaid'. A law counts once. -/
mutual
def uptoBulk {H : Type} : DataW H → Nat
  | .lit (.string bytes) => bytes.length + 1
  | .lit _ => 1
  | .nil => 1
  | .ptr d => uptoBulk d + 1
  | .slice elems spare => uptoBulkAll elems + uptoBulkAll spare + 1
  | .agg parts => uptoBulkAll parts + 1
  | .iface _ d => uptoBulk d + 1
  | .map entries => uptoBulkEntries entries + 1
  | .held _ => 1
def uptoBulkAll {H : Type} : List (DataW H) → Nat
  | [] => 0
  | d :: r => uptoBulk d + uptoBulkAll r
def uptoBulkEntries {H : Type} : List (Lit × DataW H) → Nat
  | [] => 0
  | x :: r => uptoBulkEntry x + uptoBulkEntries r
def uptoBulkEntry {H : Type} : Lit × DataW H → Nat
  | (.string bytes, d) => bytes.length + uptoBulk d + 1
  | (_, d) => uptoBulk d + 1
 end
def uptoSmall : (H : Type) → List (DataW H) → Bool := fun _ ds => decide (uptoBulkAll ds ≤ 1048576)
def OpenSpec.upto (s : _root_.Go.ChangeSpec) : _root_.Go.OpenSpec := { _root_.Go.OpenSpec.ofChange s with cond := some uptoSmall }

/-- 'laws.FnExactStatesOf', WHERE WHAT IT READS IS OF BULK AT MOST 1048576: true; the input reads as it did. -/
def fnExactStatesOfUptoRow : OpenClaim := { program := "ytidjjcgfdkmefaadoor", sum := "9d9d307aaa2b5def2638a10f52ee9a14182c40f5472112f4dff6da230c1eeb55", func := "loop.example/g01164/laws.FnExactStatesOf", spec := "fnExactStatesOf", inPlace := ["internal/bytealg.IndexByteString", "internal/bytealg.IndexString", "internal/bytealg.abigen_runtime_cmpstring"], unfollowed := true, recurses := true, named := ["unicode/utf8.first", "unicode/utf8.acceptRanges", "internal/bytealg.MaxLen"], apart := false, laid := [("unicode/utf8.acceptRanges", laid_unicode_utf8_acceptRanges), ("unicode/utf8.first", laid_unicode_utf8_first)], narrowed := true }
def FnExactStatesOfUptoSaid : Prop := fnExactStatesOfUptoRow.holds Tryd.pinned (OpenSpec.upto fnExactStatesOfSpec)

/-- 'laws.FnExactShortestDouble', WHERE WHAT IT READS IS OF BULK AT MOST 1048576: true; the input reads as it did. -/
def fnExactShortestDoubleUptoRow : OpenClaim := { program := "ytidjjcgfdkmefaadoor", sum := "9d9d307aaa2b5def2638a10f52ee9a14182c40f5472112f4dff6da230c1eeb55", func := "loop.example/g01164/laws.FnExactShortestDouble", spec := "fnExactShortestDouble", inPlace := ["internal/bytealg.IndexByteString", "internal/bytealg.IndexString", "internal/bytealg.abigen_runtime_cmpstring"], unfollowed := true, recurses := true, named := ["unicode/utf8.first", "unicode/utf8.acceptRanges", "internal/bytealg.MaxLen"], apart := false, laid := [("unicode/utf8.acceptRanges", laid_unicode_utf8_acceptRanges), ("unicode/utf8.first", laid_unicode_utf8_first)], narrowed := true }
def FnExactShortestDoubleUptoSaid : Prop := fnExactShortestDoubleUptoRow.holds Tryd.pinned (OpenSpec.upto fnExactShortestDoubleSpec)

/-- 'laws.FnExactAllReadings', WHERE WHAT IT READS IS OF BULK AT MOST 1048576: true; the input reads as it did. -/
def fnExactAllReadingsUptoRow : OpenClaim := { program := "ytidjjcgfdkmefaadoor", sum := "9d9d307aaa2b5def2638a10f52ee9a14182c40f5472112f4dff6da230c1eeb55", func := "loop.example/g01164/laws.FnExactAllReadings", spec := "fnExactAllReadings", inPlace := ["internal/bytealg.IndexByteString", "internal/bytealg.IndexString", "internal/bytealg.abigen_runtime_cmpstring"], unfollowed := true, recurses := true, named := ["unicode/utf8.first", "unicode/utf8.acceptRanges", "internal/bytealg.MaxLen"], apart := false, laid := [("unicode/utf8.acceptRanges", laid_unicode_utf8_acceptRanges), ("unicode/utf8.first", laid_unicode_utf8_first)], narrowed := true }
def FnExactAllReadingsUptoSaid : Prop := fnExactAllReadingsUptoRow.holds Tryd.pinned (OpenSpec.upto fnExactAllReadingsSpec)

/-- 'laws.FnExactTwoReadings', WHERE WHAT IT READS IS OF BULK AT MOST 1048576: true; the input reads as it did. -/
def fnExactTwoReadingsUptoRow : OpenClaim := { program := "ytidjjcgfdkmefaadoor", sum := "9d9d307aaa2b5def2638a10f52ee9a14182c40f5472112f4dff6da230c1eeb55", func := "loop.example/g01164/laws.FnExactTwoReadings", spec := "fnExactTwoReadings", inPlace := ["internal/bytealg.IndexByteString", "internal/bytealg.IndexString", "internal/bytealg.abigen_runtime_cmpstring"], unfollowed := true, recurses := true, named := ["unicode/utf8.first", "unicode/utf8.acceptRanges", "internal/bytealg.MaxLen"], apart := false, laid := [("unicode/utf8.acceptRanges", laid_unicode_utf8_acceptRanges), ("unicode/utf8.first", laid_unicode_utf8_first)], narrowed := true }
def FnExactTwoReadingsUptoSaid : Prop := fnExactTwoReadingsUptoRow.holds Tryd.pinned (OpenSpec.upto fnExactTwoReadingsSpec)

/-- 'laws.FnExactLevelsOf', WHERE WHAT IT READS IS OF BULK AT MOST 1048576: true; the input reads as it did. -/
def fnExactLevelsOfUptoRow : OpenClaim := { program := "ytidjjcgfdkmefaadoor", sum := "9d9d307aaa2b5def2638a10f52ee9a14182c40f5472112f4dff6da230c1eeb55", func := "loop.example/g01164/laws.FnExactLevelsOf", spec := "fnExactLevelsOf", inPlace := ["internal/bytealg.IndexByteString", "internal/bytealg.IndexString", "internal/bytealg.abigen_runtime_cmpstring"], unfollowed := true, recurses := true, named := ["unicode/utf8.first", "unicode/utf8.acceptRanges", "internal/bytealg.MaxLen"], apart := false, laid := [("unicode/utf8.acceptRanges", laid_unicode_utf8_acceptRanges), ("unicode/utf8.first", laid_unicode_utf8_first)], narrowed := true }
def FnExactLevelsOfUptoSaid : Prop := fnExactLevelsOfUptoRow.holds Tryd.pinned (OpenSpec.upto fnExactLevelsOfSpec)

/-- 'laws.FnExactShrinkPrefix', WHERE WHAT IT READS IS OF BULK AT MOST 1048576: true; the input reads as it did. -/
def fnExactShrinkPrefixUptoRow : OpenClaim := { program := "ytidjjcgfdkmefaadoor", sum := "9d9d307aaa2b5def2638a10f52ee9a14182c40f5472112f4dff6da230c1eeb55", func := "loop.example/g01164/laws.FnExactShrinkPrefix", spec := "fnExactShrinkPrefix", inPlace := ["internal/bytealg.IndexByteString", "internal/bytealg.IndexString", "internal/bytealg.abigen_runtime_cmpstring"], unfollowed := true, recurses := true, named := ["unicode/utf8.first", "unicode/utf8.acceptRanges", "internal/bytealg.MaxLen"], apart := false, laid := [("unicode/utf8.acceptRanges", laid_unicode_utf8_acceptRanges), ("unicode/utf8.first", laid_unicode_utf8_first)], narrowed := true }
def FnExactShrinkPrefixUptoSaid : Prop := fnExactShrinkPrefixUptoRow.holds Tryd.pinned (OpenSpec.upto fnExactShrinkPrefixSpec)

end Rows
end Go.Proofs.YtidjjcgfdkmefaaDoor

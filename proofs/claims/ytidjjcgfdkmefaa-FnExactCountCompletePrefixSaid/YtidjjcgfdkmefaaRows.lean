/-
  No cell of these rows narrows 'for every input' (looked for: loops, veiled, ifaces, maps, wideKeys, modest, calm, conditions, laid).
  DERIVED. THE GIVEN ROWS OF THIS SEAT. 4 by the template 'for every input the law returns true; each argument reads behind the call as it read before'; 0 by the template 'total and deterministic' (their statements: YtidjjcgfdkmefaaTotals.lean).
  GIVEN WITH THE SEED: the statements are not yours to turn. If you find one false, say at which input.
  Laid BY PROGRAM, IN A SANDBOX (cutbox-rows.mjs): the forced cells as the released guide's own fill.sh prints them over the translation a682270ae2bbac31… (all of the seat's roots in one cut). By AI agents, Wed Nov 11 2026. No macro, syntax, notation, axiom, sorry.
-/
import Derived.Test.YtidjjcgfdkmefaaChecked
import GoSem.Claim
import GoSem.ClaimJoined
import GoSem.ClaimMapViews
import Derived.JoinedTies
import Derived.KernelRfl
namespace Go.Proofs.Ytidjjcgfdkmefaa
/- THE CELL 'sum', in the pinned program and in every row, IS THE sha256 OF THE DUMP (.gsa) THAT YtidjjcgfdkmefaaProg.lean LOADS. Nothing in Lean hashes anything: it is a label: what it is worth is what the hold of that sum in a sandbox is worth. -/
noncomputable def Try.pinned : Pinned := { name := "ytidjjcgfdkmefaa", sum := "a682270ae2bbac31930860e13ee6eb16254691da8acc502cd459273a885c31b8", checked := Try.checked }
namespace Rows
def none {H : Type} : Left H := { results := [], args := [] }

/-- 'laws.FnExactCountLengths': WHATEVER THE INPUT: true; the input reads as it did. -/
def fnExactCountLengthsSpec : ChangeSpec := { name := "fnExactCountLengths", fn := fun _ => fun
  | [d1, d2, d3] => { results := [.lit (.bool true)], args := [d1, d2, d3] }
  | _ => none }
def fnExactCountLengthsRow : OpenClaim := { program := "ytidjjcgfdkmefaa", sum := "a682270ae2bbac31930860e13ee6eb16254691da8acc502cd459273a885c31b8", func := "loop.example/g01164/laws.FnExactCountLengths", spec := "fnExactCountLengths", unfollowed := true, recurses := true, apart := false }
def FnExactCountLengthsSaid : Prop := fnExactCountLengthsRow.holds Try.pinned (OpenSpec.ofChange fnExactCountLengthsSpec)

/-- ITS FALSE NEIGHBOUR: 'it returns false'. Refute it at one input. -/
def fnExactCountLengthsWrong : ChangeSpec := { name := "fnExactCountLengths", fn := fun _ => fun
  | [d1, d2, d3] => { results := [.lit (.bool false)], args := [d1, d2, d3] }
  | _ => none }
def FnExactCountLengthsWrongFalsely : Prop := fnExactCountLengthsRow.holds Try.pinned (OpenSpec.ofChange fnExactCountLengthsWrong)

/-- 'laws.FnExactCountCompletePrefix': WHATEVER THE INPUT: true; the input reads as it did. -/
def fnExactCountCompletePrefixSpec : ChangeSpec := { name := "fnExactCountCompletePrefix", fn := fun _ => fun
  | [d1, d2] => { results := [.lit (.bool true)], args := [d1, d2] }
  | _ => none }
def fnExactCountCompletePrefixRow : OpenClaim := { program := "ytidjjcgfdkmefaa", sum := "a682270ae2bbac31930860e13ee6eb16254691da8acc502cd459273a885c31b8", func := "loop.example/g01164/laws.FnExactCountCompletePrefix", spec := "fnExactCountCompletePrefix", unfollowed := true, recurses := true, apart := false }
def FnExactCountCompletePrefixSaid : Prop := fnExactCountCompletePrefixRow.holds Try.pinned (OpenSpec.ofChange fnExactCountCompletePrefixSpec)

/-- ITS FALSE NEIGHBOUR: 'it returns false'. Refute it at one input. -/
def fnExactCountCompletePrefixWrong : ChangeSpec := { name := "fnExactCountCompletePrefix", fn := fun _ => fun
  | [d1, d2] => { results := [.lit (.bool false)], args := [d1, d2] }
  | _ => none }
def FnExactCountCompletePrefixWrongFalsely : Prop := fnExactCountCompletePrefixRow.holds Try.pinned (OpenSpec.ofChange fnExactCountCompletePrefixWrong)

/-- 'laws.FnExactAllLengths': WHATEVER THE INPUT: true; the input reads as it did. -/
def fnExactAllLengthsSpec : ChangeSpec := { name := "fnExactAllLengths", fn := fun _ => fun
  | [d1, d2, d3] => { results := [.lit (.bool true)], args := [d1, d2, d3] }
  | _ => none }
def fnExactAllLengthsRow : OpenClaim := { program := "ytidjjcgfdkmefaa", sum := "a682270ae2bbac31930860e13ee6eb16254691da8acc502cd459273a885c31b8", func := "loop.example/g01164/laws.FnExactAllLengths", spec := "fnExactAllLengths", unfollowed := true, recurses := true, apart := false }
def FnExactAllLengthsSaid : Prop := fnExactAllLengthsRow.holds Try.pinned (OpenSpec.ofChange fnExactAllLengthsSpec)

/-- ITS FALSE NEIGHBOUR: 'it returns false'. Refute it at one input. -/
def fnExactAllLengthsWrong : ChangeSpec := { name := "fnExactAllLengths", fn := fun _ => fun
  | [d1, d2, d3] => { results := [.lit (.bool false)], args := [d1, d2, d3] }
  | _ => none }
def FnExactAllLengthsWrongFalsely : Prop := fnExactAllLengthsRow.holds Try.pinned (OpenSpec.ofChange fnExactAllLengthsWrong)

/-- 'laws.FnExactAllCompletePrefix': WHATEVER THE INPUT: true; the input reads as it did. -/
def fnExactAllCompletePrefixSpec : ChangeSpec := { name := "fnExactAllCompletePrefix", fn := fun _ => fun
  | [d1, d2] => { results := [.lit (.bool true)], args := [d1, d2] }
  | _ => none }
def fnExactAllCompletePrefixRow : OpenClaim := { program := "ytidjjcgfdkmefaa", sum := "a682270ae2bbac31930860e13ee6eb16254691da8acc502cd459273a885c31b8", func := "loop.example/g01164/laws.FnExactAllCompletePrefix", spec := "fnExactAllCompletePrefix", inPlace := ["internal/bytealg.abigen_runtime_cmpstring", "internal/abi.NoEscape", "internal/bytealg.MakeNoZero"], unfollowed := true, recurses := true, apart := false }
def FnExactAllCompletePrefixSaid : Prop := fnExactAllCompletePrefixRow.holds Try.pinned (OpenSpec.ofChange fnExactAllCompletePrefixSpec)

/-- ITS FALSE NEIGHBOUR: 'it returns false'. Refute it at one input. -/
def fnExactAllCompletePrefixWrong : ChangeSpec := { name := "fnExactAllCompletePrefix", fn := fun _ => fun
  | [d1, d2] => { results := [.lit (.bool false)], args := [d1, d2] }
  | _ => none }
def FnExactAllCompletePrefixWrongFalsely : Prop := fnExactAllCompletePrefixRow.holds Try.pinned (OpenSpec.ofChange fnExactAllCompletePrefixWrong)

/- THE SECOND FORM. 'bulk': how many values and letters a reading holds, each counted each time it is reached (what is shared counts as often as it is met; a slice's spare places count too). A statement '..UptoSaid' is the law's where the arguments, and the package variables that the reading takes, are together of bulk at most 1048576: NARROWER than '..Said'. Prove '..Said' where nothing that the law and all that it calls make is longer than what came in: it says more and counts as full. Else prove '..UptoSaid'. A law counts once. -/
mutual
def uptoBulk {H : Type} : DataW H → Nat
  | .lit (.string bytes) => bytes.length + 1
  | .lit _ => 1
  | .nil => 1
  | .ptr d => uptoBulk d + 1
  | .slice elems spare => uptoBulkAll elems + uptoBulkAll spare + 1
  | .agg parts => uptoBulkAll parts + 1
  | .iface _ d => uptoBulk d + 1
  | .map entries => uptoBulkEntries entries + 1
  | .held _ => 1
def uptoBulkAll {H : Type} : List (DataW H) → Nat
  | [] => 0
  | d :: r => uptoBulk d + uptoBulkAll r
def uptoBulkEntries {H : Type} : List (Lit × DataW H) → Nat
  | [] => 0
  | x :: r => uptoBulkEntry x + uptoBulkEntries r
def uptoBulkEntry {H : Type} : Lit × DataW H → Nat
  | (.string bytes, d) => bytes.length + uptoBulk d + 1
  | (_, d) => uptoBulk d + 1
 end
def uptoSmall : (H : Type) → List (DataW H) → Bool := fun _ ds => decide (uptoBulkAll ds ≤ 1048576)
def OpenSpec.upto (s : _root_.Go.ChangeSpec) : _root_.Go.OpenSpec := { _root_.Go.OpenSpec.ofChange s with cond := some uptoSmall }

/-- 'laws.FnExactCountLengths', WHERE WHAT IT READS IS OF BULK AT MOST 1048576: true; the input reads as it did. -/
def fnExactCountLengthsUptoRow : OpenClaim := { program := "ytidjjcgfdkmefaa", sum := "a682270ae2bbac31930860e13ee6eb16254691da8acc502cd459273a885c31b8", func := "loop.example/g01164/laws.FnExactCountLengths", spec := "fnExactCountLengths", unfollowed := true, recurses := true, apart := false, narrowed := true }
def FnExactCountLengthsUptoSaid : Prop := fnExactCountLengthsUptoRow.holds Try.pinned (OpenSpec.upto fnExactCountLengthsSpec)

/-- 'laws.FnExactCountCompletePrefix', WHERE WHAT IT READS IS OF BULK AT MOST 1048576: true; the input reads as it did. -/
def fnExactCountCompletePrefixUptoRow : OpenClaim := { program := "ytidjjcgfdkmefaa", sum := "a682270ae2bbac31930860e13ee6eb16254691da8acc502cd459273a885c31b8", func := "loop.example/g01164/laws.FnExactCountCompletePrefix", spec := "fnExactCountCompletePrefix", unfollowed := true, recurses := true, apart := false, narrowed := true }
def FnExactCountCompletePrefixUptoSaid : Prop := fnExactCountCompletePrefixUptoRow.holds Try.pinned (OpenSpec.upto fnExactCountCompletePrefixSpec)

/-- 'laws.FnExactAllLengths', WHERE WHAT IT READS IS OF BULK AT MOST 1048576: true; the input reads as it did. -/
def fnExactAllLengthsUptoRow : OpenClaim := { program := "ytidjjcgfdkmefaa", sum := "a682270ae2bbac31930860e13ee6eb16254691da8acc502cd459273a885c31b8", func := "loop.example/g01164/laws.FnExactAllLengths", spec := "fnExactAllLengths", unfollowed := true, recurses := true, apart := false, narrowed := true }
def FnExactAllLengthsUptoSaid : Prop := fnExactAllLengthsUptoRow.holds Try.pinned (OpenSpec.upto fnExactAllLengthsSpec)

/-- 'laws.FnExactAllCompletePrefix', WHERE WHAT IT READS IS OF BULK AT MOST 1048576: true; the input reads as it did. -/
def fnExactAllCompletePrefixUptoRow : OpenClaim := { program := "ytidjjcgfdkmefaa", sum := "a682270ae2bbac31930860e13ee6eb16254691da8acc502cd459273a885c31b8", func := "loop.example/g01164/laws.FnExactAllCompletePrefix", spec := "fnExactAllCompletePrefix", inPlace := ["internal/bytealg.abigen_runtime_cmpstring", "internal/abi.NoEscape", "internal/bytealg.MakeNoZero"], unfollowed := true, recurses := true, apart := false, narrowed := true }
def FnExactAllCompletePrefixUptoSaid : Prop := fnExactAllCompletePrefixUptoRow.holds Try.pinned (OpenSpec.upto fnExactAllCompletePrefixSpec)

end Rows
end Go.Proofs.Ytidjjcgfdkmefaa

/-
  No cell of these rows narrows 'for every input' (looked for: loops, veiled, ifaces, maps, wideKeys, modest, calm, conditions, laid).
  DERIVED. THE GIVEN ROWS OF THIS SEAT. 9 by the template 'for every input the law returns true; each argument reads behind the call as it read before'; 0 by the template 'total and deterministic' (their statements: YtnfpcgjdpcmkcaaTotals.lean).
  GIVEN WITH THE SEED: the statements are not yours to turn. If you find one false, say at which input.
  Laid BY PROGRAM, IN A SANDBOX (cutbox-rows.mjs): the forced cells as the released guide's own fill.sh prints them over the translation 487dec58264b5b1a… (all of the seat's roots in one cut). By AI agents, Wed Nov 11 2026. No macro, syntax, notation, axiom, sorry.
-/
import Derived.Test.YtnfpcgjdpcmkcaaChecked
import GoSem.Claim
import GoSem.ClaimJoined
import GoSem.ClaimMapViews
import Derived.JoinedTies
import Derived.KernelRfl
namespace Go.Proofs.Ytnfpcgjdpcmkcaa
/- THE CELL 'sum', in the pinned program and in every row, IS THE sha256 OF THE DUMP (.gsa) THAT YtnfpcgjdpcmkcaaProg.lean LOADS. Nothing in Lean hashes anything: it is a label: what it is worth is what the hold of that sum in a sandbox is worth. -/
noncomputable def Try.pinned : Pinned := { name := "ytnfpcgjdpcmkcaa", sum := "487dec58264b5b1a30be6c035f961d2a47d196ae5aab52e35c4cce119c0ab248", checked := Try.checked }
namespace Rows
def none {H : Type} : Left H := { results := [], args := [] }

/-- 'laws.FnExactConstants': WHATEVER THE INPUT: true; the input reads as it did. -/
def fnExactConstantsSpec : ChangeSpec := { name := "fnExactConstants", fn := fun _ => fun
  | [] => { results := [.lit (.bool true)], args := [] }
  | _ => none }
def fnExactConstantsRow : OpenClaim := { program := "ytnfpcgjdpcmkcaa", sum := "487dec58264b5b1a30be6c035f961d2a47d196ae5aab52e35c4cce119c0ab248", func := "loop.example/g01164/laws.FnExactConstants", spec := "fnExactConstants", apart := false }
def FnExactConstantsSaid : Prop := fnExactConstantsRow.holds Try.pinned (OpenSpec.ofChange fnExactConstantsSpec)

/-- ITS FALSE NEIGHBOUR: 'it returns false'. Refute it at one input. -/
def fnExactConstantsWrong : ChangeSpec := { name := "fnExactConstants", fn := fun _ => fun
  | [] => { results := [.lit (.bool false)], args := [] }
  | _ => none }
def FnExactConstantsWrongFalsely : Prop := fnExactConstantsRow.holds Try.pinned (OpenSpec.ofChange fnExactConstantsWrong)

/-- 'laws.FnExactCountLengths': WHATEVER THE INPUT: true; the input reads as it did. -/
def fnExactCountLengthsSpec : ChangeSpec := { name := "fnExactCountLengths", fn := fun _ => fun
  | [d1, d2, d3] => { results := [.lit (.bool true)], args := [d1, d2, d3] }
  | _ => none }
def fnExactCountLengthsRow : OpenClaim := { program := "ytnfpcgjdpcmkcaa", sum := "487dec58264b5b1a30be6c035f961d2a47d196ae5aab52e35c4cce119c0ab248", func := "loop.example/g01164/laws.FnExactCountLengths", spec := "fnExactCountLengths", unfollowed := true, recurses := true, apart := false }
def FnExactCountLengthsSaid : Prop := fnExactCountLengthsRow.holds Try.pinned (OpenSpec.ofChange fnExactCountLengthsSpec)

/-- ITS FALSE NEIGHBOUR: 'it returns false'. Refute it at one input. -/
def fnExactCountLengthsWrong : ChangeSpec := { name := "fnExactCountLengths", fn := fun _ => fun
  | [d1, d2, d3] => { results := [.lit (.bool false)], args := [d1, d2, d3] }
  | _ => none }
def FnExactCountLengthsWrongFalsely : Prop := fnExactCountLengthsRow.holds Try.pinned (OpenSpec.ofChange fnExactCountLengthsWrong)

/-- 'laws.FnExactCountCompletePrefix': WHATEVER THE INPUT: true; the input reads as it did. -/
def fnExactCountCompletePrefixSpec : ChangeSpec := { name := "fnExactCountCompletePrefix", fn := fun _ => fun
  | [d1, d2] => { results := [.lit (.bool true)], args := [d1, d2] }
  | _ => none }
def fnExactCountCompletePrefixRow : OpenClaim := { program := "ytnfpcgjdpcmkcaa", sum := "487dec58264b5b1a30be6c035f961d2a47d196ae5aab52e35c4cce119c0ab248", func := "loop.example/g01164/laws.FnExactCountCompletePrefix", spec := "fnExactCountCompletePrefix", unfollowed := true, recurses := true, apart := false }
def FnExactCountCompletePrefixSaid : Prop := fnExactCountCompletePrefixRow.holds Try.pinned (OpenSpec.ofChange fnExactCountCompletePrefixSpec)

/-- ITS FALSE NEIGHBOUR: 'it returns false'. Refute it at one input. -/
def fnExactCountCompletePrefixWrong : ChangeSpec := { name := "fnExactCountCompletePrefix", fn := fun _ => fun
  | [d1, d2] => { results := [.lit (.bool false)], args := [d1, d2] }
  | _ => none }
def FnExactCountCompletePrefixWrongFalsely : Prop := fnExactCountCompletePrefixRow.holds Try.pinned (OpenSpec.ofChange fnExactCountCompletePrefixWrong)

/-- 'laws.FnExactCanBePrefix': WHATEVER THE INPUT: true; the input reads as it did. -/
def fnExactCanBePrefixSpec : ChangeSpec := { name := "fnExactCanBePrefix", fn := fun _ => fun
  | [d1, d2] => { results := [.lit (.bool true)], args := [d1, d2] }
  | _ => none }
def fnExactCanBePrefixRow : OpenClaim := { program := "ytnfpcgjdpcmkcaa", sum := "487dec58264b5b1a30be6c035f961d2a47d196ae5aab52e35c4cce119c0ab248", func := "loop.example/g01164/laws.FnExactCanBePrefix", spec := "fnExactCanBePrefix", unfollowed := true, recurses := true, apart := false }
def FnExactCanBePrefixSaid : Prop := fnExactCanBePrefixRow.holds Try.pinned (OpenSpec.ofChange fnExactCanBePrefixSpec)

/-- ITS FALSE NEIGHBOUR: 'it returns false'. Refute it at one input. -/
def fnExactCanBePrefixWrong : ChangeSpec := { name := "fnExactCanBePrefix", fn := fun _ => fun
  | [d1, d2] => { results := [.lit (.bool false)], args := [d1, d2] }
  | _ => none }
def FnExactCanBePrefixWrongFalsely : Prop := fnExactCanBePrefixRow.holds Try.pinned (OpenSpec.ofChange fnExactCanBePrefixWrong)

/-- 'laws.FnExactRoomLeft': WHATEVER THE INPUT: true; the input reads as it did. -/
def fnExactRoomLeftSpec : ChangeSpec := { name := "fnExactRoomLeft", fn := fun _ => fun
  | [d1, d2, d3] => { results := [.lit (.bool true)], args := [d1, d2, d3] }
  | _ => none }
def fnExactRoomLeftRow : OpenClaim := { program := "ytnfpcgjdpcmkcaa", sum := "487dec58264b5b1a30be6c035f961d2a47d196ae5aab52e35c4cce119c0ab248", func := "loop.example/g01164/laws.FnExactRoomLeft", spec := "fnExactRoomLeft", unfollowed := true, recurses := true, apart := false }
def FnExactRoomLeftSaid : Prop := fnExactRoomLeftRow.holds Try.pinned (OpenSpec.ofChange fnExactRoomLeftSpec)

/-- ITS FALSE NEIGHBOUR: 'it returns false'. Refute it at one input. -/
def fnExactRoomLeftWrong : ChangeSpec := { name := "fnExactRoomLeft", fn := fun _ => fun
  | [d1, d2, d3] => { results := [.lit (.bool false)], args := [d1, d2, d3] }
  | _ => none }
def FnExactRoomLeftWrongFalsely : Prop := fnExactRoomLeftRow.holds Try.pinned (OpenSpec.ofChange fnExactRoomLeftWrong)

/-- 'laws.FnExactAllLengths': WHATEVER THE INPUT: true; the input reads as it did. -/
def fnExactAllLengthsSpec : ChangeSpec := { name := "fnExactAllLengths", fn := fun _ => fun
  | [d1, d2, d3] => { results := [.lit (.bool true)], args := [d1, d2, d3] }
  | _ => none }
def fnExactAllLengthsRow : OpenClaim := { program := "ytnfpcgjdpcmkcaa", sum := "487dec58264b5b1a30be6c035f961d2a47d196ae5aab52e35c4cce119c0ab248", func := "loop.example/g01164/laws.FnExactAllLengths", spec := "fnExactAllLengths", unfollowed := true, recurses := true, apart := false }
def FnExactAllLengthsSaid : Prop := fnExactAllLengthsRow.holds Try.pinned (OpenSpec.ofChange fnExactAllLengthsSpec)

/-- ITS FALSE NEIGHBOUR: 'it returns false'. Refute it at one input. -/
def fnExactAllLengthsWrong : ChangeSpec := { name := "fnExactAllLengths", fn := fun _ => fun
  | [d1, d2, d3] => { results := [.lit (.bool false)], args := [d1, d2, d3] }
  | _ => none }
def FnExactAllLengthsWrongFalsely : Prop := fnExactAllLengthsRow.holds Try.pinned (OpenSpec.ofChange fnExactAllLengthsWrong)

/-- 'laws.FnExactFirstCommaFree': WHATEVER THE INPUT: true; the input reads as it did. -/
def fnExactFirstCommaFreeSpec : ChangeSpec := { name := "fnExactFirstCommaFree", fn := fun _ => fun
  | [d1, d2] => { results := [.lit (.bool true)], args := [d1, d2] }
  | _ => none }
def fnExactFirstCommaFreeRow : OpenClaim := { program := "ytnfpcgjdpcmkcaa", sum := "487dec58264b5b1a30be6c035f961d2a47d196ae5aab52e35c4cce119c0ab248", func := "loop.example/g01164/laws.FnExactFirstCommaFree", spec := "fnExactFirstCommaFree", apart := false }
def FnExactFirstCommaFreeSaid : Prop := fnExactFirstCommaFreeRow.holds Try.pinned (OpenSpec.ofChange fnExactFirstCommaFreeSpec)

/-- ITS FALSE NEIGHBOUR: 'it returns false'. Refute it at one input. -/
def fnExactFirstCommaFreeWrong : ChangeSpec := { name := "fnExactFirstCommaFree", fn := fun _ => fun
  | [d1, d2] => { results := [.lit (.bool false)], args := [d1, d2] }
  | _ => none }
def FnExactFirstCommaFreeWrongFalsely : Prop := fnExactFirstCommaFreeRow.holds Try.pinned (OpenSpec.ofChange fnExactFirstCommaFreeWrong)

/-- 'laws.FnExactSumOfLengths': WHATEVER THE INPUT: true; the input reads as it did. -/
def fnExactSumOfLengthsSpec : ChangeSpec := { name := "fnExactSumOfLengths", fn := fun _ => fun
  | [d1, d2] => { results := [.lit (.bool true)], args := [d1, d2] }
  | _ => none }
def fnExactSumOfLengthsRow : OpenClaim := { program := "ytnfpcgjdpcmkcaa", sum := "487dec58264b5b1a30be6c035f961d2a47d196ae5aab52e35c4cce119c0ab248", func := "loop.example/g01164/laws.FnExactSumOfLengths", spec := "fnExactSumOfLengths", unfollowed := true, recurses := true, apart := false }
def FnExactSumOfLengthsSaid : Prop := fnExactSumOfLengthsRow.holds Try.pinned (OpenSpec.ofChange fnExactSumOfLengthsSpec)

/-- ITS FALSE NEIGHBOUR: 'it returns false'. Refute it at one input. -/
def fnExactSumOfLengthsWrong : ChangeSpec := { name := "fnExactSumOfLengths", fn := fun _ => fun
  | [d1, d2] => { results := [.lit (.bool false)], args := [d1, d2] }
  | _ => none }
def FnExactSumOfLengthsWrongFalsely : Prop := fnExactSumOfLengthsRow.holds Try.pinned (OpenSpec.ofChange fnExactSumOfLengthsWrong)

/-- 'laws.FnExactFirstPrefixCode': WHATEVER THE INPUT: true; the input reads as it did. -/
def fnExactFirstPrefixCodeSpec : ChangeSpec := { name := "fnExactFirstPrefixCode", fn := fun _ => fun
  | [d1, d2] => { results := [.lit (.bool true)], args := [d1, d2] }
  | _ => none }
def fnExactFirstPrefixCodeRow : OpenClaim := { program := "ytnfpcgjdpcmkcaa", sum := "487dec58264b5b1a30be6c035f961d2a47d196ae5aab52e35c4cce119c0ab248", func := "loop.example/g01164/laws.FnExactFirstPrefixCode", spec := "fnExactFirstPrefixCode", unfollowed := true, recurses := true, apart := false }
def FnExactFirstPrefixCodeSaid : Prop := fnExactFirstPrefixCodeRow.holds Try.pinned (OpenSpec.ofChange fnExactFirstPrefixCodeSpec)

/-- ITS FALSE NEIGHBOUR: 'it returns false'. Refute it at one input. -/
def fnExactFirstPrefixCodeWrong : ChangeSpec := { name := "fnExactFirstPrefixCode", fn := fun _ => fun
  | [d1, d2] => { results := [.lit (.bool false)], args := [d1, d2] }
  | _ => none }
def FnExactFirstPrefixCodeWrongFalsely : Prop := fnExactFirstPrefixCodeRow.holds Try.pinned (OpenSpec.ofChange fnExactFirstPrefixCodeWrong)

/- THE SECOND FORM. 'bulk': how many values and letters a reading holds, each counted each time it is reached (what is shared counts as often as it is met; a slice's spare places count too). A statement '..UptoSaid' is the law's where the arguments, and the package variables that the reading takes, are together of bulk at most 1048576: NARROWER than '..Said'. Prove '..Said' where nothing that the law and all that it calls make is longer than what came in: it says more and counts as full. Else prove '..UptoSaid'. A law counts once. -/
mutual
def uptoBulk {H : Type} : DataW H → Nat
  | .lit (.string bytes) => bytes.length + 1
  | .lit _ => 1
  | .nil => 1
  | .ptr d => uptoBulk d + 1
  | .slice elems spare => uptoBulkAll elems + uptoBulkAll spare + 1
  | .agg parts => uptoBulkAll parts + 1
  | .iface _ d => uptoBulk d + 1
  | .map entries => uptoBulkEntries entries + 1
  | .held _ => 1
def uptoBulkAll {H : Type} : List (DataW H) → Nat
  | [] => 0
  | d :: r => uptoBulk d + uptoBulkAll r
def uptoBulkEntries {H : Type} : List (Lit × DataW H) → Nat
  | [] => 0
  | x :: r => uptoBulkEntry x + uptoBulkEntries r
def uptoBulkEntry {H : Type} : Lit × DataW H → Nat
  | (.string bytes, d) => bytes.length + uptoBulk d + 1
  | (_, d) => uptoBulk d + 1
 end
def uptoSmall : (H : Type) → List (DataW H) → Bool := fun _ ds => decide (uptoBulkAll ds ≤ 1048576)
def OpenSpec.upto (s : _root_.Go.ChangeSpec) : _root_.Go.OpenSpec := { _root_.Go.OpenSpec.ofChange s with cond := some uptoSmall }

/-- 'laws.FnExactConstants', WHERE WHAT IT READS IS OF BULK AT MOST 1048576: true; the input reads as it did. -/
def fnExactConstantsUptoRow : OpenClaim := { program := "ytnfpcgjdpcmkcaa", sum := "487dec58264b5b1a30be6c035f961d2a47d196ae5aab52e35c4cce119c0ab248", func := "loop.example/g01164/laws.FnExactConstants", spec := "fnExactConstants", apart := false, narrowed := true }
def FnExactConstantsUptoSaid : Prop := fnExactConstantsUptoRow.holds Try.pinned (OpenSpec.upto fnExactConstantsSpec)

/-- 'laws.FnExactCountLengths', WHERE WHAT IT READS IS OF BULK AT MOST 1048576: true; the input reads as it did. -/
def fnExactCountLengthsUptoRow : OpenClaim := { program := "ytnfpcgjdpcmkcaa", sum := "487dec58264b5b1a30be6c035f961d2a47d196ae5aab52e35c4cce119c0ab248", func := "loop.example/g01164/laws.FnExactCountLengths", spec := "fnExactCountLengths", unfollowed := true, recurses := true, apart := false, narrowed := true }
def FnExactCountLengthsUptoSaid : Prop := fnExactCountLengthsUptoRow.holds Try.pinned (OpenSpec.upto fnExactCountLengthsSpec)

/-- 'laws.FnExactCountCompletePrefix', WHERE WHAT IT READS IS OF BULK AT MOST 1048576: true; the input reads as it did. -/
def fnExactCountCompletePrefixUptoRow : OpenClaim := { program := "ytnfpcgjdpcmkcaa", sum := "487dec58264b5b1a30be6c035f961d2a47d196ae5aab52e35c4cce119c0ab248", func := "loop.example/g01164/laws.FnExactCountCompletePrefix", spec := "fnExactCountCompletePrefix", unfollowed := true, recurses := true, apart := false, narrowed := true }
def FnExactCountCompletePrefixUptoSaid : Prop := fnExactCountCompletePrefixUptoRow.holds Try.pinned (OpenSpec.upto fnExactCountCompletePrefixSpec)

/-- 'laws.FnExactCanBePrefix', WHERE WHAT IT READS IS OF BULK AT MOST 1048576: true; the input reads as it did. -/
def fnExactCanBePrefixUptoRow : OpenClaim := { program := "ytnfpcgjdpcmkcaa", sum := "487dec58264b5b1a30be6c035f961d2a47d196ae5aab52e35c4cce119c0ab248", func := "loop.example/g01164/laws.FnExactCanBePrefix", spec := "fnExactCanBePrefix", unfollowed := true, recurses := true, apart := false, narrowed := true }
def FnExactCanBePrefixUptoSaid : Prop := fnExactCanBePrefixUptoRow.holds Try.pinned (OpenSpec.upto fnExactCanBePrefixSpec)

/-- 'laws.FnExactRoomLeft', WHERE WHAT IT READS IS OF BULK AT MOST 1048576: true; the input reads as it did. -/
def fnExactRoomLeftUptoRow : OpenClaim := { program := "ytnfpcgjdpcmkcaa", sum := "487dec58264b5b1a30be6c035f961d2a47d196ae5aab52e35c4cce119c0ab248", func := "loop.example/g01164/laws.FnExactRoomLeft", spec := "fnExactRoomLeft", unfollowed := true, recurses := true, apart := false, narrowed := true }
def FnExactRoomLeftUptoSaid : Prop := fnExactRoomLeftUptoRow.holds Try.pinned (OpenSpec.upto fnExactRoomLeftSpec)

/-- 'laws.FnExactAllLengths', WHERE WHAT IT READS IS OF BULK AT MOST 1048576: true; the input reads as it did. -/
def fnExactAllLengthsUptoRow : OpenClaim := { program := "ytnfpcgjdpcmkcaa", sum := "487dec58264b5b1a30be6c035f961d2a47d196ae5aab52e35c4cce119c0ab248", func := "loop.example/g01164/laws.FnExactAllLengths", spec := "fnExactAllLengths", unfollowed := true, recurses := true, apart := false, narrowed := true }
def FnExactAllLengthsUptoSaid : Prop := fnExactAllLengthsUptoRow.holds Try.pinned (OpenSpec.upto fnExactAllLengthsSpec)

/-- 'laws.FnExactFirstCommaFree', WHERE WHAT IT READS IS OF BULK AT MOST 1048576: true; the input reads as it did. -/
def fnExactFirstCommaFreeUptoRow : OpenClaim := { program := "ytnfpcgjdpcmkcaa", sum := "487dec58264b5b1a30be6c035f961d2a47d196ae5aab52e35c4cce119c0ab248", func := "loop.example/g01164/laws.FnExactFirstCommaFree", spec := "fnExactFirstCommaFree", apart := false, narrowed := true }
def FnExactFirstCommaFreeUptoSaid : Prop := fnExactFirstCommaFreeUptoRow.holds Try.pinned (OpenSpec.upto fnExactFirstCommaFreeSpec)

/-- 'laws.FnExactSumOfLengths', WHERE WHAT IT READS IS OF BULK AT MOST 1048576: true; the input reads as it did. -/
def fnExactSumOfLengthsUptoRow : OpenClaim := { program := "ytnfpcgjdpcmkcaa", sum := "487dec58264b5b1a30be6c035f961d2a47d196ae5aab52e35c4cce119c0ab248", func := "loop.example/g01164/laws.FnExactSumOfLengths", spec := "fnExactSumOfLengths", unfollowed := true, recurses := true, apart := false, narrowed := true }
def FnExactSumOfLengthsUptoSaid : Prop := fnExactSumOfLengthsUptoRow.holds Try.pinned (OpenSpec.upto fnExactSumOfLengthsSpec)

/-- 'laws.FnExactFirstPrefixCode', WHERE WHAT IT READS IS OF BULK AT MOST 1048576: true; the input reads as it did. -/
def fnExactFirstPrefixCodeUptoRow : OpenClaim := { program := "ytnfpcgjdpcmkcaa", sum := "487dec58264b5b1a30be6c035f961d2a47d196ae5aab52e35c4cce119c0ab248", func := "loop.example/g01164/laws.FnExactFirstPrefixCode", spec := "fnExactFirstPrefixCode", unfollowed := true, recurses := true, apart := false, narrowed := true }
def FnExactFirstPrefixCodeUptoSaid : Prop := fnExactFirstPrefixCodeUptoRow.holds Try.pinned (OpenSpec.upto fnExactFirstPrefixCodeSpec)

end Rows
end Go.Proofs.Ytnfpcgjdpcmkcaa

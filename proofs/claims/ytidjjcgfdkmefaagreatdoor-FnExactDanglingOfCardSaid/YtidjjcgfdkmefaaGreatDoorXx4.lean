-- WRITTEN by xprint.py of this repo: the kit's print.py with contracts given by hand (given.py). Lean checks it.
import Derived.Test.YtidjjcgfdkmefaaGreatDoorXx0
namespace Go.Proofs.YtidjjcgfdkmefaaGreatDoor.X
open Go.RowKit Go.Proofs.YtidjjcgfdkmefaaGreatDoorW.PrintWords Go.Proofs.YtidjjcgfdkmefaaGreatDoorW.PrintLast Go.Proofs.YtidjjcgfdkmefaaGreatDoorW.PrintMore
attribute [local go_sem] max2_int min2_int max_two min_two max_three min_three max_four min_four   -- for this text's walks alone
set_option linter.unusedVariables false
set_option linter.unusedSimpArgs false

/-! ### impl_in: function 40 -/
def impl_in.f (a0 : Int) (a1 : Int) (a2 : Int) : Option (Bool) := if a1 ≤ a0 then (some (decide (a0 ≤ a2))) else (some false)
set_option maxHeartbeats 8000000 in
set_option maxRecDepth 100000 in
theorem impl_in.calls (a0 : Int) (a1 : Int) (a2 : Int) (r : Bool) (w : World) (h : impl_in.f a0 a1 a2 = some r) :
    Calls Tryz.prog 40 #[.int .i64 a0, .int .i64 a1, .int .i64 a2] w fun e w' => e = .returned (.bool r) ∧ Drawn0 w w' := by
  have H : (if a1 ≤ a0 then (some (decide (a0 ≤ a2))) else (some false)) = some r := h
  clear h
  by_cases c4 : a1 ≤ a0
  · rw [if_pos c4] at H
    have c4b0 : decide (a1 ≤ a0) = true := decide_eq_true c4
    clear c4
    obtain rfl := Option.some.inj H
    go_enter Tryz.func40, Tryz.ntmps40
    go_wp2
    go_ret
    exact ⟨by first | rfl | (simp; done) | (simp [*]; done), by repeat (first | exact Drawn0.refl _ | apply Drawn0.step)⟩
  · rw [if_neg c4] at H
    have c4b0 : decide (a1 ≤ a0) = false := decide_eq_false c4
    clear c4
    obtain rfl := Option.some.inj H
    go_enter Tryz.func40, Tryz.ntmps40
    go_wp2
    go_ret
    exact ⟨by first | rfl | (simp; done) | (simp [*]; done), by repeat (first | exact Drawn0.refl _ | apply Drawn0.step)⟩

-- NOT PRINTED: function 83 (strings_trimLeftByte)

-- NOT PRINTED: function 84 (strings_trimRightByte)

-- NOT PRINTED: function 85 (strings_makeASCIISet)

-- NOT PRINTED: function 101 (strings_asciiSet_contains)

-- NOT PRINTED: function 86 (strings_trimLeftASCII)

-- NOT PRINTED: function 87 (strings_trimRightASCII)

-- NOT PRINTED: function 110 (utf8_decodeRuneInStringSlow)

-- NOT PRINTED: function 102 (utf8_DecodeRuneInString)

-- NOT PRINTED: function 119 (bytealg_IndexByteString)

-- NOT PRINTED: function 118 (stringslite_IndexByte)

-- NOT PRINTED: function 114 (strings_IndexByte)

-- NOT PRINTED: function 115 (utf8_ValidRune)

-- NOT PRINTED: function 116 (bytealg_Cutover)

-- NOT PRINTED: function 117 (bytealg_IndexString)

-- NOT PRINTED: function 111 (strings_IndexRune)

-- NOT PRINTED: function 103 (strings_ContainsRune)

-- NOT PRINTED: function 88 (strings_trimLeftUnicode)

-- NOT PRINTED: function 112 (utf8_RuneStart)

-- NOT PRINTED: function 104 (utf8_DecodeLastRuneInString)

-- NOT PRINTED: function 89 (strings_trimRightUnicode)

-- NOT PRINTED: function 76 (strings_Trim)

end Go.Proofs.YtidjjcgfdkmefaaGreatDoor.X

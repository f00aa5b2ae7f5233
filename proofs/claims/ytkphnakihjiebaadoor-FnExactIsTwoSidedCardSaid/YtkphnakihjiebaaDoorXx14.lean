-- WRITTEN by xprint.py of this repo: the kit's print.py with contracts given by hand (given.py). Lean checks it.
import Derived.Test.YtkphnakihjiebaaDoorXx0
import Derived.Test.YtkphnakihjiebaaDoorXx3
import Derived.Test.YtkphnakihjiebaaDoorXx12
namespace Go.Proofs.YtkphnakihjiebaaDoor.X
open Go.RowKit Go.Proofs.YtkphnakihjiebaaDoorW.PrintWords Go.Proofs.YtkphnakihjiebaaDoorW.PrintLast Go.Proofs.YtkphnakihjiebaaDoorW.PrintMore
attribute [local go_sem] max2_int min2_int max_two min_two max_three min_three max_four min_four   -- for this text's walks alone
set_option linter.unusedVariables false
set_option linter.unusedSimpArgs false

/-! ### GIVEN impl_isPrefixSet: function 47 -/
/-- One text begins with another one. -/
def begB (s t : ByteArray) : Bool := decide (t.size ≤ s.size) && ((s.extract 0 t.size).toList == t.toList)
theorem hasPrefix_f (s t : ByteArray) : strings_HasPrefix.f s t = some (begB s t) := by
  unfold strings_HasPrefix.f stringslite_HasPrefix.f begB
  by_cases h : t.size ≤ s.size
  · rw [if_pos (by omega), if_pos (by omega), if_pos (by omega), decide_eq_true h]; rfl
  · rw [if_neg (by omega), decide_eq_false h]; rfl
def impl_isPrefixSet.f (l0 : List ByteArray) : Option Bool := some (decide (noTwo begB l0))
theorem impl_isPrefixSet.calls (A0 : Option Addr) (c0 : Nat) (l0 : List ByteArray) (r : Bool) (w : World) (hr0 : Kd.C Kd.string w A0 l0.length l0) (hc0 : l0.length ≤ c0) (h : impl_isPrefixSet.f l0 = some r) :
    Calls Tryd.prog 47 #[.slice A0 l0.length c0] w fun e w' => e = .returned (.bool r) ∧ Below w.heap.size w w' := by
  have hr : r = true ↔ noTwo begB l0 := by rw [← Option.some.inj h, decide_eq_true_eq]
  have eg := enters_of Tryd.func74 (by kernel_rfl) rfl
  have hc := fun (W : World) (hW : Below w.heap.size w W) => impl_isFree.calls_g _ #[] begB eg A0 c0 l0 W (Kd.C_below hr0 hW) hc0 (fun W' x y _ _ _ => (strings_HasPrefix.calls x y _ W' (hasPrefix_f x y)).mono fun _ _ ⟨he, hd⟩ => ⟨he, hd.below⟩) r hr
  clear h hr hr0 hc0
  go_enter Tryd.func47, Tryd.ntmps47
  go_wp2_with (go_at_call 45; refine (hc _ (Below.refl _ _)).mono ?_; rintro e w' ⟨rfl, hb⟩)
  go_ret
  exact ⟨rfl, hb⟩

end Go.Proofs.YtkphnakihjiebaaDoor.X

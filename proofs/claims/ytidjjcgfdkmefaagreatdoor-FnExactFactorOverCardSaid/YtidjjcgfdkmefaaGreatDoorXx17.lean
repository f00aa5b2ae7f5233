-- WRITTEN by xprint.py of this repo: the kit's print.py with contracts given by hand (given.py). Lean checks it.
import Derived.Test.YtidjjcgfdkmefaaGreatDoorXx0
import Derived.Test.YtidjjcgfdkmefaaGreatDoorXx16
namespace Go.Proofs.YtidjjcgfdkmefaaGreatDoor.X
open Go.RowKit Go.Proofs.YtidjjcgfdkmefaaGreatDoorW.PrintWords Go.Proofs.YtidjjcgfdkmefaaGreatDoorW.PrintLast Go.Proofs.YtidjjcgfdkmefaaGreatDoorW.PrintMore
attribute [local go_sem] max2_int min2_int max_two min_two max_three min_three max_four min_four   -- for this text's walks alone
set_option linter.unusedVariables false
set_option linter.unusedSimpArgs false

/-! ### GIVEN impl_isCode: function 25 -/
def impl_isCode.f (k : Nat) (l0 : List ByteArray) : Option Bool := (impl_dangling.f k l0).bind fun b => some (!b.2)
theorem impl_isCode.mono : ∀ a0 k, LeO (impl_isCode.f k a0) (impl_isCode.f (k + 1) a0) := by
  intro a0 k
  unfold impl_isCode.f
  exact LeO.bind (impl_dangling.mono _ _) fun _ => LeO.refl _
set_option maxHeartbeats 4000000 in
theorem impl_isCode.calls (k : Nat) (A0 : Option Addr) (c0 : Nat) (l0 : List ByteArray) (r : Bool) (w : World) (hr0 : Kd.C Kd.string w A0 l0.length l0) (hc0 : l0.length ≤ c0) (h : impl_isCode.f k l0 = some r) :
    Calls Tryz.prog 25 #[.slice A0 l0.length c0] w fun e w' => e = .returned (.bool r) ∧ Below w.heap.size w w' := by
  unfold impl_isCode.f at h
  obtain ⟨⟨t1, t2⟩, hd, h⟩ := Option.bind_eq_some_iff.mp h
  obtain rfl := Option.some.inj h
  have HD := Aside0.mk (impl_dangling.calls k A0 c0 l0 t1 t2 w hr0 hc0 hd)
  clear hd h hr0 hc0
  go_enter Tryz.func25, Tryz.ntmps25
  go_wp2_with (go_at_call 31; refine HD.out.mono ?_; rintro e w1 ⟨v1, rfl, hR1, hb1⟩; have HB1 := Aside0.mk hb1; clear hR1 hb1)
  go_ret
  exact ⟨rfl, HB1.out⟩

end Go.Proofs.YtidjjcgfdkmefaaGreatDoor.X

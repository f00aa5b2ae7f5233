-- WRITTEN by xprint.py of this repo: the kit's print.py with contracts given by hand (given.py). Lean checks it.
import Derived.Test.YtidjjcgfdkmefaaDoorXx0
import Derived.Test.YtidjjcgfdkmefaaDoorXx8
import Derived.Test.YtidjjcgfdkmefaaDoorXx12
namespace Go.Proofs.YtidjjcgfdkmefaaDoor.X
open Go.RowKit Go.Proofs.YtidjjcgfdkmefaaDoorW.PrintWords Go.Proofs.YtidjjcgfdkmefaaDoorW.PrintLast Go.Proofs.YtidjjcgfdkmefaaDoorW.PrintMore
attribute [local go_sem] max2_int min2_int max_two min_two max_three min_three max_four min_four   -- for this text's walks alone
set_option linter.unusedVariables false
set_option linter.unusedSimpArgs false

/-! ### GIVEN impl_StatesOf: function 12 -/
def impl_StatesOf.f (k : Nat) (l0 : List ByteArray) : Option (List ByteArray × Bool) := (impl_stepperOf.f k l0).bind fun r => some (r.getD [], r.isSome)
theorem impl_StatesOf.mono : ∀ a0 k, LeO (impl_StatesOf.f k a0) (impl_StatesOf.f (k + 1) a0) := fun a0 k => LeO.bind (impl_stepperOf.mono _ _) fun _ => LeO.refl _
set_option maxRecDepth 100000 in
set_option maxHeartbeats 4000000 in
theorem impl_StatesOf.calls (k : Nat) (A0 : Option Addr) (c0 : Nat) (l0 : List ByteArray) (r1 : List ByteArray) (r2 : Bool) (w : World) (hr0 : Kd.C Kd.string w A0 l0.length l0) (hc0 : l0.length ≤ c0) (h : impl_StatesOf.f k l0 = some (r1, r2)) (hm : MaxAt w) :
    Calls Tryd.prog 12 #[.slice A0 l0.length c0] w fun e w' => ∃ v0_ : Value, e = .returned (.tuple #[v0_, .bool r2]) ∧ Kd.R Kd.string 9 w' w.heap.size (fun _ => True) v0_ r1 ∧ Below w.heap.size w w' := by
  unfold impl_StatesOf.f at h
  replace h := Option.bind_eq_some_iff.mp h
  obtain ⟨r, hr, h⟩ := h
  obtain ⟨rfl, rfl⟩ := Prod.mk.inj (Option.some.inj h)
  have HC := Aside0.mk (impl_stepperOf.calls k A0 c0 l0 r w hr0 hc0 hr hm)
  clear h hr hr0 hc0 hm
  cases r with
  | none =>
    go_enter Tryd.func12, Tryd.ntmps12
    go_wp2_with (go_at_call 34; refine HC.out.mono ?_; rintro e w1 ⟨h1_, hb1⟩; have HB1 := Aside0.mk hb1; obtain rfl : e = .returned (.tuple #[.pointer none, .bool false]) := h1_.elim (fun q => q.2) (fun q => by obtain ⟨_, _, _, q, _⟩ := q; cases q); clear h1_ hb1)
    go_ret2
    exact ⟨_, rfl, Kd.R_nil _ _ _ _ _, HB1.out⟩
  | some inn =>
    go_enter Tryd.func12, Tryd.ntmps12
    go_wp2_with (go_at_call 34; refine HC.out.mono ?_; rintro e w1 ⟨h1_, hb1⟩; have HB1 := Aside0.mk hb1; obtain ⟨G, v, rfl, hcell, hR⟩ : ∃ (G : Nat) (v : Value), e = .returned (.tuple #[.pointer (some ⟨G, 0, none⟩), .bool true]) ∧ w1.cell? ⟨G, 1, none⟩ = some v ∧ Kd.R Kd.string 9 w1 w.heap.size (fun _ => True) v inn := h1_.elim (fun q => by cases q.1) (fun q => by obtain ⟨i, G, v, q1, q2, q3, q4⟩ := q; obtain rfl := Option.some.inj q1; exact ⟨G, v, q2, q3, q4⟩); have HR1 := Aside0.mk hR; clear h1_ hb1 hR)
    go_ret2
    exact ⟨_, rfl, HR1.out, HB1.out⟩

end Go.Proofs.YtidjjcgfdkmefaaDoor.X

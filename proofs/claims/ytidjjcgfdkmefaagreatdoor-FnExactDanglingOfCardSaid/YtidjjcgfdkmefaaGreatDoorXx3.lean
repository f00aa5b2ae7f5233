-- WRITTEN by xprint.py of this repo: the kit's print.py with contracts given by hand (given.py). Lean checks it.
import Derived.Test.YtidjjcgfdkmefaaGreatDoorXx0
import Derived.Test.YtidjjcgfdkmefaaGreatDoorXx1
import Derived.Test.YtidjjcgfdkmefaaGreatDoorXx2
namespace Go.Proofs.YtidjjcgfdkmefaaGreatDoor.X
open Go.RowKit Go.Proofs.YtidjjcgfdkmefaaGreatDoorW.PrintWords Go.Proofs.YtidjjcgfdkmefaaGreatDoorW.PrintLast Go.Proofs.YtidjjcgfdkmefaaGreatDoorW.PrintMore
attribute [local go_sem] max2_int min2_int max_two min_two max_three min_three max_four min_four   -- for this text's walks alone
set_option linter.unusedVariables false
set_option linter.unusedSimpArgs false

/-! ### GIVEN spec_DanglingOf: function 12 -/
def spec_DanglingOf.f (k : Nat) (l0 : List ByteArray) : Option (List (List ByteArray) × Bool) := (spec_wdSet.f k l0).bind fun b => if b = true then ((spec_dcLists.f k l0).bind fun r => some (r, true)) else some ([], false)
theorem spec_DanglingOf.mono : ∀ a0 k, LeO (spec_DanglingOf.f k a0) (spec_DanglingOf.f (k + 1) a0) := by
  intro a0 k
  unfold spec_DanglingOf.f
  exact LeO.bind (spec_wdSet.mono _ _) fun _ => LeO.ite (LeO.bind (spec_dcLists.mono _ _) fun _ => LeO.refl _) (LeO.refl _)
set_option maxHeartbeats 2000000 in
theorem spec_DanglingOf.calls (k : Nat) (A0 : Option Addr) (c0 : Nat) (l0 : List ByteArray) (r1 : List (List ByteArray)) (r2 : Bool) (w : World) (hr0 : Kd.C Kd.string w A0 l0.length l0) (hc0 : l0.length ≤ c0) (h : spec_DanglingOf.f k l0 = some (r1, r2)) :
    Calls Tryz.prog 12 #[.slice A0 l0.length c0] w fun e w' => ∃ v0_ : Value, e = .returned (.tuple #[v0_, .bool r2]) ∧ Kd.R (Kd.slice 9 Kd.string) 22 w' w.heap.size (fun _ => True) v0_ r1 ∧ Below w.heap.size w w' := by
  unfold spec_DanglingOf.f at h
  obtain ⟨b, hb, h⟩ := Option.bind_eq_some_iff.mp h
  have HR0 := Aside0.mk hr0
  have HC0 := Aside0.mk hc0
  have HSET := Aside0.mk hb
  clear hr0 hc0 hb
  cases b with
  | false =>
    rw [if_neg (by decide)] at h
    simp only [Option.some.injEq, Prod.mk.injEq] at h
    obtain ⟨rfl, rfl⟩ := h
    go_enter Tryz.func12, Tryz.ntmps12
    go_wp2_with (go_at_call 17; refine (spec_wdSet.calls k A0 c0 l0 false w HR0.out HC0.out HSET.out).mono ?_; rintro e w1 ⟨rfl, hd⟩; have HB1 : Aside0 (Below w.heap.size w w1) := ⟨by first | exact hd | exact hd.below⟩; clear hd)
    go_ret2
    exact ⟨_, rfl, Kd.R_nil _ _ _ _ _, HB1.out⟩
  | true =>
    rw [if_pos rfl] at h
    obtain ⟨r, hr, h⟩ := Option.bind_eq_some_iff.mp h
    simp only [Option.some.injEq, Prod.mk.injEq] at h
    obtain ⟨rfl, rfl⟩ := h
    have HL := Aside0.mk hr
    clear hr
    go_enter Tryz.func12, Tryz.ntmps12
    go_wp2_with (first
      | (go_at_call 17; refine (spec_wdSet.calls k A0 c0 l0 true w HR0.out HC0.out HSET.out).mono ?_; rintro e w1 ⟨rfl, hd⟩; have HB1 : Aside0 (Below w.heap.size w w1) := ⟨by first | exact hd | exact hd.below⟩; clear hd)
      | (go_at_call 30; refine (spec_dcLists.calls k A0 c0 l0 r w1 (Kd.C_below HR0.out HB1.out) HC0.out HL.out).mono ?_; rintro e w2 ⟨v2, rfl, hR2, hb2⟩; have HB2 := Aside0.mk (HB1.out.trans (hb2.mono HB1.out.size)); have HR2 := Aside0.mk (Kd.R_lower hR2 HB1.out.size); clear hR2 hb2))
    go_ret2
    exact ⟨_, rfl, HR2.out, HB2.out⟩

end Go.Proofs.YtidjjcgfdkmefaaGreatDoor.X

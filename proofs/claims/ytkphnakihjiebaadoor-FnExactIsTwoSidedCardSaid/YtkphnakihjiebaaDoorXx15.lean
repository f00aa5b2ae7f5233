-- WRITTEN by xprint.py of this repo: the kit's print.py with contracts given by hand (given.py). Lean checks it.
import Derived.Test.YtkphnakihjiebaaDoorXx0
import Derived.Test.YtkphnakihjiebaaDoorXx10
import Derived.Test.YtkphnakihjiebaaDoorXx11
import Derived.Test.YtkphnakihjiebaaDoorXx12
import Derived.Test.YtkphnakihjiebaaDoorXx14
namespace Go.Proofs.YtkphnakihjiebaaDoor.X
open Go.RowKit Go.Proofs.YtkphnakihjiebaaDoorW.PrintWords Go.Proofs.YtkphnakihjiebaaDoorW.PrintLast Go.Proofs.YtkphnakihjiebaaDoorW.PrintMore
attribute [local go_sem] max2_int min2_int max_two min_two max_three min_three max_four min_four   -- for this text's walks alone
set_option linter.unusedVariables false
set_option linter.unusedSimpArgs false

/-! ### GIVEN impl_IsTwoSided: function 20 -/
def impl_IsTwoSided.f (k : Nat) (l0 : List ByteArray) : Option (Bool × Bool) := (impl_isSet.f k l0).bind fun b => if b = true then (if decide (noTwo begB l0) = true then (if l0.all sizeB = true then some (decide (noTwo endB l0), true) else none) else some (false, true)) else some (false, false)
theorem impl_IsTwoSided.mono : ∀ a0 k, LeO (impl_IsTwoSided.f k a0) (impl_IsTwoSided.f (k + 1) a0) := by
  intro a0 k
  unfold impl_IsTwoSided.f
  exact LeO.bind (impl_isSet.mono _ _) (fun _ => LeO.refl _)
set_option maxHeartbeats 4000000 in
theorem impl_IsTwoSided.calls (k : Nat) (A0 : Option Addr) (c0 : Nat) (l0 : List ByteArray) (r1 : Bool) (r2 : Bool) (w : World) (hr0 : Kd.C Kd.string w A0 l0.length l0) (hc0 : l0.length ≤ c0) (h : impl_IsTwoSided.f k l0 = some (r1, r2)) :
    Calls Tryd.prog 20 #[.slice A0 l0.length c0] w fun e w' => e = .returned (.tuple #[.bool r1, .bool r2]) ∧ Below w.heap.size w w' := by
  unfold impl_IsTwoSided.f at h
  obtain ⟨b, hb, h⟩ := Option.bind_eq_some_iff.mp h
  have hset := fun (W : World) (hW : Below w.heap.size w W) => impl_isSet.calls k A0 c0 l0 b W (Kd.C_below hr0 hW) hc0 hb
  clear hb
  cases b with
  | false =>
    rw [if_neg (by decide)] at h
    obtain ⟨rfl, rfl⟩ := Prod.mk.inj (Option.some.inj h)
    clear h hr0 hc0
    go_enter Tryd.func20, Tryd.ntmps20
    go_wp2_with (go_at_call 44; refine (hset _ (Below.refl _ _)).mono ?_; rintro e w1 ⟨rfl, hb1⟩)
    go_ret2
    exact ⟨rfl, hb1⟩
  | true =>
    rw [if_pos rfl] at h
    obtain ⟨q, hq⟩ : ∃ q, decide (noTwo begB l0) = q := ⟨_, rfl⟩
    have hpre := fun (W : World) (hW : Below w.heap.size w W) => impl_isPrefixSet.calls A0 c0 l0 q W (Kd.C_below hr0 hW) hc0 (by unfold impl_isPrefixSet.f; rw [hq])
    rw [hq] at h
    clear hq
    cases q with
    | false =>
      rw [if_neg (by decide)] at h
      obtain ⟨rfl, rfl⟩ := Prod.mk.inj (Option.some.inj h)
      clear h hr0 hc0
      go_enter Tryd.func20, Tryd.ntmps20
      go_wp2_with (first | (go_at_call 44; refine (hset _ (Below.refl _ _)).mono ?_; rintro e w1 ⟨rfl, hb1⟩) | (go_at_call 47; refine (hpre _ hb1).mono ?_; rintro e w2 ⟨rfl, hb2⟩))
      go_ret2
      exact ⟨rfl, hb1.trans (hb2.mono hb1.size)⟩
    | true =>
      rw [if_pos rfl] at h
      by_cases hs : l0.all sizeB = true
      · rw [if_pos hs] at h
        obtain ⟨rfl, rfl⟩ := Prod.mk.inj (Option.some.inj h)
        have hsz := sizeB_all hs
        have eg := enters_of Tryd.func46 (by kernel_rfl) rfl
        obtain ⟨r, hr⟩ : ∃ r, decide (noTwo endB l0) = r := ⟨_, rfl⟩
        have hr2 : r = true ↔ noTwo endB l0 := by rw [← hr, decide_eq_true_eq]
        have hc := fun (W : World) (hW : Below w.heap.size w W) => impl_isFree.calls_g _ #[] endB eg A0 c0 l0 W (Kd.C_below hr0 hW) hc0 (fun W' x y hx _ _ => (strings_HasSuffix.calls x y _ W' (hasSuffix_f x y (hsz x hx))).mono fun _ _ ⟨he, hd⟩ => ⟨he, hd.below⟩) r hr2
        rw [hr]
        clear h hr0 hc0 hr hr2 hsz hs
        go_enter Tryd.func20, Tryd.ntmps20
        go_wp2_with (first | (go_at_call 44; refine (hset _ (Below.refl _ _)).mono ?_; rintro e w1 ⟨rfl, hb1⟩) | (go_at_call 47; refine (hpre _ hb1).mono ?_; rintro e w2 ⟨rfl, hb2⟩) | (go_at_call 45; refine (hc _ (hb1.trans (hb2.mono hb1.size))).mono ?_; rintro e w3 ⟨rfl, hb3⟩))
        go_ret2
        have hb12 := hb1.trans (hb2.mono hb1.size)
        exact ⟨rfl, hb12.trans (hb3.mono hb12.size)⟩
      · rw [if_neg hs] at h; cases h

end Go.Proofs.YtkphnakihjiebaaDoor.X

-- WRITTEN by xprint.py of this repo: the kit's print.py with contracts given by hand (given.py). Lean checks it.
import Derived.Test.YtmgankgjjnegaaaDoorXx0
import Derived.Test.YtmgankgjjnegaaaDoorXx7
import Derived.Test.YtmgankgjjnegaaaDoorXx8
namespace Go.Proofs.YtmgankgjjnegaaaDoor.X
open Go.RowKit Go.Proofs.YtmgankgjjnegaaaDoorW.PrintWords Go.Proofs.YtmgankgjjnegaaaDoorW.PrintLast Go.Proofs.YtmgankgjjnegaaaDoorW.PrintMore
attribute [local go_sem] max2_int min2_int max_two min_two max_three min_three max_four min_four   -- for this text's walks alone
set_option linter.unusedVariables false
set_option linter.unusedSimpArgs false

/-! ### GIVEN impl_FirstInside: function 47 -/
def impl_FirstInside.f (k : Nat) (l0 : List ByteArray) : Option (List Int × Bool) := (impl_isSet.f k l0).bind fun b => if b = true then ((impl_firstInside.f k l0).bind fun t => some (t, !t.isEmpty)) else some ([], false)
theorem impl_FirstInside.mono : ∀ a0 k, LeO (impl_FirstInside.f k a0) (impl_FirstInside.f (k + 1) a0) := by
  intro a0 k
  unfold impl_FirstInside.f
  refine LeO.bind (impl_isSet.mono _ _) (fun b => ?_)
  cases b with
  | false => exact LeO.refl _
  | true => exact LeO.bind (impl_firstInside.mono _ _) (fun _ => LeO.refl _)
set_option maxRecDepth 100000 in
set_option maxHeartbeats 4000000 in
theorem impl_FirstInside.calls (k : Nat) (A0 : Option Addr) (c0 : Nat) (l0 : List ByteArray) (r1 : List Int) (r2 : Bool) (w : World) (hr0 : Kd.C Kd.string w A0 l0.length l0) (hc0 : l0.length ≤ c0) (h : impl_FirstInside.f k l0 = some (r1, r2)) :
    Calls Tryd.prog 47 #[.slice A0 l0.length c0] w fun e w' => ∃ v0_ : Value, e = .returned (.tuple #[v0_, .bool r2]) ∧ Kd.R (Kd.int .i64) 3 w' w.heap.size (fun _ => True) v0_ r1 ∧ Below w.heap.size w w' := by
  unfold impl_FirstInside.f at h
  obtain ⟨b, hb, h⟩ := Option.bind_eq_some_iff.mp h
  have hset := fun (W : World) (hW : Below w.heap.size w W) => impl_isSet.calls k A0 c0 l0 b W (Kd.C_below hr0 hW) hc0 hb
  have HSET := Aside0.mk hset
  clear hb hset
  cases b with
  | false =>
    rw [if_neg (by decide)] at h
    obtain ⟨rfl, rfl⟩ := Prod.mk.inj (Option.some.inj h)
    clear h hr0 hc0
    go_enter Tryd.func47, Tryd.ntmps47
    go_wp2_with (go_at_call 53; refine (HSET.out _ (Below.refl _ _)).mono ?_; rintro e w1 ⟨rfl, hb1⟩)
    go_ret2
    exact ⟨_, rfl, Kd.R_nil _ _ _ _ _, hb1⟩
  | true =>
    rw [if_pos rfl] at h
    obtain ⟨t, ht, h⟩ := Option.bind_eq_some_iff.mp h
    obtain ⟨rfl, rfl⟩ := Prod.mk.inj (Option.some.inj h)
    have hin := fun (W : World) (hW : Below w.heap.size w W) => impl_firstInside.calls k A0 c0 l0 t W (Kd.C_below hr0 hW) hc0 ht
    have HIN := Aside0.mk hin
    clear h ht hin hr0 hc0
    go_enter Tryd.func47, Tryd.ntmps47
    go_wp2_with fail
    go_at_call 53
    refine (HSET.out _ (Below.refl _ _)).mono ?_
    rintro e w1 ⟨rfl, hb1⟩
    have HB1 := Aside0.mk hb1
    clear hb1
    go_wp2_with fail
    go_at_call 76
    refine (HIN.out _ HB1.out).mono ?_
    rintro e w2 ⟨v, rfl, hR, hb2, hnil⟩
    have HB2 := Aside0.mk (HB1.out.trans (hb2.mono HB1.out.size))
    have HRR := Aside0.mk (Kd.R_lower hR HB1.out.size)
    clear hb2
    cases t with
    | nil =>
      obtain rfl := hnil rfl
      clear hnil hR
      have hcmp := fun (W : World) (n c n' c' : Nat) => run_neq_slice_nil_any (P := Tryd.prog) W 33 3 none n c n' c' Tryd.underlying33
      go_wp2
      go_ret2
      exact ⟨_, rfl, HRR.out, HB2.out⟩
    | cons x l =>
      obtain ⟨g, cap, rfl, _, _, _⟩ := Kd.R_form hR (by simp)
      clear hnil hR
      have hcmp := fun (W : World) (n c n' c' : Nat) => run_neq_slice_nil_any (P := Tryd.prog) W 33 3 (some ⟨g, 0, none⟩) n c n' c' Tryd.underlying33
      go_wp2
      go_ret2
      exact ⟨_, rfl, HRR.out, HB2.out⟩

end Go.Proofs.YtmgankgjjnegaaaDoor.X

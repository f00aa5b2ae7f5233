-- WRITTEN by xprint.py of this repo: the kit's print.py with contracts given by hand (given.py). Lean checks it.
import Derived.Test.YtgokegndboknfaaDoorXx0
import Derived.Test.YtgokegndboknfaaDoorXx5
import Derived.Test.YtgokegndboknfaaDoorXx12
import Derived.Test.YtgokegndboknfaaDoorXx13
namespace Go.Proofs.YtgokegndboknfaaDoor.X
open Go.RowKit Go.Proofs.YtgokegndboknfaaDoorW.PrintWords Go.Proofs.YtgokegndboknfaaDoorW.PrintLast Go.Proofs.YtgokegndboknfaaDoorW.PrintMore
attribute [local go_sem] max2_int min2_int max_two min_two max_three min_three max_four min_four   -- for this text's walks alone
set_option linter.unusedVariables false
set_option linter.unusedSimpArgs false

/-! ### GIVEN impl_TwoReadings: function 12 -/
def impl_TwoReadings.f (k : Nat) (l0 : List ByteArray) : Option (List Int × List Int × Bool) := (impl_ShortestDouble.f k l0).bind fun d => if d.2 = true then ((impl_firstReadings.f k l0 d.1 2).bind fun L => match L with | x :: y :: _ => some (x, y, true) | _ => none) else some ([], [], false)
theorem impl_TwoReadings.mono : ∀ a0 k, LeO (impl_TwoReadings.f k a0) (impl_TwoReadings.f (k + 1) a0) := by
  intro a0 k
  unfold impl_TwoReadings.f
  exact LeO.bind (impl_ShortestDouble.mono _ _) fun _ => LeO.ite (LeO.bind (impl_firstReadings.mono _ _ _ _) fun _ => LeO.refl _) (LeO.refl _)
set_option maxRecDepth 100000 in
set_option maxHeartbeats 16000000 in
theorem impl_TwoReadings.calls (k : Nat) (A0 : Option Addr) (c0 : Nat) (l0 : List ByteArray) (r1 r2 : List Int) (r3 : Bool) (w : World) (hr0 : Kd.C Kd.string w A0 l0.length l0) (hc0 : l0.length ≤ c0) (h : impl_TwoReadings.f k l0 = some (r1, r2, r3)) :
    Calls Tryd.prog 12 #[.slice A0 l0.length c0] w fun e w' => ∃ v0_ v1_ : Value, e = .returned (.tuple #[v0_, v1_, .bool r3]) ∧ Kd.R (Kd.int .i64) 3 w' w.heap.size (fun k_ => some k_ ≠ (v1_ : Value).ownBlock) v0_ r1 ∧ Kd.R (Kd.int .i64) 3 w' w.heap.size (fun k_ => some k_ ≠ (v0_ : Value).ownBlock) v1_ r2 ∧ Below w.heap.size w w' := by
  unfold impl_TwoReadings.f at h
  replace h := Option.bind_eq_some_iff.mp h
  obtain ⟨⟨s, b⟩, hsd, h⟩ := h
  have HR0 := Aside0.mk hr0
  have HC0 := Aside0.mk hc0
  have HSD := Aside0.mk hsd
  clear hr0 hc0 hsd
  cases b with
  | false =>
    rw [if_neg (by simp)] at h
    simp only [Option.some.injEq, Prod.mk.injEq] at h
    obtain ⟨rfl, rfl, rfl⟩ := h
    go_enter Tryd.func12, Tryd.ntmps12
    go_wp2_with (go_at_call 9; refine (impl_ShortestDouble.calls k A0 c0 l0 s false w HR0.out HC0.out HSD.out).mono ?_; rintro e w1 ⟨rfl, hb1⟩; have HB1 := Aside0.mk hb1; clear hb1)
    go_ret3
    exact ⟨_, _, rfl, Kd.R_nil _ _ _ _ _, Kd.R_nil _ _ _ _ _, HB1.out⟩
  | true =>
    rw [if_pos rfl] at h
    replace h := Option.bind_eq_some_iff.mp h
    obtain ⟨L, hrd, h⟩ := h
    have HRD := Aside0.mk hrd
    clear hrd
    match L, h, HRD with
    | [], h, _ => cases h
    | [x], h, _ => cases h
    | x :: y :: L, h, HRD =>
      simp only [Option.some.injEq, Prod.mk.injEq] at h
      obtain ⟨rfl, rfl, rfl⟩ := h
      obtain ⟨n, hn⟩ : ∃ n, (x :: y :: L).length = n := ⟨_, rfl⟩
      have h1n : (1 : Int) < (n : Int) := by rw [List.length_cons, List.length_cons] at hn; omega
      have h0n : (0 : Int) < (n : Int) := by omega
      have HN := Aside0.mk hn
      clear hn
      go_enter Tryd.func12, Tryd.ntmps12
      go_wp2_with (first
        | (go_at_call 9; refine (impl_ShortestDouble.calls k A0 c0 l0 s true w HR0.out HC0.out HSD.out).mono ?_; rintro e w1 ⟨rfl, hb1⟩; have HB1 := Aside0.mk hb1; clear hb1)
        | (go_at_call 25; refine (impl_firstReadings.calls k A0 c0 l0 s 2 (x :: y :: L) w1 (Kd.C_below HR0.out HB1.out) HC0.out HRD.out).mono ?_; rintro e w2 ⟨v2, rfl, hS2, hb2⟩; have HB2 := Aside0.mk (HB1.out.trans (hb2.mono HB1.out.size)); obtain ⟨g, cap, e2, _, _, _⟩ := Kd.S_form hS2 (by simp); subst e2; rw [HN.out] at hS2 ⊢; obtain ⟨p0, p1, A20, A21, c20, c21, hdis, hc20, hc21, hR0, hR1⟩ := two_rows hS2; have HDIS := Aside0.mk hdis; have HR20 := Aside0.mk (Kd.R_lower hR0 HB1.out.size); have HR21 := Aside0.mk (Kd.R_lower hR1 HB1.out.size); clear hS2 hb2 hR0 hR1 hdis))
      go_quiet (fail)
      go_wp2
      go_ret3
      exact ⟨_, _, rfl, Kd.R_mono HR20.out (fun k_ hk e => HDIS.out k_ hk (HR21.out.1 k_ e.symm)), Kd.R_mono HR21.out (fun k_ hk e => HDIS.out k_ (HR20.out.1 k_ e.symm) hk), ⟨HB2.out.os, HB2.out.tape, HB2.out.output, HB2.out.size, HB2.out.block⟩⟩

end Go.Proofs.YtgokegndboknfaaDoor.X

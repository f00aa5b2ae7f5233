-- WRITTEN by xprint.py of this repo: the kit's print.py with contracts given by hand (given.py). Lean checks it.
import Derived.Test.YtgokegndboknfaaDoorXx0
import Derived.Test.YtgokegndboknfaaDoorXx3
import Derived.Test.YtgokegndboknfaaDoorXx4
namespace Go.Proofs.YtgokegndboknfaaDoor.X
open Go.RowKit Go.Proofs.YtgokegndboknfaaDoorW.PrintWords Go.Proofs.YtgokegndboknfaaDoorW.PrintLast Go.Proofs.YtgokegndboknfaaDoorW.PrintMore
attribute [local go_sem] max2_int min2_int max_two min_two max_three min_three max_four min_four   -- for this text's walks alone
set_option linter.unusedVariables false
set_option linter.unusedSimpArgs false

/-! ### GIVEN spec_TwoReadings: function 11 -/
/-- The first two rows of a list of rows that stand apart. -/
theorem two_rows {W : World} {base n cap g : Nat} {ok : Nat → Prop} {x y : List Int} {L : List (List Int)} (h : Kd.S (Kd.slice 3 (Kd.int .i64)) 29 W base ok (.slice (some ⟨g, 0, none⟩) n cap) (x :: y :: L)) :
    ∃ (p0 p1 : Nat → Prop) (A0 A1 : Option Addr) (c0 c1 : Nat), (∀ k, p0 k → p1 k → False) ∧ W.cell? ⟨g, 0, none⟩ = some (.slice A0 x.length c0) ∧ W.cell? ⟨g, 1, none⟩ = some (.slice A1 y.length c1) ∧
      Kd.R (Kd.int .i64) 3 W base p0 (.slice A0 x.length c0) x ∧ Kd.R (Kd.int .i64) 3 W base p1 (.slice A1 y.length c1) y := by
  have hn := (Kd.S_reads' h).1
  simp only [List.length_cons] at hn
  obtain ⟨f, hR⟩ := h
  obtain ⟨a0, _, m0, k0, _⟩ := Kd.R_elem hR (([], 0) : List Int × Nat) 0 (by omega) (by omega)
  obtain ⟨a1, _, m1, k1, _⟩ := Kd.R_elem hR (([], 0) : List Int × Nat) 1 (by omega) (by omega)
  have m0' : (Kd.slice 3 (Kd.int .i64)).M W base (fun k => (ok k ∧ k ≠ g) ∧ f k = 0) x a0 := m0
  have m1' : (Kd.slice 3 (Kd.int .i64)).M W base (fun k => (ok k ∧ k ≠ g) ∧ f k = 1) y a1 := m1
  obtain ⟨v0, rfl, h0⟩ := m0'
  obtain ⟨v1, rfl, h1⟩ := m1'
  obtain ⟨A0, c0, rfl, _, _⟩ := Kd.R_reads h0
  obtain ⟨A1, c1, rfl, _, _⟩ := Kd.R_reads h1
  exact ⟨_, _, A0, A1, c0, c1, fun k q0 q1 => by have h1_ := q0.2; have h2_ := q1.2; omega, k0 0 _ rfl, k1 0 _ rfl, h0, h1⟩

def spec_TwoReadings.f (k : Nat) (l0 : List ByteArray) : Option (List Int × List Int × Bool) := (spec_ShortestDouble.f k l0).bind fun d => if d.2 = true then ((spec_dcReadings.f k l0 d.1 2).bind fun L => match L with | x :: y :: _ => some (x, y, true) | _ => none) else some ([], [], false)
theorem spec_TwoReadings.mono : ∀ a0 k, LeO (spec_TwoReadings.f k a0) (spec_TwoReadings.f (k + 1) a0) := by
  intro a0 k
  unfold spec_TwoReadings.f
  exact LeO.bind (spec_ShortestDouble.mono _ _) fun _ => LeO.ite (LeO.bind (spec_dcReadings.mono _ _ _ _) fun _ => LeO.refl _) (LeO.refl _)
set_option maxRecDepth 100000 in
set_option maxHeartbeats 16000000 in
theorem spec_TwoReadings.calls (k : Nat) (A0 : Option Addr) (c0 : Nat) (l0 : List ByteArray) (r1 r2 : List Int) (r3 : Bool) (w : World) (hr0 : Kd.C Kd.string w A0 l0.length l0) (hc0 : l0.length ≤ c0) (h : spec_TwoReadings.f k l0 = some (r1, r2, r3)) :
    Calls Tryd.prog 11 #[.slice A0 l0.length c0] w fun e w' => ∃ v0_ v1_ : Value, e = .returned (.tuple #[v0_, v1_, .bool r3]) ∧ Kd.R (Kd.int .i64) 3 w' w.heap.size (fun k_ => some k_ ≠ (v1_ : Value).ownBlock) v0_ r1 ∧ Kd.R (Kd.int .i64) 3 w' w.heap.size (fun k_ => some k_ ≠ (v0_ : Value).ownBlock) v1_ r2 ∧ Below w.heap.size w w' := by
  unfold spec_TwoReadings.f at h
  replace h := Option.bind_eq_some_iff.mp h
  obtain ⟨⟨s, b⟩, hsd, h⟩ := h
  have HR0 := Aside0.mk hr0
  have HC0 := Aside0.mk hc0
  have HSD := Aside0.mk hsd
  clear hr0 hc0 hsd
  cases b with
  | false =>
    rw [if_neg (by simp)] at h
    simp only [Option.some.injEq, Prod.mk.injEq] at h
    obtain ⟨rfl, rfl, rfl⟩ := h
    go_enter Tryd.func11, Tryd.ntmps11
    go_wp2_with (go_at_call 7; refine (spec_ShortestDouble.calls k A0 c0 l0 s false w HR0.out HC0.out HSD.out).mono ?_; rintro e w1 ⟨rfl, hb1⟩; have HB1 := Aside0.mk hb1; clear hb1)
    go_ret3
    exact ⟨_, _, rfl, Kd.R_nil _ _ _ _ _, Kd.R_nil _ _ _ _ _, HB1.out⟩
  | true =>
    rw [if_pos rfl] at h
    replace h := Option.bind_eq_some_iff.mp h
    obtain ⟨L, hrd, h⟩ := h
    have HRD := Aside0.mk hrd
    clear hrd
    match L, h, HRD with
    | [], h, _ => cases h
    | [x], h, _ => cases h
    | x :: y :: L, h, HRD =>
      simp only [Option.some.injEq, Prod.mk.injEq] at h
      obtain ⟨rfl, rfl, rfl⟩ := h
      obtain ⟨n, hn⟩ : ∃ n, (x :: y :: L).length = n := ⟨_, rfl⟩
      have h1n : (1 : Int) < (n : Int) := by rw [List.length_cons, List.length_cons] at hn; omega
      have h0n : (0 : Int) < (n : Int) := by omega
      have HN := Aside0.mk hn
      clear hn
      go_enter Tryd.func11, Tryd.ntmps11
      go_wp2_with (first
        | (go_at_call 7; refine (spec_ShortestDouble.calls k A0 c0 l0 s true w HR0.out HC0.out HSD.out).mono ?_; rintro e w1 ⟨rfl, hb1⟩; have HB1 := Aside0.mk hb1; clear hb1)
        | (go_at_call 24; refine (spec_dcReadings.calls k A0 c0 l0 s 2 (x :: y :: L) w1 (Kd.C_below HR0.out HB1.out) HC0.out HRD.out).mono ?_; rintro e w2 ⟨v2, rfl, hS2, hb2⟩; have HB2 := Aside0.mk (HB1.out.trans (hb2.mono HB1.out.size)); obtain ⟨g, cap, e2, _, _, _⟩ := Kd.S_form hS2 (by simp); subst e2; rw [HN.out] at hS2 ⊢; obtain ⟨p0, p1, A20, A21, c20, c21, hdis, hc20, hc21, hR0, hR1⟩ := two_rows hS2; have HDIS := Aside0.mk hdis; have HR20 := Aside0.mk (Kd.R_lower hR0 HB1.out.size); have HR21 := Aside0.mk (Kd.R_lower hR1 HB1.out.size); clear hS2 hb2 hR0 hR1 hdis))
      go_quiet (fail)
      go_wp2
      go_ret3
      exact ⟨_, _, rfl, Kd.R_mono HR20.out (fun k_ hk e => HDIS.out k_ hk (HR21.out.1 k_ e.symm)), Kd.R_mono HR21.out (fun k_ hk e => HDIS.out k_ (HR20.out.1 k_ e.symm) hk), ⟨HB2.out.os, HB2.out.tape, HB2.out.output, HB2.out.size, HB2.out.block⟩⟩

end Go.Proofs.YtgokegndboknfaaDoor.X

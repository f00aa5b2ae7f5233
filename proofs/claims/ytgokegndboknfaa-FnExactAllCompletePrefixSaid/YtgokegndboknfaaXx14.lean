-- WRITTEN by xprint.py of this repo: the kit's print.py with contracts given by hand (given.py). Lean checks it.
import Derived.Test.YtgokegndboknfaaXx0
import Derived.Test.YtgokegndboknfaaXx3
import Derived.Test.YtgokegndboknfaaXx10
import Derived.Test.YtgokegndboknfaaXx11
import Derived.Test.YtgokegndboknfaaXx12
import Derived.Test.YtgokegndboknfaaXx13
namespace Go.Proofs.Ytgokegndboknfaa.X
open Go.RowKit Go.Proofs.YtgokegndboknfaaW.PrintWords Go.Proofs.YtgokegndboknfaaW.PrintLast Go.Proofs.YtgokegndboknfaaW.PrintMore
attribute [local go_sem] max2_int min2_int max_two min_two max_three min_three max_four min_four   -- for this text's walks alone
set_option linter.unusedVariables false
set_option linter.unusedSimpArgs false

/-! ### GIVEN laws_FnExactAllCompletePrefix: function 3 -/
def laws_FnExactAllCompletePrefix.f (k : Nat) (a0 : Int) (a1 : Int) : Option Bool := (spec_AllCompletePrefix.f k a0 a1).bind fun v => (impl_AllCompletePrefix.f k a0 a1).bind fun u => (laws_eqStringSS.f k u.1 v.1).bind fun q1 => (laws_markStringSS.f k u.1 1).bind fun g => (laws_heldStringSS.f k g.2 1).bind fun q => if q1 = true ∧ u.2 = v.2 ∧ 0 ≤ q ∧ q = g.1 then some true else none
set_option maxRecDepth 100000 in
set_option maxHeartbeats 16000000 in
theorem laws_FnExactAllCompletePrefix.calls (k : Nat) (a0 : Int) (a1 : Int) (r : Bool) (w : World)  (h : laws_FnExactAllCompletePrefix.f k a0 a1 = some r) :
    Calls Try.prog 3 #[.int .i64 a0, .int .i64 a1] w fun e w' => e = .returned (.bool r) ∧ Below w.heap.size w w' := by
  unfold laws_FnExactAllCompletePrefix.f at h
  have HB0 := Aside0.mk (Below.refl w.heap.size w)
  obtain ⟨⟨vv, bv⟩, hv, h⟩ := Option.bind_eq_some_iff.mp h
  obtain ⟨⟨uu, bu⟩, hu, h⟩ := Option.bind_eq_some_iff.mp h
  obtain ⟨q1, hq1, h⟩ := Option.bind_eq_some_iff.mp h
  obtain ⟨⟨mg, ug⟩, hg, h⟩ := Option.bind_eq_some_iff.mp h
  obtain ⟨q, hq, h⟩ := Option.bind_eq_some_iff.mp h
  have h' : (if q1 = true ∧ bu = bv ∧ 0 ≤ q ∧ q = mg then some true else none) = some r := h
  clear h
  by_cases hall : q1 = true ∧ bu = bv ∧ 0 ≤ q ∧ q = mg
  case neg => rw [if_neg hall] at h'; cases h'
  rw [if_pos hall] at h'
  obtain rfl := Option.some.inj h'
  clear h'
  obtain ⟨rfl, rfl, hq0, rfl⟩ := hall
  have hqd : decide (q < 0) = false := decide_eq_false (by omega)
  have HV := Aside0.mk hv
  clear hv
  have HU := Aside0.mk hu
  clear hu
  have HQ1 := Aside0.mk hq1
  clear hq1
  have HG_ := Aside0.mk hg
  clear hg
  have HQ := Aside0.mk hq
  clear hq
  clear hq0
  go_enter Try.func3, Try.ntmps3
  go_wp2_with (first
    | (go_at_call 4; (fail_if_success (have g_ := STG1)); refine (spec_AllCompletePrefix.calls k a0 a1 vv bu w  HV.out).mono ?_; rintro e w1_ ⟨vS, rfl, hS, hb⟩; have HS1 := Aside0.mk hb.size; have HB1 := Aside0.mk (HB0.out.trans (hb.mono HB0.out.size)); obtain ⟨AV, cV, eS, hlS, _⟩ := Kd.N_reads hS; subst eS; have HLV := Aside0.mk hlS; have V_1 := Aside0.mk (Kd.N_lower (Kd.N_mono (ok' := fun k_ => w.heap.size ≤ k_ ∧ k_ < w1_.heap.size) (Kd.N_bound hS) (fun k_ hk_ => ⟨hk_.1, hk_.2⟩)) HB0.out.size); clear hb hS hlS; have STG1 := Aside0.mk trivial)
    | (go_at_call 5; (have g_ := STG1); (fail_if_success (have g_ := STG2)); refine (impl_AllCompletePrefix.calls k a0 a1 uu bu w1_  HU.out).mono ?_; rintro e w2_ ⟨vS, rfl, hS, hb⟩; have HS2 := Aside0.mk hb.size; have HB2 := Aside0.mk (HB1.out.trans (hb.mono HB1.out.size)); have V_2 := Aside0.mk (Kd.N_below V_1.out hb); obtain ⟨AG, cG, eS, hlS, _⟩ := Kd.S_reads hS; subst eS; have HLG := Aside0.mk hlS; have G_2 := Aside0.mk (Kd.S_lower (Kd.S_mono (ok' := fun k_ => w1_.heap.size ≤ k_ ∧ k_ < w2_.heap.size) (Kd.S_bound hS) (fun k_ hk_ => ⟨hk_.2.1, hk_.2.2.1⟩)) HB1.out.size); clear hb hS hlS; have STG2 := Aside0.mk trivial)
    | (go_at_call 6; (have g_ := STG2); (fail_if_success (have g_ := STG3)); refine (laws_eqStringSS.calls k AG cG uu AV cV vv true w2_ (Kd.S_reads' G_2.out).2.2 HLG.out (Kd.N_reads' V_2.out).2.2 HLV.out HQ1.out).mono ?_; rintro e w3_ ⟨rfl, hd⟩; have hb := (show Below (w2_).heap.size (w2_) (w3_) from by first | exact hd.below | exact hd); have HS3 := Aside0.mk hb.size; have HB3 := Aside0.mk (HB2.out.trans (hb.mono HB2.out.size)); have V_3 := Aside0.mk (Kd.N_below V_2.out hb); have G_3 := Aside0.mk (Kd.S_below G_2.out hb); clear hb hd; have STG3 := Aside0.mk trivial)
    | (go_at_call 7; (have g_ := STG3); (fail_if_success (have g_ := STG4)); refine (laws_markStringSS.calls k (fun k_ => w1_.heap.size ≤ k_ ∧ k_ < w2_.heap.size) (.slice AG uu.length cG) uu 1 q ug w w3_ HB3.out G_3.out HG_.out).mono ?_; rintro e w4_ ⟨rfl, hS, hb, hk⟩; have HS4 := Aside0.mk hk.1; have HB4 := Aside0.mk hb; have V_4 := Aside0.mk (Kd.N_kept V_3.out hk (fun k_ h1_ h2_ => by (try dsimp only at h1_); (try dsimp only at h2_); have s1_ := HS1.out; have s2_ := HS2.out;  omega)); have G_4 := Aside0.mk (Kd.S_mono (ok' := fun _ => True) hS (fun _ _ => trivial)); clear hS hb hk; have STG4 := Aside0.mk trivial)
    | (go_at_call 8; (have g_ := STG4); (fail_if_success (have g_ := STG5)); refine ((show Calls Try.prog 8 #[.slice AG uu.length cG, .int .i64 1] w4_ _ from (Kd.S_reads' G_4.out).1 ▸ laws_heldStringSS.calls k AG cG ug 1 q w4_ (Kd.S_reads' G_4.out).2.2 (by have h1_ := (Kd.S_reads' G_4.out).1; have h2_ := (Kd.S_reads' G_4.out).2.1; omega) HQ.out)).mono ?_; rintro e w5_ ⟨rfl, hd⟩; have hb := (show Below (w4_).heap.size (w4_) (w5_) from by first | exact hd.below | exact hd); have HS5 := Aside0.mk hb.size; have HB5 := Aside0.mk (HB4.out.trans (hb.mono HB4.out.size)); have V_5 := Aside0.mk (Kd.N_below V_4.out hb); have G_5 := Aside0.mk (Kd.S_below G_4.out hb); clear hb hd; have STG5 := Aside0.mk trivial)
    | (go_at_call 5; (have g_ := STG5); (fail_if_success (have g_ := STG6)); refine (impl_AllCompletePrefix.calls k a0 a1 uu bu w5_  HU.out).mono ?_; rintro e w6_ ⟨vS, rfl, hS, hb⟩; have HS6 := Aside0.mk hb.size; have HB6 := Aside0.mk (HB5.out.trans (hb.mono HB5.out.size)); have V_6 := Aside0.mk (Kd.N_below V_5.out hb); have G_6 := Aside0.mk (Kd.S_below G_5.out hb); obtain ⟨AH, cH, eS, hlS, _⟩ := Kd.S_reads hS; subst eS; have HLH := Aside0.mk hlS; have H_6 := Aside0.mk (Kd.S_lower (Kd.S_mono (ok' := fun k_ => w5_.heap.size ≤ k_ ∧ k_ < w6_.heap.size) (Kd.S_bound hS) (fun k_ hk_ => ⟨hk_.2.1, hk_.2.2.1⟩)) HB5.out.size); clear hb hS hlS; have STG6 := Aside0.mk trivial)
    | (go_at_call 6; (have g_ := STG6); (fail_if_success (have g_ := STG7)); refine (laws_eqStringSS.calls k AH cH uu AV cV vv true w6_ (Kd.S_reads' H_6.out).2.2 HLH.out (Kd.N_reads' V_6.out).2.2 HLV.out HQ1.out).mono ?_; rintro e w7_ ⟨rfl, hd⟩; have hb := (show Below (w6_).heap.size (w6_) (w7_) from by first | exact hd.below | exact hd); have HS7 := Aside0.mk hb.size; have HB7 := Aside0.mk (HB6.out.trans (hb.mono HB6.out.size)); have V_7 := Aside0.mk (Kd.N_below V_6.out hb); have G_7 := Aside0.mk (Kd.S_below G_6.out hb); have H_7 := Aside0.mk (Kd.S_below H_6.out hb); clear hb hd; have STG7 := Aside0.mk trivial)
    | (go_at_call 8; (have g_ := STG7); (fail_if_success (have g_ := STG8)); refine ((show Calls Try.prog 8 #[.slice AG uu.length cG, .int .i64 1] w7_ _ from (Kd.S_reads' G_7.out).1 ▸ laws_heldStringSS.calls k AG cG ug 1 q w7_ (Kd.S_reads' G_7.out).2.2 (by have h1_ := (Kd.S_reads' G_7.out).1; have h2_ := (Kd.S_reads' G_7.out).2.1; omega) HQ.out)).mono ?_; rintro e w8_ ⟨rfl, hd⟩; have hb := (show Below (w7_).heap.size (w7_) (w8_) from by first | exact hd.below | exact hd); have HS8 := Aside0.mk hb.size; have HB8 := Aside0.mk (HB7.out.trans (hb.mono HB7.out.size)); have V_8 := Aside0.mk (Kd.N_below V_7.out hb); have G_8 := Aside0.mk (Kd.S_below G_7.out hb); have H_8 := Aside0.mk (Kd.S_below H_7.out hb); clear hb hd; have STG8 := Aside0.mk trivial))
  go_ret
  exact ⟨rfl, HB8.out⟩

end Go.Proofs.Ytgokegndboknfaa.X

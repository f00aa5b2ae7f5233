-- WRITTEN by xprint.py of this repo: the kit's print.py with contracts given by hand (given.py). Lean checks it.
import Derived.Test.YtidjjcgfdkmefaaGreatDoorXx0
import Derived.Test.YtidjjcgfdkmefaaGreatDoorXx1
import Derived.Test.YtidjjcgfdkmefaaGreatDoorXx6
import Derived.Test.YtidjjcgfdkmefaaGreatDoorXx20
namespace Go.Proofs.YtidjjcgfdkmefaaGreatDoor.X
open Go.RowKit Go.Proofs.YtidjjcgfdkmefaaGreatDoorW.PrintWords Go.Proofs.YtidjjcgfdkmefaaGreatDoorW.PrintLast Go.Proofs.YtidjjcgfdkmefaaGreatDoorW.PrintMore
attribute [local go_sem] max2_int min2_int max_two min_two max_three min_three max_four min_four   -- for this text's walks alone
set_option linter.unusedVariables false
set_option linter.unusedSimpArgs false

/-! ### GIVEN laws_FnExactFactorOver: function 3 -/
def laws_FnExactFactorOver.f (k : Nat) (l0 : List ByteArray) (l1 : List ByteArray) : Option Bool := (laws_szStringS.f k l0 1048576).bind fun r0 => if r0 < 0 then some true else ((laws_szStringS.f k l1 r0).bind fun r1 => if r1 < 0 then some true else ((laws_toStringS.f k l0).bind fun x0 => (laws_toStringS.f k l1).bind fun x1 => (spec_FactorOver.f k x0 x1).bind fun v => (impl_FactorOver.f k x0 x1).bind fun u => (laws_eqStringS.f k u.1 v.1).bind fun q1 => (laws_eqStringS.f k x0 x0).bind fun p0 => (laws_eqStringS.f k x1 x1).bind fun p1 => (laws_markStringS.f k x0 1).bind fun m0 => (laws_markStringS.f k x1 m0.1).bind fun m1 => (laws_markStringS.f k u.1 1).bind fun g => (laws_heldStringS.f k g.2 1).bind fun q => if q1 = true ∧ p0 = true ∧ p1 = true ∧ u.2 = v.2 ∧ 0 ≤ m1.1 ∧ 0 ≤ q ∧ q = g.1 then some true else none))
set_option maxRecDepth 100000 in
set_option maxHeartbeats 16000000 in
theorem laws_FnExactFactorOver.calls (k : Nat) (A0 : Option Addr) (c0 : Nat) (l0 : List ByteArray) (A1 : Option Addr) (c1 : Nat) (l1 : List ByteArray) (r : Bool) (w : World) (hr0 : Kd.C Kd.string w A0 l0.length l0) (hc0 : l0.length ≤ c0) (hr1 : Kd.C Kd.string w A1 l1.length l1) (hc1 : l1.length ≤ c1) (h : laws_FnExactFactorOver.f k l0 l1 = some r) :
    Calls Tryz.prog 3 #[.slice A0 l0.length c0, .slice A1 l1.length c1] w fun e w' => e = .returned (.bool r) ∧ Below w.heap.size w w' := by
  unfold laws_FnExactFactorOver.f at h
  have HR0 := Aside0.mk hr0
  have HC0 := Aside0.mk hc0
  clear hr0 hc0
  have HR1 := Aside0.mk hr1
  have HC1 := Aside0.mk hc1
  clear hr1 hc1
  have HB0 := Aside0.mk (Below.refl w.heap.size w)
  obtain ⟨r0, hsz0, h⟩ := Option.bind_eq_some_iff.mp h
  have HSZ0 := Aside0.mk hsz0
  clear hsz0
  by_cases hz0 : r0 < 0
  · rw [if_pos hz0] at h
    obtain rfl := Option.some.inj h
    have hzd0 : decide (r0 < 0) = true := decide_eq_true hz0
    clear h
    go_enter Tryz.func3, Tryz.ntmps3
    go_wp2_with (first | (go_at_call 5; (fail_if_success (have g_ := STG1)); refine (laws_szStringS.calls k A0 c0 l0 (1048576) r0 w (Kd.C_below HR0.out HB0.out) HC0.out HSZ0.out).mono ?_; rintro e w1_ ⟨rfl, hd⟩; have hb := (show Below (w).heap.size (w) (w1_) from by first | exact hd.below | exact hd); have HS1 := Aside0.mk hb.size; have HB1 := Aside0.mk (HB0.out.trans (hb.mono HB0.out.size)); clear hb hd; have STG1 := Aside0.mk trivial))
    go_ret
    exact ⟨rfl, HB1.out⟩
  rw [if_neg hz0] at h
  have hzd0 : decide (r0 < 0) = false := decide_eq_false hz0
  clear hz0
  obtain ⟨r1, hsz1, h⟩ := Option.bind_eq_some_iff.mp h
  have HSZ1 := Aside0.mk hsz1
  clear hsz1
  by_cases hz1 : r1 < 0
  · rw [if_pos hz1] at h
    obtain rfl := Option.some.inj h
    have hzd1 : decide (r1 < 0) = true := decide_eq_true hz1
    clear h
    go_enter Tryz.func3, Tryz.ntmps3
    go_wp2_with (first | (go_at_call 5; (fail_if_success (have g_ := STG1)); refine (laws_szStringS.calls k A0 c0 l0 (1048576) r0 w (Kd.C_below HR0.out HB0.out) HC0.out HSZ0.out).mono ?_; rintro e w1_ ⟨rfl, hd⟩; have hb := (show Below (w).heap.size (w) (w1_) from by first | exact hd.below | exact hd); have HS1 := Aside0.mk hb.size; have HB1 := Aside0.mk (HB0.out.trans (hb.mono HB0.out.size)); clear hb hd; have STG1 := Aside0.mk trivial) | (go_at_call 5; (have g_ := STG1); (fail_if_success (have g_ := STG2)); refine (laws_szStringS.calls k A1 c1 l1 (r0) r1 w1_ (Kd.C_below HR1.out HB1.out) HC1.out HSZ1.out).mono ?_; rintro e w2_ ⟨rfl, hd⟩; have hb := (show Below (w1_).heap.size (w1_) (w2_) from by first | exact hd.below | exact hd); have HS2 := Aside0.mk hb.size; have HB2 := Aside0.mk (HB1.out.trans (hb.mono HB1.out.size)); clear hb hd; have STG2 := Aside0.mk trivial))
    go_ret
    exact ⟨rfl, HB2.out⟩
  rw [if_neg hz1] at h
  have hzd1 : decide (r1 < 0) = false := decide_eq_false hz1
  clear hz1
  obtain ⟨x0, hx0, h⟩ := Option.bind_eq_some_iff.mp h
  have HTS0 := Aside0.mk hx0
  clear hx0
  obtain ⟨x1, hx1, h⟩ := Option.bind_eq_some_iff.mp h
  have HTS1 := Aside0.mk hx1
  clear hx1
  obtain ⟨⟨vv, bv⟩, hv, h⟩ := Option.bind_eq_some_iff.mp h
  obtain ⟨⟨uu, bu⟩, hu, h⟩ := Option.bind_eq_some_iff.mp h
  obtain ⟨q1, hq1, h⟩ := Option.bind_eq_some_iff.mp h
  obtain ⟨p0, hp0, h⟩ := Option.bind_eq_some_iff.mp h
  obtain ⟨p1, hp1, h⟩ := Option.bind_eq_some_iff.mp h
  obtain ⟨⟨m0, z0⟩, hm0, h⟩ := Option.bind_eq_some_iff.mp h
  obtain ⟨⟨m1, z1⟩, hm1, h⟩ := Option.bind_eq_some_iff.mp h
  obtain ⟨⟨mg, ug⟩, hg, h⟩ := Option.bind_eq_some_iff.mp h
  obtain ⟨q, hq, h⟩ := Option.bind_eq_some_iff.mp h
  have h' : (if q1 = true ∧ p0 = true ∧ p1 = true ∧ bu = bv ∧ 0 ≤ m1 ∧ 0 ≤ q ∧ q = mg then some true else none) = some r := h
  clear h
  by_cases hall : q1 = true ∧ p0 = true ∧ p1 = true ∧ bu = bv ∧ 0 ≤ m1 ∧ 0 ≤ q ∧ q = mg
  case neg => rw [if_neg hall] at h'; cases h'
  rw [if_pos hall] at h'
  obtain rfl := Option.some.inj h'
  clear h'
  obtain ⟨rfl, rfl, rfl, rfl, hmp, hq0, rfl⟩ := hall
  have hmd : decide (m1 < 0) = false := decide_eq_false (by omega)
  have hqd : decide (q < 0) = false := decide_eq_false (by omega)
  have HV := Aside0.mk hv
  clear hv
  have HU := Aside0.mk hu
  clear hu
  have HQ1 := Aside0.mk hq1
  clear hq1
  have HG_ := Aside0.mk hg
  clear hg
  have HQ := Aside0.mk hq
  clear hq
  have HP0 := Aside0.mk hp0
  clear hp0
  have HP1 := Aside0.mk hp1
  clear hp1
  have HM0 := Aside0.mk hm0
  clear hm0
  have HM1 := Aside0.mk hm1
  clear hm1
  clear hq0 hmp
  go_enter Tryz.func3, Tryz.ntmps3
  go_wp2_with (first
    | (go_at_call 5; (fail_if_success (have g_ := STG1)); refine (laws_szStringS.calls k A0 c0 l0 (1048576) r0 w (Kd.C_below HR0.out HB0.out) HC0.out HSZ0.out).mono ?_; rintro e w1_ ⟨rfl, hd⟩; have hb := (show Below (w).heap.size (w) (w1_) from by first | exact hd.below | exact hd); have HS1 := Aside0.mk hb.size; have HB1 := Aside0.mk (HB0.out.trans (hb.mono HB0.out.size)); clear hb hd; have STG1 := Aside0.mk trivial)
    | (go_at_call 5; (have g_ := STG1); (fail_if_success (have g_ := STG2)); refine (laws_szStringS.calls k A1 c1 l1 (r0) r1 w1_ (Kd.C_below HR1.out HB1.out) HC1.out HSZ1.out).mono ?_; rintro e w2_ ⟨rfl, hd⟩; have hb := (show Below (w1_).heap.size (w1_) (w2_) from by first | exact hd.below | exact hd); have HS2 := Aside0.mk hb.size; have HB2 := Aside0.mk (HB1.out.trans (hb.mono HB1.out.size)); clear hb hd; have STG2 := Aside0.mk trivial)
    | (go_at_call 7; (have g_ := STG2); (fail_if_success (have g_ := STG3)); refine (laws_toStringS.calls k A0 c0 l0 x0 w2_ (Kd.C_below HR0.out HB2.out) HC0.out HTS0.out).mono ?_; rintro e w3_ ⟨vT, rfl, hR, hb⟩; have HS3 := Aside0.mk hb.size; have HB3 := Aside0.mk (HB2.out.trans (hb.mono HB2.out.size)); obtain ⟨ATa0, cTa0, eT, hlT, _⟩ := Kd.R_reads hR; subst eT; have Ta0_3 := Aside0.mk (Kd.R_lower (Kd.R_mono (ok' := fun k_ => w2_.heap.size ≤ k_ ∧ k_ < w3_.heap.size) (Kd.R_bound hR) (fun k_ hk_ => ⟨hk_.2.1, hk_.2.2.1⟩)) HB2.out.size); have HLTa0 := Aside0.mk hlT; clear hb hR hlT; have STG3 := Aside0.mk trivial)
    | (go_at_call 7; (have g_ := STG3); (fail_if_success (have g_ := STG4)); refine (laws_toStringS.calls k A1 c1 l1 x1 w3_ (Kd.C_below HR1.out HB3.out) HC1.out HTS1.out).mono ?_; rintro e w4_ ⟨vT, rfl, hR, hb⟩; have HS4 := Aside0.mk hb.size; have HB4 := Aside0.mk (HB3.out.trans (hb.mono HB3.out.size)); have Ta0_4 := Aside0.mk (Kd.R_below Ta0_3.out hb); obtain ⟨ATa1, cTa1, eT, hlT, _⟩ := Kd.R_reads hR; subst eT; have Ta1_4 := Aside0.mk (Kd.R_lower (Kd.R_mono (ok' := fun k_ => w3_.heap.size ≤ k_ ∧ k_ < w4_.heap.size) (Kd.R_bound hR) (fun k_ hk_ => ⟨hk_.2.1, hk_.2.2.1⟩)) HB3.out.size); have HLTa1 := Aside0.mk hlT; clear hb hR hlT; have STG4 := Aside0.mk trivial)
    | (go_at_call 6; (have g_ := STG4); (fail_if_success (have g_ := STG5)); refine (spec_FactorOver.calls k ATa0 cTa0 x0 ATa1 cTa1 x1 vv bu w4_ (Kd.R_reads' Ta0_4.out).2.2 HLTa0.out (Kd.R_reads' Ta1_4.out).2.2 HLTa1.out HV.out).mono ?_; rintro e w5_ ⟨vS, rfl, hS, hb⟩; have HS5 := Aside0.mk hb.size; have HB5 := Aside0.mk (HB4.out.trans (hb.mono HB4.out.size)); have Ta0_5 := Aside0.mk (Kd.R_below Ta0_4.out hb); have Ta1_5 := Aside0.mk (Kd.R_below Ta1_4.out hb); obtain ⟨AV, cV, eS, hlS, _⟩ := Kd.R_reads hS; subst eS; have HLV := Aside0.mk hlS; have V_5 := Aside0.mk (Kd.R_lower (Kd.R_mono (ok' := fun k_ => w4_.heap.size ≤ k_ ∧ k_ < w5_.heap.size) (Kd.R_bound hS) (fun k_ hk_ => ⟨hk_.2.1, hk_.2.2.1⟩)) HB4.out.size); clear hb hS hlS; have STG5 := Aside0.mk trivial)
    | (go_at_call 7; (have g_ := STG5); (fail_if_success (have g_ := STG6)); refine (laws_toStringS.calls k A0 c0 l0 x0 w5_ (Kd.C_below HR0.out HB5.out) HC0.out HTS0.out).mono ?_; rintro e w6_ ⟨vT, rfl, hR, hb⟩; have HS6 := Aside0.mk hb.size; have HB6 := Aside0.mk (HB5.out.trans (hb.mono HB5.out.size)); have V_6 := Aside0.mk (Kd.R_below V_5.out hb); obtain ⟨ATx0, cTx0, eT, hlT, _⟩ := Kd.R_reads hR; subst eT; have Tx0_6 := Aside0.mk (Kd.R_lower (Kd.R_mono (ok' := fun k_ => w5_.heap.size ≤ k_ ∧ k_ < w6_.heap.size) (Kd.R_bound hR) (fun k_ hk_ => ⟨hk_.2.1, hk_.2.2.1⟩)) HB5.out.size); have HLTx0 := Aside0.mk hlT; clear hb hR hlT; have STG6 := Aside0.mk trivial)
    | (go_at_call 7; (have g_ := STG6); (fail_if_success (have g_ := STG7)); refine (laws_toStringS.calls k A1 c1 l1 x1 w6_ (Kd.C_below HR1.out HB6.out) HC1.out HTS1.out).mono ?_; rintro e w7_ ⟨vT, rfl, hR, hb⟩; have HS7 := Aside0.mk hb.size; have HB7 := Aside0.mk (HB6.out.trans (hb.mono HB6.out.size)); have V_7 := Aside0.mk (Kd.R_below V_6.out hb); have Tx0_7 := Aside0.mk (Kd.R_below Tx0_6.out hb); obtain ⟨ATx1, cTx1, eT, hlT, _⟩ := Kd.R_reads hR; subst eT; have Tx1_7 := Aside0.mk (Kd.R_lower (Kd.R_mono (ok' := fun k_ => w6_.heap.size ≤ k_ ∧ k_ < w7_.heap.size) (Kd.R_bound hR) (fun k_ hk_ => ⟨hk_.2.1, hk_.2.2.1⟩)) HB6.out.size); have HLTx1 := Aside0.mk hlT; clear hb hR hlT; have STG7 := Aside0.mk trivial)
    | (go_at_call 8; (have g_ := STG7); (fail_if_success (have g_ := STG8)); refine (impl_FactorOver.calls k ATx0 cTx0 x0 ATx1 cTx1 x1 uu bu w7_ (Kd.R_reads' Tx0_7.out).2.2 HLTx0.out (Kd.R_reads' Tx1_7.out).2.2 HLTx1.out HU.out).mono ?_; rintro e w8_ ⟨vS, rfl, hS, hb⟩; have HS8 := Aside0.mk hb.size; have HB8 := Aside0.mk (HB7.out.trans (hb.mono HB7.out.size)); have V_8 := Aside0.mk (Kd.R_below V_7.out hb); have Tx0_8 := Aside0.mk (Kd.R_below Tx0_7.out hb); have Tx1_8 := Aside0.mk (Kd.R_below Tx1_7.out hb); obtain ⟨AG, cG, eS, hlS, _⟩ := Kd.R_reads hS; subst eS; have HLG := Aside0.mk hlS; have G_8 := Aside0.mk (Kd.R_lower (Kd.R_mono (ok' := fun k_ => w7_.heap.size ≤ k_ ∧ k_ < w8_.heap.size) (Kd.R_bound hS) (fun k_ hk_ => ⟨hk_.2.1, hk_.2.2.1⟩)) HB7.out.size); clear hb hS hlS; have STG8 := Aside0.mk trivial)
    | (go_at_call 9; (have g_ := STG8); (fail_if_success (have g_ := STG9)); refine (laws_eqStringS.calls k AG cG uu AV cV vv true w8_ (Kd.R_reads' G_8.out).2.2 HLG.out (Kd.R_reads' V_8.out).2.2 HLV.out HQ1.out).mono ?_; rintro e w9_ ⟨rfl, hd⟩; have hb := (show Below (w8_).heap.size (w8_) (w9_) from by first | exact hd.below | exact hd); have HS9 := Aside0.mk hb.size; have HB9 := Aside0.mk (HB8.out.trans (hb.mono HB8.out.size)); have V_9 := Aside0.mk (Kd.R_below V_8.out hb); have Tx0_9 := Aside0.mk (Kd.R_below Tx0_8.out hb); have Tx1_9 := Aside0.mk (Kd.R_below Tx1_8.out hb); have G_9 := Aside0.mk (Kd.R_below G_8.out hb); clear hb hd; have STG9 := Aside0.mk trivial)
    | (go_at_call 7; (have g_ := STG9); (fail_if_success (have g_ := STG10)); refine (laws_toStringS.calls k A0 c0 l0 x0 w9_ (Kd.C_below HR0.out HB9.out) HC0.out HTS0.out).mono ?_; rintro e w10_ ⟨vT, rfl, hR, hb⟩; have HS10 := Aside0.mk hb.size; have HB10 := Aside0.mk (HB9.out.trans (hb.mono HB9.out.size)); have V_10 := Aside0.mk (Kd.R_below V_9.out hb); have Tx0_10 := Aside0.mk (Kd.R_below Tx0_9.out hb); have Tx1_10 := Aside0.mk (Kd.R_below Tx1_9.out hb); have G_10 := Aside0.mk (Kd.R_below G_9.out hb); obtain ⟨ATb0, cTb0, eT, hlT, _⟩ := Kd.R_reads hR; subst eT; have Tb0_10 := Aside0.mk (Kd.R_lower (Kd.R_mono (ok' := fun k_ => w9_.heap.size ≤ k_ ∧ k_ < w10_.heap.size) (Kd.R_bound hR) (fun k_ hk_ => ⟨hk_.2.1, hk_.2.2.1⟩)) HB9.out.size); have HLTb0 := Aside0.mk hlT; clear hb hR hlT; have STG10 := Aside0.mk trivial)
    | (go_at_call 9; (have g_ := STG10); (fail_if_success (have g_ := STG11)); refine (laws_eqStringS.calls k ATx0 cTx0 x0 ATb0 cTb0 x0 true w10_ (Kd.R_reads' Tx0_10.out).2.2 HLTx0.out (Kd.R_reads' Tb0_10.out).2.2 HLTb0.out HP0.out).mono ?_; rintro e w11_ ⟨rfl, hd⟩; have hb := (show Below (w10_).heap.size (w10_) (w11_) from by first | exact hd.below | exact hd); have HS11 := Aside0.mk hb.size; have HB11 := Aside0.mk (HB10.out.trans (hb.mono HB10.out.size)); have V_11 := Aside0.mk (Kd.R_below V_10.out hb); have Tx0_11 := Aside0.mk (Kd.R_below Tx0_10.out hb); have Tx1_11 := Aside0.mk (Kd.R_below Tx1_10.out hb); have G_11 := Aside0.mk (Kd.R_below G_10.out hb); have Tb0_11 := Aside0.mk (Kd.R_below Tb0_10.out hb); clear hb hd; have STG11 := Aside0.mk trivial)
    | (go_at_call 7; (have g_ := STG11); (fail_if_success (have g_ := STG12)); refine (laws_toStringS.calls k A1 c1 l1 x1 w11_ (Kd.C_below HR1.out HB11.out) HC1.out HTS1.out).mono ?_; rintro e w12_ ⟨vT, rfl, hR, hb⟩; have HS12 := Aside0.mk hb.size; have HB12 := Aside0.mk (HB11.out.trans (hb.mono HB11.out.size)); have V_12 := Aside0.mk (Kd.R_below V_11.out hb); have Tx0_12 := Aside0.mk (Kd.R_below Tx0_11.out hb); have Tx1_12 := Aside0.mk (Kd.R_below Tx1_11.out hb); have G_12 := Aside0.mk (Kd.R_below G_11.out hb); obtain ⟨ATb1, cTb1, eT, hlT, _⟩ := Kd.R_reads hR; subst eT; have Tb1_12 := Aside0.mk (Kd.R_lower (Kd.R_mono (ok' := fun k_ => w11_.heap.size ≤ k_ ∧ k_ < w12_.heap.size) (Kd.R_bound hR) (fun k_ hk_ => ⟨hk_.2.1, hk_.2.2.1⟩)) HB11.out.size); have HLTb1 := Aside0.mk hlT; clear hb hR hlT; have STG12 := Aside0.mk trivial)
    | (go_at_call 9; (have g_ := STG12); (fail_if_success (have g_ := STG13)); refine (laws_eqStringS.calls k ATx1 cTx1 x1 ATb1 cTb1 x1 true w12_ (Kd.R_reads' Tx1_12.out).2.2 HLTx1.out (Kd.R_reads' Tb1_12.out).2.2 HLTb1.out HP1.out).mono ?_; rintro e w13_ ⟨rfl, hd⟩; have hb := (show Below (w12_).heap.size (w12_) (w13_) from by first | exact hd.below | exact hd); have HS13 := Aside0.mk hb.size; have HB13 := Aside0.mk (HB12.out.trans (hb.mono HB12.out.size)); have V_13 := Aside0.mk (Kd.R_below V_12.out hb); have Tx0_13 := Aside0.mk (Kd.R_below Tx0_12.out hb); have Tx1_13 := Aside0.mk (Kd.R_below Tx1_12.out hb); have G_13 := Aside0.mk (Kd.R_below G_12.out hb); have Tb1_13 := Aside0.mk (Kd.R_below Tb1_12.out hb); clear hb hd; have STG13 := Aside0.mk trivial)
    | (go_at_call 10; (have g_ := STG13); (fail_if_success (have g_ := STG14)); refine (laws_markStringS.calls k (fun k_ => w5_.heap.size ≤ k_ ∧ k_ < w6_.heap.size) (.slice ATx0 x0.length cTx0) x0 1 m0 z0 w w13_ HB13.out Tx0_13.out HM0.out).mono ?_; rintro e w14_ ⟨rfl, hR, hb, hk⟩; have HS14 := Aside0.mk hk.1; have HB14 := Aside0.mk hb; have V_14 := Aside0.mk (Kd.R_kept V_13.out hk (fun k_ h1_ h2_ => by (try dsimp only at h1_); (try dsimp only at h2_); have s5_ := HS5.out; have s6_ := HS6.out;  omega)); have Tx1_14 := Aside0.mk (Kd.R_kept Tx1_13.out hk (fun k_ h1_ h2_ => by (try dsimp only at h1_); (try dsimp only at h2_); have s6_ := HS6.out; have s7_ := HS7.out;  omega)); have G_14 := Aside0.mk (Kd.R_kept G_13.out hk (fun k_ h1_ h2_ => by (try dsimp only at h1_); (try dsimp only at h2_); have s6_ := HS6.out; have s7_ := HS7.out; have s8_ := HS8.out;  omega)); clear hR hb hk; have STG14 := Aside0.mk trivial)
    | (go_at_call 10; (have g_ := STG14); (fail_if_success (have g_ := STG15)); refine (laws_markStringS.calls k (fun k_ => w6_.heap.size ≤ k_ ∧ k_ < w7_.heap.size) (.slice ATx1 x1.length cTx1) x1 m0 m1 z1 w w14_ HB14.out Tx1_14.out HM1.out).mono ?_; rintro e w15_ ⟨rfl, hR, hb, hk⟩; have HS15 := Aside0.mk hk.1; have HB15 := Aside0.mk hb; have V_15 := Aside0.mk (Kd.R_kept V_14.out hk (fun k_ h1_ h2_ => by (try dsimp only at h1_); (try dsimp only at h2_); have s5_ := HS5.out; have s6_ := HS6.out; have s7_ := HS7.out;  omega)); have G_15 := Aside0.mk (Kd.R_kept G_14.out hk (fun k_ h1_ h2_ => by (try dsimp only at h1_); (try dsimp only at h2_); have s7_ := HS7.out; have s8_ := HS8.out;  omega)); clear hR hb hk; have STG15 := Aside0.mk trivial)
    | (go_at_call 9; (have g_ := STG15); (fail_if_success (have g_ := STG16)); refine (laws_eqStringS.calls k AG cG uu AV cV vv true w15_ (Kd.R_reads' G_15.out).2.2 HLG.out (Kd.R_reads' V_15.out).2.2 HLV.out HQ1.out).mono ?_; rintro e w16_ ⟨rfl, hd⟩; have hb := (show Below (w15_).heap.size (w15_) (w16_) from by first | exact hd.below | exact hd); have HS16 := Aside0.mk hb.size; have HB16 := Aside0.mk (HB15.out.trans (hb.mono HB15.out.size)); have V_16 := Aside0.mk (Kd.R_below V_15.out hb); have G_16 := Aside0.mk (Kd.R_below G_15.out hb); clear hb hd; have STG16 := Aside0.mk trivial)
    | (go_at_call 10; (have g_ := STG16); (fail_if_success (have g_ := STG17)); refine (laws_markStringS.calls k (fun k_ => w7_.heap.size ≤ k_ ∧ k_ < w8_.heap.size) (.slice AG uu.length cG) uu 1 q ug w w16_ HB16.out G_16.out HG_.out).mono ?_; rintro e w17_ ⟨rfl, hS, hb, hk⟩; have HS17 := Aside0.mk hk.1; have HB17 := Aside0.mk hb; have V_17 := Aside0.mk (Kd.R_kept V_16.out hk (fun k_ h1_ h2_ => by (try dsimp only at h1_); (try dsimp only at h2_); have s5_ := HS5.out; have s6_ := HS6.out; have s7_ := HS7.out; have s8_ := HS8.out;  omega)); have G_17 := Aside0.mk (Kd.R_mono (ok' := fun _ => True) hS (fun _ _ => trivial)); clear hS hb hk; have STG17 := Aside0.mk trivial)
    | (go_at_call 11; (have g_ := STG17); (fail_if_success (have g_ := STG18)); refine ((show Calls Tryz.prog 11 #[.slice AG uu.length cG, .int .i64 1] w17_ _ from (Kd.R_reads' G_17.out).1 ▸ laws_heldStringS.calls k AG cG ug 1 q w17_ (Kd.R_reads' G_17.out).2.2 (by have h1_ := (Kd.R_reads' G_17.out).1; have h2_ := (Kd.R_reads' G_17.out).2.1; omega) HQ.out)).mono ?_; rintro e w18_ ⟨rfl, hd⟩; have hb := (show Below (w17_).heap.size (w17_) (w18_) from by first | exact hd.below | exact hd); have HS18 := Aside0.mk hb.size; have HB18 := Aside0.mk (HB17.out.trans (hb.mono HB17.out.size)); have V_18 := Aside0.mk (Kd.R_below V_17.out hb); have G_18 := Aside0.mk (Kd.R_below G_17.out hb); clear hb hd; have STG18 := Aside0.mk trivial)
    | (go_at_call 7; (have g_ := STG18); (fail_if_success (have g_ := STG19)); refine (laws_toStringS.calls k A0 c0 l0 x0 w18_ (Kd.C_below HR0.out HB18.out) HC0.out HTS0.out).mono ?_; rintro e w19_ ⟨vT, rfl, hR, hb⟩; have HS19 := Aside0.mk hb.size; have HB19 := Aside0.mk (HB18.out.trans (hb.mono HB18.out.size)); have V_19 := Aside0.mk (Kd.R_below V_18.out hb); have G_19 := Aside0.mk (Kd.R_below G_18.out hb); obtain ⟨ATc0, cTc0, eT, hlT, _⟩ := Kd.R_reads hR; subst eT; have Tc0_19 := Aside0.mk (Kd.R_lower (Kd.R_mono (ok' := fun k_ => w18_.heap.size ≤ k_ ∧ k_ < w19_.heap.size) (Kd.R_bound hR) (fun k_ hk_ => ⟨hk_.2.1, hk_.2.2.1⟩)) HB18.out.size); have HLTc0 := Aside0.mk hlT; clear hb hR hlT; have STG19 := Aside0.mk trivial)
    | (go_at_call 7; (have g_ := STG19); (fail_if_success (have g_ := STG20)); refine (laws_toStringS.calls k A1 c1 l1 x1 w19_ (Kd.C_below HR1.out HB19.out) HC1.out HTS1.out).mono ?_; rintro e w20_ ⟨vT, rfl, hR, hb⟩; have HS20 := Aside0.mk hb.size; have HB20 := Aside0.mk (HB19.out.trans (hb.mono HB19.out.size)); have V_20 := Aside0.mk (Kd.R_below V_19.out hb); have G_20 := Aside0.mk (Kd.R_below G_19.out hb); have Tc0_20 := Aside0.mk (Kd.R_below Tc0_19.out hb); obtain ⟨ATc1, cTc1, eT, hlT, _⟩ := Kd.R_reads hR; subst eT; have Tc1_20 := Aside0.mk (Kd.R_lower (Kd.R_mono (ok' := fun k_ => w19_.heap.size ≤ k_ ∧ k_ < w20_.heap.size) (Kd.R_bound hR) (fun k_ hk_ => ⟨hk_.2.1, hk_.2.2.1⟩)) HB19.out.size); have HLTc1 := Aside0.mk hlT; clear hb hR hlT; have STG20 := Aside0.mk trivial)
    | (go_at_call 8; (have g_ := STG20); (fail_if_success (have g_ := STG21)); refine (impl_FactorOver.calls k ATc0 cTc0 x0 ATc1 cTc1 x1 uu bu w20_ (Kd.R_reads' Tc0_20.out).2.2 HLTc0.out (Kd.R_reads' Tc1_20.out).2.2 HLTc1.out HU.out).mono ?_; rintro e w21_ ⟨vS, rfl, hS, hb⟩; have HS21 := Aside0.mk hb.size; have HB21 := Aside0.mk (HB20.out.trans (hb.mono HB20.out.size)); have V_21 := Aside0.mk (Kd.R_below V_20.out hb); have G_21 := Aside0.mk (Kd.R_below G_20.out hb); have Tc0_21 := Aside0.mk (Kd.R_below Tc0_20.out hb); have Tc1_21 := Aside0.mk (Kd.R_below Tc1_20.out hb); obtain ⟨AH, cH, eS, hlS, _⟩ := Kd.R_reads hS; subst eS; have HLH := Aside0.mk hlS; have H_21 := Aside0.mk (Kd.R_lower (Kd.R_mono (ok' := fun k_ => w20_.heap.size ≤ k_ ∧ k_ < w21_.heap.size) (Kd.R_bound hS) (fun k_ hk_ => ⟨hk_.2.1, hk_.2.2.1⟩)) HB20.out.size); clear hb hS hlS; have STG21 := Aside0.mk trivial)
    | (go_at_call 9; (have g_ := STG21); (fail_if_success (have g_ := STG22)); refine (laws_eqStringS.calls k AH cH uu AV cV vv true w21_ (Kd.R_reads' H_21.out).2.2 HLH.out (Kd.R_reads' V_21.out).2.2 HLV.out HQ1.out).mono ?_; rintro e w22_ ⟨rfl, hd⟩; have hb := (show Below (w21_).heap.size (w21_) (w22_) from by first | exact hd.below | exact hd); have HS22 := Aside0.mk hb.size; have HB22 := Aside0.mk (HB21.out.trans (hb.mono HB21.out.size)); have V_22 := Aside0.mk (Kd.R_below V_21.out hb); have G_22 := Aside0.mk (Kd.R_below G_21.out hb); have H_22 := Aside0.mk (Kd.R_below H_21.out hb); clear hb hd; have STG22 := Aside0.mk trivial)
    | (go_at_call 11; (have g_ := STG22); (fail_if_success (have g_ := STG23)); refine ((show Calls Tryz.prog 11 #[.slice AG uu.length cG, .int .i64 1] w22_ _ from (Kd.R_reads' G_22.out).1 ▸ laws_heldStringS.calls k AG cG ug 1 q w22_ (Kd.R_reads' G_22.out).2.2 (by have h1_ := (Kd.R_reads' G_22.out).1; have h2_ := (Kd.R_reads' G_22.out).2.1; omega) HQ.out)).mono ?_; rintro e w23_ ⟨rfl, hd⟩; have hb := (show Below (w22_).heap.size (w22_) (w23_) from by first | exact hd.below | exact hd); have HS23 := Aside0.mk hb.size; have HB23 := Aside0.mk (HB22.out.trans (hb.mono HB22.out.size)); have V_23 := Aside0.mk (Kd.R_below V_22.out hb); have G_23 := Aside0.mk (Kd.R_below G_22.out hb); have H_23 := Aside0.mk (Kd.R_below H_22.out hb); clear hb hd; have STG23 := Aside0.mk trivial))
  go_ret
  exact ⟨rfl, HB23.out⟩

end Go.Proofs.YtidjjcgfdkmefaaGreatDoor.X

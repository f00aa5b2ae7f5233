-- WRITTEN by xprint.py of this repo: the kit's print.py with contracts given by hand (given.py). Lean checks it.
import Derived.Test.YtidjjcgfdkmefaaGreatDoorXx0
import Derived.Test.YtidjjcgfdkmefaaGreatDoorXx1
import Derived.Test.YtidjjcgfdkmefaaGreatDoorXx3
import Derived.Test.YtidjjcgfdkmefaaGreatDoorXx15
import Derived.Test.YtidjjcgfdkmefaaGreatDoorXx16
import Derived.Test.YtidjjcgfdkmefaaGreatDoorXx17
namespace Go.Proofs.YtidjjcgfdkmefaaGreatDoor.X
open Go.RowKit Go.Proofs.YtidjjcgfdkmefaaGreatDoorW.PrintWords Go.Proofs.YtidjjcgfdkmefaaGreatDoorW.PrintLast Go.Proofs.YtidjjcgfdkmefaaGreatDoorW.PrintMore
attribute [local go_sem] max2_int min2_int max_two min_two max_three min_three max_four min_four   -- for this text's walks alone
set_option linter.unusedVariables false
set_option linter.unusedSimpArgs false

/-! ### GIVEN laws_FnExactDanglingOf: function 4 -/
def laws_FnExactDanglingOf.f (k : Nat) (l0 : List ByteArray) : Option Bool := (laws_szStringS.f k l0 1048576).bind fun r0 => if r0 < 0 then some true else ((laws_toStringS.f k l0).bind fun x0 => (spec_DanglingOf.f k x0).bind fun v => (impl_DanglingOf.f k x0).bind fun u => (laws_eqStringSS.f k u.1 v.1).bind fun q1 => (laws_eqStringS.f k x0 x0).bind fun p0 => (laws_markStringS.f k x0 1).bind fun m0 => (laws_markStringSS.f k u.1 1).bind fun g => (laws_heldStringSS.f k g.2 1).bind fun q => if q1 = true ∧ p0 = true ∧ u.2 = v.2 ∧ 0 ≤ m0.1 ∧ 0 ≤ q ∧ q = g.1 then some true else none)
set_option maxRecDepth 100000 in
set_option maxHeartbeats 16000000 in
theorem laws_FnExactDanglingOf.calls (k : Nat) (A0 : Option Addr) (c0 : Nat) (l0 : List ByteArray) (r : Bool) (w : World) (hr0 : Kd.C Kd.string w A0 l0.length l0) (hc0 : l0.length ≤ c0) (h : laws_FnExactDanglingOf.f k l0 = some r) :
    Calls Tryz.prog 4 #[.slice A0 l0.length c0] w fun e w' => e = .returned (.bool r) ∧ Below w.heap.size w w' := by
  unfold laws_FnExactDanglingOf.f at h
  have HR0 := Aside0.mk hr0
  have HC0 := Aside0.mk hc0
  clear hr0 hc0
  have HB0 := Aside0.mk (Below.refl w.heap.size w)
  obtain ⟨r0, hsz0, h⟩ := Option.bind_eq_some_iff.mp h
  have HSZ0 := Aside0.mk hsz0
  clear hsz0
  by_cases hz0 : r0 < 0
  · rw [if_pos hz0] at h
    obtain rfl := Option.some.inj h
    have hzd0 : decide (r0 < 0) = true := decide_eq_true hz0
    clear h
    go_enter Tryz.func4, Tryz.ntmps4
    go_wp2_with (first | (go_at_call 5; (fail_if_success (have g_ := STG1)); refine (laws_szStringS.calls k A0 c0 l0 (1048576) r0 w (Kd.C_below HR0.out HB0.out) HC0.out HSZ0.out).mono ?_; rintro e w1_ ⟨rfl, hd⟩; have hb := (show Below (w).heap.size (w) (w1_) from by first | exact hd.below | exact hd); have HS1 := Aside0.mk hb.size; have HB1 := Aside0.mk (HB0.out.trans (hb.mono HB0.out.size)); clear hb hd; have STG1 := Aside0.mk trivial))
    go_ret
    exact ⟨rfl, HB1.out⟩
  rw [if_neg hz0] at h
  have hzd0 : decide (r0 < 0) = false := decide_eq_false hz0
  clear hz0
  obtain ⟨x0, hx0, h⟩ := Option.bind_eq_some_iff.mp h
  have HTS0 := Aside0.mk hx0
  clear hx0
  obtain ⟨⟨vv, bv⟩, hv, h⟩ := Option.bind_eq_some_iff.mp h
  obtain ⟨⟨uu, bu⟩, hu, h⟩ := Option.bind_eq_some_iff.mp h
  obtain ⟨q1, hq1, h⟩ := Option.bind_eq_some_iff.mp h
  obtain ⟨p0, hp0, h⟩ := Option.bind_eq_some_iff.mp h
  obtain ⟨⟨m0, z0⟩, hm0, h⟩ := Option.bind_eq_some_iff.mp h
  obtain ⟨⟨mg, ug⟩, hg, h⟩ := Option.bind_eq_some_iff.mp h
  obtain ⟨q, hq, h⟩ := Option.bind_eq_some_iff.mp h
  have h' : (if q1 = true ∧ p0 = true ∧ bu = bv ∧ 0 ≤ m0 ∧ 0 ≤ q ∧ q = mg then some true else none) = some r := h
  clear h
  by_cases hall : q1 = true ∧ p0 = true ∧ bu = bv ∧ 0 ≤ m0 ∧ 0 ≤ q ∧ q = mg
  case neg => rw [if_neg hall] at h'; cases h'
  rw [if_pos hall] at h'
  obtain rfl := Option.some.inj h'
  clear h'
  obtain ⟨rfl, rfl, rfl, hmp, hq0, rfl⟩ := hall
  have hmd : decide (m0 < 0) = false := decide_eq_false (by omega)
  have hqd : decide (q < 0) = false := decide_eq_false (by omega)
  have HV := Aside0.mk hv
  clear hv
  have HU := Aside0.mk hu
  clear hu
  have HQ1 := Aside0.mk hq1
  clear hq1
  have HG_ := Aside0.mk hg
  clear hg
  have HQ := Aside0.mk hq
  clear hq
  have HP0 := Aside0.mk hp0
  clear hp0
  have HM0 := Aside0.mk hm0
  clear hm0
  clear hq0 hmp
  go_enter Tryz.func4, Tryz.ntmps4
  go_wp2_with (first
    | (go_at_call 5; (fail_if_success (have g_ := STG1)); refine (laws_szStringS.calls k A0 c0 l0 (1048576) r0 w (Kd.C_below HR0.out HB0.out) HC0.out HSZ0.out).mono ?_; rintro e w1_ ⟨rfl, hd⟩; have hb := (show Below (w).heap.size (w) (w1_) from by first | exact hd.below | exact hd); have HS1 := Aside0.mk hb.size; have HB1 := Aside0.mk (HB0.out.trans (hb.mono HB0.out.size)); clear hb hd; have STG1 := Aside0.mk trivial)
    | (go_at_call 7; (have g_ := STG1); (fail_if_success (have g_ := STG2)); refine (laws_toStringS.calls k A0 c0 l0 x0 w1_ (Kd.C_below HR0.out HB1.out) HC0.out HTS0.out).mono ?_; rintro e w2_ ⟨vT, rfl, hR, hb⟩; have HS2 := Aside0.mk hb.size; have HB2 := Aside0.mk (HB1.out.trans (hb.mono HB1.out.size)); obtain ⟨ATa0, cTa0, eT, hlT, _⟩ := Kd.R_reads hR; subst eT; have Ta0_2 := Aside0.mk (Kd.R_lower (Kd.R_mono (ok' := fun k_ => w1_.heap.size ≤ k_ ∧ k_ < w2_.heap.size) (Kd.R_bound hR) (fun k_ hk_ => ⟨hk_.2.1, hk_.2.2.1⟩)) HB1.out.size); have HLTa0 := Aside0.mk hlT; clear hb hR hlT; have STG2 := Aside0.mk trivial)
    | (go_at_call 12; (have g_ := STG2); (fail_if_success (have g_ := STG3)); refine (spec_DanglingOf.calls k ATa0 cTa0 x0 vv bu w2_ (Kd.R_reads' Ta0_2.out).2.2 HLTa0.out HV.out).mono ?_; rintro e w3_ ⟨vS, rfl, hS, hb⟩; have HS3 := Aside0.mk hb.size; have HB3 := Aside0.mk (HB2.out.trans (hb.mono HB2.out.size)); have Ta0_3 := Aside0.mk (Kd.R_below Ta0_2.out hb); obtain ⟨AV, cV, eS, hlS, _⟩ := Kd.R_reads hS; subst eS; have HLV := Aside0.mk hlS; have V_3 := Aside0.mk (Kd.R_lower (Kd.R_mono (ok' := fun k_ => w2_.heap.size ≤ k_ ∧ k_ < w3_.heap.size) (Kd.R_bound hS) (fun k_ hk_ => ⟨hk_.2.1, hk_.2.2.1⟩)) HB2.out.size); clear hb hS hlS; have STG3 := Aside0.mk trivial)
    | (go_at_call 7; (have g_ := STG3); (fail_if_success (have g_ := STG4)); refine (laws_toStringS.calls k A0 c0 l0 x0 w3_ (Kd.C_below HR0.out HB3.out) HC0.out HTS0.out).mono ?_; rintro e w4_ ⟨vT, rfl, hR, hb⟩; have HS4 := Aside0.mk hb.size; have HB4 := Aside0.mk (HB3.out.trans (hb.mono HB3.out.size)); have V_4 := Aside0.mk (Kd.R_below V_3.out hb); obtain ⟨ATx0, cTx0, eT, hlT, _⟩ := Kd.R_reads hR; subst eT; have Tx0_4 := Aside0.mk (Kd.R_lower (Kd.R_mono (ok' := fun k_ => w3_.heap.size ≤ k_ ∧ k_ < w4_.heap.size) (Kd.R_bound hR) (fun k_ hk_ => ⟨hk_.2.1, hk_.2.2.1⟩)) HB3.out.size); have HLTx0 := Aside0.mk hlT; clear hb hR hlT; have STG4 := Aside0.mk trivial)
    | (go_at_call 13; (have g_ := STG4); (fail_if_success (have g_ := STG5)); refine (impl_DanglingOf.calls k ATx0 cTx0 x0 uu bu w4_ (Kd.R_reads' Tx0_4.out).2.2 HLTx0.out HU.out).mono ?_; rintro e w5_ ⟨vS, rfl, hS, hb⟩; have HS5 := Aside0.mk hb.size; have HB5 := Aside0.mk (HB4.out.trans (hb.mono HB4.out.size)); have V_5 := Aside0.mk (Kd.R_below V_4.out hb); have Tx0_5 := Aside0.mk (Kd.R_below Tx0_4.out hb); obtain ⟨AG, cG, eS, hlS, _⟩ := Kd.S_reads hS; subst eS; have HLG := Aside0.mk hlS; have G_5 := Aside0.mk (Kd.S_lower (Kd.S_mono (ok' := fun k_ => w4_.heap.size ≤ k_ ∧ k_ < w5_.heap.size) (Kd.S_bound hS) (fun k_ hk_ => ⟨hk_.2.1, hk_.2.2.1⟩)) HB4.out.size); clear hb hS hlS; have STG5 := Aside0.mk trivial)
    | (go_at_call 14; (have g_ := STG5); (fail_if_success (have g_ := STG6)); refine (laws_eqStringSS.calls k AG cG uu AV cV vv true w5_ (Kd.S_reads' G_5.out).2.2 HLG.out (Kd.R_reads' V_5.out).2.2 HLV.out HQ1.out).mono ?_; rintro e w6_ ⟨rfl, hd⟩; have hb := (show Below (w5_).heap.size (w5_) (w6_) from by first | exact hd.below | exact hd); have HS6 := Aside0.mk hb.size; have HB6 := Aside0.mk (HB5.out.trans (hb.mono HB5.out.size)); have V_6 := Aside0.mk (Kd.R_below V_5.out hb); have Tx0_6 := Aside0.mk (Kd.R_below Tx0_5.out hb); have G_6 := Aside0.mk (Kd.S_below G_5.out hb); clear hb hd; have STG6 := Aside0.mk trivial)
    | (go_at_call 7; (have g_ := STG6); (fail_if_success (have g_ := STG7)); refine (laws_toStringS.calls k A0 c0 l0 x0 w6_ (Kd.C_below HR0.out HB6.out) HC0.out HTS0.out).mono ?_; rintro e w7_ ⟨vT, rfl, hR, hb⟩; have HS7 := Aside0.mk hb.size; have HB7 := Aside0.mk (HB6.out.trans (hb.mono HB6.out.size)); have V_7 := Aside0.mk (Kd.R_below V_6.out hb); have Tx0_7 := Aside0.mk (Kd.R_below Tx0_6.out hb); have G_7 := Aside0.mk (Kd.S_below G_6.out hb); obtain ⟨ATb0, cTb0, eT, hlT, _⟩ := Kd.R_reads hR; subst eT; have Tb0_7 := Aside0.mk (Kd.R_lower (Kd.R_mono (ok' := fun k_ => w6_.heap.size ≤ k_ ∧ k_ < w7_.heap.size) (Kd.R_bound hR) (fun k_ hk_ => ⟨hk_.2.1, hk_.2.2.1⟩)) HB6.out.size); have HLTb0 := Aside0.mk hlT; clear hb hR hlT; have STG7 := Aside0.mk trivial)
    | (go_at_call 9; (have g_ := STG7); (fail_if_success (have g_ := STG8)); refine (laws_eqStringS.calls k ATx0 cTx0 x0 ATb0 cTb0 x0 true w7_ (Kd.R_reads' Tx0_7.out).2.2 HLTx0.out (Kd.R_reads' Tb0_7.out).2.2 HLTb0.out HP0.out).mono ?_; rintro e w8_ ⟨rfl, hd⟩; have hb := (show Below (w7_).heap.size (w7_) (w8_) from by first | exact hd.below | exact hd); have HS8 := Aside0.mk hb.size; have HB8 := Aside0.mk (HB7.out.trans (hb.mono HB7.out.size)); have V_8 := Aside0.mk (Kd.R_below V_7.out hb); have Tx0_8 := Aside0.mk (Kd.R_below Tx0_7.out hb); have G_8 := Aside0.mk (Kd.S_below G_7.out hb); have Tb0_8 := Aside0.mk (Kd.R_below Tb0_7.out hb); clear hb hd; have STG8 := Aside0.mk trivial)
    | (go_at_call 10; (have g_ := STG8); (fail_if_success (have g_ := STG9)); refine (laws_markStringS.calls k (fun k_ => w3_.heap.size ≤ k_ ∧ k_ < w4_.heap.size) (.slice ATx0 x0.length cTx0) x0 1 m0 z0 w w8_ HB8.out Tx0_8.out HM0.out).mono ?_; rintro e w9_ ⟨rfl, hR, hb, hk⟩; have HS9 := Aside0.mk hk.1; have HB9 := Aside0.mk hb; have V_9 := Aside0.mk (Kd.R_kept V_8.out hk (fun k_ h1_ h2_ => by (try dsimp only at h1_); (try dsimp only at h2_); have s3_ := HS3.out; have s4_ := HS4.out;  omega)); have G_9 := Aside0.mk (Kd.S_kept G_8.out hk (fun k_ h1_ h2_ => by (try dsimp only at h1_); (try dsimp only at h2_); have s4_ := HS4.out; have s5_ := HS5.out;  omega)); clear hR hb hk; have STG9 := Aside0.mk trivial)
    | (go_at_call 14; (have g_ := STG9); (fail_if_success (have g_ := STG10)); refine (laws_eqStringSS.calls k AG cG uu AV cV vv true w9_ (Kd.S_reads' G_9.out).2.2 HLG.out (Kd.R_reads' V_9.out).2.2 HLV.out HQ1.out).mono ?_; rintro e w10_ ⟨rfl, hd⟩; have hb := (show Below (w9_).heap.size (w9_) (w10_) from by first | exact hd.below | exact hd); have HS10 := Aside0.mk hb.size; have HB10 := Aside0.mk (HB9.out.trans (hb.mono HB9.out.size)); have V_10 := Aside0.mk (Kd.R_below V_9.out hb); have G_10 := Aside0.mk (Kd.S_below G_9.out hb); clear hb hd; have STG10 := Aside0.mk trivial)
    | (go_at_call 15; (have g_ := STG10); (fail_if_success (have g_ := STG11)); refine (laws_markStringSS.calls k (fun k_ => w4_.heap.size ≤ k_ ∧ k_ < w5_.heap.size) (.slice AG uu.length cG) uu 1 q ug w w10_ HB10.out G_10.out HG_.out).mono ?_; rintro e w11_ ⟨rfl, hS, hb, hk⟩; have HS11 := Aside0.mk hk.1; have HB11 := Aside0.mk hb; have V_11 := Aside0.mk (Kd.R_kept V_10.out hk (fun k_ h1_ h2_ => by (try dsimp only at h1_); (try dsimp only at h2_); have s3_ := HS3.out; have s4_ := HS4.out; have s5_ := HS5.out;  omega)); have G_11 := Aside0.mk (Kd.S_mono (ok' := fun _ => True) hS (fun _ _ => trivial)); clear hS hb hk; have STG11 := Aside0.mk trivial)
    | (go_at_call 16; (have g_ := STG11); (fail_if_success (have g_ := STG12)); refine ((show Calls Tryz.prog 16 #[.slice AG uu.length cG, .int .i64 1] w11_ _ from (Kd.S_reads' G_11.out).1 ▸ laws_heldStringSS.calls k AG cG ug 1 q w11_ (Kd.S_reads' G_11.out).2.2 (by have h1_ := (Kd.S_reads' G_11.out).1; have h2_ := (Kd.S_reads' G_11.out).2.1; omega) HQ.out)).mono ?_; rintro e w12_ ⟨rfl, hd⟩; have hb := (show Below (w11_).heap.size (w11_) (w12_) from by first | exact hd.below | exact hd); have HS12 := Aside0.mk hb.size; have HB12 := Aside0.mk (HB11.out.trans (hb.mono HB11.out.size)); have V_12 := Aside0.mk (Kd.R_below V_11.out hb); have G_12 := Aside0.mk (Kd.S_below G_11.out hb); clear hb hd; have STG12 := Aside0.mk trivial)
    | (go_at_call 7; (have g_ := STG12); (fail_if_success (have g_ := STG13)); refine (laws_toStringS.calls k A0 c0 l0 x0 w12_ (Kd.C_below HR0.out HB12.out) HC0.out HTS0.out).mono ?_; rintro e w13_ ⟨vT, rfl, hR, hb⟩; have HS13 := Aside0.mk hb.size; have HB13 := Aside0.mk (HB12.out.trans (hb.mono HB12.out.size)); have V_13 := Aside0.mk (Kd.R_below V_12.out hb); have G_13 := Aside0.mk (Kd.S_below G_12.out hb); obtain ⟨ATc0, cTc0, eT, hlT, _⟩ := Kd.R_reads hR; subst eT; have Tc0_13 := Aside0.mk (Kd.R_lower (Kd.R_mono (ok' := fun k_ => w12_.heap.size ≤ k_ ∧ k_ < w13_.heap.size) (Kd.R_bound hR) (fun k_ hk_ => ⟨hk_.2.1, hk_.2.2.1⟩)) HB12.out.size); have HLTc0 := Aside0.mk hlT; clear hb hR hlT; have STG13 := Aside0.mk trivial)
    | (go_at_call 13; (have g_ := STG13); (fail_if_success (have g_ := STG14)); refine (impl_DanglingOf.calls k ATc0 cTc0 x0 uu bu w13_ (Kd.R_reads' Tc0_13.out).2.2 HLTc0.out HU.out).mono ?_; rintro e w14_ ⟨vS, rfl, hS, hb⟩; have HS14 := Aside0.mk hb.size; have HB14 := Aside0.mk (HB13.out.trans (hb.mono HB13.out.size)); have V_14 := Aside0.mk (Kd.R_below V_13.out hb); have G_14 := Aside0.mk (Kd.S_below G_13.out hb); have Tc0_14 := Aside0.mk (Kd.R_below Tc0_13.out hb); obtain ⟨AH, cH, eS, hlS, _⟩ := Kd.S_reads hS; subst eS; have HLH := Aside0.mk hlS; have H_14 := Aside0.mk (Kd.S_lower (Kd.S_mono (ok' := fun k_ => w13_.heap.size ≤ k_ ∧ k_ < w14_.heap.size) (Kd.S_bound hS) (fun k_ hk_ => ⟨hk_.2.1, hk_.2.2.1⟩)) HB13.out.size); clear hb hS hlS; have STG14 := Aside0.mk trivial)
    | (go_at_call 14; (have g_ := STG14); (fail_if_success (have g_ := STG15)); refine (laws_eqStringSS.calls k AH cH uu AV cV vv true w14_ (Kd.S_reads' H_14.out).2.2 HLH.out (Kd.R_reads' V_14.out).2.2 HLV.out HQ1.out).mono ?_; rintro e w15_ ⟨rfl, hd⟩; have hb := (show Below (w14_).heap.size (w14_) (w15_) from by first | exact hd.below | exact hd); have HS15 := Aside0.mk hb.size; have HB15 := Aside0.mk (HB14.out.trans (hb.mono HB14.out.size)); have V_15 := Aside0.mk (Kd.R_below V_14.out hb); have G_15 := Aside0.mk (Kd.S_below G_14.out hb); have H_15 := Aside0.mk (Kd.S_below H_14.out hb); clear hb hd; have STG15 := Aside0.mk trivial)
    | (go_at_call 16; (have g_ := STG15); (fail_if_success (have g_ := STG16)); refine ((show Calls Tryz.prog 16 #[.slice AG uu.length cG, .int .i64 1] w15_ _ from (Kd.S_reads' G_15.out).1 ▸ laws_heldStringSS.calls k AG cG ug 1 q w15_ (Kd.S_reads' G_15.out).2.2 (by have h1_ := (Kd.S_reads' G_15.out).1; have h2_ := (Kd.S_reads' G_15.out).2.1; omega) HQ.out)).mono ?_; rintro e w16_ ⟨rfl, hd⟩; have hb := (show Below (w15_).heap.size (w15_) (w16_) from by first | exact hd.below | exact hd); have HS16 := Aside0.mk hb.size; have HB16 := Aside0.mk (HB15.out.trans (hb.mono HB15.out.size)); have V_16 := Aside0.mk (Kd.R_below V_15.out hb); have G_16 := Aside0.mk (Kd.S_below G_15.out hb); have H_16 := Aside0.mk (Kd.S_below H_15.out hb); clear hb hd; have STG16 := Aside0.mk trivial))
  go_ret
  exact ⟨rfl, HB16.out⟩

end Go.Proofs.YtidjjcgfdkmefaaGreatDoor.X

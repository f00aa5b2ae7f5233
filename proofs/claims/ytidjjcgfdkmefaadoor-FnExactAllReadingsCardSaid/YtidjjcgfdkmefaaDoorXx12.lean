-- WRITTEN by xprint.py of this repo: the kit's print.py with contracts given by hand (given.py). Lean checks it.
import Derived.Test.YtidjjcgfdkmefaaDoorXx0
import Derived.Test.YtidjjcgfdkmefaaDoorXx1
import Derived.Test.YtidjjcgfdkmefaaDoorXx3
import Derived.Test.YtidjjcgfdkmefaaDoorXx9
import Derived.Test.YtidjjcgfdkmefaaDoorXx10
import Derived.Test.YtidjjcgfdkmefaaDoorXx11
namespace Go.Proofs.YtidjjcgfdkmefaaDoor.X
open Go.RowKit Go.Proofs.YtidjjcgfdkmefaaDoorW.PrintWords Go.Proofs.YtidjjcgfdkmefaaDoorW.PrintLast Go.Proofs.YtidjjcgfdkmefaaDoorW.PrintMore
attribute [local go_sem] max2_int min2_int max_two min_two max_three min_three max_four min_four   -- for this text's walks alone
set_option linter.unusedVariables false
set_option linter.unusedSimpArgs false

/-! ### GIVEN laws_FnExactAllReadings: function 5 -/
def laws_FnExactAllReadings.f (k : Nat) (l0 : List ByteArray) (a1 : ByteArray) : Option Bool := if 1048576 < (a1.size : Int) then some true else ((laws_szStringS.f k l0 1048576).bind fun r0 => if r0 < 0 then some true else ((laws_toStringS.f k l0).bind fun x0 => (spec_AllReadings.f k x0 a1).bind fun v => (impl_AllReadings.f k x0 a1).bind fun u => (laws_eqIntSS.f k u.1 v.1).bind fun q1 => (laws_eqStringS.f k x0 x0).bind fun p0 => (laws_markStringS.f k x0 1).bind fun m0 => (laws_markIntSS.f k u.1 1).bind fun g => (laws_heldIntSS.f k g.2 1).bind fun q => if q1 = true ∧ p0 = true ∧ u.2 = v.2 ∧ 0 ≤ m0.1 ∧ 0 ≤ q ∧ q = g.1 then some true else none))
set_option maxRecDepth 100000 in
set_option maxHeartbeats 16000000 in
theorem laws_FnExactAllReadings.calls (k : Nat) (A0 : Option Addr) (c0 : Nat) (l0 : List ByteArray) (a1 : ByteArray) (r : Bool) (w : World) (hr0 : Kd.C Kd.string w A0 l0.length l0) (hc0 : l0.length ≤ c0) (h : laws_FnExactAllReadings.f k l0 a1 = some r) :
    Calls Tryd.prog 5 #[.slice A0 l0.length c0, .string a1] w fun e w' => e = .returned (.bool r) ∧ Below w.heap.size w w' := by
  unfold laws_FnExactAllReadings.f at h
  have HR0 := Aside0.mk hr0
  have HC0 := Aside0.mk hc0
  clear hr0 hc0
  have HB0 := Aside0.mk (Below.refl w.heap.size w)
  by_cases hw1 : 1048576 < (a1.size : Int)
  · rw [if_pos hw1] at h
    obtain rfl := Option.some.inj h
    have hwd1 : decide (1048576 < (a1.size : Int)) = true := decide_eq_true hw1
    clear h
    go_enter Tryd.func5, Tryd.ntmps5
    go_wp2_with fail
    go_ret
    exact ⟨rfl, HB0.out⟩
  rw [if_neg hw1] at h
  have hwd1 : decide (1048576 < (a1.size : Int)) = false := decide_eq_false hw1
  obtain ⟨r0, hsz0, h⟩ := Option.bind_eq_some_iff.mp h
  have HSZ0 := Aside0.mk hsz0
  clear hsz0
  by_cases hz0 : r0 < 0
  · rw [if_pos hz0] at h
    obtain rfl := Option.some.inj h
    have hzd0 : decide (r0 < 0) = true := decide_eq_true hz0
    clear h
    go_enter Tryd.func5, Tryd.ntmps5
    go_wp2_with (first | (go_at_call 9; (fail_if_success (have g_ := STG1)); refine (laws_szStringS.calls k A0 c0 l0 (1048576) r0 w (Kd.C_below HR0.out HB0.out) HC0.out HSZ0.out).mono ?_; rintro e w1_ ⟨rfl, hd⟩; have hb := hd.below; have HB1 := Aside0.mk (HB0.out.trans (hb.mono HB0.out.size)); clear hb hd; have STG1 := Aside0.mk trivial))
    go_ret
    exact ⟨rfl, HB1.out⟩
  rw [if_neg hz0] at h
  have hzd0 : decide (r0 < 0) = false := decide_eq_false hz0
  clear hz0
  obtain ⟨x0, hx0, h⟩ := Option.bind_eq_some_iff.mp h
  have HTS0 := Aside0.mk hx0
  clear hx0
  obtain ⟨⟨vv, bv⟩, hv, h⟩ := Option.bind_eq_some_iff.mp h
  obtain ⟨⟨uu, bu⟩, hu, h⟩ := Option.bind_eq_some_iff.mp h
  obtain ⟨q1, hq1, h⟩ := Option.bind_eq_some_iff.mp h
  obtain ⟨p0, hp0, h⟩ := Option.bind_eq_some_iff.mp h
  obtain ⟨⟨m0, z0⟩, hm0, h⟩ := Option.bind_eq_some_iff.mp h
  obtain ⟨⟨mg, ug⟩, hg, h⟩ := Option.bind_eq_some_iff.mp h
  obtain ⟨q, hq, h⟩ := Option.bind_eq_some_iff.mp h
  have h' : (if q1 = true ∧ p0 = true ∧ bu = bv ∧ 0 ≤ m0 ∧ 0 ≤ q ∧ q = mg then some true else none) = some r := h
  clear h
  by_cases hall : q1 = true ∧ p0 = true ∧ bu = bv ∧ 0 ≤ m0 ∧ 0 ≤ q ∧ q = mg
  case neg => rw [if_neg hall] at h'; cases h'
  rw [if_pos hall] at h'
  obtain rfl := Option.some.inj h'
  clear h'
  obtain ⟨rfl, rfl, rfl, hmp, hq0, rfl⟩ := hall
  have hmd : decide (m0 < 0) = false := decide_eq_false (by omega)
  have hqd : decide (q < 0) = false := decide_eq_false (by omega)
  have HV := Aside0.mk hv
  clear hv
  have HU := Aside0.mk hu
  clear hu
  have HQ1 := Aside0.mk hq1
  clear hq1
  have HG_ := Aside0.mk hg
  clear hg
  have HQ := Aside0.mk hq
  clear hq
  have HP0 := Aside0.mk hp0
  clear hp0
  have HM0 := Aside0.mk hm0
  clear hm0
  clear hq0 hmp hw1
  go_enter Tryd.func5, Tryd.ntmps5
  go_wp2_with (first
    | (go_at_call 9; (fail_if_success (have g_ := STG1)); refine (laws_szStringS.calls k A0 c0 l0 (1048576) r0 w (Kd.C_below HR0.out HB0.out) HC0.out HSZ0.out).mono ?_; rintro e w1_ ⟨rfl, hd⟩; have hb := hd.below; have HB1 := Aside0.mk (HB0.out.trans (hb.mono HB0.out.size)); clear hb hd; have STG1 := Aside0.mk trivial)
    | (go_at_call 11; (have g_ := STG1); (fail_if_success (have g_ := STG2)); refine (laws_toStringS.calls k A0 c0 l0 x0 w1_ (Kd.C_below HR0.out HB1.out) HC0.out HTS0.out).mono ?_; rintro e w2_ ⟨vT, rfl, hR, hb⟩; have HB2 := Aside0.mk (HB1.out.trans (hb.mono HB1.out.size)); obtain ⟨AT2, cT2, eT2, hlT2, hCT2⟩ := Kd.R_reads hR; subst eT2; have HCT2 := Aside0.mk hCT2; have HLT2 := Aside0.mk hlT2; clear hb hR hlT2 hCT2; have STG2 := Aside0.mk trivial)
    | (go_at_call 18; (have g_ := STG2); (fail_if_success (have g_ := STG3)); refine (spec_AllReadings.calls k AT2 cT2 x0 a1 vv bu w2_ HCT2.out HLT2.out HV.out).mono ?_; rintro e w3_ ⟨vS, rfl, hS, hb⟩; have HB3 := Aside0.mk (HB2.out.trans (hb.mono HB2.out.size)); obtain ⟨AS3, cS3, eS3, hlS3, hCS3⟩ := Kd.S_reads hS; subst eS3; have HLS3 := Aside0.mk hlS3; have HW3 := Aside0.mk (Kd.S_lower (Kd.S_mono (ok' := fun k_ => k_ < w3_.heap.size) (Kd.S_bound hS) (fun k_ hk_ => hk_.2.2.1)) HB2.out.size); clear hb hS hlS3 hCS3; have STG3 := Aside0.mk trivial)
    | (go_at_call 11; (have g_ := STG3); (fail_if_success (have g_ := STG4)); refine (laws_toStringS.calls k A0 c0 l0 x0 w3_ (Kd.C_below HR0.out HB3.out) HC0.out HTS0.out).mono ?_; rintro e w4_ ⟨vT, rfl, hR, hb⟩; have HB4 := Aside0.mk (HB3.out.trans (hb.mono HB3.out.size)); have HW4 := Aside0.mk (Kd.S_below HW3.out hb); obtain ⟨AT4, cT4, eT4, hlT4, hCT4⟩ := Kd.R_reads hR; subst eT4; have HX04 := Aside0.mk (Kd.R_lower (Kd.R_mono (ok' := fun k_ => w3_.heap.size ≤ k_ ∧ k_ < w4_.heap.size) (Kd.R_bound hR) (fun k_ hk_ => ⟨hk_.2.1, hk_.2.2.1⟩)) HB3.out.size); have HLT4 := Aside0.mk hlT4; have HZT := Aside0.mk hb.size; clear hb hR hlT4 hCT4; have STG4 := Aside0.mk trivial)
    | (go_at_call 19; (have g_ := STG4); (fail_if_success (have g_ := STG5)); refine (impl_AllReadings.calls k AT4 cT4 x0 a1 uu bu w4_ (Kd.R_reads' HX04.out).2.2 HLT4.out HU.out).mono ?_; rintro e w5_ ⟨vS, rfl, hS, hb⟩; have HB5 := Aside0.mk (HB4.out.trans (hb.mono HB4.out.size)); have HW5 := Aside0.mk (Kd.S_below HW4.out hb); have HX05 := Aside0.mk (Kd.R_below HX04.out hb); obtain ⟨AS5, cS5, eS5, hlS5, hCS5⟩ := Kd.S_reads hS; subst eS5; have HLS5 := Aside0.mk hlS5; have HG5 := Aside0.mk (Kd.S_lower (Kd.S_mono (ok' := fun k_ => w4_.heap.size ≤ k_) (Kd.S_bound hS) (fun k_ hk_ => hk_.2.1)) HB4.out.size); have HS34 := Aside0.mk (show w3_.heap.size ≤ w4_.heap.size from HZT.out); clear hb hS hlS5 hCS5; have STG5 := Aside0.mk trivial)
    | (go_at_call 20; (have g_ := STG5); (fail_if_success (have g_ := STG6)); refine (laws_eqIntSS.calls k AS5 cS5 uu AS3 cS3 vv true w5_ (Kd.S_reads' HG5.out).2.2 HLS5.out (Kd.S_reads' HW5.out).2.2 HLS3.out HQ1.out).mono ?_; rintro e w6_ ⟨rfl, hd⟩; have hb := hd.below; have HB6 := Aside0.mk (HB5.out.trans (hb.mono HB5.out.size)); have HW6 := Aside0.mk (Kd.S_below HW5.out hb); have HX06 := Aside0.mk (Kd.R_below HX05.out hb); have HG6 := Aside0.mk (Kd.S_below HG5.out hb); clear hb hd; have STG6 := Aside0.mk trivial)
    | (go_at_call 11; (have g_ := STG6); (fail_if_success (have g_ := STG7)); refine (laws_toStringS.calls k A0 c0 l0 x0 w6_ (Kd.C_below HR0.out HB6.out) HC0.out HTS0.out).mono ?_; rintro e w7_ ⟨vT, rfl, hR, hb⟩; have HB7 := Aside0.mk (HB6.out.trans (hb.mono HB6.out.size)); have HW7 := Aside0.mk (Kd.S_below HW6.out hb); have HX07 := Aside0.mk (Kd.R_below HX06.out hb); have HG7 := Aside0.mk (Kd.S_below HG6.out hb); obtain ⟨AT7, cT7, eT7, hlT7, hCT7⟩ := Kd.R_reads hR; subst eT7; have HCT7 := Aside0.mk hCT7; have HLT7 := Aside0.mk hlT7; clear hb hR hlT7 hCT7; have STG7 := Aside0.mk trivial)
    | (go_at_call 13; (have g_ := STG7); (fail_if_success (have g_ := STG8)); refine (laws_eqStringS.calls k AT4 cT4 x0 AT7 cT7 x0 true w7_ (Kd.R_reads' HX07.out).2.2 HLT4.out HCT7.out HLT7.out HP0.out).mono ?_; rintro e w8_ ⟨rfl, hd⟩; have hb := hd.below; have HB8 := Aside0.mk (HB7.out.trans (hb.mono HB7.out.size)); have HW8 := Aside0.mk (Kd.S_below HW7.out hb); have HX08 := Aside0.mk (Kd.R_below HX07.out hb); have HG8 := Aside0.mk (Kd.S_below HG7.out hb); clear hb hd; have STG8 := Aside0.mk trivial)
    | (go_at_call 14; (have g_ := STG8); (fail_if_success (have g_ := STG9)); refine (laws_markStringS.calls k (fun k_ => w3_.heap.size ≤ k_ ∧ k_ < w4_.heap.size) (.slice AT4 x0.length cT4) x0 1 m0 z0 w w8_ HB8.out HX08.out HM0.out).mono ?_; rintro e w9_ ⟨rfl, hR, hb, hk⟩; have HB9 := Aside0.mk hb; have HW9 := Aside0.mk (Kd.S_kept HW8.out hk (fun k_ h1_ h2_ => by (try dsimp only at h1_); (try dsimp only at h2_); have h3_ := HS34.out;  omega)); have HG9 := Aside0.mk (Kd.S_kept HG8.out hk (fun k_ h1_ h2_ => by (try dsimp only at h1_); (try dsimp only at h2_); have h3_ := HS34.out;  omega)); clear hR hb hk; have STG9 := Aside0.mk trivial)
    | (go_at_call 20; (have g_ := STG9); (fail_if_success (have g_ := STG10)); refine (laws_eqIntSS.calls k AS5 cS5 uu AS3 cS3 vv true w9_ (Kd.S_reads' HG9.out).2.2 HLS5.out (Kd.S_reads' HW9.out).2.2 HLS3.out HQ1.out).mono ?_; rintro e w10_ ⟨rfl, hd⟩; have hb := hd.below; have HB10 := Aside0.mk (HB9.out.trans (hb.mono HB9.out.size)); have HW10 := Aside0.mk (Kd.S_below HW9.out hb); have HG10 := Aside0.mk (Kd.S_below HG9.out hb); clear hb hd; have STG10 := Aside0.mk trivial)
    | (go_at_call 21; (have g_ := STG10); (fail_if_success (have g_ := STG11)); refine (laws_markIntSS.calls k (fun k_ => w4_.heap.size ≤ k_) (.slice AS5 uu.length cS5) uu 1 q ug w w10_ HB10.out HG10.out HG_.out).mono ?_; rintro e w11_ ⟨rfl, hS, hb, hk⟩; have HB11 := Aside0.mk hb; have HW11 := Aside0.mk (Kd.S_kept HW10.out hk (fun k_ h1_ h2_ => by (try dsimp only at h1_); (try dsimp only at h2_); have h3_ := HS34.out;  omega)); have HG11 := Aside0.mk (Kd.S_mono (ok' := fun _ => True) hS (fun _ _ => trivial)); clear hS hb hk; have STG11 := Aside0.mk trivial)
    | (go_at_call 22; (have g_ := STG11); (fail_if_success (have g_ := STG12)); refine ((show Calls Tryd.prog 22 #[.slice AS5 uu.length cS5, .int .i64 1] w11_ _ from (Kd.S_reads' HG11.out).1 ▸ laws_heldIntSS.calls k AS5 cS5 ug 1 q w11_ (Kd.S_reads' HG11.out).2.2 (by have h1_ := (Kd.S_reads' HG11.out).1; have h2_ := (Kd.S_reads' HG11.out).2.1; omega) HQ.out)).mono ?_; rintro e w12_ ⟨rfl, hd⟩; have hb := hd.below; have HB12 := Aside0.mk (HB11.out.trans (hb.mono HB11.out.size)); have HW12 := Aside0.mk (Kd.S_below HW11.out hb); have HG12 := Aside0.mk (Kd.S_below HG11.out hb); clear hb hd; have STG12 := Aside0.mk trivial)
    | (go_at_call 11; (have g_ := STG12); (fail_if_success (have g_ := STG13)); refine (laws_toStringS.calls k A0 c0 l0 x0 w12_ (Kd.C_below HR0.out HB12.out) HC0.out HTS0.out).mono ?_; rintro e w13_ ⟨vT, rfl, hR, hb⟩; have HB13 := Aside0.mk (HB12.out.trans (hb.mono HB12.out.size)); have HW13 := Aside0.mk (Kd.S_below HW12.out hb); have HG13 := Aside0.mk (Kd.S_below HG12.out hb); obtain ⟨AT13, cT13, eT13, hlT13, hCT13⟩ := Kd.R_reads hR; subst eT13; have HCT13 := Aside0.mk hCT13; have HLT13 := Aside0.mk hlT13; clear hb hR hlT13 hCT13; have STG13 := Aside0.mk trivial)
    | (go_at_call 19; (have g_ := STG13); (fail_if_success (have g_ := STG14)); refine (impl_AllReadings.calls k AT13 cT13 x0 a1 uu bu w13_ HCT13.out HLT13.out HU.out).mono ?_; rintro e w14_ ⟨vS, rfl, hS, hb⟩; have HB14 := Aside0.mk (HB13.out.trans (hb.mono HB13.out.size)); have HW14 := Aside0.mk (Kd.S_below HW13.out hb); have HG14 := Aside0.mk (Kd.S_below HG13.out hb); obtain ⟨AS14, cS14, eS14, hlS14, hCS14⟩ := Kd.S_reads hS; subst eS14; have HLS14 := Aside0.mk hlS14; have HH14 := Aside0.mk (Kd.S_lower (Kd.S_mono (ok' := fun k_ => w13_.heap.size ≤ k_) (Kd.S_bound hS) (fun k_ hk_ => hk_.2.1)) HB13.out.size); clear hb hS hlS14 hCS14; have STG14 := Aside0.mk trivial)
    | (go_at_call 20; (have g_ := STG14); (fail_if_success (have g_ := STG15)); refine (laws_eqIntSS.calls k AS14 cS14 uu AS3 cS3 vv true w14_ (Kd.S_reads' HH14.out).2.2 HLS14.out (Kd.S_reads' HW14.out).2.2 HLS3.out HQ1.out).mono ?_; rintro e w15_ ⟨rfl, hd⟩; have hb := hd.below; have HB15 := Aside0.mk (HB14.out.trans (hb.mono HB14.out.size)); have HW15 := Aside0.mk (Kd.S_below HW14.out hb); have HG15 := Aside0.mk (Kd.S_below HG14.out hb); have HH15 := Aside0.mk (Kd.S_below HH14.out hb); clear hb hd; have STG15 := Aside0.mk trivial)
    | (go_at_call 22; (have g_ := STG15); (fail_if_success (have g_ := STG16)); refine ((show Calls Tryd.prog 22 #[.slice AS5 uu.length cS5, .int .i64 1] w15_ _ from (Kd.S_reads' HG15.out).1 ▸ laws_heldIntSS.calls k AS5 cS5 ug 1 q w15_ (Kd.S_reads' HG15.out).2.2 (by have h1_ := (Kd.S_reads' HG15.out).1; have h2_ := (Kd.S_reads' HG15.out).2.1; omega) HQ.out)).mono ?_; rintro e w16_ ⟨rfl, hd⟩; have hb := hd.below; have HB16 := Aside0.mk (HB15.out.trans (hb.mono HB15.out.size)); have HW16 := Aside0.mk (Kd.S_below HW15.out hb); have HG16 := Aside0.mk (Kd.S_below HG15.out hb); have HH16 := Aside0.mk (Kd.S_below HH15.out hb); clear hb hd; have STG16 := Aside0.mk trivial))
  go_ret
  exact ⟨rfl, HB16.out⟩

end Go.Proofs.YtidjjcgfdkmefaaDoor.X

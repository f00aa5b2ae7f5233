-- WRITTEN by xprint.py of this repo: the kit's print.py with contracts given by hand (given.py). Lean checks it.
import Derived.Test.YtidjjcgfdkmefaaGreatDoorXx0
import Derived.Test.YtidjjcgfdkmefaaGreatDoorXx1
import Derived.Test.YtidjjcgfdkmefaaGreatDoorXx2
namespace Go.Proofs.YtidjjcgfdkmefaaGreatDoor.X
open Go.RowKit Go.Proofs.YtidjjcgfdkmefaaGreatDoorW.PrintWords Go.Proofs.YtidjjcgfdkmefaaGreatDoorW.PrintLast Go.Proofs.YtidjjcgfdkmefaaGreatDoorW.PrintMore
attribute [local go_sem] max2_int min2_int max_two min_two max_three min_three max_four min_four   -- for this text's walks alone
set_option linter.unusedVariables false
set_option linter.unusedSimpArgs false

/-! ### GIVEN spec_dcCode: function 19 -/
def dcT (k : Nat) (set : List ByteArray) : List ByteArray → Option Bool
  | [] => some true
  | x :: t => (spec_wdHas.f k set x).bind fun b => if b = true then some false else dcT k set t
theorem dcT.mono (k : Nat) (set : List ByteArray) : ∀ l, LeO (dcT k set l) (dcT (k + 1) set l)
  | [] => LeO.refl _
  | x :: t => by
    unfold dcT
    exact LeO.bind (spec_wdHas.mono _ _ _) fun b => LeO.ite (LeO.refl _) (dcT.mono k set t)
def spec_dcCode.f (k : Nat) (l0 : List ByteArray) : Option Bool := (spec_dcLists.f k l0).bind fun ls => if ls = [] then none else dcT k l0 (ls.getD (ls.length - 1) [])
theorem spec_dcCode.mono : ∀ a0 k, LeO (spec_dcCode.f k a0) (spec_dcCode.f (k + 1) a0) := by
  intro a0 k
  unfold spec_dcCode.f
  exact LeO.bind (spec_dcLists.mono _ _) fun ls => LeO.ite (LeO.refl _) (dcT.mono _ _ _)
set_option maxRecDepth 100000 in
set_option maxHeartbeats 8000000 in
theorem spec_dcCode.calls (k : Nat) (A0 : Option Addr) (c0 : Nat) (l0 : List ByteArray) (r : Bool) (w : World) (hr0 : Kd.C Kd.string w A0 l0.length l0) (hc0 : l0.length ≤ c0) (h : spec_dcCode.f k l0 = some r) :
    Calls Tryz.prog 19 #[.slice A0 l0.length c0] w fun e w' => e = .returned (.bool r) ∧ Below w.heap.size w w' := by
  unfold spec_dcCode.f at h
  obtain ⟨ls, hls, h⟩ := Option.bind_eq_some_iff.mp h
  by_cases hne : ls = []
  · rw [if_pos hne] at h; cases h
  rw [if_neg hne] at h
  obtain ⟨m, hm⟩ : ∃ m, ls.length = m + 1 := ⟨ls.length - 1, by have := List.length_pos_iff.2 hne; omega⟩
  have hlt : m < ls.length := by omega
  have hg : ls.getD (ls.length - 1) [] = ls[m] := by rw [hm, Nat.add_sub_cancel, List.getD_eq_getElem?_getD, List.getElem?_eq_getElem hlt]; rfl
  rw [hg] at h
  have HR0 := Aside0.mk hr0
  have HC0 := Aside0.mk hc0
  have HLS := Aside0.mk hls
  have HT := Aside0.mk h
  have HLT := Aside0.mk hlt
  have HM := Aside0.mk hm
  have HB := Aside0.mk (Below.refl w.heap.size w)
  clear hr0 hc0 hls h hg hne hm
  go_enter Tryz.func19, Tryz.ntmps19
  go_wp2_with fail
  go_at_call 30
  refine (spec_dcLists.calls k A0 c0 l0 ls _ HR0.out HC0.out HLS.out).mono ?_
  rintro e w1 ⟨v1, rfl, hR1, hb1⟩
  obtain ⟨A1, c1, e1, hc1, hC1⟩ := Kd.R_reads hR1
  subst e1
  have HB1 := Aside0.mk hb1
  obtain ⟨ad, A5, c5, e5, hcell, hc5, hC5⟩ := at_row hC1 m hlt
  subst e5
  have hmx : (m : Int) + 1 ≤ 9223372036854775807 := by have := hC1.2.1; have h2 := HM.out; omega
  rw [HM.out]
  have hw64 : wrap64 (m : Int) = (m : Int) := by unfold wrap64; omega
  generalize ls[m] = row at HT hcell hC5 hc5
  have HC5 := Aside0.mk hC5
  clear hC1 hR1 hb1 hc1 hC5 hc5 hmx hlt
  go_wp2
  go_loopg [15] row.length (fun gg v15 wr => ∃ kk : Nat, v15 = .int .i64 kk ∧ Aside0 (kk ≤ row.length) ∧ Aside0 (row.length - kk ≤ gg) ∧ Aside0 (dcT k l0 (row.drop kk) = some r) ∧ Aside0 (Below w1.heap.size w1 wr))
  case atStart => exact ⟨0, rfl, ⟨Nat.zero_le _⟩, ⟨by omega⟩, ⟨by rw [List.drop_zero]; exact HT.out⟩, ⟨Below.refl _ _⟩⟩
  case round =>
    clear HT hcell hw64
    obtain ⟨kk, rfl, HK, HG, HD, HBI⟩ := hrel
    by_cases hlt : kk < row.length
    · have hltz : (kk : Int) < (row.length : Int) := by omega
      obtain ⟨ad2, e1, hcell⟩ := Kd.at_string (Kd.C_below HC5.out HBI.out) kk (by omega) hltz
      have hrd : rdOf ByteArray.empty row (kk : Int) = row[kk] := by simp [rdOf, List.getD_eq_getElem?_getD, hlt]
      rw [hrd] at hcell
      clear hrd
      simp only [Int.toNat_natCast] at hcell
      subst e1
      have hd := HD.out
      rw [List.drop_eq_getElem_cons hlt] at hd
      unfold dcT at hd
      generalize row[kk] = x at hd hcell
      obtain ⟨b, hb, hd⟩ := Option.bind_eq_some_iff.mp hd
      have HX := Aside0.mk (fun (W : World) (hW : Below w.heap.size w W) => spec_wdHas.calls k A0 c0 l0 x b W (Kd.C_below HR0.out hW) HC0.out hb)
      have HLK := Aside0.mk hlt
      have HMX := Aside0.mk HC5.out.2.1
      clear HD hb
      cases b with
      | true =>
        rw [if_pos rfl] at hd
        obtain rfl := Option.some.inj hd
        clear hd
        go_wp2_with (go_at_call 35; refine (HX.out _ (HB1.out.trans (HBI.out.mono HB1.out.size))).mono ?_; rintro e w6 ⟨rfl, hd6⟩; have HB6 := Aside0.mk (HBI.out.trans (hd6.below.mono HBI.out.size)); clear hd6)
        go_ret
        exact ⟨rfl, HB1.out.trans (HB6.out.mono HB1.out.size)⟩
      | false =>
        rw [if_neg (by decide)] at hd
        have HD := Aside0.mk hd
        clear hd
        go_wp2_with (go_at_call 35; refine (HX.out _ (HB1.out.trans (HBI.out.mono HB1.out.size))).mono ?_; rintro e w6 ⟨rfl, hd6⟩; have HB6 := Aside0.mk (HBI.out.trans (hd6.below.mono HBI.out.size)); clear hd6)
        go_roundg (row.length - (kk + 1))
        case measure => have := HLK.out; have := HG.out; omega
        case rel => exact ⟨kk + 1, by have h1_ := HLK.out; have h2_ := HMX.out; first | (congr 1; unfold wrap64; omega) | go_num, ⟨HLK.out⟩, ⟨by have := HG.out; omega⟩, HD, HB6⟩
    · have hltz : ¬ (kk : Int) < (row.length : Int) := by omega
      have hd := HD.out
      rw [List.drop_of_length_le (by omega)] at hd
      unfold dcT at hd
      obtain rfl := Option.some.inj hd
      clear HD hd HK HG
      go_wp2
      go_ret
      exact ⟨rfl, HB1.out.trans (HBI.out.mono HB1.out.size)⟩

end Go.Proofs.YtidjjcgfdkmefaaGreatDoor.X

-- WRITTEN by xprint.py of this repo: the kit's print.py with contracts given by hand (given.py). Lean checks it.
import Derived.Test.YtidjjcgfdkmefaaGreatDoorXx0
import Derived.Test.YtidjjcgfdkmefaaGreatDoorXx1
namespace Go.Proofs.YtidjjcgfdkmefaaGreatDoor.X
open Go.RowKit Go.Proofs.YtidjjcgfdkmefaaGreatDoorW.PrintWords Go.Proofs.YtidjjcgfdkmefaaGreatDoorW.PrintLast Go.Proofs.YtidjjcgfdkmefaaGreatDoorW.PrintMore
attribute [local go_sem] max2_int min2_int max_two min_two max_three min_three max_four min_four   -- for this text's walks alone
set_option linter.unusedVariables false
set_option linter.unusedSimpArgs false

/-! ### GIVEN spec_dcLists: function 30 -/
/-- A function of each element, told if it is told of all. -/
def mapO {α β : Type} (g : α → Option β) : List α → Option (List β)
  | [] => some []
  | x :: l => (g x).bind fun y => (mapO g l).bind fun ys => some (y :: ys)
theorem mapO.mono {α β : Type} {g g' : α → Option β} (h : ∀ x, LeO (g x) (g' x)) : ∀ l, LeO (mapO g l) (mapO g' l)
  | [] => LeO.refl _
  | x :: l => by
    unfold mapO
    exact LeO.bind (h x) (fun y => LeO.bind (mapO.mono h l) (fun _ => LeO.refl _))
theorem mapO_get {α β : Type} {g : α → Option β} : ∀ {l : List α} {ys : List β}, mapO g l = some ys → ys.length = l.length ∧ ∀ j (h : j < l.length) (h' : j < ys.length), g l[j] = some ys[j]
  | [], ys, h => by
    simp only [mapO, Option.some.injEq] at h
    subst h
    exact ⟨rfl, fun j h => absurd h (Nat.not_lt_zero _)⟩
  | x :: l, ys, h => by
    unfold mapO at h
    obtain ⟨y, hy, h⟩ := Option.bind_eq_some_iff.mp h
    obtain ⟨zs, hz, h⟩ := Option.bind_eq_some_iff.mp h
    obtain rfl := Option.some.inj h
    obtain ⟨h1, h2⟩ := mapO_get hz
    refine ⟨by simp [h1], fun j hj hj' => ?_⟩
    cases j with
    | zero => exact hy
    | succ j => exact h2 j (by simpa using hj) (by simpa using hj')

theorem infoRow : (Tryz.prog.info? 22).map (fun i => (i.zero, i.size, i.bytes)) = some (some (.slice none 0 0), 1, 24) := by kernel_rfl
theorem at_row {w : World} {A : Option Addr} {n : Nat} {xs : List (List ByteArray)} (h : Kd.C (Kd.slice 9 Kd.string) w A n xs) (i : Nat) (h1 : i < xs.length) : ∃ ad A0 c0, A = some ad ∧ w.cell? (ad.add i) = some (.slice A0 xs[i].length c0) ∧ xs[i].length ≤ c0 ∧ Kd.string.C w A0 xs[i].length xs[i] := by
  have hn := Kd.C_len h
  obtain ⟨ad, c, e, _, hK, hc0⟩ := Kd.C_get h ([] : List ByteArray) (i : Int) (by omega) (by omega)
  have hg : xs.getD (i : Int).toNat ([] : List ByteArray) = xs[i] := by simp [List.getD_eq_getElem?_getD, h1]
  rw [hg] at hK
  have hc : ∀ j u, c[j]? = some u → w.cell? (ad.add ((i : Int).toNat * 1 + j)) = some u := hc0
  obtain ⟨A0, c0, rfl, l0, g0⟩ := hK
  exact ⟨ad, A0, c0, e, by have hq := hc 0 _ rfl; rwa [Nat.mul_one, Nat.add_zero, Int.toNat_natCast] at hq, l0, g0⟩

def dlL (k : Nat) (set : List ByteArray) : Nat → List (List ByteArray) → List ByteArray → Option (List (List ByteArray))
  | 0, _, _ => none
  | n + 1, out, now => (spec_wdText.f k now).bind fun tn => (mapO (spec_wdText.f k) out).bind fun ts => (mapO (spec_wdHas.f k set) now).bind fun hs => if out.length < 5000000000000 then (if (ts.any (fun t => t.toList == tn.toList) || hs.any id || now.isEmpty) = true then some (out ++ [now]) else (spec_dcNext.f k set now).bind fun nx => dlL k set n (out ++ [now]) nx) else none
theorem dlL.mono (k : Nat) (set : List ByteArray) : ∀ n out now, LeO (dlL k set n out now) (dlL (k + 1) set (n + 1) out now)
  | 0, _, _ => LeO.none _
  | n + 1, out, now => by
    unfold dlL
    exact LeO.bind (spec_wdText.mono _ _) fun tn => LeO.bind (mapO.mono (fun _ => spec_wdText.mono _ _) _) fun ts => LeO.bind (mapO.mono (fun _ => spec_wdHas.mono _ _ _) _) fun hs => LeO.ite (LeO.ite (LeO.refl _) (LeO.bind (spec_dcNext.mono _ _ _) fun nx => dlL.mono k set n _ _)) (LeO.refl _)
def spec_dcLists.f (k : Nat) (l0 : List ByteArray) : Option (List (List ByteArray)) := (spec_wdQuotient.f k l0 l0).bind fun now => dlL k l0 k [] now
theorem spec_dcLists.mono : ∀ a0 k, LeO (spec_dcLists.f k a0) (spec_dcLists.f (k + 1) a0) := by
  intro a0 k
  unfold spec_dcLists.f
  exact LeO.bind (spec_wdQuotient.mono _ _ _) fun _ => dlL.mono _ _ _ _ _
set_option maxRecDepth 100000 in
set_option maxHeartbeats 16000000 in
theorem spec_dcLists.calls (k : Nat) (A0 : Option Addr) (c0 : Nat) (l0 : List ByteArray) (r : List (List ByteArray)) (w : World) (hr0 : Kd.C Kd.string w A0 l0.length l0) (hc0 : l0.length ≤ c0) (h : spec_dcLists.f k l0 = some r) :
    Calls Tryz.prog 30 #[.slice A0 l0.length c0] w fun e w' => ∃ v0_ : Value, e = .returned (v0_) ∧ Kd.R (Kd.slice 9 Kd.string) 22 w' w.heap.size (fun _ => True) v0_ r ∧ Below w.heap.size w w' := by
  unfold spec_dcLists.f at h
  obtain ⟨now0, hn0, h⟩ := Option.bind_eq_some_iff.mp h
  have HR0 := Aside0.mk hr0
  have HC0 := Aside0.mk hc0
  have HN0 := Aside0.mk hn0
  have HDL := Aside0.mk h
  have HB := Aside0.mk (Below.refl w.heap.size w)
  clear hr0 hc0 hn0 h
  go_enter Tryz.func30, Tryz.ntmps30
  go_wp2_with (go_at_call 48; refine (spec_wdQuotient.calls k A0 c0 l0 A0 c0 l0 now0 _ HR0.out HC0.out HR0.out HC0.out HN0.out).mono ?_; rintro e w1 ⟨v1, rfl, hR1, hb1⟩; have HR1 := Aside0.mk hR1; have HB1 := Aside0.mk hb1; clear hR1 hb1)
  go_loopg [3, 4] k (fun gg v3 v4 wr => ∃ (n : Nat) (out : List (List ByteArray)) (now : List ByteArray), Aside0 (n ≤ gg) ∧ Aside0 (dlL k l0 n out now = some r) ∧ Aside0 (Kd.R (Kd.slice 9 Kd.string) 22 wr w.heap.size (fun _ => True) v3 out) ∧ Aside0 (Kd.R Kd.string 9 wr w.heap.size (fun _ => True) v4 now) ∧ Aside0 (Below w.heap.size w wr))
  case atStart => exact ⟨k, [], now0, ⟨Nat.le_refl _⟩, HDL, ⟨Kd.R_nil _ _ _ _ _⟩, HR1, HB1⟩
  case round =>
    clear HR1 HB1 HN0 HDL HB
    obtain ⟨n, out, now, HN, HD, HO, HW, HB⟩ := hrel
    obtain ⟨wo, hwo⟩ : ∃ W, W = wr := ⟨wr, rfl⟩
    subst hwo
    obtain ⟨go, hgo⟩ : ∃ W, W = gk := ⟨gk, rfl⟩
    subst hgo
    cases n with
    | zero => exact absurd HD.out (by simp [dlL])
    | succ n =>
      have H := HD.out
      clear HD
      unfold dlL at H
      obtain ⟨tn, htn, H⟩ := Option.bind_eq_some_iff.mp H
      obtain ⟨ts, hts, H⟩ := Option.bind_eq_some_iff.mp H
      obtain ⟨hs, hhs, H⟩ := Option.bind_eq_some_iff.mp H
      by_cases hlen : out.length < 5000000000000
      case neg => rw [if_neg hlen] at H; cases H
      rw [if_pos hlen] at H
      obtain ⟨htl, htg⟩ := mapO_get hts
      obtain ⟨hhl, hhg⟩ := mapO_get hhs
      have HTN := Aside0.mk htn
      have HTG := Aside0.mk htg
      have HTL := Aside0.mk htl
      have HHG := Aside0.mk hhg
      have HHL := Aside0.mk hhl
      have HLEN := Aside0.mk hlen
      have HH := Aside0.mk H
      clear htn htg htl hhg hhl hlen H hts hhs
      obtain ⟨A3, c3, e3, hc3, hC3⟩ := Kd.R_reads HO.out
      subst e3
      obtain ⟨A4, c4, e4, hc4, hC4⟩ := Kd.R_reads HW.out
      subst e4
      have HC3 := Aside0.mk hC3
      have HCC4 := Aside0.mk hc4
      clear hC3 hc4 hC4 hc3
      go_wp2
      go_loopg [5, 15] out.length (fun gg v5 v15 w' => ∃ kk : Nat, v15 = .int .i64 kk ∧ v5 = .bool ((ts.take kk).any (fun t => t.toList == tn.toList)) ∧ Aside0 (kk ≤ out.length) ∧ Aside0 (out.length - kk ≤ gg) ∧ Aside0 (Below wo.heap.size wo w'))
      case atStart => exact ⟨0, rfl, by simp, ⟨Nat.zero_le _⟩, ⟨by omega⟩, ⟨by repeat (first | exact Below.refl _ _ | apply below_alloc | apply pw_below_drewN | apply below_drew1)⟩⟩
      case round =>
        obtain ⟨kk, rfl, rfl, HK, HG, HBI⟩ := hrel
        by_cases hlt : kk < out.length
        · have hltz : (kk : Int) < (out.length : Int) := by omega
          have hkt : kk < ts.length := by have := HTL.out; omega
          obtain ⟨ad, A5, c5, e1, hcell, hc5, hC5⟩ := at_row (Kd.C_below HC3.out HBI.out) kk hlt
          subst e1
          have htx := HTG.out kk hlt hkt
          have hnext : (ts.take (kk + 1)).any (fun t => t.toList == tn.toList) = ((ts.take kk).any (fun t => t.toList == tn.toList) || (ts[kk].toList == tn.toList)) := by
            rw [List.take_succ_eq_append_getElem hkt, List.any_append]; simp
          obtain ⟨b, hb⟩ : ∃ b, (ts[kk].toList == tn.toList) = b := ⟨_, rfl⟩
          rw [hb] at hnext
          generalize out[kk] = li at htx hcell hc5 hC5
          generalize ts[kk] = tk at htx hb
          have HTX := Aside0.mk htx
          have HC5 := Aside0.mk hC5
          have HCC5 := Aside0.mk hc5
          have HNX := Aside0.mk hnext
          have HLT := Aside0.mk hlt
          clear htx hC5 hc5 hnext hkt
          generalize (ts.take kk).any (fun t => t.toList == tn.toList) = ag at HNX ⊢
          cases ag with
          | true =>
            go_wp2
            go_roundg (out.length - (kk + 1))
            case measure => have := HLT.out; have := HG.out; omega
            case rel => exact ⟨kk + 1, by have h1_ := HLT.out; have h2_ := HLEN.out; first | (congr 1; unfold wrap64; omega) | go_num, by rw [HNX.out]; rfl, ⟨HLT.out⟩, ⟨by have := HG.out; omega⟩, HBI⟩
          | false =>
            have hnow := fun (W : World) (hW : Below wo.heap.size wo W) => spec_wdText.calls k A4 c4 now tn W (Kd.R_reads' (Kd.R_below HW.out hW)).2.2 HCC4.out HTN.out
            have HNOW := Aside0.mk hnow
            clear hnow
            have HBB := Aside0.mk hb
            clear hb
            cases b with
            | true =>
              have hcmp := HBB.out
              go_wp2_with fail
              go_at_call 49
              refine (spec_wdText.calls k A5 c5 li tk _ HC5.out HCC5.out HTX.out).mono ?_
              rintro e w5 ⟨rfl, hd5⟩
              have HB5 := Aside0.mk (HBI.out.trans (hd5.below.mono HBI.out.size))
              clear hd5
              go_wp2_with (go_at_call 49; refine (HNOW.out _ HB5.out).mono ?_; rintro e w6 ⟨rfl, hd6⟩; have HB6 := Aside0.mk (HB5.out.trans (hd6.below.mono HB5.out.size)); clear hd6)
              go_roundg (out.length - (kk + 1))
              case measure => have := HLT.out; have := HG.out; omega
              case rel => exact ⟨kk + 1, by have h1_ := HLT.out; have h2_ := HLEN.out; first | (congr 1; unfold wrap64; omega) | go_num, by rw [HNX.out]; rfl, ⟨HLT.out⟩, ⟨by have := HG.out; omega⟩, HB6⟩
            | false =>
              have hcmp := HBB.out
              go_wp2_with fail
              go_at_call 49
              refine (spec_wdText.calls k A5 c5 li tk _ HC5.out HCC5.out HTX.out).mono ?_
              rintro e w5 ⟨rfl, hd5⟩
              have HB5 := Aside0.mk (HBI.out.trans (hd5.below.mono HBI.out.size))
              clear hd5
              go_wp2_with (go_at_call 49; refine (HNOW.out _ HB5.out).mono ?_; rintro e w6 ⟨rfl, hd6⟩; have HB6 := Aside0.mk (HB5.out.trans (hd6.below.mono HB5.out.size)); clear hd6)
              go_roundg (out.length - (kk + 1))
              case measure => have := HLT.out; have := HG.out; omega
              case rel => exact ⟨kk + 1, by have h1_ := HLT.out; have h2_ := HLEN.out; first | (congr 1; unfold wrap64; omega) | go_num, by rw [HNX.out]; rfl, ⟨HLT.out⟩, ⟨by have := HG.out; omega⟩, HB6⟩
        · have hltz : ¬ (kk : Int) < (out.length : Int) := by omega
          have hkk := HK.out
          have htl := HTL.out
          obtain rfl : kk = out.length := by omega
          rw [List.take_of_length_le (by omega)]
          obtain ⟨ag, hag⟩ : ∃ ag, ts.any (fun t => t.toList == tn.toList) = ag := ⟨_, rfl⟩
          have HH' := HH.out
          rw [hag] at HH' ⊢
          clear hkk htl hag HK HG
          have HOI := Aside0.mk (Kd.R_below HO.out HBI.out)
          have HWI := Aside0.mk (Kd.R_apartR (Kd.R_below HW.out HBI.out) HOI.out (by decide))
          have HBW := Aside0.mk (HB.out.trans (HBI.out.mono HB.out.size))
          have HH := Aside0.mk HH'
          clear HH'
          go_wp2_with ((with_reducible refine gate_builtin (b := .append) (xs := #[.tmp 28, .tmp 30]) rfl ?_); at_builtin; refine Kd.R_append (Kd.slice 9 Kd.string) (w0 := w) w.heap.size rfl (.tmp 28) (.tmp 30) 28 22 (.slice none 0 0) 24 rfl Tryz.underlying28 infoRow rfl (by decide) (by omega) (.slice A3 out.length c3) out now [.slice A4 now.length c4] (fun _ => True) _ rfl rfl ⟨_, rfl, HWI.out⟩ (fun _ hk => hk) (fun _ _ => trivial) HOI.out HBW.out HBW.out.size (by have := HLEN.out; omega) ?_; intro v31 w7 ho7 hb7 hg7 hat7; have HO7 := Aside0.mk ho7; have HB7 := Aside0.mk hb7; have HW7 := Aside0.mk (Kd.R_grown HWI.out hg7 (fun k hk => hk.2)); clear ho7 hb7 hg7 hat7)
          obtain ⟨wm, hwm⟩ : ∃ W, W = w7 := ⟨w7, rfl⟩
          subst hwm
          have HC7 := Aside0.mk (Kd.R_reads' HW7.out).2.2
          go_loopg [5, 34] now.length (fun gg v5 v34 w' => ∃ kk : Nat, v34 = .int .i64 kk ∧ v5 = .bool (ag || (hs.take kk).any id) ∧ Aside0 (kk ≤ now.length) ∧ Aside0 (now.length - kk ≤ gg) ∧ Aside0 (Below wm.heap.size wm w'))
          case atStart => exact ⟨0, rfl, by simp, ⟨Nat.zero_le _⟩, ⟨by omega⟩, ⟨by repeat (first | exact Below.refl _ _ | apply below_alloc | apply pw_below_drewN | apply below_drew1)⟩⟩
          case round =>
            clear HOI HWI HBW HBI hltz
            obtain ⟨kk, rfl, rfl, HK, HG, HBI⟩ := hrel
            by_cases hlt : kk < now.length
            · have hltz : (kk : Int) < (now.length : Int) := by omega
              have hkt : kk < hs.length := by have := HHL.out; omega
              obtain ⟨ad, e1, hcell⟩ := Kd.at_string (Kd.C_below HC7.out HBI.out) kk (by omega) hltz
              have hrd : rdOf ByteArray.empty now (kk : Int) = now[kk] := by simp [rdOf, List.getD_eq_getElem?_getD, hlt]
              rw [hrd] at hcell
              clear hrd
              simp only [Int.toNat_natCast] at hcell
              subst e1
              have htx := HHG.out kk hlt hkt
              have hnext : (ag || (hs.take (kk + 1)).any id) = ((ag || (hs.take kk).any id) || hs[kk]) := by
                rw [List.take_succ_eq_append_getElem hkt, List.any_append]; simp [Bool.or_assoc]
              generalize now[kk] = x at htx hcell
              generalize hs[kk] = b at htx hnext
              have HTX := Aside0.mk htx
              have HNX := Aside0.mk hnext
              have HLT := Aside0.mk hlt
              have HMAX := Aside0.mk HC7.out.2.1
              clear htx hnext hkt
              generalize (ag || (hs.take kk).any id) = a2 at HNX ⊢
              cases a2 with
              | true =>
                go_wp2
                go_roundg (now.length - (kk + 1))
                case measure => have := HLT.out; have := HG.out; omega
                case rel => exact ⟨kk + 1, by have h1_ := HLT.out; have h2_ := HMAX.out; first | (congr 1; unfold wrap64; omega) | go_num, by rw [HNX.out]; rfl, ⟨HLT.out⟩, ⟨by have := HG.out; omega⟩, HBI⟩
              | false =>
                go_wp2_with (go_at_call 35; refine (spec_wdHas.calls k A0 c0 l0 x b _ (Kd.C_below HR0.out (HB7.out.trans (HBI.out.mono HB7.out.size))) HC0.out HTX.out).mono ?_; rintro e w6 ⟨rfl, hd6⟩; have HB6 := Aside0.mk (HBI.out.trans (hd6.below.mono HBI.out.size)); clear hd6)
                go_roundg (now.length - (kk + 1))
                case measure => have := HLT.out; have := HG.out; omega
                case rel => exact ⟨kk + 1, by have h1_ := HLT.out; have h2_ := HMAX.out; first | (congr 1; unfold wrap64; omega) | go_num, by rw [HNX.out]; rfl, ⟨HLT.out⟩, ⟨by have := HG.out; omega⟩, HB6⟩
            · have hltz : ¬ (kk : Int) < (now.length : Int) := by omega
              have hkk := HK.out
              have htl := HHL.out
              obtain rfl : kk = now.length := by omega
              rw [List.take_of_length_le (by omega)]
              have HH' := HH.out
              have HOF := Aside0.mk (Kd.R_below HO7.out HBI.out)
              have HWF := Aside0.mk (Kd.R_drop (Kd.R_below HW7.out HBI.out))
              have HBF := Aside0.mk (HB7.out.trans (HBI.out.mono HB7.out.size))
              clear hkk htl HK HG
              generalize (ag || hs.any id) = a2 at HH' ⊢
              cases a2 with
              | true =>
                have hr := Option.some.inj ((if_pos (by rfl)).symm.trans HH')
                have HRR := Aside0.mk hr
                clear hr HH'
                go_wp2
                go_ret
                rw [← HRR.out]
                exact ⟨_, rfl, HOF.out, HBF.out⟩
              | false =>
                by_cases hemp : now = []
                · subst hemp
                  have hr := Option.some.inj ((if_pos (by rfl)).symm.trans HH')
                  have HRR := Aside0.mk hr
                  clear hr HH'
                  go_wp2
                  go_ret
                  rw [← HRR.out]
                  exact ⟨_, rfl, HOF.out, HBF.out⟩
                · have hie : now.isEmpty = false := by cases now with
                    | nil => exact absurd rfl hemp
                    | cons y l => rfl
                  rw [hie] at HH'
                  obtain ⟨nx, hnx, hrest⟩ := Option.bind_eq_some_iff.mp ((if_neg (by simp)).symm.trans HH')
                  have hpos : now.length ≠ 0 := fun e => hemp (List.length_eq_zero_iff.1 e)
                  have d0 : decide ((now.length : Int) = 0) = false := decide_eq_false (by omega)
                  have d1 : ((now.length : Int) == 0) = false := by rw [beq_eq_false_iff_ne]; omega
                  have d2 : ¬ ((now.length : Int) = 0) := by omega
                  have d3 := eq_false hpos
                  have HNXT := Aside0.mk hnx
                  have HREST := Aside0.mk hrest
                  clear hnx hrest HH' hie hemp hpos
                  go_wp2_with (go_at_call 50; refine (spec_dcNext.calls k A0 c0 l0 A4 c4 now nx _ (Kd.C_below HR0.out HBF.out) HC0.out (Kd.R_reads' HWF.out).2.2 HCC4.out HNXT.out).mono ?_; rintro e w8 ⟨v8, rfl, hR8, hb8⟩; have HB8 := Aside0.mk (HBF.out.trans (hb8.mono HBF.out.size)); have HR8 := Aside0.mk (Kd.R_lower hR8 HBF.out.size); have HO8 := Aside0.mk (Kd.R_below HOF.out hb8); clear hR8 hb8)
                  go_roundg n
                  case measure => have := HN.out; omega
                  case rel => exact ⟨n, out ++ [now], nx, ⟨Nat.le_refl _⟩, HREST, HO8, HR8, HB8⟩

end Go.Proofs.YtidjjcgfdkmefaaGreatDoor.X

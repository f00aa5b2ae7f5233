-- WRITTEN by xprint.py of this repo: the kit's print.py with contracts given by hand (given.py). Lean checks it.
import Derived.Test.YtnfpcgjdpcmkcaaXx0
import Derived.Test.YtnfpcgjdpcmkcaaXx5
namespace Go.Proofs.Ytnfpcgjdpcmkcaa.X
open Go.RowKit Go.Proofs.YtnfpcgjdpcmkcaaW.PrintWords Go.Proofs.YtnfpcgjdpcmkcaaW.PrintLast Go.Proofs.YtnfpcgjdpcmkcaaW.PrintMore
attribute [local go_sem] max2_int min2_int max_two min_two max_three min_three max_four min_four   -- for this text's walks alone
set_option linter.unusedVariables false
set_option linter.unusedSimpArgs false

/-! ### impl_firstInside: function 61 -/
mutual
def impl_firstInside.l0 : Nat → List ByteArray → List ByteArray → Int → Int → Option (List Int)
  | 0, _, _, _, _ => none
  | k + 1, x0, x11, x12, x13 => if x13 < x12 then (if 0 ≤ x13 then (if x13 < (x11.length : Int) then (impl_firstInside.l1 k x0 x13 (rdOf ByteArray.empty x11 x13) x11 x12 x13 x0 (x0.length : Int) 0) else (none)) else (none)) else (some ([] : List Int))
def impl_firstInside.l1 : Nat → List ByteArray → Int → ByteArray → List ByteArray → Int → Int → List ByteArray → Int → Int → Option (List Int)
  | 0, _, _, _, _, _, _, _, _, _ => none
  | k + 1, x0, x3, x4, x11, x12, x13, x18, x19, x20 => if x20 < x19 then (if 0 ≤ x20 then (if x20 < (x18.length : Int) then (if x4.size + (rdOf ByteArray.empty x18 x20).size ≤ 9223372036854775807 then (impl_firstInside.l2 k x0 x3 x4 x20 (x4 ++ (rdOf ByteArray.empty x18 x20)) x11 x12 x13 x18 x19 x20 x0 (x0.length : Int) 0) else (none)) else (none)) else (none)) else (impl_firstInside.l0 k x0 x11 x12 (wrap64 (x13 + 1)))
def impl_firstInside.l2 : Nat → List ByteArray → Int → ByteArray → Int → ByteArray → List ByteArray → Int → Int → List ByteArray → Int → Int → List ByteArray → Int → Int → Option (List Int)
  | 0, _, _, _, _, _, _, _, _, _, _, _, _, _, _ => none
  | k + 1, x0, x3, x4, x5, x7, x11, x12, x13, x18, x19, x20, x28, x29, x30 => if x30 < x29 then (if 0 ≤ x30 then (if x30 < (x28.length : Int) then (impl_firstInside.l3 k x0 x3 x4 x5 x7 x30 (rdOf ByteArray.empty x28 x30) x11 x12 x13 x18 x19 x20 x28 x29 x30 (wrap64 ((wrap64 ((x7.size : Int) - ((rdOf ByteArray.empty x28 x30).size : Int))) + 1)) 0) else (none)) else (none)) else (impl_firstInside.l1 k x0 x3 x4 x11 x12 x13 x18 x19 (wrap64 (x20 + 1)))
def impl_firstInside.l3 : Nat → List ByteArray → Int → ByteArray → Int → ByteArray → Int → ByteArray → List ByteArray → Int → Int → List ByteArray → Int → Int → List ByteArray → Int → Int → Int → Int → Option (List Int)
  | 0, _, _, _, _, _, _, _, _, _, _, _, _, _, _, _, _, _, _ => none
  | k + 1, x0, x3, x4, x5, x7, x8, x9, x11, x12, x13, x18, x19, x20, x28, x29, x30, x40, x41 => if x41 < x40 then (if 0 ≤ x41 then (if x41 ≤ (x7.size : Int) then ((strings_HasPrefix.f (x7.extract (x41 : Int).toNat x7.size) x9).bind fun t140 => (if t140 = true then (if x41 = 0 then (if x8 = x3 then (impl_firstInside.l3 k x0 x3 x4 x5 x7 x8 x9 x11 x12 x13 x18 x19 x20 x28 x29 x30 x40 (wrap64 (x41 + 1))) else (if x41 = (x4.size : Int) then (if x8 = x5 then (impl_firstInside.l3 k x0 x3 x4 x5 x7 x8 x9 x11 x12 x13 x18 x19 x20 x28 x29 x30 x40 (wrap64 (x41 + 1))) else (some (([x3, x5, x8, x41] : List Int)))) else (some (([x3, x5, x8, x41] : List Int))))) else (if x41 = (x4.size : Int) then (if x8 = x5 then (impl_firstInside.l3 k x0 x3 x4 x5 x7 x8 x9 x11 x12 x13 x18 x19 x20 x28 x29 x30 x40 (wrap64 (x41 + 1))) else (some (([x3, x5, x8, x41] : List Int)))) else (some (([x3, x5, x8, x41] : List Int))))) else (impl_firstInside.l3 k x0 x3 x4 x5 x7 x8 x9 x11 x12 x13 x18 x19 x20 x28 x29 x30 x40 (wrap64 (x41 + 1))))) else (none)) else (none)) else (impl_firstInside.l2 k x0 x3 x4 x5 x7 x11 x12 x13 x18 x19 x20 x28 x29 (wrap64 (x30 + 1)))
end
def impl_firstInside.f (k : Nat) (l0 : List ByteArray) : Option (List Int) := impl_firstInside.l0 k l0 l0 (l0.length : Int) 0
theorem impl_firstInside.mono_l : ∀ k, (∀ y0 y1 y2 y3, LeO (impl_firstInside.l0 k y0 y1 y2 y3) (impl_firstInside.l0 (k + 1) y0 y1 y2 y3)) ∧ (∀ y0 y1 y2 y3 y4 y5 y6 y7 y8, LeO (impl_firstInside.l1 k y0 y1 y2 y3 y4 y5 y6 y7 y8) (impl_firstInside.l1 (k + 1) y0 y1 y2 y3 y4 y5 y6 y7 y8)) ∧ (∀ y0 y1 y2 y3 y4 y5 y6 y7 y8 y9 y10 y11 y12 y13, LeO (impl_firstInside.l2 k y0 y1 y2 y3 y4 y5 y6 y7 y8 y9 y10 y11 y12 y13) (impl_firstInside.l2 (k + 1) y0 y1 y2 y3 y4 y5 y6 y7 y8 y9 y10 y11 y12 y13)) ∧ (∀ y0 y1 y2 y3 y4 y5 y6 y7 y8 y9 y10 y11 y12 y13 y14 y15 y16 y17, LeO (impl_firstInside.l3 k y0 y1 y2 y3 y4 y5 y6 y7 y8 y9 y10 y11 y12 y13 y14 y15 y16 y17) (impl_firstInside.l3 (k + 1) y0 y1 y2 y3 y4 y5 y6 y7 y8 y9 y10 y11 y12 y13 y14 y15 y16 y17))
  | 0 => ⟨fun _ _ _ _ r h => by simp [impl_firstInside.l0] at h, fun _ _ _ _ _ _ _ _ _ r h => by simp [impl_firstInside.l1] at h, fun _ _ _ _ _ _ _ _ _ _ _ _ _ _ r h => by simp [impl_firstInside.l2] at h, fun _ _ _ _ _ _ _ _ _ _ _ _ _ _ _ _ _ _ r h => by simp [impl_firstInside.l3] at h⟩
  | k + 1 => by
    obtain ⟨ih0, ih1, ih2, ih3⟩ := impl_firstInside.mono_l k
    refine ⟨?_, ?_, ?_, ?_⟩
    · intro y0 y1 y2 y3
      unfold impl_firstInside.l0
      repeat' first
      | (with_reducible exact ih0 _ _ _ _)
      | (with_reducible exact ih1 _ _ _ _ _ _ _ _ _)
      | (with_reducible exact ih2 _ _ _ _ _ _ _ _ _ _ _ _ _ _)
      | (with_reducible exact ih3 _ _ _ _ _ _ _ _ _ _ _ _ _ _ _ _ _ _)
      | (with_reducible exact LeO.refl _)
      | (with_reducible exact LeO.none _)
      | (with_reducible refine LeO.ite ?_ ?_)
      | (with_reducible refine LeO.bind ?_ (fun _ => ?_))
      | exact ih0 _ _ _ _
      | exact ih1 _ _ _ _ _ _ _ _ _
      | exact ih2 _ _ _ _ _ _ _ _ _ _ _ _ _ _
      | exact ih3 _ _ _ _ _ _ _ _ _ _ _ _ _ _ _ _ _ _
      | exact LeO.none _
      | refine LeO.ite ?_ ?_
      | refine LeO.bind ?_ (fun _ => ?_)
    · intro y0 y1 y2 y3 y4 y5 y6 y7 y8
      unfold impl_firstInside.l1
      repeat' first
      | (with_reducible exact ih0 _ _ _ _)
      | (with_reducible exact ih1 _ _ _ _ _ _ _ _ _)
      | (with_reducible exact ih2 _ _ _ _ _ _ _ _ _ _ _ _ _ _)
      | (with_reducible exact ih3 _ _ _ _ _ _ _ _ _ _ _ _ _ _ _ _ _ _)
      | (with_reducible exact LeO.refl _)
      | (with_reducible exact LeO.none _)
      | (with_reducible refine LeO.ite ?_ ?_)
      | (with_reducible refine LeO.bind ?_ (fun _ => ?_))
      | exact ih0 _ _ _ _
      | exact ih1 _ _ _ _ _ _ _ _ _
      | exact ih2 _ _ _ _ _ _ _ _ _ _ _ _ _ _
      | exact ih3 _ _ _ _ _ _ _ _ _ _ _ _ _ _ _ _ _ _
      | exact LeO.none _
      | refine LeO.ite ?_ ?_
      | refine LeO.bind ?_ (fun _ => ?_)
    · intro y0 y1 y2 y3 y4 y5 y6 y7 y8 y9 y10 y11 y12 y13
      unfold impl_firstInside.l2
      repeat' first
      | (with_reducible exact ih0 _ _ _ _)
      | (with_reducible exact ih1 _ _ _ _ _ _ _ _ _)
      | (with_reducible exact ih2 _ _ _ _ _ _ _ _ _ _ _ _ _ _)
      | (with_reducible exact ih3 _ _ _ _ _ _ _ _ _ _ _ _ _ _ _ _ _ _)
      | (with_reducible exact LeO.refl _)
      | (with_reducible exact LeO.none _)
      | (with_reducible refine LeO.ite ?_ ?_)
      | (with_reducible refine LeO.bind ?_ (fun _ => ?_))
      | exact ih0 _ _ _ _
      | exact ih1 _ _ _ _ _ _ _ _ _
      | exact ih2 _ _ _ _ _ _ _ _ _ _ _ _ _ _
      | exact ih3 _ _ _ _ _ _ _ _ _ _ _ _ _ _ _ _ _ _
      | exact LeO.none _
      | refine LeO.ite ?_ ?_
      | refine LeO.bind ?_ (fun _ => ?_)
    · intro y0 y1 y2 y3 y4 y5 y6 y7 y8 y9 y10 y11 y12 y13 y14 y15 y16 y17
      unfold impl_firstInside.l3
      repeat' first
      | (with_reducible exact ih0 _ _ _ _)
      | (with_reducible exact ih1 _ _ _ _ _ _ _ _ _)
      | (with_reducible exact ih2 _ _ _ _ _ _ _ _ _ _ _ _ _ _)
      | (with_reducible exact ih3 _ _ _ _ _ _ _ _ _ _ _ _ _ _ _ _ _ _)
      | (with_reducible exact LeO.refl _)
      | (with_reducible exact LeO.none _)
      | (with_reducible refine LeO.ite ?_ ?_)
      | (with_reducible refine LeO.bind ?_ (fun _ => ?_))
      | exact ih0 _ _ _ _
      | exact ih1 _ _ _ _ _ _ _ _ _
      | exact ih2 _ _ _ _ _ _ _ _ _ _ _ _ _ _
      | exact ih3 _ _ _ _ _ _ _ _ _ _ _ _ _ _ _ _ _ _
      | exact LeO.none _
      | refine LeO.ite ?_ ?_
      | refine LeO.bind ?_ (fun _ => ?_)
theorem impl_firstInside.mono : ∀ a0 k, LeO (impl_firstInside.f k a0) (impl_firstInside.f (k + 1) a0) := by
  intro a0 k
  obtain ⟨ih0, ih1, ih2, ih3⟩ := impl_firstInside.mono_l k
  unfold impl_firstInside.f
  repeat' first
      | (with_reducible exact ih0 _ _ _ _)
      | (with_reducible exact ih1 _ _ _ _ _ _ _ _ _)
      | (with_reducible exact ih2 _ _ _ _ _ _ _ _ _ _ _ _ _ _)
      | (with_reducible exact ih3 _ _ _ _ _ _ _ _ _ _ _ _ _ _ _ _ _ _)
      | (with_reducible exact LeO.refl _)
      | (with_reducible exact LeO.none _)
      | (with_reducible refine LeO.ite ?_ ?_)
      | (with_reducible refine LeO.bind ?_ (fun _ => ?_))
      | exact ih0 _ _ _ _
      | exact ih1 _ _ _ _ _ _ _ _ _
      | exact ih2 _ _ _ _ _ _ _ _ _ _ _ _ _ _
      | exact ih3 _ _ _ _ _ _ _ _ _ _ _ _ _ _ _ _ _ _
      | exact LeO.none _
      | refine LeO.ite ?_ ?_
      | refine LeO.bind ?_ (fun _ => ?_)
set_option maxHeartbeats 8000000 in
set_option maxRecDepth 100000 in
theorem impl_firstInside.calls (k : Nat) (A0 : Option Addr) (c0 : Nat) (l0 : List ByteArray) (r : List Int) (w : World) (hr0 : Kd.C Kd.string w A0 l0.length l0) (hc0 : l0.length ≤ c0) (h : impl_firstInside.f k l0 = some r) :
    Calls Try.prog 61 #[.slice A0 l0.length c0] w fun e w' => ∃ v0_ : Value, e = .returned (v0_) ∧ Kd.R (Kd.int .i64) 3 w' w.heap.size (fun _ => True) v0_ r ∧ Below w.heap.size w w' ∧ (r = [] → v0_ = .slice none 0 0) := by
  have HR0 := Aside0.mk hr0
  have HC0 := Aside0.mk hc0
  clear hr0 hc0
  have HB := Aside0.mk (Below.refl w.heap.size w)
  have H : (impl_firstInside.l0 k l0 l0 (l0.length : Int) 0) = some r := h
  clear h
  have H' := Aside0.mk H
  clear H
  go_enter Try.func61, Try.ntmps61
  go_wp2
  go_loopg [13] k (fun kq v13 w' => ∃ (x13_1 : Int), v13 = .int .i64 x13_1 ∧ Aside0 (impl_firstInside.l0 kq l0 l0 (l0.length : Int) x13_1 = some r) ∧ Aside0 (kq ≤ k) ∧ Aside0 (Below w.heap.size w w'))
  case atStart => exact ⟨(0), (by first | rfl | (simp; done) | (simp [*]; done)), H', ⟨Nat.le_refl _⟩, ⟨by repeat (first | (with_reducible first | exact HB.out | apply below_alloc | apply pw_below_drewN | apply below_drew1) | exact HB.out)⟩⟩
  case round =>
    clear H'
    obtain ⟨x13_1, rfl, HA, HK1, HB⟩ := hrel
    cases gk with
    | zero => exact absurd HA.out (by simp [impl_firstInside.l0])
    | succ k1 =>
      have H := HA.out
      clear HA
      simp only [impl_firstInside.l0] at H
      by_cases c2 : x13_1 < (l0.length : Int)
      · rw [if_pos c2] at H
        have c2b0 : decide (x13_1 < (l0.length : Int)) = true := decide_eq_true c2
        clear c2
        by_cases c3 : 0 ≤ x13_1
        · rw [if_pos c3] at H
          have c3b0 : decide (0 ≤ x13_1) = true := decide_eq_true c3
          clear c3
          by_cases c4 : x13_1 < (l0.length : Int)
          · rw [if_pos c4] at H
            have c4b0 : decide (x13_1 < (l0.length : Int)) = true := decide_eq_true c4
            clear c4
            have H' := Aside0.mk H
            clear H
            have p137 : 0 ≤ (x13_1 : Int) := of_decide_eq_true (by first | (with_reducible assumption) | assumption)
            have q137 : x13_1 < (l0.length : Int) := of_decide_eq_true (by first | (with_reducible assumption) | assumption)
            obtain ⟨ad137, e137, hx137_0⟩ := Kd.at_string HR0.out x13_1 p137 q137
            cases e137
            replace hx137_0 := (HB.out.cell (World.block_lt_of_cell? w _ hx137_0)).trans hx137_0
            replace p137 := eq_true p137
            replace q137 := eq_true q137
            go_wp2
            go_loopg [20] k1 (fun kq v20 w' => ∃ (x20_2 : Int), v20 = .int .i64 x20_2 ∧ Aside0 (impl_firstInside.l1 kq l0 x13_1 (rdOf ByteArray.empty l0 x13_1) l0 (l0.length : Int) x13_1 l0 (l0.length : Int) x20_2 = some r) ∧ Aside0 (kq ≤ k1) ∧ Aside0 (Below w.heap.size w w'))
            case atStart => exact ⟨(0), (by first | rfl | (simp; done) | (simp [*]; done)), H', ⟨Nat.le_refl _⟩, ⟨by repeat (first | (with_reducible first | exact HB.out | apply below_alloc | apply pw_below_drewN | apply below_drew1) | exact HB.out)⟩⟩
            case round =>
              clear H'
              try clear p1
              try clear q1
              try clear hx1
              try clear c2
              try clear c2b0
              try clear p2
              try clear c3
              try clear c3b0
              try clear c4
              try clear c4b0
              try clear hx137_0
              try clear p137
              try clear q137
              obtain ⟨x20_2, rfl, HA, HK2, HB⟩ := hrel
              cases gk with
              | zero => exact absurd HA.out (by simp [impl_firstInside.l1])
              | succ k2 =>
                have H := HA.out
                clear HA
                simp only [impl_firstInside.l1] at H
                by_cases c5 : x20_2 < (l0.length : Int)
                · rw [if_pos c5] at H
                  have c5b0 : decide (x20_2 < (l0.length : Int)) = true := decide_eq_true c5
                  clear c5
                  by_cases c6 : 0 ≤ x20_2
                  · rw [if_pos c6] at H
                    have c6b0 : decide (0 ≤ x20_2) = true := decide_eq_true c6
                    clear c6
                    by_cases c7 : x20_2 < (l0.length : Int)
                    · rw [if_pos c7] at H
                      have c7b0 : decide (x20_2 < (l0.length : Int)) = true := decide_eq_true c7
                      clear c7
                      by_cases c8 : (rdOf ByteArray.empty l0 x13_1).size + (rdOf ByteArray.empty l0 x20_2).size ≤ 9223372036854775807
                      · rw [if_pos c8] at H
                        have c8b0 := eq_true c8
                        have c8b1 : decide ((rdOf ByteArray.empty l0 x13_1).size + (rdOf ByteArray.empty l0 x20_2).size ≤ 9223372036854775807) = true := decide_eq_true c8
                        try have c8b2 : (9223372036854775807 < (rdOf ByteArray.empty l0 x13_1).size + (rdOf ByteArray.empty l0 x20_2).size) = False := eq_false (Nat.not_lt.2 c8)
                        have H' := Aside0.mk H
                        clear H
                        have p138 : 0 ≤ (x20_2 : Int) := of_decide_eq_true (by first | (with_reducible assumption) | assumption)
                        have q138 : x20_2 < (l0.length : Int) := of_decide_eq_true (by first | (with_reducible assumption) | assumption)
                        obtain ⟨ad138, e138, hx138_0⟩ := Kd.at_string HR0.out x20_2 p138 q138
                        obtain rfl : ad137 = ad138 := (by injection e138)
                        replace hx138_0 := (HB.out.cell (World.block_lt_of_cell? w _ hx138_0)).trans hx138_0
                        replace p138 := eq_true p138
                        replace q138 := eq_true q138
                        go_wp2
                        go_loopg [30] k2 (fun kq v30 w' => ∃ (x30_3 : Int), v30 = .int .i64 x30_3 ∧ Aside0 (impl_firstInside.l2 kq l0 x13_1 (rdOf ByteArray.empty l0 x13_1) x20_2 ((rdOf ByteArray.empty l0 x13_1) ++ (rdOf ByteArray.empty l0 x20_2)) l0 (l0.length : Int) x13_1 l0 (l0.length : Int) x20_2 l0 (l0.length : Int) x30_3 = some r) ∧ Aside0 (kq ≤ k2) ∧ Aside0 (Below w.heap.size w w'))
                        case atStart => exact ⟨(0), (by first | rfl | (simp; done) | (simp [*]; done)), H', ⟨Nat.le_refl _⟩, ⟨by repeat (first | (with_reducible first | exact HB.out | apply below_alloc | apply pw_below_drewN | apply below_drew1) | exact HB.out)⟩⟩
                        case round =>
                          clear H'
                          try clear p1
                          try clear q1
                          try clear hx1
                          try clear c2
                          try clear c2b0
                          try clear p2
                          try clear c3
                          try clear c3b0
                          try clear c4
                          try clear c4b0
                          try clear c5
                          try clear c5b0
                          try clear c6
                          try clear c6b0
                          try clear c7
                          try clear c7b0
                          try clear c8
                          try clear c8b0
                          try clear c8b1
                          try clear c8b2
                          try clear hx137_0
                          try clear hx138_0
                          try clear p1
                          try clear p137
                          try clear p138
                          try clear p2
                          try clear q1
                          try clear q137
                          try clear q138
                          obtain ⟨x30_3, rfl, HA, HK3, HB⟩ := hrel
                          cases gk with
                          | zero => exact absurd HA.out (by simp [impl_firstInside.l2])
                          | succ k3 =>
                            have H := HA.out
                            clear HA
                            simp only [impl_firstInside.l2] at H
                            by_cases c9 : x30_3 < (l0.length : Int)
                            · rw [if_pos c9] at H
                              have c9b0 : decide (x30_3 < (l0.length : Int)) = true := decide_eq_true c9
                              clear c9
                              by_cases c10 : 0 ≤ x30_3
                              · rw [if_pos c10] at H
                                have c10b0 : decide (0 ≤ x30_3) = true := decide_eq_true c10
                                clear c10
                                by_cases c11 : x30_3 < (l0.length : Int)
                                · rw [if_pos c11] at H
                                  have c11b0 : decide (x30_3 < (l0.length : Int)) = true := decide_eq_true c11
                                  clear c11
                                  have H' := Aside0.mk H
                                  clear H
                                  have p139 : 0 ≤ (x30_3 : Int) := of_decide_eq_true (by first | (with_reducible assumption) | assumption)
                                  have q139 : x30_3 < (l0.length : Int) := of_decide_eq_true (by first | (with_reducible assumption) | assumption)
                                  obtain ⟨ad139, e139, hx139_0⟩ := Kd.at_string HR0.out x30_3 p139 q139
                                  obtain rfl : ad137 = ad139 := (by injection e139)
                                  replace hx139_0 := (HB.out.cell (World.block_lt_of_cell? w _ hx139_0)).trans hx139_0
                                  replace p139 := eq_true p139
                                  replace q139 := eq_true q139
                                  go_wp2
                                  go_loopg [41] k3 (fun kq v41 w' => ∃ (x41_4 : Int), v41 = .int .i64 x41_4 ∧ Aside0 (impl_firstInside.l3 kq l0 x13_1 (rdOf ByteArray.empty l0 x13_1) x20_2 ((rdOf ByteArray.empty l0 x13_1) ++ (rdOf ByteArray.empty l0 x20_2)) x30_3 (rdOf ByteArray.empty l0 x30_3) l0 (l0.length : Int) x13_1 l0 (l0.length : Int) x20_2 l0 (l0.length : Int) x30_3 (wrap64 ((wrap64 ((((rdOf ByteArray.empty l0 x13_1) ++ (rdOf ByteArray.empty l0 x20_2)).size : Int) - ((rdOf ByteArray.empty l0 x30_3).size : Int))) + 1)) x41_4 = some r) ∧ Aside0 (kq ≤ k3) ∧ Aside0 (Below w.heap.size w w'))
                                  case atStart => exact ⟨(0), (by first | rfl | (simp; done) | (simp [*]; done)), H', ⟨Nat.le_refl _⟩, ⟨by repeat (first | (with_reducible first | exact HB.out | apply below_alloc | apply pw_below_drewN | apply below_drew1) | exact HB.out)⟩⟩
                                  case round =>
                                    clear H'
                                    try clear c1
                                    try clear p1
                                    try clear q1
                                    try clear hx1
                                    try clear c2
                                    try clear c2b0
                                    try clear p2
                                    try clear c3
                                    try clear c3b0
                                    try clear c4
                                    try clear c4b0
                                    try clear c5
                                    try clear c5b0
                                    try clear c6
                                    try clear c6b0
                                    try clear p6
                                    try clear c7
                                    try clear c7b0
                                    try clear c8
                                    try clear c8b0
                                    try clear c8b1
                                    try clear c8b2
                                    try clear c9
                                    try clear c9b0
                                    try clear c10
                                    try clear c10b0
                                    try clear c11
                                    try clear c11b0
                                    try clear hx137_0
                                    try clear hx138_0
                                    try clear hx139_0
                                    try clear p1
                                    try clear p137
                                    try clear p138
                                    try clear p139
                                    try clear p2
                                    try clear q1
                                    try clear q137
                                    try clear q138
                                    try clear q139
                                    obtain ⟨x41_4, rfl, HA, HK4, HB⟩ := hrel
                                    cases gk with
                                    | zero => exact absurd HA.out (by simp [impl_firstInside.l3])
                                    | succ k4 =>
                                      have H := HA.out
                                      clear HA
                                      simp only [impl_firstInside.l3] at H
                                      by_cases c12 : x41_4 < (wrap64 ((wrap64 ((((rdOf ByteArray.empty l0 x13_1) ++ (rdOf ByteArray.empty l0 x20_2)).size : Int) - ((rdOf ByteArray.empty l0 x30_3).size : Int))) + 1))
                                      · rw [if_pos c12] at H
                                        have c12b0 : decide (x41_4 < (wrap64 ((wrap64 ((((rdOf ByteArray.empty l0 x13_1) ++ (rdOf ByteArray.empty l0 x20_2)).size : Int) - ((rdOf ByteArray.empty l0 x30_3).size : Int))) + 1))) = true := decide_eq_true c12
                                        (try (have c12b0s := c12b0; simp only [ByteArray.size_append, Int.natCast_add] at c12b0s))
                                        clear c12
                                        by_cases c13 : 0 ≤ x41_4
                                        · rw [if_pos c13] at H
                                          have c13b0 := eq_true c13
                                          have c13b1 : decide (0 ≤ x41_4) = true := decide_eq_true c13
                                          clear c13
                                          by_cases c14 : x41_4 ≤ (((rdOf ByteArray.empty l0 x13_1) ++ (rdOf ByteArray.empty l0 x20_2)).size : Int)
                                          · rw [if_pos c14] at H
                                            have c14b0 := eq_true c14
                                            (try (have c14b0s := c14; simp only [ByteArray.size_append, Int.natCast_add] at c14b0s; replace c14b0s := eq_true c14b0s))
                                            have c14b1 : decide (x41_4 ≤ (((rdOf ByteArray.empty l0 x13_1) ++ (rdOf ByteArray.empty l0 x20_2)).size : Int)) = true := decide_eq_true c14
                                            (try (have c14b1s := c14b1; simp only [ByteArray.size_append, Int.natCast_add] at c14b1s))
                                            replace H := Option.bind_eq_some_iff.mp H
                                            obtain ⟨t140, A150, H⟩ := H
                                            replace H : (if t140 = true then (if x41_4 = 0 then (if x30_3 = x13_1 then (impl_firstInside.l3 k4 l0 x13_1 (rdOf ByteArray.empty l0 x13_1) x20_2 ((rdOf ByteArray.empty l0 x13_1) ++ (rdOf ByteArray.empty l0 x20_2)) x30_3 (rdOf ByteArray.empty l0 x30_3) l0 (l0.length : Int) x13_1 l0 (l0.length : Int) x20_2 l0 (l0.length : Int) x30_3 (wrap64 ((wrap64 ((((rdOf ByteArray.empty l0 x13_1) ++ (rdOf ByteArray.empty l0 x20_2)).size : Int) - ((rdOf ByteArray.empty l0 x30_3).size : Int))) + 1)) (wrap64 (x41_4 + 1))) else (if x41_4 = ((rdOf ByteArray.empty l0 x13_1).size : Int) then (if x30_3 = x20_2 then (impl_firstInside.l3 k4 l0 x13_1 (rdOf ByteArray.empty l0 x13_1) x20_2 ((rdOf ByteArray.empty l0 x13_1) ++ (rdOf ByteArray.empty l0 x20_2)) x30_3 (rdOf ByteArray.empty l0 x30_3) l0 (l0.length : Int) x13_1 l0 (l0.length : Int) x20_2 l0 (l0.length : Int) x30_3 (wrap64 ((wrap64 ((((rdOf ByteArray.empty l0 x13_1) ++ (rdOf ByteArray.empty l0 x20_2)).size : Int) - ((rdOf ByteArray.empty l0 x30_3).size : Int))) + 1)) (wrap64 (x41_4 + 1))) else (some (([x13_1, x20_2, x30_3, x41_4] : List Int)))) else (some (([x13_1, x20_2, x30_3, x41_4] : List Int))))) else (if x41_4 = ((rdOf ByteArray.empty l0 x13_1).size : Int) then (if x30_3 = x20_2 then (impl_firstInside.l3 k4 l0 x13_1 (rdOf ByteArray.empty l0 x13_1) x20_2 ((rdOf ByteArray.empty l0 x13_1) ++ (rdOf ByteArray.empty l0 x20_2)) x30_3 (rdOf ByteArray.empty l0 x30_3) l0 (l0.length : Int) x13_1 l0 (l0.length : Int) x20_2 l0 (l0.length : Int) x30_3 (wrap64 ((wrap64 ((((rdOf ByteArray.empty l0 x13_1) ++ (rdOf ByteArray.empty l0 x20_2)).size : Int) - ((rdOf ByteArray.empty l0 x30_3).size : Int))) + 1)) (wrap64 (x41_4 + 1))) else (some (([x13_1, x20_2, x30_3, x41_4] : List Int)))) else (some (([x13_1, x20_2, x30_3, x41_4] : List Int))))) else (impl_firstInside.l3 k4 l0 x13_1 (rdOf ByteArray.empty l0 x13_1) x20_2 ((rdOf ByteArray.empty l0 x13_1) ++ (rdOf ByteArray.empty l0 x20_2)) x30_3 (rdOf ByteArray.empty l0 x30_3) l0 (l0.length : Int) x13_1 l0 (l0.length : Int) x20_2 l0 (l0.length : Int) x30_3 (wrap64 ((wrap64 ((((rdOf ByteArray.empty l0 x13_1) ++ (rdOf ByteArray.empty l0 x20_2)).size : Int) - ((rdOf ByteArray.empty l0 x30_3).size : Int))) + 1)) (wrap64 (x41_4 + 1)))) = some r := H
                                            have A15 := Aside0.mk A150
                                            clear A150
                                            by_cases c16 : t140 = true
                                            · subst c16
                                              have H1 : (if x41_4 = 0 then (if x30_3 = x13_1 then (impl_firstInside.l3 k4 l0 x13_1 (rdOf ByteArray.empty l0 x13_1) x20_2 ((rdOf ByteArray.empty l0 x13_1) ++ (rdOf ByteArray.empty l0 x20_2)) x30_3 (rdOf ByteArray.empty l0 x30_3) l0 (l0.length : Int) x13_1 l0 (l0.length : Int) x20_2 l0 (l0.length : Int) x30_3 (wrap64 ((wrap64 ((((rdOf ByteArray.empty l0 x13_1) ++ (rdOf ByteArray.empty l0 x20_2)).size : Int) - ((rdOf ByteArray.empty l0 x30_3).size : Int))) + 1)) (wrap64 (x41_4 + 1))) else (if x41_4 = ((rdOf ByteArray.empty l0 x13_1).size : Int) then (if x30_3 = x20_2 then (impl_firstInside.l3 k4 l0 x13_1 (rdOf ByteArray.empty l0 x13_1) x20_2 ((rdOf ByteArray.empty l0 x13_1) ++ (rdOf ByteArray.empty l0 x20_2)) x30_3 (rdOf ByteArray.empty l0 x30_3) l0 (l0.length : Int) x13_1 l0 (l0.length : Int) x20_2 l0 (l0.length : Int) x30_3 (wrap64 ((wrap64 ((((rdOf ByteArray.empty l0 x13_1) ++ (rdOf ByteArray.empty l0 x20_2)).size : Int) - ((rdOf ByteArray.empty l0 x30_3).size : Int))) + 1)) (wrap64 (x41_4 + 1))) else (some (([x13_1, x20_2, x30_3, x41_4] : List Int)))) else (some (([x13_1, x20_2, x30_3, x41_4] : List Int))))) else (if x41_4 = ((rdOf ByteArray.empty l0 x13_1).size : Int) then (if x30_3 = x20_2 then (impl_firstInside.l3 k4 l0 x13_1 (rdOf ByteArray.empty l0 x13_1) x20_2 ((rdOf ByteArray.empty l0 x13_1) ++ (rdOf ByteArray.empty l0 x20_2)) x30_3 (rdOf ByteArray.empty l0 x30_3) l0 (l0.length : Int) x13_1 l0 (l0.length : Int) x20_2 l0 (l0.length : Int) x30_3 (wrap64 ((wrap64 ((((rdOf ByteArray.empty l0 x13_1) ++ (rdOf ByteArray.empty l0 x20_2)).size : Int) - ((rdOf ByteArray.empty l0 x30_3).size : Int))) + 1)) (wrap64 (x41_4 + 1))) else (some (([x13_1, x20_2, x30_3, x41_4] : List Int)))) else (some (([x13_1, x20_2, x30_3, x41_4] : List Int))))) = some r := by rw [if_pos rfl] at H; exact H
                                              clear H
                                              have H := H1
                                              clear H1
                                              by_cases c17 : x41_4 = 0
                                              · rw [if_pos c17] at H
                                                have c17b0 : (x41_4 == 0) = true := beq_iff_eq.mpr c17
                                                have c17b1 : (x41_4 != 0) = false := bne_eq_false_iff_eq.mpr c17
                                                clear c17
                                                by_cases c18 : x30_3 = x13_1
                                                · rw [if_pos c18] at H
                                                  have c18b0 : (x30_3 == x13_1) = true := beq_iff_eq.mpr c18
                                                  have c18b1 : (x30_3 != x13_1) = false := bne_eq_false_iff_eq.mpr c18
                                                  clear c18
                                                  have H' := Aside0.mk H
                                                  clear H
                                                  go_wp2_with (first | ((with_reducible refine gate_callee (f := 76) rfl ?_); refine goesL_ (some 48) rfl rfl Try.func76 (by kernel_rfl) rfl #[.string (((rdOf ByteArray.empty l0 x13_1) ++ (rdOf ByteArray.empty l0 x20_2)).extract (x41_4 : Int).toNat ((rdOf ByteArray.empty l0 x13_1).size + (rdOf ByteArray.empty l0 x20_2).size)), .string (rdOf ByteArray.empty l0 x30_3)] rfl (by (try simp only [List.map_toArray, List.map_cons, List.map_nil]); first | done | rfl | (simp only [List.length_drop, List.length_take]; rfl)) ?_; (with_reducible refine (strings_HasPrefix.calls (((rdOf ByteArray.empty l0 x13_1) ++ (rdOf ByteArray.empty l0 x20_2)).extract (x41_4 : Int).toNat ((rdOf ByteArray.empty l0 x13_1).size + (rdOf ByteArray.empty l0 x20_2).size)) (rdOf ByteArray.empty l0 x30_3) true _ (by first | exact A15.out | (have hA_ := A15.out; rw [ByteArray.size_append] at hA_; exact hA_))).mono ?_); rintro e w' ⟨rfl, ⟨nd, rfl⟩⟩; refine ⟨_, rfl, ?_⟩))
                                                  go_roundg k4
                                                  case measure => have := HK1.out; have := HK2.out; have := HK3.out; have := HK4.out; omega
                                                  case rel => exact ⟨(wrap64 (x41_4 + 1)), (by first | rfl | (simp; done) | (simp [*]; done)), H', ⟨by have := HK1.out; have := HK2.out; have := HK3.out; have := HK4.out; omega⟩, ⟨by repeat (first | (with_reducible first | exact HB.out | apply below_alloc | apply pw_below_drewN | apply below_drew1) | exact HB.out)⟩⟩
                                                · rw [if_neg c18] at H
                                                  have c18b0 : (x30_3 == x13_1) = false := beq_eq_false_iff_ne.mpr c18
                                                  have c18b1 : (x30_3 != x13_1) = true := bne_iff_ne.mpr c18
                                                  by_cases c19 : x41_4 = ((rdOf ByteArray.empty l0 x13_1).size : Int)
                                                  · rw [if_pos c19] at H
                                                    have c19b0 : (x41_4 == ((rdOf ByteArray.empty l0 x13_1).size : Int)) = true := beq_iff_eq.mpr c19
                                                    have c19b1 : (x41_4 != ((rdOf ByteArray.empty l0 x13_1).size : Int)) = false := bne_eq_false_iff_eq.mpr c19
                                                    clear c19
                                                    by_cases c20 : x30_3 = x20_2
                                                    · rw [if_pos c20] at H
                                                      have c20b0 : (x30_3 == x20_2) = true := beq_iff_eq.mpr c20
                                                      have c20b1 : (x30_3 != x20_2) = false := bne_eq_false_iff_eq.mpr c20
                                                      clear c20
                                                      have H' := Aside0.mk H
                                                      clear H
                                                      go_wp2_with (first | ((with_reducible refine gate_callee (f := 76) rfl ?_); refine goesL_ (some 48) rfl rfl Try.func76 (by kernel_rfl) rfl #[.string (((rdOf ByteArray.empty l0 x13_1) ++ (rdOf ByteArray.empty l0 x20_2)).extract (x41_4 : Int).toNat ((rdOf ByteArray.empty l0 x13_1).size + (rdOf ByteArray.empty l0 x20_2).size)), .string (rdOf ByteArray.empty l0 x30_3)] rfl (by (try simp only [List.map_toArray, List.map_cons, List.map_nil]); first | done | rfl | (simp only [List.length_drop, List.length_take]; rfl)) ?_; (with_reducible refine (strings_HasPrefix.calls (((rdOf ByteArray.empty l0 x13_1) ++ (rdOf ByteArray.empty l0 x20_2)).extract (x41_4 : Int).toNat ((rdOf ByteArray.empty l0 x13_1).size + (rdOf ByteArray.empty l0 x20_2).size)) (rdOf ByteArray.empty l0 x30_3) true _ (by first | exact A15.out | (have hA_ := A15.out; rw [ByteArray.size_append] at hA_; exact hA_))).mono ?_); rintro e w' ⟨rfl, ⟨nd, rfl⟩⟩; refine ⟨_, rfl, ?_⟩))
                                                      go_roundg k4
                                                      case measure => have := HK1.out; have := HK2.out; have := HK3.out; have := HK4.out; omega
                                                      case rel => exact ⟨(wrap64 (x41_4 + 1)), (by first | rfl | (simp; done) | (simp [*]; done)), H', ⟨by have := HK1.out; have := HK2.out; have := HK3.out; have := HK4.out; omega⟩, ⟨by repeat (first | (with_reducible first | exact HB.out | apply below_alloc | apply pw_below_drewN | apply below_drew1) | exact HB.out)⟩⟩
                                                    · rw [if_neg c20] at H
                                                      have c20b0 : (x30_3 == x20_2) = false := beq_eq_false_iff_ne.mpr c20
                                                      have c20b1 : (x30_3 != x20_2) = true := bne_iff_ne.mpr c20
                                                      obtain ⟨y141, hy141⟩ : ∃ y_ : List Int, y_ = (([x13_1, x20_2, x30_3, x41_4] : List Int)) := ⟨_, rfl⟩
                                                      replace H : (some y141) = some r := by first | (rw [hy141]; with_reducible exact H) | (have H2_ := (Option.bind_some _ _).symm.trans H; rw [hy141]; with_reducible exact H2_) | (have H2_ := (Option.bind_some _ _).symm.trans H; with_reducible exact H2_) | with_reducible exact H | (rw [hy141]; exact H) | exact H
                                                      have Ny141 := Aside0.mk hy141
                                                      clear hy141
                                                      obtain rfl := Option.some.inj H
                                                      go_wp2_with (first | ((with_reducible refine gate_callee (f := 76) rfl ?_); refine goesL_ (some 48) rfl rfl Try.func76 (by kernel_rfl) rfl #[.string (((rdOf ByteArray.empty l0 x13_1) ++ (rdOf ByteArray.empty l0 x20_2)).extract (x41_4 : Int).toNat ((rdOf ByteArray.empty l0 x13_1).size + (rdOf ByteArray.empty l0 x20_2).size)), .string (rdOf ByteArray.empty l0 x30_3)] rfl (by (try simp only [List.map_toArray, List.map_cons, List.map_nil]); first | done | rfl | (simp only [List.length_drop, List.length_take]; rfl)) ?_; (with_reducible refine (strings_HasPrefix.calls (((rdOf ByteArray.empty l0 x13_1) ++ (rdOf ByteArray.empty l0 x20_2)).extract (x41_4 : Int).toNat ((rdOf ByteArray.empty l0 x13_1).size + (rdOf ByteArray.empty l0 x20_2).size)) (rdOf ByteArray.empty l0 x30_3) true _ (by first | exact A15.out | (have hA_ := A15.out; rw [ByteArray.size_append] at hA_; exact hA_))).mono ?_); rintro e w' ⟨rfl, ⟨nd, rfl⟩⟩; refine ⟨_, rfl, ?_⟩) | ((with_reducible refine gate_dst (N := 75) rfl ?_); (try (refine gate_guard (by rfl) ?_; dsimp only)); refine Kd.R_lit (Kd.int .i64) _ 3 ?hg (N := 75) ?hd (xs := ([x13_1, x20_2, x30_3, x41_4] : List Int)) (inner := [.int .i64 x13_1, .int .i64 x20_2, .int .i64 x30_3, .int .i64 x41_4]) (ok := fun _ => True) (okp := fun _ => True) ?hr ?hp (fun _ hk => hk) trivial (Below.refl _ _) (Nat.le_refl _) (by simp) ?_; (case hd => rfl); (case hg => rfl); (case hr => first | (go_simp; done) | (go_simp; rfl)); (case hp => exact (Reps.one (show Kd.M (Kd.int .i64) _ _ _ x13_1 [.int .i64 x13_1] from rfl) (Reps.one (show Kd.M (Kd.int .i64) _ _ _ x20_2 [.int .i64 x20_2] from rfl) (Reps.one (show Kd.M (Kd.int .i64) _ _ _ x30_3 [.int .i64 x30_3] from rfl) (Reps.one (show Kd.M (Kd.int .i64) _ _ _ x41_4 [.int .i64 x41_4] from rfl) (Reps.none _ _)))))); intro v142 w21 ho22 hb hg_ hnew_; clear hg_ hnew_; (first | rw [← Ny141.out] at ho22 | (simp only [Int.reduceToNat] at ho22; rw [← Ny141.out] at ho22)); have n0_ := Aside0.mk (Kd.R_lower ho22 (below_size (by repeat (first | (with_reducible first | exact HB.out | apply below_alloc | apply pw_below_drewN | apply below_drew1) | exact HB.out)))); have n1_ := Aside0.mk (below_step (by repeat (first | (with_reducible first | exact HB.out | apply below_alloc | apply pw_below_drewN | apply below_drew1) | exact HB.out)) hb); clear HB; have HO143 := n0_; have HB := n1_; clear n0_ n1_; clear hb ho22))
                                                      go_ret
                                                      exact ⟨_, by first | rfl | (simp [errW_none, errW_some] <;> rfl) | (simp [*, errW_none, errW_some] <;> rfl), by (with_reducible repeat (first | apply Kd.R_alloc | apply Kd.R_drewN | apply Kd.R_drew)); exact HO143.out, by repeat (first | (with_reducible first | exact HB.out | apply below_alloc | apply pw_below_drewN | apply below_drew1) | exact HB.out), by first | rfl | trivial | (intro h_; first | rfl | (exact absurd h_ (by simp)) | (exfalso; have hN_ := Ny141.out; rw [h_] at hN_; cases hN_) | (exfalso; have hN_ := Ny144.out; rw [h_] at hN_; cases hN_) | (exfalso; have hN_ := Ny147.out; rw [h_] at hN_; cases hN_) | (exfalso; have hN_ := Ny150.out; rw [h_] at hN_; cases hN_))⟩
                                                  · rw [if_neg c19] at H
                                                    have c19b0 : (x41_4 == ((rdOf ByteArray.empty l0 x13_1).size : Int)) = false := beq_eq_false_iff_ne.mpr c19
                                                    have c19b1 : (x41_4 != ((rdOf ByteArray.empty l0 x13_1).size : Int)) = true := bne_iff_ne.mpr c19
                                                    obtain ⟨y144, hy144⟩ : ∃ y_ : List Int, y_ = (([x13_1, x20_2, x30_3, x41_4] : List Int)) := ⟨_, rfl⟩
                                                    replace H : (some y144) = some r := by first | (rw [hy144]; with_reducible exact H) | (have H2_ := (Option.bind_some _ _).symm.trans H; rw [hy144]; with_reducible exact H2_) | (have H2_ := (Option.bind_some _ _).symm.trans H; with_reducible exact H2_) | with_reducible exact H | (rw [hy144]; exact H) | exact H
                                                    have Ny144 := Aside0.mk hy144
                                                    clear hy144
                                                    obtain rfl := Option.some.inj H
                                                    go_wp2_with (first | ((with_reducible refine gate_callee (f := 76) rfl ?_); refine goesL_ (some 48) rfl rfl Try.func76 (by kernel_rfl) rfl #[.string (((rdOf ByteArray.empty l0 x13_1) ++ (rdOf ByteArray.empty l0 x20_2)).extract (x41_4 : Int).toNat ((rdOf ByteArray.empty l0 x13_1).size + (rdOf ByteArray.empty l0 x20_2).size)), .string (rdOf ByteArray.empty l0 x30_3)] rfl (by (try simp only [List.map_toArray, List.map_cons, List.map_nil]); first | done | rfl | (simp only [List.length_drop, List.length_take]; rfl)) ?_; (with_reducible refine (strings_HasPrefix.calls (((rdOf ByteArray.empty l0 x13_1) ++ (rdOf ByteArray.empty l0 x20_2)).extract (x41_4 : Int).toNat ((rdOf ByteArray.empty l0 x13_1).size + (rdOf ByteArray.empty l0 x20_2).size)) (rdOf ByteArray.empty l0 x30_3) true _ (by first | exact A15.out | (have hA_ := A15.out; rw [ByteArray.size_append] at hA_; exact hA_))).mono ?_); rintro e w' ⟨rfl, ⟨nd, rfl⟩⟩; refine ⟨_, rfl, ?_⟩) | ((with_reducible refine gate_dst (N := 75) rfl ?_); (try (refine gate_guard (by rfl) ?_; dsimp only)); refine Kd.R_lit (Kd.int .i64) _ 3 ?hg (N := 75) ?hd (xs := ([x13_1, x20_2, x30_3, x41_4] : List Int)) (inner := [.int .i64 x13_1, .int .i64 x20_2, .int .i64 x30_3, .int .i64 x41_4]) (ok := fun _ => True) (okp := fun _ => True) ?hr ?hp (fun _ hk => hk) trivial (Below.refl _ _) (Nat.le_refl _) (by simp) ?_; (case hd => rfl); (case hg => rfl); (case hr => first | (go_simp; done) | (go_simp; rfl)); (case hp => exact (Reps.one (show Kd.M (Kd.int .i64) _ _ _ x13_1 [.int .i64 x13_1] from rfl) (Reps.one (show Kd.M (Kd.int .i64) _ _ _ x20_2 [.int .i64 x20_2] from rfl) (Reps.one (show Kd.M (Kd.int .i64) _ _ _ x30_3 [.int .i64 x30_3] from rfl) (Reps.one (show Kd.M (Kd.int .i64) _ _ _ x41_4 [.int .i64 x41_4] from rfl) (Reps.none _ _)))))); intro v145 w23 ho24 hb hg_ hnew_; clear hg_ hnew_; (first | rw [← Ny144.out] at ho24 | (simp only [Int.reduceToNat] at ho24; rw [← Ny144.out] at ho24)); have n0_ := Aside0.mk (Kd.R_lower ho24 (below_size (by repeat (first | (with_reducible first | exact HB.out | apply below_alloc | apply pw_below_drewN | apply below_drew1) | exact HB.out)))); have n1_ := Aside0.mk (below_step (by repeat (first | (with_reducible first | exact HB.out | apply below_alloc | apply pw_below_drewN | apply below_drew1) | exact HB.out)) hb); clear HB; have HO146 := n0_; have HB := n1_; clear n0_ n1_; clear hb ho24))
                                                    go_ret
                                                    exact ⟨_, by first | rfl | (simp [errW_none, errW_some] <;> rfl) | (simp [*, errW_none, errW_some] <;> rfl), by (with_reducible repeat (first | apply Kd.R_alloc | apply Kd.R_drewN | apply Kd.R_drew)); exact HO146.out, by repeat (first | (with_reducible first | exact HB.out | apply below_alloc | apply pw_below_drewN | apply below_drew1) | exact HB.out), by first | rfl | trivial | (intro h_; first | rfl | (exact absurd h_ (by simp)) | (exfalso; have hN_ := Ny141.out; rw [h_] at hN_; cases hN_) | (exfalso; have hN_ := Ny144.out; rw [h_] at hN_; cases hN_) | (exfalso; have hN_ := Ny147.out; rw [h_] at hN_; cases hN_) | (exfalso; have hN_ := Ny150.out; rw [h_] at hN_; cases hN_))⟩
                                              · rw [if_neg c17] at H
                                                have c17b0 : (x41_4 == 0) = false := beq_eq_false_iff_ne.mpr c17
                                                have c17b1 : (x41_4 != 0) = true := bne_iff_ne.mpr c17
                                                by_cases c25 : x41_4 = ((rdOf ByteArray.empty l0 x13_1).size : Int)
                                                · rw [if_pos c25] at H
                                                  have c25b0 : (x41_4 == ((rdOf ByteArray.empty l0 x13_1).size : Int)) = true := beq_iff_eq.mpr c25
                                                  have c25b1 : (x41_4 != ((rdOf ByteArray.empty l0 x13_1).size : Int)) = false := bne_eq_false_iff_eq.mpr c25
                                                  clear c25
                                                  by_cases c26 : x30_3 = x20_2
                                                  · rw [if_pos c26] at H
                                                    have c26b0 : (x30_3 == x20_2) = true := beq_iff_eq.mpr c26
                                                    have c26b1 : (x30_3 != x20_2) = false := bne_eq_false_iff_eq.mpr c26
                                                    clear c26
                                                    have H' := Aside0.mk H
                                                    clear H
                                                    go_wp2_with (first | ((with_reducible refine gate_callee (f := 76) rfl ?_); refine goesL_ (some 48) rfl rfl Try.func76 (by kernel_rfl) rfl #[.string (((rdOf ByteArray.empty l0 x13_1) ++ (rdOf ByteArray.empty l0 x20_2)).extract (x41_4 : Int).toNat ((rdOf ByteArray.empty l0 x13_1).size + (rdOf ByteArray.empty l0 x20_2).size)), .string (rdOf ByteArray.empty l0 x30_3)] rfl (by (try simp only [List.map_toArray, List.map_cons, List.map_nil]); first | done | rfl | (simp only [List.length_drop, List.length_take]; rfl)) ?_; (with_reducible refine (strings_HasPrefix.calls (((rdOf ByteArray.empty l0 x13_1) ++ (rdOf ByteArray.empty l0 x20_2)).extract (x41_4 : Int).toNat ((rdOf ByteArray.empty l0 x13_1).size + (rdOf ByteArray.empty l0 x20_2).size)) (rdOf ByteArray.empty l0 x30_3) true _ (by first | exact A15.out | (have hA_ := A15.out; rw [ByteArray.size_append] at hA_; exact hA_))).mono ?_); rintro e w' ⟨rfl, ⟨nd, rfl⟩⟩; refine ⟨_, rfl, ?_⟩))
                                                    go_roundg k4
                                                    case measure => have := HK1.out; have := HK2.out; have := HK3.out; have := HK4.out; omega
                                                    case rel => exact ⟨(wrap64 (x41_4 + 1)), (by first | rfl | (simp; done) | (simp [*]; done)), H', ⟨by have := HK1.out; have := HK2.out; have := HK3.out; have := HK4.out; omega⟩, ⟨by repeat (first | (with_reducible first | exact HB.out | apply below_alloc | apply pw_below_drewN | apply below_drew1) | exact HB.out)⟩⟩
                                                  · rw [if_neg c26] at H
                                                    have c26b0 : (x30_3 == x20_2) = false := beq_eq_false_iff_ne.mpr c26
                                                    have c26b1 : (x30_3 != x20_2) = true := bne_iff_ne.mpr c26
                                                    obtain ⟨y147, hy147⟩ : ∃ y_ : List Int, y_ = (([x13_1, x20_2, x30_3, x41_4] : List Int)) := ⟨_, rfl⟩
                                                    replace H : (some y147) = some r := by first | (rw [hy147]; with_reducible exact H) | (have H2_ := (Option.bind_some _ _).symm.trans H; rw [hy147]; with_reducible exact H2_) | (have H2_ := (Option.bind_some _ _).symm.trans H; with_reducible exact H2_) | with_reducible exact H | (rw [hy147]; exact H) | exact H
                                                    have Ny147 := Aside0.mk hy147
                                                    clear hy147
                                                    obtain rfl := Option.some.inj H
                                                    go_wp2_with (first | ((with_reducible refine gate_callee (f := 76) rfl ?_); refine goesL_ (some 48) rfl rfl Try.func76 (by kernel_rfl) rfl #[.string (((rdOf ByteArray.empty l0 x13_1) ++ (rdOf ByteArray.empty l0 x20_2)).extract (x41_4 : Int).toNat ((rdOf ByteArray.empty l0 x13_1).size + (rdOf ByteArray.empty l0 x20_2).size)), .string (rdOf ByteArray.empty l0 x30_3)] rfl (by (try simp only [List.map_toArray, List.map_cons, List.map_nil]); first | done | rfl | (simp only [List.length_drop, List.length_take]; rfl)) ?_; (with_reducible refine (strings_HasPrefix.calls (((rdOf ByteArray.empty l0 x13_1) ++ (rdOf ByteArray.empty l0 x20_2)).extract (x41_4 : Int).toNat ((rdOf ByteArray.empty l0 x13_1).size + (rdOf ByteArray.empty l0 x20_2).size)) (rdOf ByteArray.empty l0 x30_3) true _ (by first | exact A15.out | (have hA_ := A15.out; rw [ByteArray.size_append] at hA_; exact hA_))).mono ?_); rintro e w' ⟨rfl, ⟨nd, rfl⟩⟩; refine ⟨_, rfl, ?_⟩) | ((with_reducible refine gate_dst (N := 75) rfl ?_); (try (refine gate_guard (by rfl) ?_; dsimp only)); refine Kd.R_lit (Kd.int .i64) _ 3 ?hg (N := 75) ?hd (xs := ([x13_1, x20_2, x30_3, x41_4] : List Int)) (inner := [.int .i64 x13_1, .int .i64 x20_2, .int .i64 x30_3, .int .i64 x41_4]) (ok := fun _ => True) (okp := fun _ => True) ?hr ?hp (fun _ hk => hk) trivial (Below.refl _ _) (Nat.le_refl _) (by simp) ?_; (case hd => rfl); (case hg => rfl); (case hr => first | (go_simp; done) | (go_simp; rfl)); (case hp => exact (Reps.one (show Kd.M (Kd.int .i64) _ _ _ x13_1 [.int .i64 x13_1] from rfl) (Reps.one (show Kd.M (Kd.int .i64) _ _ _ x20_2 [.int .i64 x20_2] from rfl) (Reps.one (show Kd.M (Kd.int .i64) _ _ _ x30_3 [.int .i64 x30_3] from rfl) (Reps.one (show Kd.M (Kd.int .i64) _ _ _ x41_4 [.int .i64 x41_4] from rfl) (Reps.none _ _)))))); intro v148 w27 ho28 hb hg_ hnew_; clear hg_ hnew_; (first | rw [← Ny147.out] at ho28 | (simp only [Int.reduceToNat] at ho28; rw [← Ny147.out] at ho28)); have n0_ := Aside0.mk (Kd.R_lower ho28 (below_size (by repeat (first | (with_reducible first | exact HB.out | apply below_alloc | apply pw_below_drewN | apply below_drew1) | exact HB.out)))); have n1_ := Aside0.mk (below_step (by repeat (first | (with_reducible first | exact HB.out | apply below_alloc | apply pw_below_drewN | apply below_drew1) | exact HB.out)) hb); clear HB; have HO149 := n0_; have HB := n1_; clear n0_ n1_; clear hb ho28))
                                                    go_ret
                                                    exact ⟨_, by first | rfl | (simp [errW_none, errW_some] <;> rfl) | (simp [*, errW_none, errW_some] <;> rfl), by (with_reducible repeat (first | apply Kd.R_alloc | apply Kd.R_drewN | apply Kd.R_drew)); exact HO149.out, by repeat (first | (with_reducible first | exact HB.out | apply below_alloc | apply pw_below_drewN | apply below_drew1) | exact HB.out), by first | rfl | trivial | (intro h_; first | rfl | (exact absurd h_ (by simp)) | (exfalso; have hN_ := Ny141.out; rw [h_] at hN_; cases hN_) | (exfalso; have hN_ := Ny144.out; rw [h_] at hN_; cases hN_) | (exfalso; have hN_ := Ny147.out; rw [h_] at hN_; cases hN_) | (exfalso; have hN_ := Ny150.out; rw [h_] at hN_; cases hN_))⟩
                                                · rw [if_neg c25] at H
                                                  have c25b0 : (x41_4 == ((rdOf ByteArray.empty l0 x13_1).size : Int)) = false := beq_eq_false_iff_ne.mpr c25
                                                  have c25b1 : (x41_4 != ((rdOf ByteArray.empty l0 x13_1).size : Int)) = true := bne_iff_ne.mpr c25
                                                  obtain ⟨y150, hy150⟩ : ∃ y_ : List Int, y_ = (([x13_1, x20_2, x30_3, x41_4] : List Int)) := ⟨_, rfl⟩
                                                  replace H : (some y150) = some r := by first | (rw [hy150]; with_reducible exact H) | (have H2_ := (Option.bind_some _ _).symm.trans H; rw [hy150]; with_reducible exact H2_) | (have H2_ := (Option.bind_some _ _).symm.trans H; with_reducible exact H2_) | with_reducible exact H | (rw [hy150]; exact H) | exact H
                                                  have Ny150 := Aside0.mk hy150
                                                  clear hy150
                                                  obtain rfl := Option.some.inj H
                                                  go_wp2_with (first | ((with_reducible refine gate_callee (f := 76) rfl ?_); refine goesL_ (some 48) rfl rfl Try.func76 (by kernel_rfl) rfl #[.string (((rdOf ByteArray.empty l0 x13_1) ++ (rdOf ByteArray.empty l0 x20_2)).extract (x41_4 : Int).toNat ((rdOf ByteArray.empty l0 x13_1).size + (rdOf ByteArray.empty l0 x20_2).size)), .string (rdOf ByteArray.empty l0 x30_3)] rfl (by (try simp only [List.map_toArray, List.map_cons, List.map_nil]); first | done | rfl | (simp only [List.length_drop, List.length_take]; rfl)) ?_; (with_reducible refine (strings_HasPrefix.calls (((rdOf ByteArray.empty l0 x13_1) ++ (rdOf ByteArray.empty l0 x20_2)).extract (x41_4 : Int).toNat ((rdOf ByteArray.empty l0 x13_1).size + (rdOf ByteArray.empty l0 x20_2).size)) (rdOf ByteArray.empty l0 x30_3) true _ (by first | exact A15.out | (have hA_ := A15.out; rw [ByteArray.size_append] at hA_; exact hA_))).mono ?_); rintro e w' ⟨rfl, ⟨nd, rfl⟩⟩; refine ⟨_, rfl, ?_⟩) | ((with_reducible refine gate_dst (N := 75) rfl ?_); (try (refine gate_guard (by rfl) ?_; dsimp only)); refine Kd.R_lit (Kd.int .i64) _ 3 ?hg (N := 75) ?hd (xs := ([x13_1, x20_2, x30_3, x41_4] : List Int)) (inner := [.int .i64 x13_1, .int .i64 x20_2, .int .i64 x30_3, .int .i64 x41_4]) (ok := fun _ => True) (okp := fun _ => True) ?hr ?hp (fun _ hk => hk) trivial (Below.refl _ _) (Nat.le_refl _) (by simp) ?_; (case hd => rfl); (case hg => rfl); (case hr => first | (go_simp; done) | (go_simp; rfl)); (case hp => exact (Reps.one (show Kd.M (Kd.int .i64) _ _ _ x13_1 [.int .i64 x13_1] from rfl) (Reps.one (show Kd.M (Kd.int .i64) _ _ _ x20_2 [.int .i64 x20_2] from rfl) (Reps.one (show Kd.M (Kd.int .i64) _ _ _ x30_3 [.int .i64 x30_3] from rfl) (Reps.one (show Kd.M (Kd.int .i64) _ _ _ x41_4 [.int .i64 x41_4] from rfl) (Reps.none _ _)))))); intro v151 w29 ho30 hb hg_ hnew_; clear hg_ hnew_; (first | rw [← Ny150.out] at ho30 | (simp only [Int.reduceToNat] at ho30; rw [← Ny150.out] at ho30)); have n0_ := Aside0.mk (Kd.R_lower ho30 (below_size (by repeat (first | (with_reducible first | exact HB.out | apply below_alloc | apply pw_below_drewN | apply below_drew1) | exact HB.out)))); have n1_ := Aside0.mk (below_step (by repeat (first | (with_reducible first | exact HB.out | apply below_alloc | apply pw_below_drewN | apply below_drew1) | exact HB.out)) hb); clear HB; have HO152 := n0_; have HB := n1_; clear n0_ n1_; clear hb ho30))
                                                  go_ret
                                                  exact ⟨_, by first | rfl | (simp [errW_none, errW_some] <;> rfl) | (simp [*, errW_none, errW_some] <;> rfl), by (with_reducible repeat (first | apply Kd.R_alloc | apply Kd.R_drewN | apply Kd.R_drew)); exact HO152.out, by repeat (first | (with_reducible first | exact HB.out | apply below_alloc | apply pw_below_drewN | apply below_drew1) | exact HB.out), by first | rfl | trivial | (intro h_; first | rfl | (exact absurd h_ (by simp)) | (exfalso; have hN_ := Ny141.out; rw [h_] at hN_; cases hN_) | (exfalso; have hN_ := Ny144.out; rw [h_] at hN_; cases hN_) | (exfalso; have hN_ := Ny147.out; rw [h_] at hN_; cases hN_) | (exfalso; have hN_ := Ny150.out; rw [h_] at hN_; cases hN_))⟩
                                            · replace c16 := Bool.eq_false_iff.mpr c16
                                              subst c16
                                              have H1 : (impl_firstInside.l3 k4 l0 x13_1 (rdOf ByteArray.empty l0 x13_1) x20_2 ((rdOf ByteArray.empty l0 x13_1) ++ (rdOf ByteArray.empty l0 x20_2)) x30_3 (rdOf ByteArray.empty l0 x30_3) l0 (l0.length : Int) x13_1 l0 (l0.length : Int) x20_2 l0 (l0.length : Int) x30_3 (wrap64 ((wrap64 ((((rdOf ByteArray.empty l0 x13_1) ++ (rdOf ByteArray.empty l0 x20_2)).size : Int) - ((rdOf ByteArray.empty l0 x30_3).size : Int))) + 1)) (wrap64 (x41_4 + 1))) = some r := by rw [if_neg (show ¬ (false = true) by decide)] at H; exact H
                                              clear H
                                              have H := H1
                                              clear H1
                                              have H' := Aside0.mk H
                                              clear H
                                              go_wp2_with (first | ((with_reducible refine gate_callee (f := 76) rfl ?_); refine goesL_ (some 48) rfl rfl Try.func76 (by kernel_rfl) rfl #[.string (((rdOf ByteArray.empty l0 x13_1) ++ (rdOf ByteArray.empty l0 x20_2)).extract (x41_4 : Int).toNat ((rdOf ByteArray.empty l0 x13_1).size + (rdOf ByteArray.empty l0 x20_2).size)), .string (rdOf ByteArray.empty l0 x30_3)] rfl (by (try simp only [List.map_toArray, List.map_cons, List.map_nil]); first | done | rfl | (simp only [List.length_drop, List.length_take]; rfl)) ?_; (with_reducible refine (strings_HasPrefix.calls (((rdOf ByteArray.empty l0 x13_1) ++ (rdOf ByteArray.empty l0 x20_2)).extract (x41_4 : Int).toNat ((rdOf ByteArray.empty l0 x13_1).size + (rdOf ByteArray.empty l0 x20_2).size)) (rdOf ByteArray.empty l0 x30_3) false _ (by first | exact A15.out | (have hA_ := A15.out; rw [ByteArray.size_append] at hA_; exact hA_))).mono ?_); rintro e w' ⟨rfl, ⟨nd, rfl⟩⟩; refine ⟨_, rfl, ?_⟩))
                                              go_roundg k4
                                              case measure => have := HK1.out; have := HK2.out; have := HK3.out; have := HK4.out; omega
                                              case rel => exact ⟨(wrap64 (x41_4 + 1)), (by first | rfl | (simp; done) | (simp [*]; done)), H', ⟨by have := HK1.out; have := HK2.out; have := HK3.out; have := HK4.out; omega⟩, ⟨by repeat (first | (with_reducible first | exact HB.out | apply below_alloc | apply pw_below_drewN | apply below_drew1) | exact HB.out)⟩⟩
                                          · rw [if_neg c14] at H
                                            exact absurd H (by simp)
                                        · rw [if_neg c13] at H
                                          exact absurd H (by simp)
                                      · rw [if_neg c12] at H
                                        have c12b0 : decide (x41_4 < (wrap64 ((wrap64 ((((rdOf ByteArray.empty l0 x13_1) ++ (rdOf ByteArray.empty l0 x20_2)).size : Int) - ((rdOf ByteArray.empty l0 x30_3).size : Int))) + 1))) = false := decide_eq_false c12
                                        (try (have c12b0s := c12b0; simp only [ByteArray.size_append, Int.natCast_add] at c12b0s))
                                        clear c12
                                        have H' := Aside0.mk H
                                        clear H
                                        go_wp2
                                        go_roundg k4
                                        case measure => have := HK1.out; have := HK2.out; have := HK3.out; have := HK4.out; omega
                                        case rel => exact ⟨(wrap64 (x30_3 + 1)), (by first | rfl | (simp; done) | (simp [*]; done)), H', ⟨by have := HK1.out; have := HK2.out; have := HK3.out; have := HK4.out; omega⟩, ⟨by repeat (first | (with_reducible first | exact HB.out | apply below_alloc | apply pw_below_drewN | apply below_drew1) | exact HB.out)⟩⟩
                                · rw [if_neg c11] at H
                                  exact absurd H (by simp)
                              · rw [if_neg c10] at H
                                exact absurd H (by simp)
                            · rw [if_neg c9] at H
                              have c9b0 : decide (x30_3 < (l0.length : Int)) = false := decide_eq_false c9
                              clear c9
                              have H' := Aside0.mk H
                              clear H
                              go_wp2
                              go_roundg k3
                              case measure => have := HK1.out; have := HK2.out; have := HK3.out; omega
                              case rel => exact ⟨(wrap64 (x20_2 + 1)), (by first | rfl | (simp; done) | (simp [*]; done)), H', ⟨by have := HK1.out; have := HK2.out; have := HK3.out; omega⟩, ⟨by repeat (first | (with_reducible first | exact HB.out | apply below_alloc | apply pw_below_drewN | apply below_drew1) | exact HB.out)⟩⟩
                      · rw [if_neg c8] at H
                        exact absurd H (by simp)
                    · rw [if_neg c7] at H
                      exact absurd H (by simp)
                  · rw [if_neg c6] at H
                    exact absurd H (by simp)
                · rw [if_neg c5] at H
                  have c5b0 : decide (x20_2 < (l0.length : Int)) = false := decide_eq_false c5
                  clear c5
                  have H' := Aside0.mk H
                  clear H
                  go_wp2
                  go_roundg k2
                  case measure => have := HK1.out; have := HK2.out; omega
                  case rel => exact ⟨(wrap64 (x13_1 + 1)), (by first | rfl | (simp; done) | (simp [*]; done)), H', ⟨by have := HK1.out; have := HK2.out; omega⟩, ⟨by repeat (first | (with_reducible first | exact HB.out | apply below_alloc | apply pw_below_drewN | apply below_drew1) | exact HB.out)⟩⟩
          · rw [if_neg c4] at H
            exact absurd H (by simp)
        · rw [if_neg c3] at H
          exact absurd H (by simp)
      · rw [if_neg c2] at H
        have c2b0 : decide (x13_1 < (l0.length : Int)) = false := decide_eq_false c2
        clear c2
        obtain rfl := Option.some.inj H
        go_wp2
        go_ret
        exact ⟨_, by first | rfl | (simp [errW_none, errW_some] <;> rfl) | (simp [*, errW_none, errW_some] <;> rfl), by first | exact Kd.R_nil _ _ _ _ _ | exact Kd.N_nil _ _ _ _ _ | exact Kd.V_nil _ _ _ _ _ | exact Kd.Q_nil _ _ _ _ _ | exact Kd.S_nil _ _ _ _ _, by repeat (first | (with_reducible first | exact HB.out | apply below_alloc | apply pw_below_drewN | apply below_drew1) | exact HB.out), by first | rfl | trivial | (intro h_; first | rfl | (exact absurd h_ (by simp)) | (exfalso; have hN_ := Ny141.out; rw [h_] at hN_; cases hN_) | (exfalso; have hN_ := Ny144.out; rw [h_] at hN_; cases hN_) | (exfalso; have hN_ := Ny147.out; rw [h_] at hN_; cases hN_) | (exfalso; have hN_ := Ny150.out; rw [h_] at hN_; cases hN_))⟩

end Go.Proofs.Ytnfpcgjdpcmkcaa.X

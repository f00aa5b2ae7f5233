-- WRITTEN by xprint.py of this repo: the kit's print.py with contracts given by hand (given.py). Lean checks it.
import Derived.Test.YtnfpcgjdpcmkcaaXx0
namespace Go.Proofs.Ytnfpcgjdpcmkcaa.X
open Go.RowKit Go.Proofs.YtnfpcgjdpcmkcaaW.PrintWords Go.Proofs.YtnfpcgjdpcmkcaaW.PrintLast Go.Proofs.YtnfpcgjdpcmkcaaW.PrintMore
attribute [local go_sem] max2_int min2_int max_two min_two max_three min_three max_four min_four   -- for this text's walks alone
set_option linter.unusedVariables false
set_option linter.unusedSimpArgs false

/-! ### spec_syInside: function 58 -/
mutual
def spec_syInside.l0 : Nat → List ByteArray → List ByteArray → Int → Int → Option (List Int × Bool)
  | 0, _, _, _, _ => none
  | k + 1, x0, x11, x12, x13 => if x13 < x12 then (if 0 ≤ x13 then (if x13 < (x11.length : Int) then (spec_syInside.l1 k x0 x13 (rdOf ByteArray.empty x11 x13) x11 x12 x13 x0 (x0.length : Int) 0) else (none)) else (none)) else (some (([] : List Int), false))
def spec_syInside.l1 : Nat → List ByteArray → Int → ByteArray → List ByteArray → Int → Int → List ByteArray → Int → Int → Option (List Int × Bool)
  | 0, _, _, _, _, _, _, _, _, _ => none
  | k + 1, x0, x4, x5, x11, x12, x13, x18, x19, x20 => if x20 < x19 then (if 0 ≤ x20 then (if x20 < (x18.length : Int) then (spec_syInside.l2 k x0 x4 x5 x20 (rdOf ByteArray.empty x18 x20) x11 x12 x13 x18 x19 x20 x0 (x0.length : Int) 0) else (none)) else (none)) else (spec_syInside.l0 k x0 x11 x12 (wrap64 (x13 + 1)))
def spec_syInside.l2 : Nat → List ByteArray → Int → ByteArray → Int → ByteArray → List ByteArray → Int → Int → List ByteArray → Int → Int → List ByteArray → Int → Int → Option (List Int × Bool)
  | 0, _, _, _, _, _, _, _, _, _, _, _, _, _, _ => none
  | k + 1, x0, x4, x5, x6, x7, x11, x12, x13, x18, x19, x20, x25, x26, x27 => if x27 < x26 then (if 0 ≤ x27 then (if x27 < (x25.length : Int) then (spec_syInside.l3 k x0 x4 x5 x6 x7 x27 (rdOf ByteArray.empty x25 x27) 0 x11 x12 x13 x18 x19 x20 x25 x26 x27) else (none)) else (none)) else (spec_syInside.l1 k x0 x4 x5 x11 x12 x13 x18 x19 (wrap64 (x20 + 1)))
def spec_syInside.l3 : Nat → List ByteArray → Int → ByteArray → Int → ByteArray → Int → ByteArray → Int → List ByteArray → Int → Int → List ByteArray → Int → Int → List ByteArray → Int → Int → Option (List Int × Bool)
  | 0, _, _, _, _, _, _, _, _, _, _, _, _, _, _, _, _, _ => none
  | k + 1, x0, x4, x5, x6, x7, x8, x9, x10, x11, x12, x13, x18, x19, x20, x25, x26, x27 => if (wrap64 (x10 + (x9.size : Int))) ≤ (wrap64 ((x5.size : Int) + (x7.size : Int))) then (if x10 = 0 then (if x8 = x4 then (spec_syInside.j4 k x0 x4 x5 x6 x7 x8 x9 x10 x11 x12 x13 x18 x19 x20 x25 x26 x27 true) else (if x10 = (x5.size : Int) then (spec_syInside.j4 k x0 x4 x5 x6 x7 x8 x9 x10 x11 x12 x13 x18 x19 x20 x25 x26 x27 (x8 == x6)) else (spec_syInside.j4 k x0 x4 x5 x6 x7 x8 x9 x10 x11 x12 x13 x18 x19 x20 x25 x26 x27 false))) else (if x10 = (x5.size : Int) then (spec_syInside.j4 k x0 x4 x5 x6 x7 x8 x9 x10 x11 x12 x13 x18 x19 x20 x25 x26 x27 (x8 == x6)) else (spec_syInside.j4 k x0 x4 x5 x6 x7 x8 x9 x10 x11 x12 x13 x18 x19 x20 x25 x26 x27 false))) else (spec_syInside.l2 k x0 x4 x5 x6 x7 x11 x12 x13 x18 x19 x20 x25 x26 (wrap64 (x27 + 1)))
def spec_syInside.j4 : Nat → List ByteArray → Int → ByteArray → Int → ByteArray → Int → ByteArray → Int → List ByteArray → Int → Int → List ByteArray → Int → Int → List ByteArray → Int → Int → Bool → Option (List Int × Bool)
  | 0, _, _, _, _, _, _, _, _, _, _, _, _, _, _, _, _, _, _ => none
  | k + 1, x0, x4, x5, x6, x7, x8, x9, x10, x11, x12, x13, x18, x19, x20, x25, x26, x27, x61 => if x61 = true then (spec_syInside.l3 k x0 x4 x5 x6 x7 x8 x9 (wrap64 (x10 + 1)) x11 x12 x13 x18 x19 x20 x25 x26 x27) else (if x5.size + x7.size ≤ 9223372036854775807 then (if 0 ≤ x10 then (if x10 ≤ (wrap64 (x10 + (x9.size : Int))) then (if (wrap64 (x10 + (x9.size : Int))) ≤ ((x5 ++ x7).size : Int) then (if ((x5 ++ x7).extract (x10 : Int).toNat ((wrap64 (x10 + (x9.size : Int))) : Int).toNat).toList = x9.toList then (some ((([x4, x6, x8, x10] : List Int)), true)) else (spec_syInside.l3 k x0 x4 x5 x6 x7 x8 x9 (wrap64 (x10 + 1)) x11 x12 x13 x18 x19 x20 x25 x26 x27)) else (none)) else (none)) else (none)) else (none))
end
def spec_syInside.f (k : Nat) (l0 : List ByteArray) : Option (List Int × Bool) := spec_syInside.l0 k l0 l0 (l0.length : Int) 0
theorem spec_syInside.mono_l : ∀ k, (∀ y0 y1 y2 y3, LeO (spec_syInside.l0 k y0 y1 y2 y3) (spec_syInside.l0 (k + 1) y0 y1 y2 y3)) ∧ (∀ y0 y1 y2 y3 y4 y5 y6 y7 y8, LeO (spec_syInside.l1 k y0 y1 y2 y3 y4 y5 y6 y7 y8) (spec_syInside.l1 (k + 1) y0 y1 y2 y3 y4 y5 y6 y7 y8)) ∧ (∀ y0 y1 y2 y3 y4 y5 y6 y7 y8 y9 y10 y11 y12 y13, LeO (spec_syInside.l2 k y0 y1 y2 y3 y4 y5 y6 y7 y8 y9 y10 y11 y12 y13) (spec_syInside.l2 (k + 1) y0 y1 y2 y3 y4 y5 y6 y7 y8 y9 y10 y11 y12 y13)) ∧ (∀ y0 y1 y2 y3 y4 y5 y6 y7 y8 y9 y10 y11 y12 y13 y14 y15 y16, LeO (spec_syInside.l3 k y0 y1 y2 y3 y4 y5 y6 y7 y8 y9 y10 y11 y12 y13 y14 y15 y16) (spec_syInside.l3 (k + 1) y0 y1 y2 y3 y4 y5 y6 y7 y8 y9 y10 y11 y12 y13 y14 y15 y16)) ∧ (∀ y0 y1 y2 y3 y4 y5 y6 y7 y8 y9 y10 y11 y12 y13 y14 y15 y16 y17, LeO (spec_syInside.j4 k y0 y1 y2 y3 y4 y5 y6 y7 y8 y9 y10 y11 y12 y13 y14 y15 y16 y17) (spec_syInside.j4 (k + 1) y0 y1 y2 y3 y4 y5 y6 y7 y8 y9 y10 y11 y12 y13 y14 y15 y16 y17))
  | 0 => ⟨fun _ _ _ _ r h => by simp [spec_syInside.l0] at h, fun _ _ _ _ _ _ _ _ _ r h => by simp [spec_syInside.l1] at h, fun _ _ _ _ _ _ _ _ _ _ _ _ _ _ r h => by simp [spec_syInside.l2] at h, fun _ _ _ _ _ _ _ _ _ _ _ _ _ _ _ _ _ r h => by simp [spec_syInside.l3] at h, fun _ _ _ _ _ _ _ _ _ _ _ _ _ _ _ _ _ _ r h => by simp [spec_syInside.j4] at h⟩
  | k + 1 => by
    obtain ⟨ih0, ih1, ih2, ih3, ih4⟩ := spec_syInside.mono_l k
    refine ⟨?_, ?_, ?_, ?_, ?_⟩
    · intro y0 y1 y2 y3
      unfold spec_syInside.l0
      repeat' first
      | (with_reducible exact ih0 _ _ _ _)
      | (with_reducible exact ih1 _ _ _ _ _ _ _ _ _)
      | (with_reducible exact ih2 _ _ _ _ _ _ _ _ _ _ _ _ _ _)
      | (with_reducible exact ih3 _ _ _ _ _ _ _ _ _ _ _ _ _ _ _ _ _)
      | (with_reducible exact ih4 _ _ _ _ _ _ _ _ _ _ _ _ _ _ _ _ _ _)
      | (with_reducible exact LeO.refl _)
      | (with_reducible exact LeO.none _)
      | (with_reducible refine LeO.ite ?_ ?_)
      | (with_reducible refine LeO.bind ?_ (fun _ => ?_))
      | exact ih0 _ _ _ _
      | exact ih1 _ _ _ _ _ _ _ _ _
      | exact ih2 _ _ _ _ _ _ _ _ _ _ _ _ _ _
      | exact ih3 _ _ _ _ _ _ _ _ _ _ _ _ _ _ _ _ _
      | exact ih4 _ _ _ _ _ _ _ _ _ _ _ _ _ _ _ _ _ _
      | exact LeO.none _
      | refine LeO.ite ?_ ?_
      | refine LeO.bind ?_ (fun _ => ?_)
    · intro y0 y1 y2 y3 y4 y5 y6 y7 y8
      unfold spec_syInside.l1
      repeat' first
      | (with_reducible exact ih0 _ _ _ _)
      | (with_reducible exact ih1 _ _ _ _ _ _ _ _ _)
      | (with_reducible exact ih2 _ _ _ _ _ _ _ _ _ _ _ _ _ _)
      | (with_reducible exact ih3 _ _ _ _ _ _ _ _ _ _ _ _ _ _ _ _ _)
      | (with_reducible exact ih4 _ _ _ _ _ _ _ _ _ _ _ _ _ _ _ _ _ _)
      | (with_reducible exact LeO.refl _)
      | (with_reducible exact LeO.none _)
      | (with_reducible refine LeO.ite ?_ ?_)
      | (with_reducible refine LeO.bind ?_ (fun _ => ?_))
      | exact ih0 _ _ _ _
      | exact ih1 _ _ _ _ _ _ _ _ _
      | exact ih2 _ _ _ _ _ _ _ _ _ _ _ _ _ _
      | exact ih3 _ _ _ _ _ _ _ _ _ _ _ _ _ _ _ _ _
      | exact ih4 _ _ _ _ _ _ _ _ _ _ _ _ _ _ _ _ _ _
      | exact LeO.none _
      | refine LeO.ite ?_ ?_
      | refine LeO.bind ?_ (fun _ => ?_)
    · intro y0 y1 y2 y3 y4 y5 y6 y7 y8 y9 y10 y11 y12 y13
      unfold spec_syInside.l2
      repeat' first
      | (with_reducible exact ih0 _ _ _ _)
      | (with_reducible exact ih1 _ _ _ _ _ _ _ _ _)
      | (with_reducible exact ih2 _ _ _ _ _ _ _ _ _ _ _ _ _ _)
      | (with_reducible exact ih3 _ _ _ _ _ _ _ _ _ _ _ _ _ _ _ _ _)
      | (with_reducible exact ih4 _ _ _ _ _ _ _ _ _ _ _ _ _ _ _ _ _ _)
      | (with_reducible exact LeO.refl _)
      | (with_reducible exact LeO.none _)
      | (with_reducible refine LeO.ite ?_ ?_)
      | (with_reducible refine LeO.bind ?_ (fun _ => ?_))
      | exact ih0 _ _ _ _
      | exact ih1 _ _ _ _ _ _ _ _ _
      | exact ih2 _ _ _ _ _ _ _ _ _ _ _ _ _ _
      | exact ih3 _ _ _ _ _ _ _ _ _ _ _ _ _ _ _ _ _
      | exact ih4 _ _ _ _ _ _ _ _ _ _ _ _ _ _ _ _ _ _
      | exact LeO.none _
      | refine LeO.ite ?_ ?_
      | refine LeO.bind ?_ (fun _ => ?_)
    · intro y0 y1 y2 y3 y4 y5 y6 y7 y8 y9 y10 y11 y12 y13 y14 y15 y16
      unfold spec_syInside.l3
      repeat' first
      | (with_reducible exact ih0 _ _ _ _)
      | (with_reducible exact ih1 _ _ _ _ _ _ _ _ _)
      | (with_reducible exact ih2 _ _ _ _ _ _ _ _ _ _ _ _ _ _)
      | (with_reducible exact ih3 _ _ _ _ _ _ _ _ _ _ _ _ _ _ _ _ _)
      | (with_reducible exact ih4 _ _ _ _ _ _ _ _ _ _ _ _ _ _ _ _ _ _)
      | (with_reducible exact LeO.refl _)
      | (with_reducible exact LeO.none _)
      | (with_reducible refine LeO.ite ?_ ?_)
      | (with_reducible refine LeO.bind ?_ (fun _ => ?_))
      | exact ih0 _ _ _ _
      | exact ih1 _ _ _ _ _ _ _ _ _
      | exact ih2 _ _ _ _ _ _ _ _ _ _ _ _ _ _
      | exact ih3 _ _ _ _ _ _ _ _ _ _ _ _ _ _ _ _ _
      | exact ih4 _ _ _ _ _ _ _ _ _ _ _ _ _ _ _ _ _ _
      | exact LeO.none _
      | refine LeO.ite ?_ ?_
      | refine LeO.bind ?_ (fun _ => ?_)
    · intro y0 y1 y2 y3 y4 y5 y6 y7 y8 y9 y10 y11 y12 y13 y14 y15 y16 y17
      unfold spec_syInside.j4
      repeat' first
      | (with_reducible exact ih0 _ _ _ _)
      | (with_reducible exact ih1 _ _ _ _ _ _ _ _ _)
      | (with_reducible exact ih2 _ _ _ _ _ _ _ _ _ _ _ _ _ _)
      | (with_reducible exact ih3 _ _ _ _ _ _ _ _ _ _ _ _ _ _ _ _ _)
      | (with_reducible exact ih4 _ _ _ _ _ _ _ _ _ _ _ _ _ _ _ _ _ _)
      | (with_reducible exact LeO.refl _)
      | (with_reducible exact LeO.none _)
      | (with_reducible refine LeO.ite ?_ ?_)
      | (with_reducible refine LeO.bind ?_ (fun _ => ?_))
      | exact ih0 _ _ _ _
      | exact ih1 _ _ _ _ _ _ _ _ _
      | exact ih2 _ _ _ _ _ _ _ _ _ _ _ _ _ _
      | exact ih3 _ _ _ _ _ _ _ _ _ _ _ _ _ _ _ _ _
      | exact ih4 _ _ _ _ _ _ _ _ _ _ _ _ _ _ _ _ _ _
      | exact LeO.none _
      | refine LeO.ite ?_ ?_
      | refine LeO.bind ?_ (fun _ => ?_)
theorem spec_syInside.mono : ∀ a0 k, LeO (spec_syInside.f k a0) (spec_syInside.f (k + 1) a0) := by
  intro a0 k
  obtain ⟨ih0, ih1, ih2, ih3, ih4⟩ := spec_syInside.mono_l k
  unfold spec_syInside.f
  repeat' first
      | (with_reducible exact ih0 _ _ _ _)
      | (with_reducible exact ih1 _ _ _ _ _ _ _ _ _)
      | (with_reducible exact ih2 _ _ _ _ _ _ _ _ _ _ _ _ _ _)
      | (with_reducible exact ih3 _ _ _ _ _ _ _ _ _ _ _ _ _ _ _ _ _)
      | (with_reducible exact ih4 _ _ _ _ _ _ _ _ _ _ _ _ _ _ _ _ _ _)
      | (with_reducible exact LeO.refl _)
      | (with_reducible exact LeO.none _)
      | (with_reducible refine LeO.ite ?_ ?_)
      | (with_reducible refine LeO.bind ?_ (fun _ => ?_))
      | exact ih0 _ _ _ _
      | exact ih1 _ _ _ _ _ _ _ _ _
      | exact ih2 _ _ _ _ _ _ _ _ _ _ _ _ _ _
      | exact ih3 _ _ _ _ _ _ _ _ _ _ _ _ _ _ _ _ _
      | exact ih4 _ _ _ _ _ _ _ _ _ _ _ _ _ _ _ _ _ _
      | exact LeO.none _
      | refine LeO.ite ?_ ?_
      | refine LeO.bind ?_ (fun _ => ?_)
set_option maxHeartbeats 8000000 in
set_option maxRecDepth 100000 in
theorem spec_syInside.calls (k : Nat) (A0 : Option Addr) (c0 : Nat) (l0 : List ByteArray) (r1 : List Int) (r2 : Bool) (w : World) (hr0 : Kd.C Kd.string w A0 l0.length l0) (hc0 : l0.length ≤ c0) (h : spec_syInside.f k l0 = some (r1, r2)) :
    Calls Try.prog 58 #[.slice A0 l0.length c0] w fun e w' => ∃ v0_ : Value, e = .returned (.tuple #[v0_, .bool r2]) ∧ Kd.R (Kd.int .i64) 3 w' w.heap.size (fun _ => True) v0_ r1 ∧ Below w.heap.size w w' := by
  have HR0 := Aside0.mk hr0
  have HC0 := Aside0.mk hc0
  clear hr0 hc0
  have HB := Aside0.mk (Below.refl w.heap.size w)
  have H : (spec_syInside.l0 k l0 l0 (l0.length : Int) 0) = some (r1, r2) := h
  clear h
  have H' := Aside0.mk H
  clear H
  go_enter Try.func58, Try.ntmps58
  go_wp2
  go_loopg [13] k (fun kq v13 w' => ∃ (x13_1 : Int), v13 = .int .i64 x13_1 ∧ Aside0 (spec_syInside.l0 kq l0 l0 (l0.length : Int) x13_1 = some (r1, r2)) ∧ Aside0 (kq ≤ k) ∧ Aside0 (Below w.heap.size w w'))
  case atStart => exact ⟨(0), (by first | rfl | (simp; done) | (simp [*]; done)), H', ⟨Nat.le_refl _⟩, ⟨by repeat (first | (with_reducible first | exact HB.out | apply below_alloc | apply pw_below_drewN | apply below_drew1) | exact HB.out)⟩⟩
  case round =>
    clear H'
    obtain ⟨x13_1, rfl, HA, HK1, HB⟩ := hrel
    cases gk with
    | zero => exact absurd HA.out (by simp [spec_syInside.l0])
    | succ k1 =>
      have H := HA.out
      clear HA
      simp only [spec_syInside.l0] at H
      by_cases c2 : x13_1 < (l0.length : Int)
      · rw [if_pos c2] at H
        have c2b0 : decide (x13_1 < (l0.length : Int)) = true := decide_eq_true c2
        clear c2
        by_cases c3 : 0 ≤ x13_1
        · rw [if_pos c3] at H
          have c3b0 : decide (0 ≤ x13_1) = true := decide_eq_true c3
          clear c3
          by_cases c4 : x13_1 < (l0.length : Int)
          · rw [if_pos c4] at H
            have c4b0 : decide (x13_1 < (l0.length : Int)) = true := decide_eq_true c4
            clear c4
            have H' := Aside0.mk H
            clear H
            have p102 : 0 ≤ (x13_1 : Int) := of_decide_eq_true (by first | (with_reducible assumption) | assumption)
            have q102 : x13_1 < (l0.length : Int) := of_decide_eq_true (by first | (with_reducible assumption) | assumption)
            obtain ⟨ad102, e102, hx102_0⟩ := Kd.at_string HR0.out x13_1 p102 q102
            cases e102
            replace hx102_0 := (HB.out.cell (World.block_lt_of_cell? w _ hx102_0)).trans hx102_0
            replace p102 := eq_true p102
            replace q102 := eq_true q102
            go_wp2
            go_loopg [20] k1 (fun kq v20 w' => ∃ (x20_2 : Int), v20 = .int .i64 x20_2 ∧ Aside0 (spec_syInside.l1 kq l0 x13_1 (rdOf ByteArray.empty l0 x13_1) l0 (l0.length : Int) x13_1 l0 (l0.length : Int) x20_2 = some (r1, r2)) ∧ Aside0 (kq ≤ k1) ∧ Aside0 (Below w.heap.size w w'))
            case atStart => exact ⟨(0), (by first | rfl | (simp; done) | (simp [*]; done)), H', ⟨Nat.le_refl _⟩, ⟨by repeat (first | (with_reducible first | exact HB.out | apply below_alloc | apply pw_below_drewN | apply below_drew1) | exact HB.out)⟩⟩
            case round =>
              clear H'
              try clear p1
              try clear q1
              try clear hx1
              try clear c2
              try clear c2b0
              try clear p2
              try clear c3
              try clear c3b0
              try clear c4
              try clear c4b0
              try clear hx102_0
              try clear p102
              try clear q102
              obtain ⟨x20_2, rfl, HA, HK2, HB⟩ := hrel
              cases gk with
              | zero => exact absurd HA.out (by simp [spec_syInside.l1])
              | succ k2 =>
                have H := HA.out
                clear HA
                simp only [spec_syInside.l1] at H
                by_cases c5 : x20_2 < (l0.length : Int)
                · rw [if_pos c5] at H
                  have c5b0 : decide (x20_2 < (l0.length : Int)) = true := decide_eq_true c5
                  clear c5
                  by_cases c6 : 0 ≤ x20_2
                  · rw [if_pos c6] at H
                    have c6b0 : decide (0 ≤ x20_2) = true := decide_eq_true c6
                    clear c6
                    by_cases c7 : x20_2 < (l0.length : Int)
                    · rw [if_pos c7] at H
                      have c7b0 : decide (x20_2 < (l0.length : Int)) = true := decide_eq_true c7
                      clear c7
                      have H' := Aside0.mk H
                      clear H
                      have p103 : 0 ≤ (x20_2 : Int) := of_decide_eq_true (by first | (with_reducible assumption) | assumption)
                      have q103 : x20_2 < (l0.length : Int) := of_decide_eq_true (by first | (with_reducible assumption) | assumption)
                      obtain ⟨ad103, e103, hx103_0⟩ := Kd.at_string HR0.out x20_2 p103 q103
                      obtain rfl : ad102 = ad103 := (by injection e103)
                      replace hx103_0 := (HB.out.cell (World.block_lt_of_cell? w _ hx103_0)).trans hx103_0
                      replace p103 := eq_true p103
                      replace q103 := eq_true q103
                      go_wp2
                      go_loopg [27] k2 (fun kq v27 w' => ∃ (x27_3 : Int), v27 = .int .i64 x27_3 ∧ Aside0 (spec_syInside.l2 kq l0 x13_1 (rdOf ByteArray.empty l0 x13_1) x20_2 (rdOf ByteArray.empty l0 x20_2) l0 (l0.length : Int) x13_1 l0 (l0.length : Int) x20_2 l0 (l0.length : Int) x27_3 = some (r1, r2)) ∧ Aside0 (kq ≤ k2) ∧ Aside0 (Below w.heap.size w w'))
                      case atStart => exact ⟨(0), (by first | rfl | (simp; done) | (simp [*]; done)), H', ⟨Nat.le_refl _⟩, ⟨by repeat (first | (with_reducible first | exact HB.out | apply below_alloc | apply pw_below_drewN | apply below_drew1) | exact HB.out)⟩⟩
                      case round =>
                        clear H'
                        try clear p1
                        try clear q1
                        try clear hx1
                        try clear c2
                        try clear c2b0
                        try clear p2
                        try clear c3
                        try clear c3b0
                        try clear c4
                        try clear c4b0
                        try clear c5
                        try clear c5b0
                        try clear c6
                        try clear c6b0
                        try clear c7
                        try clear c7b0
                        try clear hx102_0
                        try clear hx103_0
                        try clear p1
                        try clear p102
                        try clear p103
                        try clear p2
                        try clear q1
                        try clear q102
                        try clear q103
                        obtain ⟨x27_3, rfl, HA, HK3, HB⟩ := hrel
                        cases gk with
                        | zero => exact absurd HA.out (by simp [spec_syInside.l2])
                        | succ k3 =>
                          have H := HA.out
                          clear HA
                          simp only [spec_syInside.l2] at H
                          by_cases c8 : x27_3 < (l0.length : Int)
                          · rw [if_pos c8] at H
                            have c8b0 : decide (x27_3 < (l0.length : Int)) = true := decide_eq_true c8
                            clear c8
                            by_cases c9 : 0 ≤ x27_3
                            · rw [if_pos c9] at H
                              have c9b0 : decide (0 ≤ x27_3) = true := decide_eq_true c9
                              clear c9
                              by_cases c10 : x27_3 < (l0.length : Int)
                              · rw [if_pos c10] at H
                                have c10b0 : decide (x27_3 < (l0.length : Int)) = true := decide_eq_true c10
                                clear c10
                                have H' := Aside0.mk H
                                clear H
                                have p104 : 0 ≤ (x27_3 : Int) := of_decide_eq_true (by first | (with_reducible assumption) | assumption)
                                have q104 : x27_3 < (l0.length : Int) := of_decide_eq_true (by first | (with_reducible assumption) | assumption)
                                obtain ⟨ad104, e104, hx104_0⟩ := Kd.at_string HR0.out x27_3 p104 q104
                                obtain rfl : ad102 = ad104 := (by injection e104)
                                replace hx104_0 := (HB.out.cell (World.block_lt_of_cell? w _ hx104_0)).trans hx104_0
                                replace p104 := eq_true p104
                                replace q104 := eq_true q104
                                go_wp2
                                go_loopg [10] k3 (fun kq v10 w' => ∃ (x10_4 : Int), v10 = .int .i64 x10_4 ∧ Aside0 (spec_syInside.l3 kq l0 x13_1 (rdOf ByteArray.empty l0 x13_1) x20_2 (rdOf ByteArray.empty l0 x20_2) x27_3 (rdOf ByteArray.empty l0 x27_3) x10_4 l0 (l0.length : Int) x13_1 l0 (l0.length : Int) x20_2 l0 (l0.length : Int) x27_3 = some (r1, r2)) ∧ Aside0 (kq ≤ k3) ∧ Aside0 (Below w.heap.size w w'))
                                case atStart => exact ⟨(0), (by first | rfl | (simp; done) | (simp [*]; done)), H', ⟨Nat.le_refl _⟩, ⟨by repeat (first | (with_reducible first | exact HB.out | apply below_alloc | apply pw_below_drewN | apply below_drew1) | exact HB.out)⟩⟩
                                case round =>
                                  clear H'
                                  try clear c1
                                  try clear p1
                                  try clear q1
                                  try clear hx1
                                  try clear c2
                                  try clear c2b0
                                  try clear p2
                                  try clear c3
                                  try clear c3b0
                                  try clear c4
                                  try clear c4b0
                                  try clear c5
                                  try clear c5b0
                                  try clear c6
                                  try clear c6b0
                                  try clear c7
                                  try clear c7b0
                                  try clear c8
                                  try clear c8b0
                                  try clear c9
                                  try clear c9b0
                                  try clear c10
                                  try clear c10b0
                                  try clear p10
                                  try clear q10
                                  try clear hx10
                                  try clear hx102_0
                                  try clear hx103_0
                                  try clear hx104_0
                                  try clear p1
                                  try clear p102
                                  try clear p103
                                  try clear p104
                                  try clear p2
                                  try clear q1
                                  try clear q102
                                  try clear q103
                                  try clear q104
                                  obtain ⟨x10_4, rfl, HA, HK4, HB⟩ := hrel
                                  cases gk with
                                  | zero => exact absurd HA.out (by simp [spec_syInside.l3])
                                  | succ k4 =>
                                    have H := HA.out
                                    clear HA
                                    simp only [spec_syInside.l3] at H
                                    by_cases c11 : (wrap64 (x10_4 + ((rdOf ByteArray.empty l0 x27_3).size : Int))) ≤ (wrap64 (((rdOf ByteArray.empty l0 x13_1).size : Int) + ((rdOf ByteArray.empty l0 x20_2).size : Int)))
                                    · rw [if_pos c11] at H
                                      have c11b0 : decide ((wrap64 (x10_4 + ((rdOf ByteArray.empty l0 x27_3).size : Int))) ≤ (wrap64 (((rdOf ByteArray.empty l0 x13_1).size : Int) + ((rdOf ByteArray.empty l0 x20_2).size : Int)))) = true := decide_eq_true c11
                                      clear c11
                                      have HC12 := Aside0.mk H
                                      clear H
                                      go_upto_region 13 with (fail)
                                      go_cut [61] (fun v61 wc => ∃ (kq : Nat) (x61_11 : Bool), v61 = .bool x61_11 ∧ Aside0 (spec_syInside.j4 kq l0 x13_1 (rdOf ByteArray.empty l0 x13_1) x20_2 (rdOf ByteArray.empty l0 x20_2) x27_3 (rdOf ByteArray.empty l0 x27_3) x10_4 l0 (l0.length : Int) x13_1 l0 (l0.length : Int) x20_2 l0 (l0.length : Int) x27_3 x61_11 = some (r1, r2)) ∧ Aside0 (kq ≤ k4) ∧ Aside0 (Below w.heap.size w wc))
                                      case first =>
                                        have H := HC12.out
                                        clear HC12
                                        by_cases c13 : x10_4 = 0
                                        · rw [if_pos c13] at H
                                          have c13b0 : (x10_4 == 0) = true := beq_iff_eq.mpr c13
                                          have c13b1 : (x10_4 != 0) = false := bne_eq_false_iff_eq.mpr c13
                                          clear c13
                                          (first | rw [c13b0] | (simp only [i64_w, i32_w]; rw [c13b0]) | skip)
                                          by_cases c14 : x27_3 = x13_1
                                          · rw [if_pos c14] at H
                                            have c14b0 : (x27_3 == x13_1) = true := beq_iff_eq.mpr c14
                                            have c14b1 : (x27_3 != x13_1) = false := bne_eq_false_iff_eq.mpr c14
                                            clear c14
                                            have H' := Aside0.mk H
                                            clear H
                                            go_wp2
                                            go_meet
                                            case rel => exact ⟨_, (true), (by first | rfl | (simp; done) | (simp [*]; done)), H', ⟨by have := HK1.out; have := HK2.out; have := HK3.out; have := HK4.out; first | omega | exact Nat.le_refl _⟩, ⟨by repeat (first | (with_reducible first | exact HB.out | apply below_alloc | apply pw_below_drewN | apply below_drew1) | exact HB.out)⟩⟩
                                          · rw [if_neg c14] at H
                                            have c14b0 : (x27_3 == x13_1) = false := beq_eq_false_iff_ne.mpr c14
                                            have c14b1 : (x27_3 != x13_1) = true := bne_iff_ne.mpr c14
                                            by_cases c15 : x10_4 = ((rdOf ByteArray.empty l0 x13_1).size : Int)
                                            · rw [if_pos c15] at H
                                              have c15b0 : (x10_4 == ((rdOf ByteArray.empty l0 x13_1).size : Int)) = true := beq_iff_eq.mpr c15
                                              have c15b1 : (x10_4 != ((rdOf ByteArray.empty l0 x13_1).size : Int)) = false := bne_eq_false_iff_eq.mpr c15
                                              clear c15
                                              have H' := Aside0.mk H
                                              clear H
                                              go_wp2
                                              go_meet
                                              case rel => exact ⟨_, ((x27_3 == x20_2)), (by first | rfl | (simp; done) | (simp [*]; done)), H', ⟨by have := HK1.out; have := HK2.out; have := HK3.out; have := HK4.out; first | omega | exact Nat.le_refl _⟩, ⟨by repeat (first | (with_reducible first | exact HB.out | apply below_alloc | apply pw_below_drewN | apply below_drew1) | exact HB.out)⟩⟩
                                            · rw [if_neg c15] at H
                                              have c15b0 : (x10_4 == ((rdOf ByteArray.empty l0 x13_1).size : Int)) = false := beq_eq_false_iff_ne.mpr c15
                                              have c15b1 : (x10_4 != ((rdOf ByteArray.empty l0 x13_1).size : Int)) = true := bne_iff_ne.mpr c15
                                              have H' := Aside0.mk H
                                              clear H
                                              go_wp2
                                              go_meet
                                              case rel => exact ⟨_, (false), (by first | rfl | (simp; done) | (simp [*]; done)), H', ⟨by have := HK1.out; have := HK2.out; have := HK3.out; have := HK4.out; first | omega | exact Nat.le_refl _⟩, ⟨by repeat (first | (with_reducible first | exact HB.out | apply below_alloc | apply pw_below_drewN | apply below_drew1) | exact HB.out)⟩⟩
                                        · rw [if_neg c13] at H
                                          have c13b0 : (x10_4 == 0) = false := beq_eq_false_iff_ne.mpr c13
                                          have c13b1 : (x10_4 != 0) = true := bne_iff_ne.mpr c13
                                          (first | rw [c13b0] | (simp only [i64_w, i32_w]; rw [c13b0]) | skip)
                                          by_cases c16 : x10_4 = ((rdOf ByteArray.empty l0 x13_1).size : Int)
                                          · rw [if_pos c16] at H
                                            have c16b0 : (x10_4 == ((rdOf ByteArray.empty l0 x13_1).size : Int)) = true := beq_iff_eq.mpr c16
                                            have c16b1 : (x10_4 != ((rdOf ByteArray.empty l0 x13_1).size : Int)) = false := bne_eq_false_iff_eq.mpr c16
                                            clear c16
                                            have H' := Aside0.mk H
                                            clear H
                                            go_wp2
                                            go_meet
                                            case rel => exact ⟨_, ((x27_3 == x20_2)), (by first | rfl | (simp; done) | (simp [*]; done)), H', ⟨by have := HK1.out; have := HK2.out; have := HK3.out; have := HK4.out; first | omega | exact Nat.le_refl _⟩, ⟨by repeat (first | (with_reducible first | exact HB.out | apply below_alloc | apply pw_below_drewN | apply below_drew1) | exact HB.out)⟩⟩
                                          · rw [if_neg c16] at H
                                            have c16b0 : (x10_4 == ((rdOf ByteArray.empty l0 x13_1).size : Int)) = false := beq_eq_false_iff_ne.mpr c16
                                            have c16b1 : (x10_4 != ((rdOf ByteArray.empty l0 x13_1).size : Int)) = true := bne_iff_ne.mpr c16
                                            have H' := Aside0.mk H
                                            clear H
                                            go_wp2
                                            go_meet
                                            case rel => exact ⟨_, (false), (by first | rfl | (simp; done) | (simp [*]; done)), H', ⟨by have := HK1.out; have := HK2.out; have := HK3.out; have := HK4.out; first | omega | exact Nat.le_refl _⟩, ⟨by repeat (first | (with_reducible first | exact HB.out | apply below_alloc | apply pw_below_drewN | apply below_drew1) | exact HB.out)⟩⟩
                                      case rest =>
                                        clear HC12
                                        try clear c1
                                        try clear p1
                                        try clear q1
                                        try clear hx1
                                        try clear c2
                                        try clear c2b0
                                        try clear p2
                                        try clear c3
                                        try clear c3b0
                                        try clear c4
                                        try clear c4b0
                                        try clear c5
                                        try clear c5b0
                                        try clear c6
                                        try clear c6b0
                                        try clear p6
                                        try clear c7
                                        try clear c7b0
                                        try clear c8
                                        try clear c8b0
                                        try clear c9
                                        try clear c9b0
                                        try clear c10
                                        try clear c10b0
                                        try clear p10
                                        try clear q10
                                        try clear hx10
                                        try clear c11
                                        try clear c11b0
                                        try clear c13
                                        try clear c13b0
                                        try clear c13b1
                                        try clear c14
                                        try clear c14b0
                                        try clear c14b1
                                        try clear c15
                                        try clear c15b0
                                        try clear c15b1
                                        try clear c16
                                        try clear c16b0
                                        try clear c16b1
                                        try clear hx102_0
                                        try clear hx103_0
                                        try clear hx104_0
                                        try clear p1
                                        try clear p10
                                        try clear p102
                                        try clear p103
                                        try clear p104
                                        try clear p2
                                        try clear q1
                                        try clear q10
                                        try clear q102
                                        try clear q103
                                        try clear q104
                                        obtain ⟨kq, x61_11, rfl, HA, HJ11, HB⟩ := hcut
                                        cases kq with
                                        | zero => exact absurd HA.out (by simp [spec_syInside.j4])
                                        | succ kj11 =>
                                          have H := HA.out
                                          clear HA
                                          simp only [spec_syInside.j4] at H
                                          by_cases c17 : x61_11 = true
                                          · subst c17
                                            have H1 : (spec_syInside.l3 kj11 l0 x13_1 (rdOf ByteArray.empty l0 x13_1) x20_2 (rdOf ByteArray.empty l0 x20_2) x27_3 (rdOf ByteArray.empty l0 x27_3) (wrap64 (x10_4 + 1)) l0 (l0.length : Int) x13_1 l0 (l0.length : Int) x20_2 l0 (l0.length : Int) x27_3) = some (r1, r2) := by rw [if_pos rfl] at H; exact H
                                            clear H
                                            have H := H1
                                            clear H1
                                            have H' := Aside0.mk H
                                            clear H
                                            go_wp2
                                            go_roundg kj11
                                            case measure => have := HK1.out; have := HK2.out; have := HK3.out; have := HK4.out; have := HJ11.out; omega
                                            case rel => exact ⟨(wrap64 (x10_4 + 1)), (by first | rfl | (simp; done) | (simp [*]; done)), H', ⟨by have := HK1.out; have := HK2.out; have := HK3.out; have := HK4.out; have := HJ11.out; omega⟩, ⟨by repeat (first | (with_reducible first | exact HB.out | apply below_alloc | apply pw_below_drewN | apply below_drew1) | exact HB.out)⟩⟩
                                          · replace c17 := Bool.eq_false_iff.mpr c17
                                            subst c17
                                            have H1 : (if (rdOf ByteArray.empty l0 x13_1).size + (rdOf ByteArray.empty l0 x20_2).size ≤ 9223372036854775807 then (if 0 ≤ x10_4 then (if x10_4 ≤ (wrap64 (x10_4 + ((rdOf ByteArray.empty l0 x27_3).size : Int))) then (if (wrap64 (x10_4 + ((rdOf ByteArray.empty l0 x27_3).size : Int))) ≤ (((rdOf ByteArray.empty l0 x13_1) ++ (rdOf ByteArray.empty l0 x20_2)).size : Int) then (if (((rdOf ByteArray.empty l0 x13_1) ++ (rdOf ByteArray.empty l0 x20_2)).extract (x10_4 : Int).toNat ((wrap64 (x10_4 + ((rdOf ByteArray.empty l0 x27_3).size : Int))) : Int).toNat).toList = (rdOf ByteArray.empty l0 x27_3).toList then (some ((([x13_1, x20_2, x27_3, x10_4] : List Int)), true)) else (spec_syInside.l3 kj11 l0 x13_1 (rdOf ByteArray.empty l0 x13_1) x20_2 (rdOf ByteArray.empty l0 x20_2) x27_3 (rdOf ByteArray.empty l0 x27_3) (wrap64 (x10_4 + 1)) l0 (l0.length : Int) x13_1 l0 (l0.length : Int) x20_2 l0 (l0.length : Int) x27_3)) else (none)) else (none)) else (none)) else (none)) = some (r1, r2) := by rw [if_neg (show ¬ (false = true) by decide)] at H; exact H
                                            clear H
                                            have H := H1
                                            clear H1
                                            by_cases c18 : (rdOf ByteArray.empty l0 x13_1).size + (rdOf ByteArray.empty l0 x20_2).size ≤ 9223372036854775807
                                            · rw [if_pos c18] at H
                                              have c18b0 := eq_true c18
                                              have c18b1 : decide ((rdOf ByteArray.empty l0 x13_1).size + (rdOf ByteArray.empty l0 x20_2).size ≤ 9223372036854775807) = true := decide_eq_true c18
                                              try have c18b2 : (9223372036854775807 < (rdOf ByteArray.empty l0 x13_1).size + (rdOf ByteArray.empty l0 x20_2).size) = False := eq_false (Nat.not_lt.2 c18)
                                              by_cases c19 : 0 ≤ x10_4
                                              · rw [if_pos c19] at H
                                                have c19b0 := eq_true c19
                                                have c19b1 : decide (0 ≤ x10_4) = true := decide_eq_true c19
                                                clear c19
                                                by_cases c20 : x10_4 ≤ (wrap64 (x10_4 + ((rdOf ByteArray.empty l0 x27_3).size : Int)))
                                                · rw [if_pos c20] at H
                                                  have c20b0 := eq_true c20
                                                  have c20b1 : decide (x10_4 ≤ (wrap64 (x10_4 + ((rdOf ByteArray.empty l0 x27_3).size : Int)))) = true := decide_eq_true c20
                                                  by_cases c21 : (wrap64 (x10_4 + ((rdOf ByteArray.empty l0 x27_3).size : Int))) ≤ (((rdOf ByteArray.empty l0 x13_1) ++ (rdOf ByteArray.empty l0 x20_2)).size : Int)
                                                  · rw [if_pos c21] at H
                                                    have c21b0 := eq_true c21
                                                    (try (have c21b0s := c21; simp only [ByteArray.size_append, Int.natCast_add] at c21b0s; replace c21b0s := eq_true c21b0s))
                                                    have c21b1 : decide ((wrap64 (x10_4 + ((rdOf ByteArray.empty l0 x27_3).size : Int))) ≤ (((rdOf ByteArray.empty l0 x13_1) ++ (rdOf ByteArray.empty l0 x20_2)).size : Int)) = true := decide_eq_true c21
                                                    (try (have c21b1s := c21b1; simp only [ByteArray.size_append, Int.natCast_add] at c21b1s))
                                                    by_cases c22 : (((rdOf ByteArray.empty l0 x13_1) ++ (rdOf ByteArray.empty l0 x20_2)).extract (x10_4 : Int).toNat ((wrap64 (x10_4 + ((rdOf ByteArray.empty l0 x27_3).size : Int))) : Int).toNat).toList = (rdOf ByteArray.empty l0 x27_3).toList
                                                    · rw [if_pos c22] at H
                                                      have c22b0 : ((((rdOf ByteArray.empty l0 x13_1) ++ (rdOf ByteArray.empty l0 x20_2)).extract (x10_4 : Int).toNat ((wrap64 (x10_4 + ((rdOf ByteArray.empty l0 x27_3).size : Int))) : Int).toNat).toList == (rdOf ByteArray.empty l0 x27_3).toList) = true := beq_iff_eq.mpr c22
                                                      (try (have c22b0s := c22b0; simp only [ByteArray.size_append, Int.natCast_add] at c22b0s))
                                                      have c22b1 : ((((rdOf ByteArray.empty l0 x13_1) ++ (rdOf ByteArray.empty l0 x20_2)).extract (x10_4 : Int).toNat ((wrap64 (x10_4 + ((rdOf ByteArray.empty l0 x27_3).size : Int))) : Int).toNat).toList != (rdOf ByteArray.empty l0 x27_3).toList) = false := bne_eq_false_iff_eq.mpr c22
                                                      (try (have c22b1s := c22b1; simp only [ByteArray.size_append, Int.natCast_add] at c22b1s))
                                                      clear c22
                                                      obtain ⟨y105, hy105⟩ : ∃ y_ : List Int, y_ = (([x13_1, x20_2, x27_3, x10_4] : List Int)) := ⟨_, rfl⟩
                                                      replace H : (some (y105, true)) = some (r1, r2) := by first | (rw [hy105]; with_reducible exact H) | (have H2_ := (Option.bind_some _ _).symm.trans H; rw [hy105]; with_reducible exact H2_) | (have H2_ := (Option.bind_some _ _).symm.trans H; with_reducible exact H2_) | with_reducible exact H | (rw [hy105]; exact H) | exact H
                                                      have Ny105 := Aside0.mk hy105
                                                      clear hy105
                                                      simp only [Option.some.injEq, Prod.mk.injEq] at H
                                                      obtain ⟨rfl, rfl⟩ := H
                                                      go_wp2_with (first | ((with_reducible refine gate_dst (N := 77) rfl ?_); (try (refine gate_guard (by rfl) ?_; dsimp only)); refine Kd.R_lit (Kd.int .i64) _ 3 ?hg (N := 77) ?hd (xs := ([x13_1, x20_2, x27_3, x10_4] : List Int)) (inner := [.int .i64 x13_1, .int .i64 x20_2, .int .i64 x27_3, .int .i64 x10_4]) (ok := fun _ => True) (okp := fun _ => True) ?hr ?hp (fun _ hk => hk) trivial (Below.refl _ _) (Nat.le_refl _) (by simp) ?_; (case hd => rfl); (case hg => rfl); (case hr => first | (go_simp; done) | (go_simp; rfl)); (case hp => exact (Reps.one (show Kd.M (Kd.int .i64) _ _ _ x13_1 [.int .i64 x13_1] from rfl) (Reps.one (show Kd.M (Kd.int .i64) _ _ _ x20_2 [.int .i64 x20_2] from rfl) (Reps.one (show Kd.M (Kd.int .i64) _ _ _ x27_3 [.int .i64 x27_3] from rfl) (Reps.one (show Kd.M (Kd.int .i64) _ _ _ x10_4 [.int .i64 x10_4] from rfl) (Reps.none _ _)))))); intro v106 w23 ho24 hb hg_ hnew_; clear hg_ hnew_; (first | rw [← Ny105.out] at ho24 | (simp only [Int.reduceToNat] at ho24; rw [← Ny105.out] at ho24)); have n0_ := Aside0.mk (Kd.R_lower ho24 (below_size (by repeat (first | (with_reducible first | exact HB.out | apply below_alloc | apply pw_below_drewN | apply below_drew1) | exact HB.out)))); have n1_ := Aside0.mk (below_step (by repeat (first | (with_reducible first | exact HB.out | apply below_alloc | apply pw_below_drewN | apply below_drew1) | exact HB.out)) hb); clear HB; have HO107 := n0_; have HB := n1_; clear n0_ n1_; clear hb ho24))
                                                      go_ret2
                                                      exact ⟨_, by first | rfl | (simp [errW_none, errW_some] <;> rfl) | (simp [*, errW_none, errW_some] <;> rfl), by (with_reducible repeat (first | apply Kd.R_alloc | apply Kd.R_drewN | apply Kd.R_drew)); exact HO107.out, by repeat (first | (with_reducible first | exact HB.out | apply below_alloc | apply pw_below_drewN | apply below_drew1) | exact HB.out)⟩
                                                    · rw [if_neg c22] at H
                                                      have c22b0 : ((((rdOf ByteArray.empty l0 x13_1) ++ (rdOf ByteArray.empty l0 x20_2)).extract (x10_4 : Int).toNat ((wrap64 (x10_4 + ((rdOf ByteArray.empty l0 x27_3).size : Int))) : Int).toNat).toList == (rdOf ByteArray.empty l0 x27_3).toList) = false := beq_eq_false_iff_ne.mpr c22
                                                      (try (have c22b0s := c22b0; simp only [ByteArray.size_append, Int.natCast_add] at c22b0s))
                                                      have c22b1 : ((((rdOf ByteArray.empty l0 x13_1) ++ (rdOf ByteArray.empty l0 x20_2)).extract (x10_4 : Int).toNat ((wrap64 (x10_4 + ((rdOf ByteArray.empty l0 x27_3).size : Int))) : Int).toNat).toList != (rdOf ByteArray.empty l0 x27_3).toList) = true := bne_iff_ne.mpr c22
                                                      (try (have c22b1s := c22b1; simp only [ByteArray.size_append, Int.natCast_add] at c22b1s))
                                                      have H' := Aside0.mk H
                                                      clear H
                                                      go_wp2
                                                      go_roundg kj11
                                                      case measure => have := HK1.out; have := HK2.out; have := HK3.out; have := HK4.out; have := HJ11.out; omega
                                                      case rel => exact ⟨(wrap64 (x10_4 + 1)), (by first | rfl | (simp; done) | (simp [*]; done)), H', ⟨by have := HK1.out; have := HK2.out; have := HK3.out; have := HK4.out; have := HJ11.out; omega⟩, ⟨by repeat (first | (with_reducible first | exact HB.out | apply below_alloc | apply pw_below_drewN | apply below_drew1) | exact HB.out)⟩⟩
                                                  · rw [if_neg c21] at H
                                                    exact absurd H (by simp)
                                                · rw [if_neg c20] at H
                                                  exact absurd H (by simp)
                                              · rw [if_neg c19] at H
                                                exact absurd H (by simp)
                                            · rw [if_neg c18] at H
                                              exact absurd H (by simp)
                                    · rw [if_neg c11] at H
                                      have c11b0 : decide ((wrap64 (x10_4 + ((rdOf ByteArray.empty l0 x27_3).size : Int))) ≤ (wrap64 (((rdOf ByteArray.empty l0 x13_1).size : Int) + ((rdOf ByteArray.empty l0 x20_2).size : Int)))) = false := decide_eq_false c11
                                      clear c11
                                      have H' := Aside0.mk H
                                      clear H
                                      go_wp2
                                      go_roundg k4
                                      case measure => have := HK1.out; have := HK2.out; have := HK3.out; have := HK4.out; omega
                                      case rel => exact ⟨(wrap64 (x27_3 + 1)), (by first | rfl | (simp; done) | (simp [*]; done)), H', ⟨by have := HK1.out; have := HK2.out; have := HK3.out; have := HK4.out; omega⟩, ⟨by repeat (first | (with_reducible first | exact HB.out | apply below_alloc | apply pw_below_drewN | apply below_drew1) | exact HB.out)⟩⟩
                              · rw [if_neg c10] at H
                                exact absurd H (by simp)
                            · rw [if_neg c9] at H
                              exact absurd H (by simp)
                          · rw [if_neg c8] at H
                            have c8b0 : decide (x27_3 < (l0.length : Int)) = false := decide_eq_false c8
                            clear c8
                            have H' := Aside0.mk H
                            clear H
                            go_wp2
                            go_roundg k3
                            case measure => have := HK1.out; have := HK2.out; have := HK3.out; omega
                            case rel => exact ⟨(wrap64 (x20_2 + 1)), (by first | rfl | (simp; done) | (simp [*]; done)), H', ⟨by have := HK1.out; have := HK2.out; have := HK3.out; omega⟩, ⟨by repeat (first | (with_reducible first | exact HB.out | apply below_alloc | apply pw_below_drewN | apply below_drew1) | exact HB.out)⟩⟩
                    · rw [if_neg c7] at H
                      exact absurd H (by simp)
                  · rw [if_neg c6] at H
                    exact absurd H (by simp)
                · rw [if_neg c5] at H
                  have c5b0 : decide (x20_2 < (l0.length : Int)) = false := decide_eq_false c5
                  clear c5
                  have H' := Aside0.mk H
                  clear H
                  go_wp2
                  go_roundg k2
                  case measure => have := HK1.out; have := HK2.out; omega
                  case rel => exact ⟨(wrap64 (x13_1 + 1)), (by first | rfl | (simp; done) | (simp [*]; done)), H', ⟨by have := HK1.out; have := HK2.out; omega⟩, ⟨by repeat (first | (with_reducible first | exact HB.out | apply below_alloc | apply pw_below_drewN | apply below_drew1) | exact HB.out)⟩⟩
          · rw [if_neg c4] at H
            exact absurd H (by simp)
        · rw [if_neg c3] at H
          exact absurd H (by simp)
      · rw [if_neg c2] at H
        have c2b0 : decide (x13_1 < (l0.length : Int)) = false := decide_eq_false c2
        clear c2
        simp only [Option.some.injEq, Prod.mk.injEq] at H
        obtain ⟨rfl, rfl⟩ := H
        go_wp2
        go_ret2
        exact ⟨_, by first | rfl | (simp [errW_none, errW_some] <;> rfl) | (simp [*, errW_none, errW_some] <;> rfl), by first | exact Kd.R_nil _ _ _ _ _ | exact Kd.N_nil _ _ _ _ _ | exact Kd.V_nil _ _ _ _ _ | exact Kd.Q_nil _ _ _ _ _ | exact Kd.S_nil _ _ _ _ _, by repeat (first | (with_reducible first | exact HB.out | apply below_alloc | apply pw_below_drewN | apply below_drew1) | exact HB.out)⟩

end Go.Proofs.Ytnfpcgjdpcmkcaa.X

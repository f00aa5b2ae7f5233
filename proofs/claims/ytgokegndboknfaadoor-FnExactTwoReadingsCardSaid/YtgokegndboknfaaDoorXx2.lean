-- WRITTEN by xprint.py of this repo: the kit's print.py with contracts given by hand (given.py). Lean checks it.
import Derived.Test.YtgokegndboknfaaDoorXx0
import Derived.Test.YtgokegndboknfaaDoorXx1
namespace Go.Proofs.YtgokegndboknfaaDoor.X
open Go.RowKit Go.Proofs.YtgokegndboknfaaDoorW.PrintWords Go.Proofs.YtgokegndboknfaaDoorW.PrintLast Go.Proofs.YtgokegndboknfaaDoorW.PrintMore
attribute [local go_sem] max2_int min2_int max_two min_two max_three min_three max_four min_four   -- for this text's walks alone
set_option linter.unusedVariables false
set_option linter.unusedSimpArgs false

/-! ### spec_dcShortest: function 21 -/
mutual
def spec_dcShortest.l0 : Nat → List ByteArray → List (S52) → List ByteArray → Int → Int → Option (ByteArray)
 | 0, _, _, _, _, _ => none
 | k + 1, x0, x3, x16, x17, x18 => if x18 < x17 then (if 0 ≤ x18 then (if x18 < (x16.length : Int) then (spec_dcShortest.l1 k x0 x3 (rdOf ByteArray.empty x16 x18) x16 x17 x18 x0 (x0.length : Int) 0) else (none)) else (none)) else (spec_dcShortest.l2 k x0 x3 ([] : List ByteArray) (⟨#[]⟩ : ByteArray))
def spec_dcShortest.l1 : Nat → List ByteArray → List (S52) → ByteArray → List ByteArray → Int → Int → List ByteArray → Int → Int → Option (ByteArray)
 | 0, _, _, _, _, _, _, _, _, _ => none
 | k + 1, x0, x3, x6, x16, x17, x18, x22, x23, x24 => if x24 < x23 then (if 0 ≤ x24 then (if x24 < (x22.length : Int) then (if ((rdOf ByteArray.empty x22 x24).size : Int) > (x6.size : Int) then ((spec_wdBegins.f (rdOf ByteArray.empty x22 x24) x6).bind fun t118 => (if t118 = true then (if 0 ≤ (x6.size : Int) then (if (x6.size : Int) ≤ ((rdOf ByteArray.empty x22 x24).size : Int) then (if x3.length < 4398046511104 then (spec_dcShortest.l1 k x0 (x3 ++ [(⟨rdOf ByteArray.empty x22 x24, (rdOf ByteArray.empty x22 x24).extract ((x6.size : Int) : Int).toNat (rdOf ByteArray.empty x22 x24).size⟩ : S52)]) x6 x16 x17 x18 x22 x23 (wrap64 (x24 + 1))) else (none)) else (none)) else (none)) else (spec_dcShortest.l1 k x0 x3 x6 x16 x17 x18 x22 x23 (wrap64 (x24 + 1))))) else (spec_dcShortest.l1 k x0 x3 x6 x16 x17 x18 x22 x23 (wrap64 (x24 + 1)))) else (none)) else (none)) else (spec_dcShortest.l0 k x0 x3 x16 x17 (wrap64 (x18 + 1)))
def spec_dcShortest.l2 : Nat → List ByteArray → List (S52) → List ByteArray → ByteArray → Option (ByteArray)
 | 0, _, _, _, _ => none
 | k + 1, x0, x3, x4, x9 => if (x3.length : Int) > 0 then (spec_dcShortest.l3 k x0 x3 x4 x9 0 x3 (x3.length : Int) 0) else (some x9)
def spec_dcShortest.l3 : Nat → List ByteArray → List (S52) → List ByteArray → ByteArray → Int → List (S52) → Int → Int → Option (ByteArray)
 | 0, _, _, _, _, _, _, _, _ => none
 | k + 1, x0, x3, x4, x9, x10, x52, x53, x54 => if x54 < x53 then (if 0 ≤ x54 then (if x54 < (x52.length : Int) then (if 0 ≤ x10 then (if x10 < (x3.length : Int) then ((spec_wdLess.f ((rd_T52 x52 x54).f0) ((rd_T52 x3 x10).f0)).bind fun t125 => (if t125 = true then (spec_dcShortest.l3 k x0 x3 x4 x9 x54 x52 x53 (wrap64 (x54 + 1))) else (spec_dcShortest.l3 k x0 x3 x4 x9 x10 x52 x53 (wrap64 (x54 + 1))))) else (none)) else (none)) else (none)) else (none)) else (if 0 ≤ x10 then (if x10 < (x3.length : Int) then ((some (([] : List (S52)) : List (S52))).bind fun y128 => (if x10 ≤ (x3.length : Int) then ((some (x3.take (x10 : Int).toNat : List (S52))).bind fun y131 => (if y128.length + y131.length < 4398046511104 then ((some (y128 ++ y131 : List (S52))).bind fun y135 => (if 0 ≤ (wrap64 (x10 + 1)) then (if (wrap64 (x10 + 1)) ≤ (x3.length : Int) then ((some (x3.drop ((wrap64 (x10 + 1)) : Int).toNat : List (S52))).bind fun y138 => (if y135.length + y138.length < 4398046511104 then ((some (y135 ++ y138 : List (S52))).bind fun y142 => ((spec_wdHas.f k x4 ((rd_T52 x3 x10).f1)).bind fun t145 => (if t145 = true then (spec_dcShortest.j4 k x0 y142 x4 x9 true ((rd_T52 x3 x10).f0) ((rd_T52 x3 x10).f1)) else (if x9.toList = ([] : List UInt8) then (spec_dcShortest.j4 k x0 y142 x4 x9 false ((rd_T52 x3 x10).f0) ((rd_T52 x3 x10).f1)) else ((spec_wdLess.f ((rd_T52 x3 x10).f0) x9).bind fun t146 => (spec_dcShortest.j4 k x0 y142 x4 x9 (!t146) ((rd_T52 x3 x10).f0) ((rd_T52 x3 x10).f1))))))) else (none))) else (none)) else (none))) else (none))) else (none))) else (none)) else (none))
def spec_dcShortest.j4 : Nat → List ByteArray → List (S52) → List ByteArray → ByteArray → Bool → ByteArray → ByteArray → Option (ByteArray)
 | 0, _, _, _, _, _, _, _ => none
 | k + 1, x0, x3, x4, x9, x97, x128000, x128001 => if x97 = true then (spec_dcShortest.l2 k x0 x3 x4 x9) else (if x4.length < 8796093022208 then (spec_dcShortest.l4 k x0 x3 (x4 ++ [x128001]) x9 x0 (x0.length : Int) 0 x128000 x128001) else (none))
def spec_dcShortest.l4 : Nat → List ByteArray → List (S52) → List ByteArray → ByteArray → List ByteArray → Int → Int → ByteArray → ByteArray → Option (ByteArray)
 | 0, _, _, _, _, _, _, _, _, _ => none
 | k + 1, x0, x3, x4, x9, x103, x104, x105, x128000, x128001 => if x105 < x104 then (if 0 ≤ x105 then (if x105 < (x103.length : Int) then (if (rdOf ByteArray.empty x103 x105).toList = x128001.toList then (if x9.toList = ([] : List UInt8) then (spec_dcShortest.l4 k x0 x3 x4 x128000 x103 x104 (wrap64 (x105 + 1)) x128000 x128001) else ((spec_wdLess.f x128000 x9).bind fun t151 => (if t151 = true then (spec_dcShortest.l4 k x0 x3 x4 x128000 x103 x104 (wrap64 (x105 + 1)) x128000 x128001) else (spec_dcShortest.l4 k x0 x3 x4 x9 x103 x104 (wrap64 (x105 + 1)) x128000 x128001)))) else ((spec_wdBegins.f x128001 (rdOf ByteArray.empty x103 x105)).bind fun t152 => (if t152 = true then (if 0 ≤ ((rdOf ByteArray.empty x103 x105).size : Int) then (if ((rdOf ByteArray.empty x103 x105).size : Int) ≤ (x128001.size : Int) then (if x3.length < 4398046511104 then (spec_dcShortest.l4 k x0 (x3 ++ [(⟨x128000, x128001.extract (((rdOf ByteArray.empty x103 x105).size : Int) : Int).toNat x128001.size⟩ : S52)]) x4 x9 x103 x104 (wrap64 (x105 + 1)) x128000 x128001) else (none)) else (none)) else (none)) else ((spec_wdBegins.f (rdOf ByteArray.empty x103 x105) x128001).bind fun t156 => (if t156 = true then (if 0 ≤ (x128001.size : Int) then (if (x128001.size : Int) ≤ ((rdOf ByteArray.empty x103 x105).size : Int) then (if x128000.size + ((rdOf ByteArray.empty x103 x105).extract ((x128001.size : Int) : Int).toNat (rdOf ByteArray.empty x103 x105).size).size ≤ 9223372036854775807 then (if x3.length < 4398046511104 then (spec_dcShortest.l4 k x0 (x3 ++ [(⟨x128000 ++ ((rdOf ByteArray.empty x103 x105).extract ((x128001.size : Int) : Int).toNat (rdOf ByteArray.empty x103 x105).size), (rdOf ByteArray.empty x103 x105).extract ((x128001.size : Int) : Int).toNat (rdOf ByteArray.empty x103 x105).size⟩ : S52)]) x4 x9 x103 x104 (wrap64 (x105 + 1)) x128000 x128001) else (none)) else (none)) else (none)) else (none)) else (spec_dcShortest.l4 k x0 x3 x4 x9 x103 x104 (wrap64 (x105 + 1)) x128000 x128001)))))) else (none)) else (none)) else (spec_dcShortest.l2 k x0 x3 x4 x9)
end
def spec_dcShortest.f (k : Nat) (l0 : List ByteArray) : Option (ByteArray) := spec_dcShortest.l0 k l0 ([] : List (S52)) l0 (l0.length : Int) 0
theorem spec_dcShortest.mono_l : ∀ k, (∀ y0 y1 y2 y3 y4, LeO (spec_dcShortest.l0 k y0 y1 y2 y3 y4) (spec_dcShortest.l0 (k + 1) y0 y1 y2 y3 y4)) ∧ (∀ y0 y1 y2 y3 y4 y5 y6 y7 y8, LeO (spec_dcShortest.l1 k y0 y1 y2 y3 y4 y5 y6 y7 y8) (spec_dcShortest.l1 (k + 1) y0 y1 y2 y3 y4 y5 y6 y7 y8)) ∧ (∀ y0 y1 y2 y3, LeO (spec_dcShortest.l2 k y0 y1 y2 y3) (spec_dcShortest.l2 (k + 1) y0 y1 y2 y3)) ∧ (∀ y0 y1 y2 y3 y4 y5 y6 y7, LeO (spec_dcShortest.l3 k y0 y1 y2 y3 y4 y5 y6 y7) (spec_dcShortest.l3 (k + 1) y0 y1 y2 y3 y4 y5 y6 y7)) ∧ (∀ y0 y1 y2 y3 y4 y5 y6, LeO (spec_dcShortest.j4 k y0 y1 y2 y3 y4 y5 y6) (spec_dcShortest.j4 (k + 1) y0 y1 y2 y3 y4 y5 y6)) ∧ (∀ y0 y1 y2 y3 y4 y5 y6 y7 y8, LeO (spec_dcShortest.l4 k y0 y1 y2 y3 y4 y5 y6 y7 y8) (spec_dcShortest.l4 (k + 1) y0 y1 y2 y3 y4 y5 y6 y7 y8))
 | 0 => ⟨fun _ _ _ _ _ r h => by simp [spec_dcShortest.l0] at h, fun _ _ _ _ _ _ _ _ _ r h => by simp [spec_dcShortest.l1] at h, fun _ _ _ _ r h => by simp [spec_dcShortest.l2] at h, fun _ _ _ _ _ _ _ _ r h => by simp [spec_dcShortest.l3] at h, fun _ _ _ _ _ _ _ r h => by simp [spec_dcShortest.j4] at h, fun _ _ _ _ _ _ _ _ _ r h => by simp [spec_dcShortest.l4] at h⟩
 | k + 1 => by
  obtain ⟨ih0, ih1, ih2, ih3, ih4, ih5⟩ := spec_dcShortest.mono_l k
  refine ⟨?_, ?_, ?_, ?_, ?_, ?_⟩
  ·intro y0 y1 y2 y3 y4
   unfold spec_dcShortest.l0
   repeat' first
   | (with_reducible exact ih0 _ _ _ _ _)
   | (with_reducible exact ih1 _ _ _ _ _ _ _ _ _)
   | (with_reducible exact ih2 _ _ _ _)
   | (with_reducible exact ih3 _ _ _ _ _ _ _ _)
   | (with_reducible exact ih4 _ _ _ _ _ _ _)
   | (with_reducible exact ih5 _ _ _ _ _ _ _ _ _)
   | (with_reducible exact spec_wdHas.mono _ _ _)
   | (with_reducible exact LeO.refl _)
   | (with_reducible exact LeO.none _)
   | (with_reducible refine LeO.ite ?_ ?_)
   | (with_reducible refine LeO.bind ?_ (fun _ => ?_))
   | exact ih0 _ _ _ _ _
   | exact ih1 _ _ _ _ _ _ _ _ _
   | exact ih2 _ _ _ _
   | exact ih3 _ _ _ _ _ _ _ _
   | exact ih4 _ _ _ _ _ _ _
   | exact ih5 _ _ _ _ _ _ _ _ _
   | exact spec_wdHas.mono _ _ _
   | exact LeO.none _
   | refine LeO.ite ?_ ?_
   | refine LeO.bind ?_ (fun _ => ?_)
  ·intro y0 y1 y2 y3 y4 y5 y6 y7 y8
   unfold spec_dcShortest.l1
   repeat' first
   | (with_reducible exact ih0 _ _ _ _ _)
   | (with_reducible exact ih1 _ _ _ _ _ _ _ _ _)
   | (with_reducible exact ih2 _ _ _ _)
   | (with_reducible exact ih3 _ _ _ _ _ _ _ _)
   | (with_reducible exact ih4 _ _ _ _ _ _ _)
   | (with_reducible exact ih5 _ _ _ _ _ _ _ _ _)
   | (with_reducible exact spec_wdHas.mono _ _ _)
   | (with_reducible exact LeO.refl _)
   | (with_reducible exact LeO.none _)
   | (with_reducible refine LeO.ite ?_ ?_)
   | (with_reducible refine LeO.bind ?_ (fun _ => ?_))
   | exact ih0 _ _ _ _ _
   | exact ih1 _ _ _ _ _ _ _ _ _
   | exact ih2 _ _ _ _
   | exact ih3 _ _ _ _ _ _ _ _
   | exact ih4 _ _ _ _ _ _ _
   | exact ih5 _ _ _ _ _ _ _ _ _
   | exact spec_wdHas.mono _ _ _
   | exact LeO.none _
   | refine LeO.ite ?_ ?_
   | refine LeO.bind ?_ (fun _ => ?_)
  ·intro y0 y1 y2 y3
   unfold spec_dcShortest.l2
   repeat' first
   | (with_reducible exact ih0 _ _ _ _ _)
   | (with_reducible exact ih1 _ _ _ _ _ _ _ _ _)
   | (with_reducible exact ih2 _ _ _ _)
   | (with_reducible exact ih3 _ _ _ _ _ _ _ _)
   | (with_reducible exact ih4 _ _ _ _ _ _ _)
   | (with_reducible exact ih5 _ _ _ _ _ _ _ _ _)
   | (with_reducible exact spec_wdHas.mono _ _ _)
   | (with_reducible exact LeO.refl _)
   | (with_reducible exact LeO.none _)
   | (with_reducible refine LeO.ite ?_ ?_)
   | (with_reducible refine LeO.bind ?_ (fun _ => ?_))
   | exact ih0 _ _ _ _ _
   | exact ih1 _ _ _ _ _ _ _ _ _
   | exact ih2 _ _ _ _
   | exact ih3 _ _ _ _ _ _ _ _
   | exact ih4 _ _ _ _ _ _ _
   | exact ih5 _ _ _ _ _ _ _ _ _
   | exact spec_wdHas.mono _ _ _
   | exact LeO.none _
   | refine LeO.ite ?_ ?_
   | refine LeO.bind ?_ (fun _ => ?_)
  ·intro y0 y1 y2 y3 y4 y5 y6 y7
   unfold spec_dcShortest.l3
   repeat' first
   | (with_reducible exact ih0 _ _ _ _ _)
   | (with_reducible exact ih1 _ _ _ _ _ _ _ _ _)
   | (with_reducible exact ih2 _ _ _ _)
   | (with_reducible exact ih3 _ _ _ _ _ _ _ _)
   | (with_reducible exact ih4 _ _ _ _ _ _ _)
   | (with_reducible exact ih5 _ _ _ _ _ _ _ _ _)
   | (with_reducible exact spec_wdHas.mono _ _ _)
   | (with_reducible exact LeO.refl _)
   | (with_reducible exact LeO.none _)
   | (with_reducible refine LeO.ite ?_ ?_)
   | (with_reducible refine LeO.bind ?_ (fun _ => ?_))
   | exact ih0 _ _ _ _ _
   | exact ih1 _ _ _ _ _ _ _ _ _
   | exact ih2 _ _ _ _
   | exact ih3 _ _ _ _ _ _ _ _
   | exact ih4 _ _ _ _ _ _ _
   | exact ih5 _ _ _ _ _ _ _ _ _
   | exact spec_wdHas.mono _ _ _
   | exact LeO.none _
   | refine LeO.ite ?_ ?_
   | refine LeO.bind ?_ (fun _ => ?_)
  ·intro y0 y1 y2 y3 y4 y5 y6
   unfold spec_dcShortest.j4
   repeat' first
   | (with_reducible exact ih0 _ _ _ _ _)
   | (with_reducible exact ih1 _ _ _ _ _ _ _ _ _)
   | (with_reducible exact ih2 _ _ _ _)
   | (with_reducible exact ih3 _ _ _ _ _ _ _ _)
   | (with_reducible exact ih4 _ _ _ _ _ _ _)
   | (with_reducible exact ih5 _ _ _ _ _ _ _ _ _)
   | (with_reducible exact spec_wdHas.mono _ _ _)
   | (with_reducible exact LeO.refl _)
   | (with_reducible exact LeO.none _)
   | (with_reducible refine LeO.ite ?_ ?_)
   | (with_reducible refine LeO.bind ?_ (fun _ => ?_))
   | exact ih0 _ _ _ _ _
   | exact ih1 _ _ _ _ _ _ _ _ _
   | exact ih2 _ _ _ _
   | exact ih3 _ _ _ _ _ _ _ _
   | exact ih4 _ _ _ _ _ _ _
   | exact ih5 _ _ _ _ _ _ _ _ _
   | exact spec_wdHas.mono _ _ _
   | exact LeO.none _
   | refine LeO.ite ?_ ?_
   | refine LeO.bind ?_ (fun _ => ?_)
  ·intro y0 y1 y2 y3 y4 y5 y6 y7 y8
   unfold spec_dcShortest.l4
   repeat' first
   | (with_reducible exact ih0 _ _ _ _ _)
   | (with_reducible exact ih1 _ _ _ _ _ _ _ _ _)
   | (with_reducible exact ih2 _ _ _ _)
   | (with_reducible exact ih3 _ _ _ _ _ _ _ _)
   | (with_reducible exact ih4 _ _ _ _ _ _ _)
   | (with_reducible exact ih5 _ _ _ _ _ _ _ _ _)
   | (with_reducible exact spec_wdHas.mono _ _ _)
   | (with_reducible exact LeO.refl _)
   | (with_reducible exact LeO.none _)
   | (with_reducible refine LeO.ite ?_ ?_)
   | (with_reducible refine LeO.bind ?_ (fun _ => ?_))
   | exact ih0 _ _ _ _ _
   | exact ih1 _ _ _ _ _ _ _ _ _
   | exact ih2 _ _ _ _
   | exact ih3 _ _ _ _ _ _ _ _
   | exact ih4 _ _ _ _ _ _ _
   | exact ih5 _ _ _ _ _ _ _ _ _
   | exact spec_wdHas.mono _ _ _
   | exact LeO.none _
   | refine LeO.ite ?_ ?_
   | refine LeO.bind ?_ (fun _ => ?_)
theorem spec_dcShortest.mono : ∀ a0 k, LeO (spec_dcShortest.f k a0) (spec_dcShortest.f (k + 1) a0) := by
 intro a0 k
 obtain ⟨ih0, ih1, ih2, ih3, ih4, ih5⟩ := spec_dcShortest.mono_l k
 unfold spec_dcShortest.f
 repeat' first
   | (with_reducible exact ih0 _ _ _ _ _)
   | (with_reducible exact ih1 _ _ _ _ _ _ _ _ _)
   | (with_reducible exact ih2 _ _ _ _)
   | (with_reducible exact ih3 _ _ _ _ _ _ _ _)
   | (with_reducible exact ih4 _ _ _ _ _ _ _)
   | (with_reducible exact ih5 _ _ _ _ _ _ _ _ _)
   | (with_reducible exact spec_wdHas.mono _ _ _)
   | (with_reducible exact LeO.refl _)
   | (with_reducible exact LeO.none _)
   | (with_reducible refine LeO.ite ?_ ?_)
   | (with_reducible refine LeO.bind ?_ (fun _ => ?_))
   | exact ih0 _ _ _ _ _
   | exact ih1 _ _ _ _ _ _ _ _ _
   | exact ih2 _ _ _ _
   | exact ih3 _ _ _ _ _ _ _ _
   | exact ih4 _ _ _ _ _ _ _
   | exact ih5 _ _ _ _ _ _ _ _ _
   | exact spec_wdHas.mono _ _ _
   | exact LeO.none _
   | refine LeO.ite ?_ ?_
   | refine LeO.bind ?_ (fun _ => ?_)
def spec_dcShortest.T19 : Bool × List (List Nat × List Nat) := (true, [([], []), ([0], [0]), ([], []), ([], []), ([2, 3], [2, 3]), ([4], [4]), ([5], [5]), ([1, 6], [1, 6])])
def spec_dcShortest.B19 : List Nat := [0, 1, 0, 0, 12, 28, 60, 127]
theorem spec_dcShortest.tab19 : rtab .any (opsOf Tryd.f21 19) = spec_dcShortest.T19 := by kernel_rfl
theorem spec_dcShortest.bits19 : waitsOk spec_dcShortest.T19.2 spec_dcShortest.B19 = true := by kernel_rfl
def spec_dcShortest.T23 : Bool × List (List Nat × List Nat) := (true, [([], []), ([], []), ([], []), ([1, 2], [1, 2]), ([0, 3], [0, 3]), ([], []), ([], []), ([6], [6]), ([5, 7], [5, 7]), ([4, 8, 4], [4, 8]), ([9, 9, 0, 1, 2, 3, 4, 5, 6, 7, 8, 9], [1, 5, 9])])
def spec_dcShortest.B23 : List Nat := [0, 0, 0, 6, 15, 0, 0, 64, 224, 511, 1023]
theorem spec_dcShortest.tab23 : rtab .any (opsOf Tryd.f21 23) = spec_dcShortest.T23 := by kernel_rfl
theorem spec_dcShortest.bits23 : waitsOk spec_dcShortest.T23.2 spec_dcShortest.B23 = true := by kernel_rfl
def spec_dcShortest.T33 : Bool × List (List Nat × List Nat) := (true, [([], []), ([], []), ([1], [1]), ([], []), ([3], [3]), ([], []), ([5], [5]), ([4, 6], [4, 6]), ([2, 7], [2, 7]), ([8], [8]), ([0, 9], [0, 9]), ([10, 10, 0, 1, 2, 3, 4, 5, 6, 7, 8, 9, 10], [0, 10])])
def spec_dcShortest.B33 : List Nat := [0, 0, 2, 0, 8, 0, 32, 120, 254, 510, 1023, 2047]
theorem spec_dcShortest.tab33 : rtab .any (opsOf Tryd.f21 33) = spec_dcShortest.T33 := by kernel_rfl
theorem spec_dcShortest.bits33 : waitsOk spec_dcShortest.T33.2 spec_dcShortest.B33 = true := by kernel_rfl
def spec_dcShortest.T35 : Bool × List (List Nat × List Nat) := (true, [([], []), ([], []), ([1], [1]), ([], []), ([], []), ([4], [4]), ([5], [5]), ([3, 6], [3, 6]), ([2, 7], [2, 7]), ([], []), ([], []), ([10], [10]), ([11], [11]), ([9, 12], [9, 12]), ([8, 13], [8, 13]), ([14], [14]), ([0, 15], [0, 15]), ([16, 16, 0, 1, 2, 3, 4, 5, 6, 7, 8, 9, 10, 11, 12, 13, 14, 15, 16], [0, 16])])
def spec_dcShortest.B35 : List Nat := [0, 0, 2, 0, 0, 16, 48, 120, 254, 0, 0, 1024, 3072, 7680, 16382, 32766, 65535, 131071]
theorem spec_dcShortest.tab35 : rtab .any (opsOf Tryd.f21 35) = spec_dcShortest.T35 := by kernel_rfl
theorem spec_dcShortest.bits35 : waitsOk spec_dcShortest.T35.2 spec_dcShortest.B35 = true := by kernel_rfl
set_option maxHeartbeats 8000000 in
set_option maxRecDepth 100000 in
theorem spec_dcShortest.calls (k : Nat) (A0 : Option Addr) (c0 : Nat) (l0 : List ByteArray) (r : ByteArray) (w : World) (hr0 : Kd.C Kd.string w A0 l0.length l0) (hc0 : l0.length ≤ c0) (h : spec_dcShortest.f k l0 = some r) :
  Calls Tryd.prog 21 #[.slice A0 l0.length c0] w fun e w' => e = .returned (.string r) ∧ Below w.heap.size w w' := by
 have hu52 := Tryd.underlying52
 have HR0 := Aside0.mk hr0
 have HC0 := Aside0.mk hc0
 clear hr0 hc0
 have HB := Aside0.mk (Below.refl w.heap.size w)
 have H : (spec_dcShortest.l0 k l0 ([] : List (S52)) l0 (l0.length : Int) 0) = some r := h
 clear h
 have H' := Aside0.mk H
 clear H
 go_enter Tryd.func21, Tryd.ntmps21
 go_wp2
 go_loopg [3, 18] k (fun kq v3 v18 w' => ∃ (x3_1 : List (S52)) (x18_1 : Int), v18 = .int .i64 x18_1 ∧ Aside0 (spec_dcShortest.l0 kq l0 x3_1 l0 (l0.length : Int) x18_1 = some r) ∧ Aside0 (kq ≤ k) ∧ Aside0 (Kd.R k52 52 w' w.heap.size (fun _ => True) v3 x3_1) ∧ Aside0 (Below w.heap.size w w'))
 case atStart => exact ⟨(([] : List (S52))), (0), (by first | rfl | (simp; done) | (simp [*]; done)), H', ⟨Nat.le_refl _⟩, ⟨by first | exact Kd.R_nil _ _ _ _ _ | exact Kd.N_nil _ _ _ _ _ | exact Kd.V_nil _ _ _ _ _ | exact Kd.Q_nil _ _ _ _ _ | exact Kd.S_nil _ _ _ _ _⟩, ⟨by repeat (first | (with_reducible first | exact HB.out | apply below_alloc | apply pw_below_drewN | apply below_drew1) | exact HB.out)⟩⟩
 case round =>
  clear H'
  obtain ⟨x3_1, x18_1, rfl, HA, HK1, HO_3, HB⟩ := hrel
  cases gk with
  | zero => exact absurd HA.out (by simp [spec_dcShortest.l0])
  | succ k1 =>
   have H := HA.out
   clear HA
   simp only [spec_dcShortest.l0] at H
   by_cases c2 : x18_1 < (l0.length : Int)
   ·rw [if_pos c2] at H
    have c2b0 : decide (x18_1 < (l0.length : Int)) = true := decide_eq_true c2
    clear c2
    by_cases c3 : 0 ≤ x18_1
    ·rw [if_pos c3] at H
     have c3b0 : decide (0 ≤ x18_1) = true := decide_eq_true c3
     clear c3
     by_cases c4 : x18_1 < (l0.length : Int)
     ·rw [if_pos c4] at H
      have c4b0 : decide (x18_1 < (l0.length : Int)) = true := decide_eq_true c4
      clear c4
      have H' := Aside0.mk H
      clear H
      have p116 : 0 ≤ (x18_1 : Int) := of_decide_eq_true (by first | (with_reducible assumption) | assumption)
      have q116 : x18_1 < (l0.length : Int) := of_decide_eq_true (by first | (with_reducible assumption) | assumption)
      obtain ⟨ad116, e116, hx116_0⟩ := Kd.at_string HR0.out x18_1 p116 q116
      cases e116
      replace hx116_0 := (HB.out.cell (World.block_lt_of_cell? w _ hx116_0)).trans hx116_0
      replace p116 := eq_true p116
      replace q116 := eq_true q116
      go_wp2
      go_loopg [3, 24] k1 (fun kq v3 v24 w' => ∃ (x3_2 : List (S52)) (x24_2 : Int), v24 = .int .i64 x24_2 ∧ Aside0 (spec_dcShortest.l1 kq l0 x3_2 (rdOf ByteArray.empty l0 x18_1) l0 (l0.length : Int) x18_1 l0 (l0.length : Int) x24_2 = some r) ∧ Aside0 (kq ≤ k1) ∧ Aside0 (Kd.R k52 52 w' w.heap.size (fun _ => True) v3 x3_2) ∧ Aside0 (Below w.heap.size w w'))
      case atStart => exact ⟨(x3_1), (0), (by first | rfl | (simp; done) | (simp [*]; done)), H', ⟨Nat.le_refl _⟩, ⟨by (with_reducible repeat (first | apply Kd.R_alloc | apply Kd.R_drewN | apply Kd.R_drew)); exact HO_3.out⟩, ⟨by repeat (first | (with_reducible first | exact HB.out | apply below_alloc | apply pw_below_drewN | apply below_drew1) | exact HB.out)⟩⟩
      case round =>
       clear H'
       try clear p1
       try clear q1
       try clear hx1
       try clear c2
       try clear c2b0
       try clear p2
       try clear c3
       try clear c3b0
       try clear c4
       try clear c4b0
       try clear hx116_0
       try clear p116
       try clear q116
       obtain ⟨x3_2, x24_2, rfl, HA, HK2, HO_3, HB⟩ := hrel
       cases gk with
       | zero => exact absurd HA.out (by simp [spec_dcShortest.l1])
       | succ k2 =>
        have H := HA.out
        clear HA
        simp only [spec_dcShortest.l1] at H
        by_cases c5 : x24_2 < (l0.length : Int)
        ·rw [if_pos c5] at H
         have c5b0 : decide (x24_2 < (l0.length : Int)) = true := decide_eq_true c5
         clear c5
         by_cases c6 : 0 ≤ x24_2
         ·rw [if_pos c6] at H
          have c6b0 : decide (0 ≤ x24_2) = true := decide_eq_true c6
          clear c6
          by_cases c7 : x24_2 < (l0.length : Int)
          ·rw [if_pos c7] at H
           have c7b0 : decide (x24_2 < (l0.length : Int)) = true := decide_eq_true c7
           clear c7
           by_cases c8 : ((rdOf ByteArray.empty l0 x24_2).size : Int) > ((rdOf ByteArray.empty l0 x18_1).size : Int)
           ·rw [if_pos c8] at H
            have c8b0 : decide (((rdOf ByteArray.empty l0 x18_1).size : Int) < ((rdOf ByteArray.empty l0 x24_2).size : Int)) = true := decide_eq_true c8
            have c8b1 : decide ((rdOf ByteArray.empty l0 x18_1).size < (rdOf ByteArray.empty l0 x24_2).size) = true := decide_eq_true (Int.ofNat_lt.mp c8)
            clear c8
            replace H := Option.bind_eq_some_iff.mp H
            obtain ⟨t118, A90, H⟩ := H
            replace H : (if t118 = true then (if 0 ≤ ((rdOf ByteArray.empty l0 x18_1).size : Int) then (if ((rdOf ByteArray.empty l0 x18_1).size : Int) ≤ ((rdOf ByteArray.empty l0 x24_2).size : Int) then (if x3_2.length < 4398046511104 then (spec_dcShortest.l1 k2 l0 (x3_2 ++ [(⟨rdOf ByteArray.empty l0 x24_2, (rdOf ByteArray.empty l0 x24_2).extract (((rdOf ByteArray.empty l0 x18_1).size : Int) : Int).toNat (rdOf ByteArray.empty l0 x24_2).size⟩ : S52)]) (rdOf ByteArray.empty l0 x18_1) l0 (l0.length : Int) x18_1 l0 (l0.length : Int) (wrap64 (x24_2 + 1))) else (none)) else (none)) else (none)) else (spec_dcShortest.l1 k2 l0 x3_2 (rdOf ByteArray.empty l0 x18_1) l0 (l0.length : Int) x18_1 l0 (l0.length : Int) (wrap64 (x24_2 + 1)))) = some r := H
            have A9 := Aside0.mk A90
            clear A90
            by_cases c10 : t118 = true
            ·subst c10
             have H1 : (if 0 ≤ ((rdOf ByteArray.empty l0 x18_1).size : Int) then (if ((rdOf ByteArray.empty l0 x18_1).size : Int) ≤ ((rdOf ByteArray.empty l0 x24_2).size : Int) then (if x3_2.length < 4398046511104 then (spec_dcShortest.l1 k2 l0 (x3_2 ++ [(⟨rdOf ByteArray.empty l0 x24_2, (rdOf ByteArray.empty l0 x24_2).extract (((rdOf ByteArray.empty l0 x18_1).size : Int) : Int).toNat (rdOf ByteArray.empty l0 x24_2).size⟩ : S52)]) (rdOf ByteArray.empty l0 x18_1) l0 (l0.length : Int) x18_1 l0 (l0.length : Int) (wrap64 (x24_2 + 1))) else (none)) else (none)) else (none)) = some r := by rw [if_pos rfl] at H; exact H
             clear H
             have H := H1
             clear H1
             by_cases c11 : 0 ≤ ((rdOf ByteArray.empty l0 x18_1).size : Int)
             ·rw [if_pos c11] at H
              have c11b0 := eq_true c11
              have c11b1 : decide (0 ≤ ((rdOf ByteArray.empty l0 x18_1).size : Int)) = true := decide_eq_true c11
              clear c11
              by_cases c12 : ((rdOf ByteArray.empty l0 x18_1).size : Int) ≤ ((rdOf ByteArray.empty l0 x24_2).size : Int)
              ·rw [if_pos c12] at H
               have c12b0 := eq_true c12
               have c12b1 : decide (((rdOf ByteArray.empty l0 x18_1).size : Int) ≤ ((rdOf ByteArray.empty l0 x24_2).size : Int)) = true := decide_eq_true c12
               clear c12
               by_cases c13 : x3_2.length < 4398046511104
               ·rw [if_pos c13] at H
                have LMc13 := Aside0.mk c13
                clear c13
                obtain ⟨y119, hy119⟩ : ∃ y_ : List (S52), y_ = (x3_2 ++ [(⟨rdOf ByteArray.empty l0 x24_2, (rdOf ByteArray.empty l0 x24_2).extract (((rdOf ByteArray.empty l0 x18_1).size : Int) : Int).toNat (rdOf ByteArray.empty l0 x24_2).size⟩ : S52)]) := ⟨_, rfl⟩
                replace H : (spec_dcShortest.l1 k2 l0 y119 (rdOf ByteArray.empty l0 x18_1) l0 (l0.length : Int) x18_1 l0 (l0.length : Int) (wrap64 (x24_2 + 1))) = some r := by first | (rw [hy119]; with_reducible exact H) | (have H2_ := (Option.bind_some _ _).symm.trans H; rw [hy119]; with_reducible exact H2_) | (have H2_ := (Option.bind_some _ _).symm.trans H; with_reducible exact H2_) | with_reducible exact H | (rw [hy119]; exact H) | exact H
                have Ny119 := Aside0.mk hy119
                clear hy119
                have H' := Aside0.mk H
                clear H
                have p117 : 0 ≤ (x24_2 : Int) := of_decide_eq_true (by first | (with_reducible assumption) | assumption)
                have q117 : x24_2 < (l0.length : Int) := of_decide_eq_true (by first | (with_reducible assumption) | assumption)
                obtain ⟨ad117, e117, hx117_0⟩ := Kd.at_string HR0.out x24_2 p117 q117
                obtain rfl : ad116 = ad117 := (by injection e117)
                replace hx117_0 := (HB.out.cell (World.block_lt_of_cell? w _ hx117_0)).trans hx117_0
                replace p117 := eq_true p117
                replace q117 := eq_true q117
                go_wp2_with (first | (go_at_call 31; (with_reducible refine (spec_wdBegins.calls (rdOf ByteArray.empty l0 x24_2) (rdOf ByteArray.empty l0 x18_1) true _ A9.out).mono ?_); rintro e w' ⟨rfl, ⟨nd, rfl⟩⟩) | ((with_reducible refine gate_builtin (b := .append) (xs := #[.tmp 38, .tmp 45]) rfl ?_); at_builtin; refine Kd.R_append k52 (w0 := w) w.heap.size rfl (.tmp 38) (.tmp 45) 50 52 (.agg #[(.string ⟨#[]⟩), (.string ⟨#[]⟩)]) 32 rfl Tryd.underlying50 info52 rfl (by decide) (by omega) u3 x3_2 (⟨rdOf ByteArray.empty l0 x24_2, (rdOf ByteArray.empty l0 x24_2).extract (((rdOf ByteArray.empty l0 x18_1).size : Int) : Int).toNat (rdOf ByteArray.empty l0 x24_2).size⟩ : S52) [.string (rdOf ByteArray.empty l0 x24_2), .string ((rdOf ByteArray.empty l0 x24_2).extract (((rdOf ByteArray.empty l0 x18_1).size : Int) : Int).toNat (rdOf ByteArray.empty l0 x24_2).size)] (fun _ => True) (fun _ => False) rfl rfl ?aP (fun _ hk => hk.elim) ?aF ?aO ?aB ?aS ?aL ?_; (case aP => exact k52_mkM _ _ _ (⟨rdOf ByteArray.empty l0 x24_2, (rdOf ByteArray.empty l0 x24_2).extract (((rdOf ByteArray.empty l0 x18_1).size : Int) : Int).toNat (rdOf ByteArray.empty l0 x24_2).size⟩ : S52)); (case aB => exact (by repeat (first | (with_reducible first | exact HB.out | apply below_alloc | apply pw_below_drewN | apply below_drew1) | exact HB.out))); (case aF => exact (fun _ _ => trivial)); (case aO => exact (by (with_reducible repeat (first | apply Kd.R_alloc | apply Kd.R_drewN | apply Kd.R_drew)); exact HO_3.out)); (case aS => exact (below_size (by repeat (first | (with_reducible first | exact HB.out | apply below_alloc | apply pw_below_drewN | apply below_drew1) | exact HB.out)))); (case aL => have := LMc13.out; omega); intro v120 w14 ho hb hg hat; rw [← Ny119.out] at ho; have n0_ := Aside0.mk (hb); have n1_ := Aside0.mk (ho); clear HB; clear HO_3; have HB := n0_; have HO121 := n1_; clear n0_ n1_; clear ho hb hg hat))
                go_roundg k2
                case measure => have := HK1.out; have := HK2.out; omega
                case rel => exact ⟨(y119), (wrap64 (x24_2 + 1)), (by first | rfl | (simp; done) | (simp [*]; done)), H', ⟨by have := HK1.out; have := HK2.out; omega⟩, ⟨by (with_reducible repeat (first | apply Kd.R_alloc | apply Kd.R_drewN | apply Kd.R_drew)); exact HO121.out⟩, ⟨by repeat (first | (with_reducible first | exact HB.out | apply below_alloc | apply pw_below_drewN | apply below_drew1) | exact HB.out)⟩⟩
               ·rw [if_neg c13] at H
                exact absurd H (by simp)
              ·rw [if_neg c12] at H
               exact absurd H (by simp)
             ·rw [if_neg c11] at H
              exact absurd H (by simp)
            ·replace c10 := Bool.eq_false_iff.mpr c10
             subst c10
             have H1 : (spec_dcShortest.l1 k2 l0 x3_2 (rdOf ByteArray.empty l0 x18_1) l0 (l0.length : Int) x18_1 l0 (l0.length : Int) (wrap64 (x24_2 + 1))) = some r := by rw [if_neg (show ¬ (false = true) by decide)] at H; exact H
             clear H
             have H := H1
             clear H1
             have H' := Aside0.mk H
             clear H
             have p117 : 0 ≤ (x24_2 : Int) := of_decide_eq_true (by first | (with_reducible assumption) | assumption)
             have q117 : x24_2 < (l0.length : Int) := of_decide_eq_true (by first | (with_reducible assumption) | assumption)
             obtain ⟨ad117, e117, hx117_0⟩ := Kd.at_string HR0.out x24_2 p117 q117
             obtain rfl : ad116 = ad117 := (by injection e117)
             replace hx117_0 := (HB.out.cell (World.block_lt_of_cell? w _ hx117_0)).trans hx117_0
             replace p117 := eq_true p117
             replace q117 := eq_true q117
             go_wp2_with (first | (go_at_call 31; (with_reducible refine (spec_wdBegins.calls (rdOf ByteArray.empty l0 x24_2) (rdOf ByteArray.empty l0 x18_1) false _ A9.out).mono ?_); rintro e w' ⟨rfl, ⟨nd, rfl⟩⟩))
             go_roundg k2
             case measure => have := HK1.out; have := HK2.out; omega
             case rel => exact ⟨(x3_2), (wrap64 (x24_2 + 1)), (by first | rfl | (simp; done) | (simp [*]; done)), H', ⟨by have := HK1.out; have := HK2.out; omega⟩, ⟨by (with_reducible repeat (first | apply Kd.R_alloc | apply Kd.R_drewN | apply Kd.R_drew)); exact HO_3.out⟩, ⟨by repeat (first | (with_reducible first | exact HB.out | apply below_alloc | apply pw_below_drewN | apply below_drew1) | exact HB.out)⟩⟩
           ·rw [if_neg c8] at H
            have c8b0 : decide (((rdOf ByteArray.empty l0 x18_1).size : Int) < ((rdOf ByteArray.empty l0 x24_2).size : Int)) = false := decide_eq_false c8
            have c8b1 : decide ((rdOf ByteArray.empty l0 x18_1).size < (rdOf ByteArray.empty l0 x24_2).size) = false := decide_eq_false (fun h => c8 (Int.ofNat_lt.mpr h))
            clear c8
            have H' := Aside0.mk H
            clear H
            have p117 : 0 ≤ (x24_2 : Int) := of_decide_eq_true (by first | (with_reducible assumption) | assumption)
            have q117 : x24_2 < (l0.length : Int) := of_decide_eq_true (by first | (with_reducible assumption) | assumption)
            obtain ⟨ad117, e117, hx117_0⟩ := Kd.at_string HR0.out x24_2 p117 q117
            obtain rfl : ad116 = ad117 := (by injection e117)
            replace hx117_0 := (HB.out.cell (World.block_lt_of_cell? w _ hx117_0)).trans hx117_0
            replace p117 := eq_true p117
            replace q117 := eq_true q117
            go_wp2
            go_roundg k2
            case measure => have := HK1.out; have := HK2.out; omega
            case rel => exact ⟨(x3_2), (wrap64 (x24_2 + 1)), (by first | rfl | (simp; done) | (simp [*]; done)), H', ⟨by have := HK1.out; have := HK2.out; omega⟩, ⟨by (with_reducible repeat (first | apply Kd.R_alloc | apply Kd.R_drewN | apply Kd.R_drew)); exact HO_3.out⟩, ⟨by repeat (first | (with_reducible first | exact HB.out | apply below_alloc | apply pw_below_drewN | apply below_drew1) | exact HB.out)⟩⟩
          ·rw [if_neg c7] at H
           exact absurd H (by simp)
         ·rw [if_neg c6] at H
          exact absurd H (by simp)
        ·rw [if_neg c5] at H
         have c5b0 : decide (x24_2 < (l0.length : Int)) = false := decide_eq_false c5
         clear c5
         have H' := Aside0.mk H
         clear H
         go_wp2
         go_roundg k2
         case measure => have := HK1.out; have := HK2.out; omega
         case rel => exact ⟨(x3_2), (wrap64 (x18_1 + 1)), (by first | rfl | (simp; done) | (simp [*]; done)), H', ⟨by have := HK1.out; have := HK2.out; omega⟩, ⟨by (with_reducible repeat (first | apply Kd.R_alloc | apply Kd.R_drewN | apply Kd.R_drew)); exact HO_3.out⟩, ⟨by repeat (first | (with_reducible first | exact HB.out | apply below_alloc | apply pw_below_drewN | apply below_drew1) | exact HB.out)⟩⟩
     ·rw [if_neg c4] at H
      exact absurd H (by simp)
    ·rw [if_neg c3] at H
     exact absurd H (by simp)
   ·rw [if_neg c2] at H
    have c2b0 : decide (x18_1 < (l0.length : Int)) = false := decide_eq_false c2
    clear c2
    have H' := Aside0.mk H
    clear H
    go_wp2
    go_loopg [3, 4, 9] k1 (fun kq v3 v4 v9 w' => ∃ (x3_2 : List (S52)) (x4_2 : List ByteArray) (x9_2 : ByteArray), v9 = .string x9_2 ∧ Aside0 (spec_dcShortest.l2 kq l0 x3_2 x4_2 x9_2 = some r) ∧ Aside0 (kq ≤ k1) ∧ Aside0 (Kd.R k52 52 w' w.heap.size (fun _ => True) v3 x3_2) ∧ Aside0 (Kd.R Kd.string 9 w' w.heap.size (fun _ => True) v4 x4_2) ∧ Aside0 (Below w.heap.size w w'))
    case atStart => exact ⟨(x3_1), (([] : List ByteArray)), ((⟨#[]⟩ : ByteArray)), (by first | rfl | (simp; done) | (simp [*]; done)), H', ⟨Nat.le_refl _⟩, ⟨by (with_reducible repeat (first | apply Kd.R_alloc | apply Kd.R_drewN | apply Kd.R_drew)); exact HO_3.out⟩, ⟨by first | exact Kd.R_nil _ _ _ _ _ | exact Kd.N_nil _ _ _ _ _ | exact Kd.V_nil _ _ _ _ _ | exact Kd.Q_nil _ _ _ _ _ | exact Kd.S_nil _ _ _ _ _⟩, ⟨by repeat (first | (with_reducible first | exact HB.out | apply below_alloc | apply pw_below_drewN | apply below_drew1) | exact HB.out)⟩⟩
    case round =>
     clear H'
     try clear c1
     try clear p1
     try clear q1
     try clear hx1
     try clear c2
     try clear c2b0
     try clear p2
     try clear c3
     try clear c3b0
     try clear c4
     try clear c4b0
     try clear c5
     try clear c5b0
     try clear c6
     try clear c6b0
     try clear p6
     try clear c7
     try clear c7b0
     try clear c8
     try clear c8b0
     try clear c8b1
     try clear c10
     try clear c11
     try clear c11b0
     try clear c11b1
     try clear p11
     try clear q11
     try clear hx11
     try clear c12
     try clear c12b0
     try clear c12b1
     try clear c13
     try clear hx116_0
     try clear hx117_0
     try clear p1
     try clear p116
     try clear p117
     try clear p2
     try clear q1
     try clear q116
     try clear q117
     obtain ⟨x3_2, x4_2, x9_2, rfl, HA, HK2, HO_3, HO_4, HB⟩ := hrel
     cases gk with
     | zero => exact absurd HA.out (by simp [spec_dcShortest.l2])
     | succ k2 =>
      have H := HA.out
      clear HA
      simp only [spec_dcShortest.l2] at H
      by_cases c15 : (x3_2.length : Int) > 0
      ·rw [if_pos c15] at H
       have c15b0 : decide (0 < (x3_2.length : Int)) = true := decide_eq_true c15
       have c15b1 : decide (0 < x3_2.length) = true := decide_eq_true (by omega)
       clear c15
       have H' := Aside0.mk H
       clear H
       obtain ⟨Ao16, co16, eo16⟩ := Kd.R_slice HO_3.out
       subst eo16
       go_wp2
       go_loopg [10, 54] k2 (fun kq v10 v54 w' => ∃ (x10_3 : Int) (x54_3 : Int), v10 = .int .i64 x10_3 ∧ v54 = .int .i64 x54_3 ∧ Aside0 (spec_dcShortest.l3 kq l0 x3_2 x4_2 x9_2 x10_3 x3_2 (x3_2.length : Int) x54_3 = some r) ∧ Aside0 (kq ≤ k2) ∧ Aside0 (Kd.R k52 52 w' w.heap.size (fun _ => True) (.slice Ao16 x3_2.length co16) x3_2) ∧ Aside0 (Kd.R Kd.string 9 w' w.heap.size (fun _ => True) u4 x4_2) ∧ Aside0 (Kd.R k52 52 w' w.heap.size (fun _ => True) (.slice Ao16 x3_2.length co16) x3_2) ∧ Aside0 (Below w.heap.size w w'))
       case atStart => exact ⟨(0), (0), (by first | rfl | (simp; done) | (simp [*]; done)), (by first | rfl | (simp; done) | (simp [*]; done)), H', ⟨Nat.le_refl _⟩, ⟨by (with_reducible repeat (first | apply Kd.R_alloc | apply Kd.R_drewN | apply Kd.R_drew)); exact HO_3.out⟩, ⟨by (with_reducible repeat (first | apply Kd.R_alloc | apply Kd.R_drewN | apply Kd.R_drew)); exact HO_4.out⟩, ⟨by (with_reducible repeat (first | apply Kd.R_alloc | apply Kd.R_drewN | apply Kd.R_drew)); exact HO_3.out⟩, ⟨by repeat (first | (with_reducible first | exact HB.out | apply below_alloc | apply pw_below_drewN | apply below_drew1) | exact HB.out)⟩⟩
       case round =>
        clear H'
        try clear c1
        try clear p1
        try clear q1
        try clear hx1
        try clear c2
        try clear c2b0
        try clear p2
        try clear c3
        try clear c3b0
        try clear c4
        try clear c4b0
        try clear c5
        try clear c5b0
        try clear c6
        try clear c6b0
        try clear p6
        try clear c7
        try clear c7b0
        try clear c8
        try clear c8b0
        try clear c8b1
        try clear c10
        try clear c11
        try clear c11b0
        try clear c11b1
        try clear p11
        try clear q11
        try clear hx11
        try clear c12
        try clear c12b0
        try clear c12b1
        try clear c13
        try clear c15
        try clear c15b0
        try clear c15b1
        try clear hx116_0
        try clear hx117_0
        try clear p1
        try clear p11
        try clear p116
        try clear p117
        try clear p2
        try clear p6
        try clear q1
        try clear q11
        try clear q116
        try clear q117
        obtain ⟨x10_3, x54_3, rfl, rfl, HA, HK3, HO_3, HO_4, HO_52, HB⟩ := hrel
        cases gk with
        | zero => exact absurd HA.out (by simp [spec_dcShortest.l3])
        | succ k3 =>
         have H := HA.out
         clear HA
         simp only [spec_dcShortest.l3] at H
         by_cases c17 : x54_3 < (x3_2.length : Int)
         ·rw [if_pos c17] at H
          have c17b0 : decide (x54_3 < (x3_2.length : Int)) = true := decide_eq_true c17
          clear c17
          by_cases c18 : 0 ≤ x54_3
          ·rw [if_pos c18] at H
           have c18b0 : decide (0 ≤ x54_3) = true := decide_eq_true c18
           clear c18
           by_cases c19 : x54_3 < (x3_2.length : Int)
           ·rw [if_pos c19] at H
            have c19b0 : decide (x54_3 < (x3_2.length : Int)) = true := decide_eq_true c19
            clear c19
            by_cases c20 : 0 ≤ x10_3
            ·rw [if_pos c20] at H
             have c20b0 : decide (0 ≤ x10_3) = true := decide_eq_true c20
             clear c20
             by_cases c21 : x10_3 < (x3_2.length : Int)
             ·rw [if_pos c21] at H
              have c21b0 : decide (x10_3 < (x3_2.length : Int)) = true := decide_eq_true c21
              clear c21
              replace H := Option.bind_eq_some_iff.mp H
              obtain ⟨t125, A220, H⟩ := H
              replace H : (if t125 = true then (spec_dcShortest.l3 k3 l0 x3_2 x4_2 x9_2 x54_3 x3_2 (x3_2.length : Int) (wrap64 (x54_3 + 1))) else (spec_dcShortest.l3 k3 l0 x3_2 x4_2 x9_2 x10_3 x3_2 (x3_2.length : Int) (wrap64 (x54_3 + 1)))) = some r := H
              have A22 := Aside0.mk A220
              clear A220
              by_cases c23 : t125 = true
              ·subst c23
               have H1 : (spec_dcShortest.l3 k3 l0 x3_2 x4_2 x9_2 x54_3 x3_2 (x3_2.length : Int) (wrap64 (x54_3 + 1))) = some r := by rw [if_pos rfl] at H; exact H
               clear H
               have H := H1
               clear H1
               have H' := Aside0.mk H
               clear H
               have p122 : 0 ≤ (x54_3 : Int) := of_decide_eq_true (by first | (with_reducible assumption) | assumption)
               have q122 : x54_3 < (x3_2.length : Int) := of_decide_eq_true (by first | (with_reducible assumption) | assumption)
               obtain ⟨ad122, e122, hx122_0, hx122_1⟩ := at_T52 (Kd.R_reads' HO_52.out).2.2 x54_3 p122 q122
               cases e122
               replace p122 := eq_true p122
               replace q122 := eq_true q122
               try go_wp2_with (first | ((with_reducible refine gate_dst (N := 12) rfl ?_); refine box_event ?hg (N := 12) ?hd (cs := #[.string (⟨#[]⟩ : ByteArray), .string (⟨#[]⟩ : ByteArray)]) (t := 52) ?hr ?_; (case hd => rfl); (case hg => rfl); (case hr => first | (go_simp; done) | (go_simp; rfl)); intro gb123 hg w24 hbox hb; have n0_ := Aside0.mk (Kd.R_below (Kd.R_elderB (by (with_reducible repeat (first | apply Kd.R_alloc | apply Kd.R_drewN | apply Kd.R_drew)); exact HO_3.out) gb123 (Nat.le_of_eq hg.symm)) hb); have n1_ := Aside0.mk (Kd.R_below (by (with_reducible repeat (first | apply Kd.R_alloc | apply Kd.R_drewN | apply Kd.R_drew)); exact HO_4.out) hb); have n2_ := Aside0.mk (Kd.R_below (Kd.R_elderB (by (with_reducible repeat (first | apply Kd.R_alloc | apply Kd.R_drewN | apply Kd.R_drew)); exact HO_52.out) gb123 (Nat.le_of_eq hg.symm)) hb); have n3_ := Aside0.mk (below_step (by repeat (first | (with_reducible first | exact HB.out | apply below_alloc | apply pw_below_drewN | apply below_drew1) | exact HB.out)) hb); have n4_ := Aside0.mk (hbox); have n5_ := Aside0.mk ((by rw [hg]; exact (below_size (by repeat (first | (with_reducible first | exact HB.out | apply below_alloc | apply pw_below_drewN | apply below_drew1) | exact HB.out))) : w.heap.size ≤ gb123)); have n6_ := Aside0.mk ((by rw [hg]; exact (below_size (by repeat (first | (with_reducible first | exact HB.out | apply below_alloc | apply pw_below_drewN | apply below_drew1) | exact HB.out))) : w.heap.size ≤ gb123)); clear HO_3; clear HO_4; clear HO_52; clear HB; have HO_3 := n0_; have HO_4 := n1_; have HO_52 := n2_; have HB := n3_; have BK123 := n4_; have GW123 := n5_; have GE123 := n6_; clear n0_ n1_ n2_ n3_ n4_ n5_ n6_; clear hb hbox hg; have hcz25_0 : w24.cell? ⟨gb123, 0, none⟩ = some (.string (⟨#[]⟩ : ByteArray)) := (blk_cell BK123.out 0).trans rfl; have hcz25_1 : w24.cell? ⟨gb123, 1, none⟩ = some (.string (⟨#[]⟩ : ByteArray)) := (blk_cell BK123.out 1).trans rfl; have hfz25_0 := blk_frozen BK123.out 0; have hfz25_1 := blk_frozen BK123.out 1))
               have n0_ : Aside0 (Kd.R k52 52 ((w24.setCell ⟨gb123, 0, none⟩ (.string ((rd_T52 x3_2 x54_3).f0))).setCell ⟨gb123, 1, none⟩ (.string ((rd_T52 x3_2 x54_3).f1))) w.heap.size (fun k_ => k_ ≠ gb123) (.slice (some ad122) x3_2.length co16) x3_2) := ⟨by (with_reducible repeat (first | apply Kd.R_alloc | apply Kd.R_drewN | apply Kd.R_drew)); exact Kd.R_mono (Kd.R_far (p := ⟨gb123, 1, none⟩) (Kd.R_far (p := ⟨gb123, 0, none⟩) (Kd.R_mono HO_3.out (fun k_ hk => (⟨hk, hk.2⟩ : _ ∧ k_ ≠ gb123))) (fun _ hk => hk.2) (.string ((rd_T52 x3_2 x54_3).f0))) (fun _ hk => hk.2) (.string ((rd_T52 x3_2 x54_3).f1))) (fun _ hk => hk.1.2)⟩
               have n1_ : Aside0 (Kd.R Kd.string 9 ((w24.setCell ⟨gb123, 0, none⟩ (.string ((rd_T52 x3_2 x54_3).f0))).setCell ⟨gb123, 1, none⟩ (.string ((rd_T52 x3_2 x54_3).f1))) w.heap.size (fun _ => True) u4 x4_2) := ⟨by (with_reducible repeat (first | apply Kd.R_alloc | apply Kd.R_drewN | apply Kd.R_drew)); exact Kd.R_mono (Kd.R_far (p := ⟨gb123, 1, none⟩) (Kd.R_far (p := ⟨gb123, 0, none⟩) (Kd.R_types HO_4.out BK123.out (by decide)) (fun _ hk => hk.2) (.string ((rd_T52 x3_2 x54_3).f0))) (fun _ hk => hk.2) (.string ((rd_T52 x3_2 x54_3).f1))) (fun _ hk => trivial)⟩
               have n2_ : Aside0 (Kd.R k52 52 ((w24.setCell ⟨gb123, 0, none⟩ (.string ((rd_T52 x3_2 x54_3).f0))).setCell ⟨gb123, 1, none⟩ (.string ((rd_T52 x3_2 x54_3).f1))) w.heap.size (fun k_ => k_ ≠ gb123) (.slice (some ad122) x3_2.length co16) x3_2) := ⟨by (with_reducible repeat (first | apply Kd.R_alloc | apply Kd.R_drewN | apply Kd.R_drew)); exact Kd.R_mono (Kd.R_far (p := ⟨gb123, 1, none⟩) (Kd.R_far (p := ⟨gb123, 0, none⟩) (Kd.R_mono HO_52.out (fun k_ hk => (⟨hk, hk.2⟩ : _ ∧ k_ ≠ gb123))) (fun _ hk => hk.2) (.string ((rd_T52 x3_2 x54_3).f0))) (fun _ hk => hk.2) (.string ((rd_T52 x3_2 x54_3).f1))) (fun _ hk => hk.1.2)⟩
               have n3_ : Aside0 (((w24.setCell ⟨gb123, 0, none⟩ (.string ((rd_T52 x3_2 x54_3).f0))).setCell ⟨gb123, 1, none⟩ (.string ((rd_T52 x3_2 x54_3).f1))).heap[gb123]? = some (.cells #[.string ((rd_T52 x3_2 x54_3).f0), .string ((rd_T52 x3_2 x54_3).f1)] 52 (0, 0))) := ⟨by (with_reducible repeat (first | refine blk_drewN ?_ _ | refine blk_drew ?_ | refine blk_alloc ?_ _)); refine blk_put (cs := #[.string ((rd_T52 x3_2 x54_3).f0), .string (⟨#[]⟩ : ByteArray)]) ?_ 1 _ rfl; (with_reducible repeat (first | refine blk_drewN ?_ _ | refine blk_drew ?_ | refine blk_alloc ?_ _)); refine blk_put (cs := #[.string (⟨#[]⟩ : ByteArray), .string (⟨#[]⟩ : ByteArray)]) ?_ 0 _ rfl; (with_reducible repeat (first | refine blk_drewN ?_ _ | refine blk_drew ?_ | refine blk_alloc ?_ _)); exact BK123.out⟩
               have n4_ : Aside0 (Below w.heap.size w ((w24.setCell ⟨gb123, 0, none⟩ (.string ((rd_T52 x3_2 x54_3).f0))).setCell ⟨gb123, 1, none⟩ (.string ((rd_T52 x3_2 x54_3).f1)))) := ⟨by repeat (first | (with_reducible first | exact HB.out | apply below_alloc | apply pw_below_drewN | apply below_drew1 | refine below_set ?_ GE123.out) | exact HB.out)⟩
               (try clear HO_3)
               (try clear HO_4)
               (try clear HO_52)
               (try clear BK123)
               (try clear HB)
               generalize ((w24.setCell ⟨gb123, 0, none⟩ (.string ((rd_T52 x3_2 x54_3).f0))).setCell ⟨gb123, 1, none⟩ (.string ((rd_T52 x3_2 x54_3).f1))) = w26 at n0_ n1_ n2_ n3_ n4_ ⊢
               have HO_3 := n0_
               have HO_4 := n1_
               have HO_52 := n2_
               have BK123 := n3_
               have HB := n4_
               clear n0_ n1_ n2_ n3_ n4_
               have n0_ := Aside0.mk (Kd.R_drew HO_3.out)
               have n1_ := Aside0.mk (Kd.R_drew HO_4.out)
               have n2_ := Aside0.mk (Kd.R_drew HO_52.out)
               have n3_ := Aside0.mk (blk_drew BK123.out)
               have n4_ := Aside0.mk (below_drew1 HB.out)
               clear HO_3
               clear HO_4
               clear HO_52
               clear BK123
               clear HB
               have HO_3 := n0_
               have HO_4 := n1_
               have HO_52 := n2_
               have BK123 := n3_
               have HB := n4_
               clear n0_ n1_ n2_ n3_ n4_
               have p124 : 0 ≤ (x10_3 : Int) := of_decide_eq_true (by first | (with_reducible assumption) | assumption)
               have q124 : x10_3 < (x3_2.length : Int) := of_decide_eq_true (by first | (with_reducible assumption) | assumption)
               obtain ⟨ad124, e124, hx124_0, hx124_1⟩ := at_T52 (Kd.R_reads' HO_3.out).2.2 x10_3 p124 q124
               obtain rfl : ad122 = ad124 := (by injection e124)
               replace p124 := eq_true p124
               replace q124 := eq_true q124
               refine start_ (n := 8) (S := fun w' => w'.cell? ⟨gb123, 0, none⟩ = some (.string ((rd_T52 x3_2 x54_3).f0)) ∧ w'.cell? ⟨gb123, 1, none⟩ = some (.string ((rd_T52 x3_2 x54_3).f1)) ∧ w'.cell? (ad122.add ((x10_3).toNat * 2)) = some (.string ((rd_T52 x3_2 x10_3).f0)) ∧ w'.cell? ⟨(ad122.add ((x10_3).toNat * 2)).block, (ad122.add ((x10_3).toNat * 2)).off + 1, none⟩ = some (.string ((rd_T52 x3_2 x10_3).f1))) (ds := []) #[false, false, false, false, false, false, false, false] (by kernel_rfl) rfl rfl ⟨(blk_cell BK123.out 0).trans rfl, (blk_cell BK123.out 1).trans rfl, hx124_0, hx124_1⟩ (fun hHeld => ?_); refine with_tabW spec_dcShortest.tab19 spec_dcShortest.bits19 (fun HT_ HW_ => ?_)
               generalize w26.drew = w27 at HO_3 HO_4 HO_52 BK123 HB hx124_0 hx124_1 hHeld ⊢
               refine pure_ (i := 0) (N := some 59) (v := ?_) (a' := ?_) #[true, false, false, false, false, false, false, false] rfl rfl (any_of HT_.out (by kernel_rfl)) (fun _ _ _ h => h) (Or.inl ⟨by rfl, ?_⟩) ?_ ?_
               rotate_left
               ·intro w'
                go_simp
                with_reducible rfl
               rotate_left
               ·simp only [Act.put, List.setIfInBounds_toArray, List.set_cons_zero, List.set_cons_succ, i64_w, i32_w]
                rfl
               refine pure_ (i := 2) (N := some 61) (v := ?_) (a' := ?_) #[true, false, true, false, false, false, false, false] rfl rfl (any_of HT_.out (by kernel_rfl)) (fun _ _ _ h => h) (Or.inl ⟨by rfl, ?_⟩) ?_ ?_
               rotate_left
               ·intro w'
                go_simp
                with_reducible rfl
               rotate_left
               ·simp only [Act.put, List.setIfInBounds_toArray, List.set_cons_zero, List.set_cons_succ, i64_w, i32_w]
                rfl
               refine pure_ (i := 3) (N := some 62) (v := ?_) (a' := ?_) #[true, false, true, true, false, false, false, false] rfl rfl (any_of HT_.out (by kernel_rfl)) (fun _ _ _ h => h) (Or.inl ⟨by rfl, ?_⟩) ?_ ?_
               rotate_left
               ·intro w'
                go_simp
                with_reducible rfl
               rotate_left
               ·simp only [Act.put, List.setIfInBounds_toArray, List.set_cons_zero, List.set_cons_succ, i64_w, i32_w]
                rfl
               refine pure_ (i := 4) (N := some 63) (v := ?_) (a' := ?_) #[true, false, true, true, true, false, false, false] rfl rfl (any_of HT_.out (by kernel_rfl)) (fun _ _ _ h => h) (Or.inl ⟨by rfl, ?_⟩) ?_ ?_
               rotate_left
               ·intro w'
                go_simp
                with_reducible rfl
               rotate_left
               ·simp only [Act.put, List.setIfInBounds_toArray, List.set_cons_zero, List.set_cons_succ, i64_w, i32_w]
                rfl
               refine pure_ (i := 5) (N := some 64) (v := ?_) (a' := ?_) #[true, false, true, true, true, true, false, false] rfl rfl (any_of HT_.out (by kernel_rfl)) (fun _ _ _ h => h) (Or.inl ⟨by rfl, ?_⟩) ?_ ?_
               rotate_left
               ·intro w'
                go_simp
                with_reducible rfl
               rotate_left
               ·simp only [Act.put, List.setIfInBounds_toArray, List.set_cons_zero, List.set_cons_succ, i64_w, i32_w]
                rfl
               refine take_ (i := 1) (N := some 60) (v := ?_) (a' := ?_) #[true, true, true, true, true, true, false, false] rfl rfl (take_ofW HT_.out HW_.out (by kernel_rfl)) (fun _ _ _ h => h) (Or.inl ⟨by rfl, ?_⟩) hHeld ?_ ?_
               rotate_left
               ·rintro w' ⟨s0, s1, s2, s3⟩
                go_simp
                with_reducible rfl
               rotate_left
               ·simp only [Act.put, List.setIfInBounds_toArray, List.set_cons_zero, List.set_cons_succ, i64_w, i32_w]
                rfl
               refine take_ (i := 6) (N := some 65) (v := ?_) (a' := ?_) #[true, true, true, true, true, true, true, false] rfl rfl (take_ofW HT_.out HW_.out (by kernel_rfl)) (fun _ _ _ h => h) (Or.inl ⟨by rfl, ?_⟩) hHeld ?_ ?_
               rotate_left
               ·rintro w' ⟨s0, s1, s2, s3⟩
                go_simp
                with_reducible rfl
               rotate_left
               ·simp only [Act.put, List.setIfInBounds_toArray, List.set_cons_zero, List.set_cons_succ, i64_w, i32_w]
                rfl
               refine one_ (i := 7) (N := some 66) #[true, true, true, true, true, true, true, true] rfl rfl (one_of HT_.out (by kernel_rfl)) (by decide) (fun K hK => ?_)
               refine goes_ Tryd.func45 (by kernel_rfl) rfl #[.string ((rd_T52 x3_2 x54_3).f0), .string ((rd_T52 x3_2 x10_3).f0)] (by rfl) rfl rfl (by (try simp only [List.map_toArray, List.map_cons, List.map_nil]); first | done | rfl | (simp only [List.length_drop, List.length_take]; rfl)) ?_
               with_reducible refine (spec_wdLess.calls ((rd_T52 x3_2 x54_3).f0) ((rd_T52 x3_2 x10_3).f0) true _ A22.out).mono ?_
               rintro e w' ⟨rfl, ⟨nd, rfl⟩⟩
               refine ⟨_, rfl, ?_⟩
               refine hK.out _ _ ⟨(blk_cell BK123.out 0).trans rfl, (blk_cell BK123.out 1).trans rfl, hHeld.2.2.1, hHeld.2.2.2⟩ (fun hHeld => ?_)
               clear hK K
               refine norm_ (a' := ?_) ?_ ?_
               rotate_left
               ·show Act.put _ (some 66) _ = _
                simp only [Act.put, List.setIfInBounds_toArray, List.set_cons_zero, List.set_cons_succ, i64_w, i32_w]
                rfl
               refine done_ (done_of HT_.out (by kernel_rfl)) ?_
               try go_wp2
               go_roundg k3
               case measure => have := HK1.out; have := HK2.out; have := HK3.out; omega
               case rel => exact ⟨(x54_3), (wrap64 (x54_3 + 1)), (by first | rfl | (simp; done) | (simp [*]; done)), (by first | rfl | (simp; done) | (simp [*]; done)), H', ⟨by have := HK1.out; have := HK2.out; have := HK3.out; omega⟩, ⟨by (with_reducible repeat (first | apply Kd.R_alloc | apply Kd.R_drewN | apply Kd.R_drew)); exact Kd.R_mono HO_3.out (fun _ hk => trivial)⟩, ⟨by (with_reducible repeat (first | apply Kd.R_alloc | apply Kd.R_drewN | apply Kd.R_drew)); exact HO_4.out⟩, ⟨by (with_reducible repeat (first | apply Kd.R_alloc | apply Kd.R_drewN | apply Kd.R_drew)); exact Kd.R_mono HO_52.out (fun _ hk => trivial)⟩, ⟨by repeat (first | (with_reducible first | exact HB.out | apply below_alloc | apply pw_below_drewN | apply below_drew1 | refine below_set ?_ GE123.out) | exact HB.out)⟩⟩
              ·replace c23 := Bool.eq_false_iff.mpr c23
               subst c23
               have H1 : (spec_dcShortest.l3 k3 l0 x3_2 x4_2 x9_2 x10_3 x3_2 (x3_2.length : Int) (wrap64 (x54_3 + 1))) = some r := by rw [if_neg (show ¬ (false = true) by decide)] at H; exact H
               clear H
               have H := H1
               clear H1
               have H' := Aside0.mk H
               clear H
               have p122 : 0 ≤ (x54_3 : Int) := of_decide_eq_true (by first | (with_reducible assumption) | assumption)
               have q122 : x54_3 < (x3_2.length : Int) := of_decide_eq_true (by first | (with_reducible assumption) | assumption)
               obtain ⟨ad122, e122, hx122_0, hx122_1⟩ := at_T52 (Kd.R_reads' HO_52.out).2.2 x54_3 p122 q122
               cases e122
               replace p122 := eq_true p122
               replace q122 := eq_true q122
               try go_wp2_with (first | ((with_reducible refine gate_dst (N := 12) rfl ?_); refine box_event ?hg (N := 12) ?hd (cs := #[.string (⟨#[]⟩ : ByteArray), .string (⟨#[]⟩ : ByteArray)]) (t := 52) ?hr ?_; (case hd => rfl); (case hg => rfl); (case hr => first | (go_simp; done) | (go_simp; rfl)); intro gb123 hg w28 hbox hb; have n0_ := Aside0.mk (Kd.R_below (Kd.R_elderB (by (with_reducible repeat (first | apply Kd.R_alloc | apply Kd.R_drewN | apply Kd.R_drew)); exact HO_3.out) gb123 (Nat.le_of_eq hg.symm)) hb); have n1_ := Aside0.mk (Kd.R_below (by (with_reducible repeat (first | apply Kd.R_alloc | apply Kd.R_drewN | apply Kd.R_drew)); exact HO_4.out) hb); have n2_ := Aside0.mk (Kd.R_below (Kd.R_elderB (by (with_reducible repeat (first | apply Kd.R_alloc | apply Kd.R_drewN | apply Kd.R_drew)); exact HO_52.out) gb123 (Nat.le_of_eq hg.symm)) hb); have n3_ := Aside0.mk (below_step (by repeat (first | (with_reducible first | exact HB.out | apply below_alloc | apply pw_below_drewN | apply below_drew1) | exact HB.out)) hb); have n4_ := Aside0.mk (hbox); have n5_ := Aside0.mk ((by rw [hg]; exact (below_size (by repeat (first | (with_reducible first | exact HB.out | apply below_alloc | apply pw_below_drewN | apply below_drew1) | exact HB.out))) : w.heap.size ≤ gb123)); have n6_ := Aside0.mk ((by rw [hg]; exact (below_size (by repeat (first | (with_reducible first | exact HB.out | apply below_alloc | apply pw_below_drewN | apply below_drew1) | exact HB.out))) : w.heap.size ≤ gb123)); clear HO_3; clear HO_4; clear HO_52; clear HB; have HO_3 := n0_; have HO_4 := n1_; have HO_52 := n2_; have HB := n3_; have BK123 := n4_; have GW123 := n5_; have GE123 := n6_; clear n0_ n1_ n2_ n3_ n4_ n5_ n6_; clear hb hbox hg; have hcz29_0 : w28.cell? ⟨gb123, 0, none⟩ = some (.string (⟨#[]⟩ : ByteArray)) := (blk_cell BK123.out 0).trans rfl; have hcz29_1 : w28.cell? ⟨gb123, 1, none⟩ = some (.string (⟨#[]⟩ : ByteArray)) := (blk_cell BK123.out 1).trans rfl; have hfz29_0 := blk_frozen BK123.out 0; have hfz29_1 := blk_frozen BK123.out 1))
               have n0_ : Aside0 (Kd.R k52 52 ((w28.setCell ⟨gb123, 0, none⟩ (.string ((rd_T52 x3_2 x54_3).f0))).setCell ⟨gb123, 1, none⟩ (.string ((rd_T52 x3_2 x54_3).f1))) w.heap.size (fun k_ => k_ ≠ gb123) (.slice (some ad122) x3_2.length co16) x3_2) := ⟨by (with_reducible repeat (first | apply Kd.R_alloc | apply Kd.R_drewN | apply Kd.R_drew)); exact Kd.R_mono (Kd.R_far (p := ⟨gb123, 1, none⟩) (Kd.R_far (p := ⟨gb123, 0, none⟩) (Kd.R_mono HO_3.out (fun k_ hk => (⟨hk, hk.2⟩ : _ ∧ k_ ≠ gb123))) (fun _ hk => hk.2) (.string ((rd_T52 x3_2 x54_3).f0))) (fun _ hk => hk.2) (.string ((rd_T52 x3_2 x54_3).f1))) (fun _ hk => hk.1.2)⟩
               have n1_ : Aside0 (Kd.R Kd.string 9 ((w28.setCell ⟨gb123, 0, none⟩ (.string ((rd_T52 x3_2 x54_3).f0))).setCell ⟨gb123, 1, none⟩ (.string ((rd_T52 x3_2 x54_3).f1))) w.heap.size (fun _ => True) u4 x4_2) := ⟨by (with_reducible repeat (first | apply Kd.R_alloc | apply Kd.R_drewN | apply Kd.R_drew)); exact Kd.R_mono (Kd.R_far (p := ⟨gb123, 1, none⟩) (Kd.R_far (p := ⟨gb123, 0, none⟩) (Kd.R_types HO_4.out BK123.out (by decide)) (fun _ hk => hk.2) (.string ((rd_T52 x3_2 x54_3).f0))) (fun _ hk => hk.2) (.string ((rd_T52 x3_2 x54_3).f1))) (fun _ hk => trivial)⟩
               have n2_ : Aside0 (Kd.R k52 52 ((w28.setCell ⟨gb123, 0, none⟩ (.string ((rd_T52 x3_2 x54_3).f0))).setCell ⟨gb123, 1, none⟩ (.string ((rd_T52 x3_2 x54_3).f1))) w.heap.size (fun k_ => k_ ≠ gb123) (.slice (some ad122) x3_2.length co16) x3_2) := ⟨by (with_reducible repeat (first | apply Kd.R_alloc | apply Kd.R_drewN | apply Kd.R_drew)); exact Kd.R_mono (Kd.R_far (p := ⟨gb123, 1, none⟩) (Kd.R_far (p := ⟨gb123, 0, none⟩) (Kd.R_mono HO_52.out (fun k_ hk => (⟨hk, hk.2⟩ : _ ∧ k_ ≠ gb123))) (fun _ hk => hk.2) (.string ((rd_T52 x3_2 x54_3).f0))) (fun _ hk => hk.2) (.string ((rd_T52 x3_2 x54_3).f1))) (fun _ hk => hk.1.2)⟩
               have n3_ : Aside0 (((w28.setCell ⟨gb123, 0, none⟩ (.string ((rd_T52 x3_2 x54_3).f0))).setCell ⟨gb123, 1, none⟩ (.string ((rd_T52 x3_2 x54_3).f1))).heap[gb123]? = some (.cells #[.string ((rd_T52 x3_2 x54_3).f0), .string ((rd_T52 x3_2 x54_3).f1)] 52 (0, 0))) := ⟨by (with_reducible repeat (first | refine blk_drewN ?_ _ | refine blk_drew ?_ | refine blk_alloc ?_ _)); refine blk_put (cs := #[.string ((rd_T52 x3_2 x54_3).f0), .string (⟨#[]⟩ : ByteArray)]) ?_ 1 _ rfl; (with_reducible repeat (first | refine blk_drewN ?_ _ | refine blk_drew ?_ | refine blk_alloc ?_ _)); refine blk_put (cs := #[.string (⟨#[]⟩ : ByteArray), .string (⟨#[]⟩ : ByteArray)]) ?_ 0 _ rfl; (with_reducible repeat (first | refine blk_drewN ?_ _ | refine blk_drew ?_ | refine blk_alloc ?_ _)); exact BK123.out⟩
               have n4_ : Aside0 (Below w.heap.size w ((w28.setCell ⟨gb123, 0, none⟩ (.string ((rd_T52 x3_2 x54_3).f0))).setCell ⟨gb123, 1, none⟩ (.string ((rd_T52 x3_2 x54_3).f1)))) := ⟨by repeat (first | (with_reducible first | exact HB.out | apply below_alloc | apply pw_below_drewN | apply below_drew1 | refine below_set ?_ GE123.out) | exact HB.out)⟩
               (try clear HO_3)
               (try clear HO_4)
               (try clear HO_52)
               (try clear BK123)
               (try clear HB)
               generalize ((w28.setCell ⟨gb123, 0, none⟩ (.string ((rd_T52 x3_2 x54_3).f0))).setCell ⟨gb123, 1, none⟩ (.string ((rd_T52 x3_2 x54_3).f1))) = w30 at n0_ n1_ n2_ n3_ n4_ ⊢
               have HO_3 := n0_
               have HO_4 := n1_
               have HO_52 := n2_
               have BK123 := n3_
               have HB := n4_
               clear n0_ n1_ n2_ n3_ n4_
               have n0_ := Aside0.mk (Kd.R_drew HO_3.out)
               have n1_ := Aside0.mk (Kd.R_drew HO_4.out)
               have n2_ := Aside0.mk (Kd.R_drew HO_52.out)
               have n3_ := Aside0.mk (blk_drew BK123.out)
               have n4_ := Aside0.mk (below_drew1 HB.out)
               clear HO_3
               clear HO_4
               clear HO_52
               clear BK123
               clear HB
               have HO_3 := n0_
               have HO_4 := n1_
               have HO_52 := n2_
               have BK123 := n3_
               have HB := n4_
               clear n0_ n1_ n2_ n3_ n4_
               have p124 : 0 ≤ (x10_3 : Int) := of_decide_eq_true (by first | (with_reducible assumption) | assumption)
               have q124 : x10_3 < (x3_2.length : Int) := of_decide_eq_true (by first | (with_reducible assumption) | assumption)
               obtain ⟨ad124, e124, hx124_0, hx124_1⟩ := at_T52 (Kd.R_reads' HO_3.out).2.2 x10_3 p124 q124
               obtain rfl : ad122 = ad124 := (by injection e124)
               replace p124 := eq_true p124
               replace q124 := eq_true q124
               refine start_ (n := 8) (S := fun w' => w'.cell? ⟨gb123, 0, none⟩ = some (.string ((rd_T52 x3_2 x54_3).f0)) ∧ w'.cell? ⟨gb123, 1, none⟩ = some (.string ((rd_T52 x3_2 x54_3).f1)) ∧ w'.cell? (ad122.add ((x10_3).toNat * 2)) = some (.string ((rd_T52 x3_2 x10_3).f0)) ∧ w'.cell? ⟨(ad122.add ((x10_3).toNat * 2)).block, (ad122.add ((x10_3).toNat * 2)).off + 1, none⟩ = some (.string ((rd_T52 x3_2 x10_3).f1))) (ds := []) #[false, false, false, false, false, false, false, false] (by kernel_rfl) rfl rfl ⟨(blk_cell BK123.out 0).trans rfl, (blk_cell BK123.out 1).trans rfl, hx124_0, hx124_1⟩ (fun hHeld => ?_); refine with_tabW spec_dcShortest.tab19 spec_dcShortest.bits19 (fun HT_ HW_ => ?_)
               generalize w30.drew = w31 at HO_3 HO_4 HO_52 BK123 HB hx124_0 hx124_1 hHeld ⊢
               refine pure_ (i := 0) (N := some 59) (v := ?_) (a' := ?_) #[true, false, false, false, false, false, false, false] rfl rfl (any_of HT_.out (by kernel_rfl)) (fun _ _ _ h => h) (Or.inl ⟨by rfl, ?_⟩) ?_ ?_
               rotate_left
               ·intro w'
                go_simp
                with_reducible rfl
               rotate_left
               ·simp only [Act.put, List.setIfInBounds_toArray, List.set_cons_zero, List.set_cons_succ, i64_w, i32_w]
                rfl
               refine pure_ (i := 2) (N := some 61) (v := ?_) (a' := ?_) #[true, false, true, false, false, false, false, false] rfl rfl (any_of HT_.out (by kernel_rfl)) (fun _ _ _ h => h) (Or.inl ⟨by rfl, ?_⟩) ?_ ?_
               rotate_left
               ·intro w'
                go_simp
                with_reducible rfl
               rotate_left
               ·simp only [Act.put, List.setIfInBounds_toArray, List.set_cons_zero, List.set_cons_succ, i64_w, i32_w]
                rfl
               refine pure_ (i := 3) (N := some 62) (v := ?_) (a' := ?_) #[true, false, true, true, false, false, false, false] rfl rfl (any_of HT_.out (by kernel_rfl)) (fun _ _ _ h => h) (Or.inl ⟨by rfl, ?_⟩) ?_ ?_
               rotate_left
               ·intro w'
                go_simp
                with_reducible rfl
               rotate_left
               ·simp only [Act.put, List.setIfInBounds_toArray, List.set_cons_zero, List.set_cons_succ, i64_w, i32_w]
                rfl
               refine pure_ (i := 4) (N := some 63) (v := ?_) (a' := ?_) #[true, false, true, true, true, false, false, false] rfl rfl (any_of HT_.out (by kernel_rfl)) (fun _ _ _ h => h) (Or.inl ⟨by rfl, ?_⟩) ?_ ?_
               rotate_left
               ·intro w'
                go_simp
                with_reducible rfl
               rotate_left
               ·simp only [Act.put, List.setIfInBounds_toArray, List.set_cons_zero, List.set_cons_succ, i64_w, i32_w]
                rfl
               refine pure_ (i := 5) (N := some 64) (v := ?_) (a' := ?_) #[true, false, true, true, true, true, false, false] rfl rfl (any_of HT_.out (by kernel_rfl)) (fun _ _ _ h => h) (Or.inl ⟨by rfl, ?_⟩) ?_ ?_
               rotate_left
               ·intro w'
                go_simp
                with_reducible rfl
               rotate_left
               ·simp only [Act.put, List.setIfInBounds_toArray, List.set_cons_zero, List.set_cons_succ, i64_w, i32_w]
                rfl
               refine take_ (i := 1) (N := some 60) (v := ?_) (a' := ?_) #[true, true, true, true, true, true, false, false] rfl rfl (take_ofW HT_.out HW_.out (by kernel_rfl)) (fun _ _ _ h => h) (Or.inl ⟨by rfl, ?_⟩) hHeld ?_ ?_
               rotate_left
               ·rintro w' ⟨s0, s1, s2, s3⟩
                go_simp
                with_reducible rfl
               rotate_left
               ·simp only [Act.put, List.setIfInBounds_toArray, List.set_cons_zero, List.set_cons_succ, i64_w, i32_w]
                rfl
               refine take_ (i := 6) (N := some 65) (v := ?_) (a' := ?_) #[true, true, true, true, true, true, true, false] rfl rfl (take_ofW HT_.out HW_.out (by kernel_rfl)) (fun _ _ _ h => h) (Or.inl ⟨by rfl, ?_⟩) hHeld ?_ ?_
               rotate_left
               ·rintro w' ⟨s0, s1, s2, s3⟩
                go_simp
                with_reducible rfl
               rotate_left
               ·simp only [Act.put, List.setIfInBounds_toArray, List.set_cons_zero, List.set_cons_succ, i64_w, i32_w]
                rfl
               refine one_ (i := 7) (N := some 66) #[true, true, true, true, true, true, true, true] rfl rfl (one_of HT_.out (by kernel_rfl)) (by decide) (fun K hK => ?_)
               refine goes_ Tryd.func45 (by kernel_rfl) rfl #[.string ((rd_T52 x3_2 x54_3).f0), .string ((rd_T52 x3_2 x10_3).f0)] (by rfl) rfl rfl (by (try simp only [List.map_toArray, List.map_cons, List.map_nil]); first | done | rfl | (simp only [List.length_drop, List.length_take]; rfl)) ?_
               with_reducible refine (spec_wdLess.calls ((rd_T52 x3_2 x54_3).f0) ((rd_T52 x3_2 x10_3).f0) false _ A22.out).mono ?_
               rintro e w' ⟨rfl, ⟨nd, rfl⟩⟩
               refine ⟨_, rfl, ?_⟩
               refine hK.out _ _ ⟨(blk_cell BK123.out 0).trans rfl, (blk_cell BK123.out 1).trans rfl, hHeld.2.2.1, hHeld.2.2.2⟩ (fun hHeld => ?_)
               clear hK K
               refine norm_ (a' := ?_) ?_ ?_
               rotate_left
               ·show Act.put _ (some 66) _ = _
                simp only [Act.put, List.setIfInBounds_toArray, List.set_cons_zero, List.set_cons_succ, i64_w, i32_w]
                rfl
               refine done_ (done_of HT_.out (by kernel_rfl)) ?_
               try go_wp2
               go_roundg k3
               case measure => have := HK1.out; have := HK2.out; have := HK3.out; omega
               case rel => exact ⟨(x10_3), (wrap64 (x54_3 + 1)), (by first | rfl | (simp; done) | (simp [*]; done)), (by first | rfl | (simp; done) | (simp [*]; done)), H', ⟨by have := HK1.out; have := HK2.out; have := HK3.out; omega⟩, ⟨by (with_reducible repeat (first | apply Kd.R_alloc | apply Kd.R_drewN | apply Kd.R_drew)); exact Kd.R_mono HO_3.out (fun _ hk => trivial)⟩, ⟨by (with_reducible repeat (first | apply Kd.R_alloc | apply Kd.R_drewN | apply Kd.R_drew)); exact HO_4.out⟩, ⟨by (with_reducible repeat (first | apply Kd.R_alloc | apply Kd.R_drewN | apply Kd.R_drew)); exact Kd.R_mono HO_52.out (fun _ hk => trivial)⟩, ⟨by repeat (first | (with_reducible first | exact HB.out | apply below_alloc | apply pw_below_drewN | apply below_drew1 | refine below_set ?_ GE123.out) | exact HB.out)⟩⟩
             ·rw [if_neg c21] at H
              exact absurd H (by simp)
            ·rw [if_neg c20] at H
             exact absurd H (by simp)
           ·rw [if_neg c19] at H
            exact absurd H (by simp)
          ·rw [if_neg c18] at H
           exact absurd H (by simp)
         ·rw [if_neg c17] at H
          have c17b0 : decide (x54_3 < (x3_2.length : Int)) = false := decide_eq_false c17
          clear c17
          by_cases c32 : 0 ≤ x10_3
          ·rw [if_pos c32] at H
           have c32b0 : decide (0 ≤ x10_3) = true := decide_eq_true c32
           clear c32
           by_cases c33 : x10_3 < (x3_2.length : Int)
           ·rw [if_pos c33] at H
            have c33b0 : decide (x10_3 < (x3_2.length : Int)) = true := decide_eq_true c33
            clear c33
            obtain ⟨y128, hy128⟩ : ∃ y_ : List (S52), y_ = (([] : List (S52))) := ⟨_, rfl⟩
            replace H : (if x10_3 ≤ (x3_2.length : Int) then ((some (x3_2.take (x10_3 : Int).toNat : List (S52))).bind fun y131 => (if y128.length + y131.length < 4398046511104 then ((some (y128 ++ y131 : List (S52))).bind fun y135 => (if 0 ≤ (wrap64 (x10_3 + 1)) then (if (wrap64 (x10_3 + 1)) ≤ (x3_2.length : Int) then ((some (x3_2.drop ((wrap64 (x10_3 + 1)) : Int).toNat : List (S52))).bind fun y138 => (if y135.length + y138.length < 4398046511104 then ((some (y135 ++ y138 : List (S52))).bind fun y142 => ((spec_wdHas.f k3 x4_2 ((rd_T52 x3_2 x10_3).f1)).bind fun t145 => (if t145 = true then (spec_dcShortest.j4 k3 l0 y142 x4_2 x9_2 true ((rd_T52 x3_2 x10_3).f0) ((rd_T52 x3_2 x10_3).f1)) else (if x9_2.toList = ([] : List UInt8) then (spec_dcShortest.j4 k3 l0 y142 x4_2 x9_2 false ((rd_T52 x3_2 x10_3).f0) ((rd_T52 x3_2 x10_3).f1)) else ((spec_wdLess.f ((rd_T52 x3_2 x10_3).f0) x9_2).bind fun t146 => (spec_dcShortest.j4 k3 l0 y142 x4_2 x9_2 (!t146) ((rd_T52 x3_2 x10_3).f0) ((rd_T52 x3_2 x10_3).f1))))))) else (none))) else (none)) else (none))) else (none))) else (none)) = some r := by first | (rw [hy128]; with_reducible exact H) | (have H2_ := (Option.bind_some _ _).symm.trans H; rw [hy128]; with_reducible exact H2_) | (have H2_ := (Option.bind_some _ _).symm.trans H; with_reducible exact H2_) | with_reducible exact H | (rw [hy128]; exact H) | exact H
            have Ny128 := Aside0.mk hy128
            clear hy128
            have c34b0 := eq_true (of_decide_eq_true (by first | (with_reducible assumption) | assumption) : 0 ≤ x10_3)
            by_cases c35 : x10_3 ≤ (x3_2.length : Int)
            ·rw [if_pos c35] at H
             have c35b0 := eq_true c35
             have c35b1 : decide (x10_3 ≤ (x3_2.length : Int)) = true := decide_eq_true c35
             clear c35
             obtain ⟨y131, hy131⟩ : ∃ y_ : List (S52), y_ = (x3_2.take (x10_3 : Int).toNat) := ⟨_, rfl⟩
             replace H : (if y128.length + y131.length < 4398046511104 then ((some (y128 ++ y131 : List (S52))).bind fun y135 => (if 0 ≤ (wrap64 (x10_3 + 1)) then (if (wrap64 (x10_3 + 1)) ≤ (x3_2.length : Int) then ((some (x3_2.drop ((wrap64 (x10_3 + 1)) : Int).toNat : List (S52))).bind fun y138 => (if y135.length + y138.length < 4398046511104 then ((some (y135 ++ y138 : List (S52))).bind fun y142 => ((spec_wdHas.f k3 x4_2 ((rd_T52 x3_2 x10_3).f1)).bind fun t145 => (if t145 = true then (spec_dcShortest.j4 k3 l0 y142 x4_2 x9_2 true ((rd_T52 x3_2 x10_3).f0) ((rd_T52 x3_2 x10_3).f1)) else (if x9_2.toList = ([] : List UInt8) then (spec_dcShortest.j4 k3 l0 y142 x4_2 x9_2 false ((rd_T52 x3_2 x10_3).f0) ((rd_T52 x3_2 x10_3).f1)) else ((spec_wdLess.f ((rd_T52 x3_2 x10_3).f0) x9_2).bind fun t146 => (spec_dcShortest.j4 k3 l0 y142 x4_2 x9_2 (!t146) ((rd_T52 x3_2 x10_3).f0) ((rd_T52 x3_2 x10_3).f1))))))) else (none))) else (none)) else (none))) else (none)) = some r := by first | (rw [hy131]; with_reducible exact H) | (have H2_ := (Option.bind_some _ _).symm.trans H; rw [hy131]; with_reducible exact H2_) | (have H2_ := (Option.bind_some _ _).symm.trans H; with_reducible exact H2_) | with_reducible exact H | (rw [hy131]; exact H) | exact H
             have Ny131 := Aside0.mk hy131
             clear hy131
             by_cases c36 : y128.length + y131.length < 4398046511104
             ·rw [if_pos c36] at H
              have LMc36 := Aside0.mk c36
              clear c36
              obtain ⟨y135, hy135⟩ : ∃ y_ : List (S52), y_ = (y128 ++ y131) := ⟨_, rfl⟩
              replace H : (if 0 ≤ (wrap64 (x10_3 + 1)) then (if (wrap64 (x10_3 + 1)) ≤ (x3_2.length : Int) then ((some (x3_2.drop ((wrap64 (x10_3 + 1)) : Int).toNat : List (S52))).bind fun y138 => (if y135.length + y138.length < 4398046511104 then ((some (y135 ++ y138 : List (S52))).bind fun y142 => ((spec_wdHas.f k3 x4_2 ((rd_T52 x3_2 x10_3).f1)).bind fun t145 => (if t145 = true then (spec_dcShortest.j4 k3 l0 y142 x4_2 x9_2 true ((rd_T52 x3_2 x10_3).f0) ((rd_T52 x3_2 x10_3).f1)) else (if x9_2.toList = ([] : List UInt8) then (spec_dcShortest.j4 k3 l0 y142 x4_2 x9_2 false ((rd_T52 x3_2 x10_3).f0) ((rd_T52 x3_2 x10_3).f1)) else ((spec_wdLess.f ((rd_T52 x3_2 x10_3).f0) x9_2).bind fun t146 => (spec_dcShortest.j4 k3 l0 y142 x4_2 x9_2 (!t146) ((rd_T52 x3_2 x10_3).f0) ((rd_T52 x3_2 x10_3).f1))))))) else (none))) else (none)) else (none)) = some r := by first | (rw [hy135]; with_reducible exact H) | (have H2_ := (Option.bind_some _ _).symm.trans H; rw [hy135]; with_reducible exact H2_) | (have H2_ := (Option.bind_some _ _).symm.trans H; with_reducible exact H2_) | with_reducible exact H | (rw [hy135]; exact H) | exact H
              have Ny135 := Aside0.mk hy135
              clear hy135
              obtain ⟨ji37, hji37⟩ : ∃ j_ : Int, (wrap64 (x10_3 + 1)) = j_ := ⟨_, rfl⟩
              replace H : (if 0 ≤ (ji37) then (if (ji37) ≤ (x3_2.length : Int) then ((some (x3_2.drop ((ji37) : Int).toNat : List (S52))).bind fun y138 => (if y135.length + y138.length < 4398046511104 then ((some (y135 ++ y138 : List (S52))).bind fun y142 => ((spec_wdHas.f k3 x4_2 ((rd_T52 x3_2 x10_3).f1)).bind fun t145 => (if t145 = true then (spec_dcShortest.j4 k3 l0 y142 x4_2 x9_2 true ((rd_T52 x3_2 x10_3).f0) ((rd_T52 x3_2 x10_3).f1)) else (if x9_2.toList = ([] : List UInt8) then (spec_dcShortest.j4 k3 l0 y142 x4_2 x9_2 false ((rd_T52 x3_2 x10_3).f0) ((rd_T52 x3_2 x10_3).f1)) else ((spec_wdLess.f ((rd_T52 x3_2 x10_3).f0) x9_2).bind fun t146 => (spec_dcShortest.j4 k3 l0 y142 x4_2 x9_2 (!t146) ((rd_T52 x3_2 x10_3).f0) ((rd_T52 x3_2 x10_3).f1))))))) else (none))) else (none)) else (none)) = some r := by first | (rw [hji37] at H; exact H) | (simp only [hji37] at H ⊢; exact H)
              have hji37w : (IntKind.i64.wrap (x10_3 + 1)) = ji37 := (i64_w _).trans hji37
              by_cases c38 : 0 ≤ (ji37)
              ·rw [if_pos c38] at H
               have c38b0 := eq_true c38
               have c38b1 : decide (0 ≤ (ji37)) = true := decide_eq_true c38
               clear c38
               by_cases c39 : (ji37) ≤ (x3_2.length : Int)
               ·rw [if_pos c39] at H
                have c39b0 := eq_true c39
                have c39b1 : decide ((ji37) ≤ (x3_2.length : Int)) = true := decide_eq_true c39
                clear c39
                obtain ⟨y138, hy138⟩ : ∃ y_ : List (S52), y_ = (x3_2.drop ((ji37) : Int).toNat) := ⟨_, rfl⟩
                replace H : (if y135.length + y138.length < 4398046511104 then ((some (y135 ++ y138 : List (S52))).bind fun y142 => ((spec_wdHas.f k3 x4_2 ((rd_T52 x3_2 x10_3).f1)).bind fun t145 => (if t145 = true then (spec_dcShortest.j4 k3 l0 y142 x4_2 x9_2 true ((rd_T52 x3_2 x10_3).f0) ((rd_T52 x3_2 x10_3).f1)) else (if x9_2.toList = ([] : List UInt8) then (spec_dcShortest.j4 k3 l0 y142 x4_2 x9_2 false ((rd_T52 x3_2 x10_3).f0) ((rd_T52 x3_2 x10_3).f1)) else ((spec_wdLess.f ((rd_T52 x3_2 x10_3).f0) x9_2).bind fun t146 => (spec_dcShortest.j4 k3 l0 y142 x4_2 x9_2 (!t146) ((rd_T52 x3_2 x10_3).f0) ((rd_T52 x3_2 x10_3).f1))))))) else (none)) = some r := by first | (rw [hy138]; with_reducible exact H) | (have H2_ := (Option.bind_some _ _).symm.trans H; rw [hy138]; with_reducible exact H2_) | (have H2_ := (Option.bind_some _ _).symm.trans H; with_reducible exact H2_) | with_reducible exact H | (rw [hy138]; exact H) | exact H
                have Ny138 := Aside0.mk hy138
                clear hy138
                by_cases c40 : y135.length + y138.length < 4398046511104
                ·rw [if_pos c40] at H
                 have LMc40 := Aside0.mk c40
                 clear c40
                 obtain ⟨y142, hy142⟩ : ∃ y_ : List (S52), y_ = (y135 ++ y138) := ⟨_, rfl⟩
                 replace H : ((spec_wdHas.f k3 x4_2 ((rd_T52 x3_2 x10_3).f1)).bind fun t145 => (if t145 = true then (spec_dcShortest.j4 k3 l0 y142 x4_2 x9_2 true ((rd_T52 x3_2 x10_3).f0) ((rd_T52 x3_2 x10_3).f1)) else (if x9_2.toList = ([] : List UInt8) then (spec_dcShortest.j4 k3 l0 y142 x4_2 x9_2 false ((rd_T52 x3_2 x10_3).f0) ((rd_T52 x3_2 x10_3).f1)) else ((spec_wdLess.f ((rd_T52 x3_2 x10_3).f0) x9_2).bind fun t146 => (spec_dcShortest.j4 k3 l0 y142 x4_2 x9_2 (!t146) ((rd_T52 x3_2 x10_3).f0) ((rd_T52 x3_2 x10_3).f1)))))) = some r := by first | (rw [hy142]; with_reducible exact H) | (have H2_ := (Option.bind_some _ _).symm.trans H; rw [hy142]; with_reducible exact H2_) | (have H2_ := (Option.bind_some _ _).symm.trans H; with_reducible exact H2_) | with_reducible exact H | (rw [hy142]; exact H) | exact H
                 have Ny142 := Aside0.mk hy142
                 clear hy142
                 have HC41 := Aside0.mk H
                 clear H
                 have p126 : 0 ≤ (x10_3 : Int) := of_decide_eq_true (by first | (with_reducible assumption) | assumption)
                 have q126 : x10_3 < (x3_2.length : Int) := of_decide_eq_true (by first | (with_reducible assumption) | assumption)
                 obtain ⟨ad126, e126, hx126_0, hx126_1⟩ := at_T52 (Kd.R_reads' HO_3.out).2.2 x10_3 p126 q126
                 cases e126
                 replace p126 := eq_true p126
                 replace q126 := eq_true q126
                 try go_wp2_with (first | ((with_reducible refine gate_dst (N := 13) rfl ?_); refine box_event ?hg (N := 13) ?hd (cs := #[.string (⟨#[]⟩ : ByteArray), .string (⟨#[]⟩ : ByteArray)]) (t := 52) ?hr ?_; (case hd => rfl); (case hg => rfl); (case hr => first | (go_simp; done) | (go_simp; rfl)); intro gb127 hg w42 hbox hb; have n0_ := Aside0.mk (Kd.R_below (Kd.R_elderB (by (with_reducible repeat (first | apply Kd.R_alloc | apply Kd.R_drewN | apply Kd.R_drew)); exact HO_3.out) gb127 (Nat.le_of_eq hg.symm)) hb); have n1_ := Aside0.mk (Kd.R_below (by (with_reducible repeat (first | apply Kd.R_alloc | apply Kd.R_drewN | apply Kd.R_drew)); exact HO_4.out) hb); have n2_ := Aside0.mk (Kd.R_below (Kd.R_elderB (by (with_reducible repeat (first | apply Kd.R_alloc | apply Kd.R_drewN | apply Kd.R_drew)); exact HO_52.out) gb127 (Nat.le_of_eq hg.symm)) hb); have n3_ := Aside0.mk (below_step (by repeat (first | (with_reducible first | exact HB.out | apply below_alloc | apply pw_below_drewN | apply below_drew1) | exact HB.out)) hb); have n4_ := Aside0.mk (hbox); have n5_ := Aside0.mk ((by rw [hg]; exact (below_size (by repeat (first | (with_reducible first | exact HB.out | apply below_alloc | apply pw_below_drewN | apply below_drew1) | exact HB.out))) : w.heap.size ≤ gb127)); have n6_ := Aside0.mk ((by rw [hg]; exact (below_size (by repeat (first | (with_reducible first | exact HB.out | apply below_alloc | apply pw_below_drewN | apply below_drew1) | exact HB.out))) : w.heap.size ≤ gb127)); clear HO_3; clear HO_4; clear HO_52; clear HB; have HO_3 := n0_; have HO_4 := n1_; have HO_52 := n2_; have HB := n3_; have BK127 := n4_; have GW127 := n5_; have GE127 := n6_; clear n0_ n1_ n2_ n3_ n4_ n5_ n6_; clear hb hbox hg; have hcz43_0 : w42.cell? ⟨gb127, 0, none⟩ = some (.string (⟨#[]⟩ : ByteArray)) := (blk_cell BK127.out 0).trans rfl; have hcz43_1 : w42.cell? ⟨gb127, 1, none⟩ = some (.string (⟨#[]⟩ : ByteArray)) := (blk_cell BK127.out 1).trans rfl; have hfz43_0 := blk_frozen BK127.out 0; have hfz43_1 := blk_frozen BK127.out 1))
                 have n0_ : Aside0 (Kd.R k52 52 ((w42.setCell ⟨gb127, 0, none⟩ (.string ((rd_T52 x3_2 x10_3).f0))).setCell ⟨gb127, 1, none⟩ (.string ((rd_T52 x3_2 x10_3).f1))) w.heap.size (fun k_ => k_ ≠ gb127) (.slice (some ad126) x3_2.length co16) x3_2) := ⟨by (with_reducible repeat (first | apply Kd.R_alloc | apply Kd.R_drewN | apply Kd.R_drew)); exact Kd.R_mono (Kd.R_far (p := ⟨gb127, 1, none⟩) (Kd.R_far (p := ⟨gb127, 0, none⟩) (Kd.R_mono HO_3.out (fun k_ hk => (⟨hk, hk.2⟩ : _ ∧ k_ ≠ gb127))) (fun _ hk => hk.2) (.string ((rd_T52 x3_2 x10_3).f0))) (fun _ hk => hk.2) (.string ((rd_T52 x3_2 x10_3).f1))) (fun _ hk => hk.1.2)⟩
                 have n1_ : Aside0 (Kd.R Kd.string 9 ((w42.setCell ⟨gb127, 0, none⟩ (.string ((rd_T52 x3_2 x10_3).f0))).setCell ⟨gb127, 1, none⟩ (.string ((rd_T52 x3_2 x10_3).f1))) w.heap.size (fun _ => True) u4 x4_2) := ⟨by (with_reducible repeat (first | apply Kd.R_alloc | apply Kd.R_drewN | apply Kd.R_drew)); exact Kd.R_mono (Kd.R_far (p := ⟨gb127, 1, none⟩) (Kd.R_far (p := ⟨gb127, 0, none⟩) (Kd.R_types HO_4.out BK127.out (by decide)) (fun _ hk => hk.2) (.string ((rd_T52 x3_2 x10_3).f0))) (fun _ hk => hk.2) (.string ((rd_T52 x3_2 x10_3).f1))) (fun _ hk => trivial)⟩
                 have n2_ : Aside0 (Kd.R k52 52 ((w42.setCell ⟨gb127, 0, none⟩ (.string ((rd_T52 x3_2 x10_3).f0))).setCell ⟨gb127, 1, none⟩ (.string ((rd_T52 x3_2 x10_3).f1))) w.heap.size (fun k_ => k_ ≠ gb127) (.slice (some ad126) x3_2.length co16) x3_2) := ⟨by (with_reducible repeat (first | apply Kd.R_alloc | apply Kd.R_drewN | apply Kd.R_drew)); exact Kd.R_mono (Kd.R_far (p := ⟨gb127, 1, none⟩) (Kd.R_far (p := ⟨gb127, 0, none⟩) (Kd.R_mono HO_52.out (fun k_ hk => (⟨hk, hk.2⟩ : _ ∧ k_ ≠ gb127))) (fun _ hk => hk.2) (.string ((rd_T52 x3_2 x10_3).f0))) (fun _ hk => hk.2) (.string ((rd_T52 x3_2 x10_3).f1))) (fun _ hk => hk.1.2)⟩
                 have n3_ : Aside0 (((w42.setCell ⟨gb127, 0, none⟩ (.string ((rd_T52 x3_2 x10_3).f0))).setCell ⟨gb127, 1, none⟩ (.string ((rd_T52 x3_2 x10_3).f1))).heap[gb127]? = some (.cells #[.string ((rd_T52 x3_2 x10_3).f0), .string ((rd_T52 x3_2 x10_3).f1)] 52 (0, 0))) := ⟨by (with_reducible repeat (first | refine blk_drewN ?_ _ | refine blk_drew ?_ | refine blk_alloc ?_ _)); refine blk_put (cs := #[.string ((rd_T52 x3_2 x10_3).f0), .string (⟨#[]⟩ : ByteArray)]) ?_ 1 _ rfl; (with_reducible repeat (first | refine blk_drewN ?_ _ | refine blk_drew ?_ | refine blk_alloc ?_ _)); refine blk_put (cs := #[.string (⟨#[]⟩ : ByteArray), .string (⟨#[]⟩ : ByteArray)]) ?_ 0 _ rfl; (with_reducible repeat (first | refine blk_drewN ?_ _ | refine blk_drew ?_ | refine blk_alloc ?_ _)); exact BK127.out⟩
                 have n4_ : Aside0 (Below w.heap.size w ((w42.setCell ⟨gb127, 0, none⟩ (.string ((rd_T52 x3_2 x10_3).f0))).setCell ⟨gb127, 1, none⟩ (.string ((rd_T52 x3_2 x10_3).f1)))) := ⟨by repeat (first | (with_reducible first | exact HB.out | apply below_alloc | apply pw_below_drewN | apply below_drew1 | refine below_set ?_ GE127.out) | exact HB.out)⟩
                 (try clear HO_3)
                 (try clear HO_4)
                 (try clear HO_52)
                 (try clear BK127)
                 (try clear HB)
                 generalize ((w42.setCell ⟨gb127, 0, none⟩ (.string ((rd_T52 x3_2 x10_3).f0))).setCell ⟨gb127, 1, none⟩ (.string ((rd_T52 x3_2 x10_3).f1))) = w44 at n0_ n1_ n2_ n3_ n4_ ⊢
                 have HO_3 := n0_
                 have HO_4 := n1_
                 have HO_52 := n2_
                 have BK127 := n3_
                 have HB := n4_
                 clear n0_ n1_ n2_ n3_ n4_
                 have n0_ := Aside0.mk (Kd.R_drew HO_3.out)
                 have n1_ := Aside0.mk (Kd.R_drew HO_4.out)
                 have n2_ := Aside0.mk (Kd.R_drew HO_52.out)
                 have n3_ := Aside0.mk (blk_drew BK127.out)
                 have n4_ := Aside0.mk (below_drew1 HB.out)
                 clear HO_3
                 clear HO_4
                 clear HO_52
                 clear BK127
                 clear HB
                 have HO_3 := n0_
                 have HO_4 := n1_
                 have HO_52 := n2_
                 have BK127 := n3_
                 have HB := n4_
                 clear n0_ n1_ n2_ n3_ n4_
                 have q46 : (x10_3 : Int) ≤ ((x3_2.length : Int) : Int) := of_decide_eq_true (by first | (with_reducible assumption) | assumption)
                 obtain ⟨i046, hi046, _, hsz46, _⟩ := info_parts info52
                 have hroom46 : x3_2.length ≤ co16 := (Kd.R_reads' HO_3.out).2.1
                 have hC46 : Kd.C k52 _ (some ad126) x3_2.length x3_2 := (Kd.R_reads' HO_3.out).2.2
                 have hcut46 := cut_to (P := Tryd.prog) 50 52 .i64 Tryd.underlying50 hi046 (some ad126) x3_2.length co16 x10_3 (of_decide_eq_true (by first | (with_reducible assumption) | assumption)) q46 hroom46
                 have hr46 := Kd.C_take (m := (x10_3 : Int).toNat) hC46 (by omega)
                 have hy46 : y131.length = (x10_3 : Int).toNat := (by rw [Ny131.out, List.length_take]; omega)
                 rw [← Ny131.out] at hr46
                 rw [← hy46] at hcut46
                 have HR134 := Aside0.mk hr46
                 have HC134 := Aside0.mk (show y131.length ≤ co16 from by omega)
                 clear hr46 hC46 hroom46 hi046 hsz46
                 have KY46 := Aside0.mk hy46
                 clear hy46
                 have KL46 := Aside0.mk (show (x10_3 : Int).toNat ≤ x3_2.length from by omega)
                 replace q46 := eq_true q46
                 have q47 : ((ji37) : Int) ≤ ((x3_2.length : Int) : Int) := of_decide_eq_true (by first | (with_reducible assumption) | assumption)
                 obtain ⟨i047, hi047, _, hsz47, _⟩ := info_parts info52
                 have hroom47 : x3_2.length ≤ co16 := (Kd.R_reads' HO_3.out).2.1
                 have hC47 : Kd.C k52 _ (some ad126) x3_2.length x3_2 := (Kd.R_reads' HO_3.out).2.2
                 have q047 : (0 : Int) ≤ ((ji37) : Int) := of_decide_eq_true (by first | (with_reducible assumption) | assumption)
                 have hcut47 := cut_from (P := Tryd.prog) 50 52 .i64 Tryd.underlying50 hi047 2 hsz47 (some ad126) x3_2.length co16 (ji37) q047 q47
                 have hr47 := Kd.C_drop (m := ((ji37) : Int).toNat) (c := co16) hC47 (by omega) hroom47
                 obtain ⟨A47, hA47⟩ : ∃ A1, A1 = (if co16 = ((ji37) : Int).toNat then (some ad126) else ((some ad126) : Option Addr).map (·.add (((ji37) : Int).toNat * 2))) := ⟨_, rfl⟩
                 obtain ⟨c47, hc47⟩ : ∃ c1, c1 = co16 - ((ji37) : Int).toNat := ⟨_, rfl⟩
                 have hy47 : y138.length = x3_2.length - ((ji37) : Int).toNat := (by rw [Ny138.out, List.length_drop] <;> omega)
                 rw [show (x3_2).drop ((ji37) : Int).toNat = y138 from Ny138.out.symm] at hr47
                 replace hr47 : Kd.C k52 _ A47 y138.length y138 := (by rw [hA47]; exact hr47)
                 rw [← hy47, ← hA47, ← hc47] at hcut47
                 have HR141 := Aside0.mk hr47
                 have HC141 := Aside0.mk (show y138.length ≤ c47 from by rw [hy47, hc47]; exact Nat.sub_le_sub_right hroom47 _)
                 clear hr47 hC47 hroom47 hi047 hsz47 hc47
                 have KY47 := Aside0.mk hy47
                 have KA47 := Aside0.mk hA47
                 clear hy47 hA47
                 have KL47 := Aside0.mk (show ((ji37) : Int).toNat ≤ x3_2.length from by omega)
                 replace q47 := eq_true q47
                 refine start_ (n := 11) (S := fun w' => True) (ds := []) #[false, false, false, false, false, false, false, false, false, false, false] (by kernel_rfl) rfl rfl trivial (fun hHeld => ?_); refine with_tabW spec_dcShortest.tab23 spec_dcShortest.bits23 (fun HT_ HW_ => ?_)
                 generalize w44.drew = w45 at HO_3 HO_4 HO_52 BK127 HB HR134 HR141 hHeld ⊢
                 refine pure_ (i := 1) (N := some 74) (v := ?_) (a' := ?_) #[false, true, false, false, false, false, false, false, false, false, false] rfl rfl (any_of HT_.out (by kernel_rfl)) (fun _ _ _ h => h) (Or.inl ⟨by rfl, ?_⟩) ?_ ?_
                 rotate_left
                 ·intro w'
                  go_simp
                  with_reducible rfl
                 rotate_left
                 ·simp only [Act.put, List.setIfInBounds_toArray, List.set_cons_zero, List.set_cons_succ, i64_w, i32_w]
                  rfl
                 refine pure_ (i := 2) (N := some 75) (v := ?_) (a' := ?_) #[false, true, true, false, false, false, false, false, false, false, false] rfl rfl (any_of HT_.out (by kernel_rfl)) (fun _ _ _ h => h) (Or.inl ⟨by rfl, ?_⟩) ?_ ?_
                 rotate_left
                 ·intro w'
                  go_simp
                  with_reducible rfl
                 rotate_left
                 ·simp only [Act.put, List.setIfInBounds_toArray, List.set_cons_zero, List.set_cons_succ, i64_w, i32_w]
                  rfl
                 refine pure_ (i := 3) (N := some 76) (v := ?_) (a' := ?_) #[false, true, true, true, false, false, false, false, false, false, false] rfl rfl (any_of HT_.out (by kernel_rfl)) (fun _ _ _ h => h) (Or.inl ⟨by rfl, ?_⟩) ?_ ?_
                 rotate_left
                 ·intro w'
                  go_simp
                  with_reducible rfl
                 rotate_left
                 ·simp only [Act.put, List.setIfInBounds_toArray, List.set_cons_zero, List.set_cons_succ, i64_w, i32_w]
                  rfl
                 refine pure_ (i := 5) (N := some 78) (v := ?_) (a' := ?_) #[false, true, true, true, false, true, false, false, false, false, false] rfl rfl (any_of HT_.out (by kernel_rfl)) (fun _ _ _ h => h) (Or.inl ⟨by rfl, ?_⟩) ?_ ?_
                 rotate_left
                 ·intro w'
                  go_simp
                  with_reducible rfl
                 rotate_left
                 ·simp only [Act.put, List.setIfInBounds_toArray, List.set_cons_zero, List.set_cons_succ, i64_w, i32_w]
                  rfl
                 refine pure_ (i := 6) (N := some 79) (v := ?_) (a' := ?_) #[false, true, true, true, false, true, true, false, false, false, false] rfl rfl (any_of HT_.out (by kernel_rfl)) (fun _ _ _ h => h) (Or.inl ⟨by rfl, ?_⟩) ?_ ?_
                 rotate_left
                 ·intro w'
                  go_simp
                  with_reducible rfl
                 rotate_left
                 ·simp only [Act.put, List.setIfInBounds_toArray, List.set_cons_zero, List.set_cons_succ, i64_w, i32_w]
                  rfl
                 refine pure_ (i := 7) (N := some 80) (v := ?_) (a' := ?_) #[false, true, true, true, false, true, true, true, false, false, false] rfl rfl (any_of HT_.out (by kernel_rfl)) (fun _ _ _ h => h) (Or.inl ⟨by rfl, ?_⟩) ?_ ?_
                 rotate_left
                 ·intro w'
                  go_simp
                  with_reducible rfl
                 rotate_left
                 ·simp only [Act.put, List.setIfInBounds_toArray, List.set_cons_zero, List.set_cons_succ, i64_w, i32_w]
                  rfl
                 refine pure_ (i := 8) (N := some 81) (v := ?_) (a' := ?_) #[false, true, true, true, false, true, true, true, true, false, false] rfl rfl (any_of HT_.out (by kernel_rfl)) (fun _ _ _ h => h) (Or.inl ⟨by rfl, ?_⟩) ?_ ?_
                 rotate_left
                 ·intro w'
                  go_simp
                  with_reducible rfl
                 rotate_left
                 ·simp only [Act.put, List.setIfInBounds_toArray, List.set_cons_zero, List.set_cons_succ, i64_w, i32_w]
                  rfl
                 refine one_ (i := 0) (N := some 73) #[true, true, true, true, false, true, true, true, true, false, false] rfl rfl (one_of HT_.out (by kernel_rfl)) (by decide) (fun K hK => ?_)
                 refine Kd.R_lit_step k52 _ 52 ?hg (N := 73) ?hd (xs := ([] : List (S52))) (inner := []) (ok := fun _ => True) (okp := fun _ => True) ?hr ?hp (fun _ hk => hk) trivial (Below.refl _ _) (Nat.le_refl _) (by simp) ?_; (case hd => rfl); (case hg => rfl); (case hr => first | (go_simp; done) | (go_simp; rfl)); (case hp => exact (Reps.none _ _))
                 intro v129 w48 ho49 hb hg_ hnew_
                 clear hg_ hnew_
                 (first | rw [← Ny128.out] at ho49 | (simp only [Int.reduceToNat] at ho49; rw [← Ny128.out] at ho49))
                 have n0_ := Aside0.mk (Kd.R_elder' (by (with_reducible repeat (first | apply Kd.R_alloc | apply Kd.R_drewN | apply Kd.R_drew)); exact HO_3.out) (Kd.R_base ho49) hb)
                 have n1_ := Aside0.mk (Kd.R_below (by (with_reducible repeat (first | apply Kd.R_alloc | apply Kd.R_drewN | apply Kd.R_drew)); exact HO_4.out) hb)
                 have n2_ := Aside0.mk (Kd.R_elder' (by (with_reducible repeat (first | apply Kd.R_alloc | apply Kd.R_drewN | apply Kd.R_drew)); exact HO_52.out) (Kd.R_base ho49) hb)
                 have n3_ := Aside0.mk (Kd.R_lower (Kd.R_newB (Kd.R_new' (Kd.R_new' ho49 (Kd.R_lt (by (with_reducible repeat (first | apply Kd.R_alloc | apply Kd.R_drewN | apply Kd.R_drew)); exact HO_3.out))) (Kd.R_lt (by (with_reducible repeat (first | apply Kd.R_alloc | apply Kd.R_drewN | apply Kd.R_drew)); exact HO_52.out))) (g := gb127) (o := .cells #[.string ((rd_T52 x3_2 x10_3).f0), .string ((rd_T52 x3_2 x10_3).f1)] 52 (0, 0)) (by (with_reducible repeat (first | refine blk_drewN ?_ _ | refine blk_drew ?_ | refine blk_alloc ?_ _)); exact BK127.out)) (below_size (by repeat (first | (with_reducible first | exact HB.out | apply below_alloc | apply pw_below_drewN | apply below_drew1 | refine below_set ?_ GE127.out) | exact HB.out))))
                 have n4_ := Aside0.mk (blk_below (g := gb127) (o := .cells #[.string ((rd_T52 x3_2 x10_3).f0), .string ((rd_T52 x3_2 x10_3).f1)] 52 (0, 0)) (by (with_reducible repeat (first | refine blk_drewN ?_ _ | refine blk_drew ?_ | refine blk_alloc ?_ _)); exact BK127.out) hb)
                 have n5_ := Aside0.mk (Kd.C_below (by repeat (first | (with_reducible exact HR134.out) | (with_reducible refine Kd.C_alloc ?_ _) | (with_reducible refine Kd.C_drewN ?_ _) | (with_reducible refine Kd.C_drew ?_) | exact HR134.out)) hb)
                 have n6_ := Aside0.mk (Kd.C_below (by repeat (first | (with_reducible exact HR141.out) | (with_reducible refine Kd.C_alloc ?_ _) | (with_reducible refine Kd.C_drewN ?_ _) | (with_reducible refine Kd.C_drew ?_) | exact HR141.out)) hb)
                 have n7_ := Aside0.mk (below_step (by repeat (first | (with_reducible first | exact HB.out | apply below_alloc | apply pw_below_drewN | apply below_drew1 | refine below_set ?_ GE127.out) | exact HB.out)) hb)
                 clear HO_3
                 clear HO_4
                 clear HO_52
                 clear BK127
                 clear HR134
                 clear HR141
                 clear HB
                 have HO_3 := n0_
                 have HO_4 := n1_
                 have HO_52 := n2_
                 have HO130 := n3_
                 have BK127 := n4_
                 have HR134 := n5_
                 have HR141 := n6_
                 have HB := n7_
                 clear n0_ n1_ n2_ n3_ n4_ n5_ n6_ n7_
                 clear hb ho49
                 refine hK.out _ _ trivial (fun hHeld => ?_)
                 clear hK K
                 refine norm_ (a' := ?_) ?_ ?_
                 rotate_left
                 ·show Act.put _ (some 73) _ = _
                  simp only [Act.put, List.setIfInBounds_toArray, List.set_cons_zero, List.set_cons_succ, i64_w, i32_w]
                  rfl
                 refine one_ (i := 4) (N := some 77) #[true, true, true, true, true, true, true, true, true, false, false] rfl rfl (one_of HT_.out (by kernel_rfl)) (by decide) (fun K hK => ?_)
                 refine Kd.R_append_rows_step k52 (w0 := w) w.heap.size (by rfl) (.tmp 73) (.tmp 76) 50 52 (.agg #[(.string ⟨#[]⟩), (.string ⟨#[]⟩)]) 32 rfl Tryd.underlying50 info52 rfl (by decide) (by omega) v129 y128 y131 _ _ _ (fun k_ => some k_ ≠ (.slice (some ad126) x3_2.length co16 : Value).ownBlock ∧ some k_ ≠ (.slice (some ad126) x3_2.length co16 : Value).ownBlock ∧ k_ ≠ gb127) (fun _ => False) rfl rfl ?aO ?aR (fun _ _ h => h) (fun _ h => h.elim) ?aF ?aB ?aS ?aL ?_
                 (case aR => repeat (first | exact (by repeat (first | (with_reducible exact HR134.out) | (with_reducible refine Kd.C_alloc ?_ _) | (with_reducible refine Kd.C_drewN ?_ _) | (with_reducible refine Kd.C_drew ?_) | exact HR134.out)) | (with_reducible refine Kd.C_alloc ?_ _) | (with_reducible refine Kd.C_drewN ?_ _) | (with_reducible refine Kd.C_drew ?_)))
                 (case aB => exact (by repeat (first | (with_reducible first | exact HB.out | apply below_alloc | apply pw_below_drewN | apply below_drew1 | refine below_set ?_ GE127.out) | exact HB.out)))
                 (case aF => exact (fun k_ hk => ⟨Kd.fresh' (Kd.R_lt (by (with_reducible repeat (first | apply Kd.R_alloc | apply Kd.R_drewN | apply Kd.R_drew)); exact HO_3.out)) k_ hk, Kd.fresh' (Kd.R_lt (by (with_reducible repeat (first | apply Kd.R_alloc | apply Kd.R_drewN | apply Kd.R_drew)); exact HO_52.out)) k_ hk, Kd.freshB (g := gb127) (o := .cells #[.string ((rd_T52 x3_2 x10_3).f0), .string ((rd_T52 x3_2 x10_3).f1)] 52 (0, 0)) (by (with_reducible repeat (first | refine blk_drewN ?_ _ | refine blk_drew ?_ | refine blk_alloc ?_ _)); exact BK127.out) k_ hk⟩))
                 (case aO => exact (by (with_reducible repeat (first | apply Kd.R_alloc | apply Kd.R_drewN | apply Kd.R_drew)); exact Kd.R_mono HO130.out (fun _ hk => ⟨hk.1.1.2, ⟨hk.1.2, hk.2⟩⟩)))
                 (case aS => exact (below_size (by repeat (first | (with_reducible first | exact HB.out | apply below_alloc | apply pw_below_drewN | apply below_drew1 | refine below_set ?_ GE127.out) | exact HB.out))))
                 (case aL => have := LMc36.out; omega)
                 intro v136 w50 ho hb hg hat
                 rw [← Ny135.out] at ho
                 have n0_ := Aside0.mk (Kd.R_after (ok := (fun k_ => k_ ≠ gb127)) (by (with_reducible repeat (first | apply Kd.R_alloc | apply Kd.R_drewN | apply Kd.R_drew)); exact HO_3.out) hg hat)
                 have n1_ := Aside0.mk (Kd.R_over' (by (with_reducible repeat (first | apply Kd.R_alloc | apply Kd.R_drewN | apply Kd.R_drew)); exact HO_4.out) (Kd.R_typed (by (with_reducible repeat (first | apply Kd.R_alloc | apply Kd.R_drewN | apply Kd.R_drew)); exact HO130.out)) (by decide) hg)
                 have n2_ := Aside0.mk (Kd.R_after (ok := (fun k_ => k_ ≠ gb127)) (by (with_reducible repeat (first | apply Kd.R_alloc | apply Kd.R_drewN | apply Kd.R_drew)); exact HO_52.out) hg hat)
                 have n3_ := Aside0.mk (blk_grown (g := gb127) (o := .cells #[.string ((rd_T52 x3_2 x10_3).f0), .string ((rd_T52 x3_2 x10_3).f1)] 52 (0, 0)) (by (with_reducible repeat (first | refine blk_drewN ?_ _ | refine blk_drew ?_ | refine blk_alloc ?_ _)); exact BK127.out) hg (Kd.R_away HO130.out (fun _ hk => hk.2)))
                 have n4_ := Aside0.mk (hb)
                 have n5_ := Aside0.mk ((show Kd.C k52 w50 (some ad126) y131.length y131 from by rw [Ny131.out]; exact Kd.C_take (m := (x10_3 : Int).toNat) ((Kd.R_reads' (Kd.R_after (ok := (fun k_ => k_ ≠ gb127)) (by (with_reducible repeat (first | apply Kd.R_alloc | apply Kd.R_drewN | apply Kd.R_drew)); exact HO_3.out) hg hat)).2.2) KL46.out))
                 have n6_ := Aside0.mk ((show Kd.C k52 w50 A47 y138.length y138 from by rw [Ny138.out, KA47.out]; exact Kd.C_drop (m := ((ji37) : Int).toNat) (c := co16) ((Kd.R_reads' (Kd.R_after (ok := (fun k_ => k_ ≠ gb127)) (by (with_reducible repeat (first | apply Kd.R_alloc | apply Kd.R_drewN | apply Kd.R_drew)); exact HO_3.out) hg hat)).2.2) KL47.out ((Kd.R_reads' (Kd.R_after (ok := (fun k_ => k_ ≠ gb127)) (by (with_reducible repeat (first | apply Kd.R_alloc | apply Kd.R_drewN | apply Kd.R_drew)); exact HO_3.out) hg hat)).2.1)))
                 have n7_ := Aside0.mk (ho)
                 clear HO_3
                 clear HO_4
                 clear HO_52
                 clear BK127
                 clear HB
                 clear HR134
                 clear HR141
                 clear HO130
                 have HO_3 := n0_
                 have HO_4 := n1_
                 have HO_52 := n2_
                 have BK127 := n3_
                 have HB := n4_
                 have HR134 := n5_
                 have HR141 := n6_
                 have HO137 := n7_
                 clear n0_ n1_ n2_ n3_ n4_ n5_ n6_ n7_
                 clear ho hb hg hat
                 refine hK.out _ _ trivial (fun hHeld => ?_)
                 clear hK K
                 refine norm_ (a' := ?_) ?_ ?_
                 rotate_left
                 ·show Act.put _ (some 77) _ = _
                  simp only [Act.put, List.setIfInBounds_toArray, List.set_cons_zero, List.set_cons_succ, i64_w, i32_w]
                  rfl
                 refine one_ (i := 9) (N := some 82) #[true, true, true, true, true, true, true, true, true, true, false] rfl rfl (one_of HT_.out (by kernel_rfl)) (by decide) (fun K hK => ?_)
                 refine Kd.R_append_rows_step k52 (w0 := w) w.heap.size (by rfl) (.tmp 77) (.tmp 81) 50 52 (.agg #[(.string ⟨#[]⟩), (.string ⟨#[]⟩)]) 32 rfl Tryd.underlying50 info52 rfl (by decide) (by omega) v136 y135 y138 _ _ _ (fun k_ => some k_ ≠ (.slice (some ad126) x3_2.length co16 : Value).ownBlock ∧ some k_ ≠ (.slice (some ad126) x3_2.length co16 : Value).ownBlock ∧ k_ ≠ gb127) (fun _ => False) rfl rfl ?aO ?aR (fun _ _ h => h) (fun _ h => h.elim) ?aF ?aB ?aS ?aL ?_
                 (case aR => repeat (first | exact (by repeat (first | (with_reducible exact HR141.out) | (with_reducible refine Kd.C_alloc ?_ _) | (with_reducible refine Kd.C_drewN ?_ _) | (with_reducible refine Kd.C_drew ?_) | exact HR141.out)) | (with_reducible refine Kd.C_alloc ?_ _) | (with_reducible refine Kd.C_drewN ?_ _) | (with_reducible refine Kd.C_drew ?_)))
                 (case aB => exact (by repeat (first | (with_reducible first | exact HB.out | apply below_alloc | apply pw_below_drewN | apply below_drew1 | refine below_set ?_ GE127.out) | exact HB.out)))
                 (case aF => exact (fun k_ hk => ⟨Kd.fresh' (Kd.R_lt (by (with_reducible repeat (first | apply Kd.R_alloc | apply Kd.R_drewN | apply Kd.R_drew)); exact HO_3.out)) k_ hk, Kd.fresh' (Kd.R_lt (by (with_reducible repeat (first | apply Kd.R_alloc | apply Kd.R_drewN | apply Kd.R_drew)); exact HO_52.out)) k_ hk, Kd.freshB (g := gb127) (o := .cells #[.string ((rd_T52 x3_2 x10_3).f0), .string ((rd_T52 x3_2 x10_3).f1)] 52 (0, 0)) (by (with_reducible repeat (first | refine blk_drewN ?_ _ | refine blk_drew ?_ | refine blk_alloc ?_ _)); exact BK127.out) k_ hk⟩))
                 (case aO => exact (by (with_reducible repeat (first | apply Kd.R_alloc | apply Kd.R_drewN | apply Kd.R_drew)); exact HO137.out))
                 (case aS => exact (below_size (by repeat (first | (with_reducible first | exact HB.out | apply below_alloc | apply pw_below_drewN | apply below_drew1 | refine below_set ?_ GE127.out) | exact HB.out))))
                 (case aL => have := LMc40.out; omega)
                 intro v143 w51 ho hb hg hat
                 rw [← Ny142.out] at ho
                 have n0_ := Aside0.mk (Kd.R_after (ok := (fun k_ => k_ ≠ gb127)) (by (with_reducible repeat (first | apply Kd.R_alloc | apply Kd.R_drewN | apply Kd.R_drew)); exact HO_3.out) hg hat)
                 have n1_ := Aside0.mk (Kd.R_over' (by (with_reducible repeat (first | apply Kd.R_alloc | apply Kd.R_drewN | apply Kd.R_drew)); exact HO_4.out) (Kd.R_typed (by (with_reducible repeat (first | apply Kd.R_alloc | apply Kd.R_drewN | apply Kd.R_drew)); exact HO137.out)) (by decide) hg)
                 have n2_ := Aside0.mk (Kd.R_after (ok := (fun k_ => k_ ≠ gb127)) (by (with_reducible repeat (first | apply Kd.R_alloc | apply Kd.R_drewN | apply Kd.R_drew)); exact HO_52.out) hg hat)
                 have n3_ := Aside0.mk (blk_grown (g := gb127) (o := .cells #[.string ((rd_T52 x3_2 x10_3).f0), .string ((rd_T52 x3_2 x10_3).f1)] 52 (0, 0)) (by (with_reducible repeat (first | refine blk_drewN ?_ _ | refine blk_drew ?_ | refine blk_alloc ?_ _)); exact BK127.out) hg (Kd.R_away HO137.out (fun _ hk => hk.2.2)))
                 have n4_ := Aside0.mk (hb)
                 have n5_ := Aside0.mk ((show Kd.C k52 w51 (some ad126) y131.length y131 from by rw [Ny131.out]; exact Kd.C_take (m := (x10_3 : Int).toNat) ((Kd.R_reads' (Kd.R_after (ok := (fun k_ => k_ ≠ gb127)) (by (with_reducible repeat (first | apply Kd.R_alloc | apply Kd.R_drewN | apply Kd.R_drew)); exact HO_3.out) hg hat)).2.2) KL46.out))
                 have n6_ := Aside0.mk ((show Kd.C k52 w51 A47 y138.length y138 from by rw [Ny138.out, KA47.out]; exact Kd.C_drop (m := ((ji37) : Int).toNat) (c := co16) ((Kd.R_reads' (Kd.R_after (ok := (fun k_ => k_ ≠ gb127)) (by (with_reducible repeat (first | apply Kd.R_alloc | apply Kd.R_drewN | apply Kd.R_drew)); exact HO_3.out) hg hat)).2.2) KL47.out ((Kd.R_reads' (Kd.R_after (ok := (fun k_ => k_ ≠ gb127)) (by (with_reducible repeat (first | apply Kd.R_alloc | apply Kd.R_drewN | apply Kd.R_drew)); exact HO_3.out) hg hat)).2.1)))
                 have n7_ := Aside0.mk (ho)
                 clear HO_3
                 clear HO_4
                 clear HO_52
                 clear BK127
                 clear HB
                 clear HR134
                 clear HR141
                 clear HO137
                 have HO_3 := n0_
                 have HO_4 := n1_
                 have HO_52 := n2_
                 have BK127 := n3_
                 have HB := n4_
                 have HR134 := n5_
                 have HR141 := n6_
                 have HO144 := n7_
                 clear n0_ n1_ n2_ n3_ n4_ n5_ n6_ n7_
                 clear ho hb hg hat
                 refine hK.out _ _ trivial (fun hHeld => ?_)
                 clear hK K
                 refine norm_ (a' := ?_) ?_ ?_
                 rotate_left
                 ·show Act.put _ (some 82) _ = _
                  simp only [Act.put, List.setIfInBounds_toArray, List.set_cons_zero, List.set_cons_succ, i64_w, i32_w]
                  rfl
                 refine pure_ (i := 10) (N := some 3) (v := ?_) (a' := ?_) #[true, true, true, true, true, true, true, true, true, true, true] rfl rfl (any_of HT_.out (by kernel_rfl)) (fun _ _ _ h => h) (Or.inl ⟨by rfl, ?_⟩) ?_ ?_
                 rotate_left
                 ·intro w'
                  go_simp
                  with_reducible rfl
                 rotate_left
                 ·simp only [Act.put, List.setIfInBounds_toArray, List.set_cons_zero, List.set_cons_succ, i64_w, i32_w]
                  rfl
                 refine done_ (done_of HT_.out (by kernel_rfl)) ?_
                 go_upto_region 24 with (fail)
                 go_cut [97] (fun v97 wc => ∃ (kq : Nat) (x97_40 : Bool), v97 = .bool x97_40 ∧ Aside0 (spec_dcShortest.j4 kq l0 y142 x4_2 x9_2 x97_40 ((rd_T52 x3_2 x10_3).f0) ((rd_T52 x3_2 x10_3).f1) = some r) ∧ Aside0 (kq ≤ k3) ∧ Aside0 (Kd.R k52 52 wc w.heap.size (fun k_ => k_ ≠ gb127) v143 y142) ∧ Aside0 (Kd.R Kd.string 9 wc w.heap.size (fun _ => True) u4 x4_2) ∧ Aside0 (wc.heap[gb127]? = some (.cells #[.string ((rd_T52 x3_2 x10_3).f0), .string ((rd_T52 x3_2 x10_3).f1)] 52 (0, 0))) ∧ Aside0 (Kd.C k52 wc (some ad126) y131.length y131) ∧ Aside0 (Kd.C k52 wc A47 y138.length y138) ∧ Aside0 (Below w.heap.size w wc))
                 case first =>
                  have H := HC41.out
                  clear HC41
                  replace H := Option.bind_eq_some_iff.mp H
                  obtain ⟨t145, A520, H⟩ := H
                  replace H : (if t145 = true then (spec_dcShortest.j4 k3 l0 y142 x4_2 x9_2 true ((rd_T52 x3_2 x10_3).f0) ((rd_T52 x3_2 x10_3).f1)) else (if x9_2.toList = ([] : List UInt8) then (spec_dcShortest.j4 k3 l0 y142 x4_2 x9_2 false ((rd_T52 x3_2 x10_3).f0) ((rd_T52 x3_2 x10_3).f1)) else ((spec_wdLess.f ((rd_T52 x3_2 x10_3).f0) x9_2).bind fun t146 => (spec_dcShortest.j4 k3 l0 y142 x4_2 x9_2 (!t146) ((rd_T52 x3_2 x10_3).f0) ((rd_T52 x3_2 x10_3).f1))))) = some r := H
                  have A52 := Aside0.mk A520
                  clear A520
                  by_cases c53 : t145 = true
                  ·subst c53
                   have H1 : (spec_dcShortest.j4 k3 l0 y142 x4_2 x9_2 true ((rd_T52 x3_2 x10_3).f0) ((rd_T52 x3_2 x10_3).f1)) = some r := by rw [if_pos rfl] at H; exact H
                   clear H
                   have H := H1
                   clear H1
                   have H' := Aside0.mk H
                   clear H
                   have hcz54_0 : w51.cell? ⟨gb127, 0, none⟩ = some (.string ((rd_T52 x3_2 x10_3).f0)) := (blk_cell BK127.out 0).trans rfl
                   have hcz54_1 : w51.cell? ⟨gb127, 1, none⟩ = some (.string ((rd_T52 x3_2 x10_3).f1)) := (blk_cell BK127.out 1).trans rfl
                   have hfz54_0 := blk_frozen BK127.out 0
                   have hfz54_1 := blk_frozen BK127.out 1
                   obtain ⟨Ao55, co55, eo55⟩ := Kd.R_slice HO_4.out
                   subst eo55
                   go_wp2_with (first | ((with_reducible refine gate_callee (f := 30) rfl ?_); refine goesL_ (some 86) rfl rfl Tryd.func30 (by kernel_rfl) rfl #[.slice Ao55 x4_2.length co55, .string ((rd_T52 x3_2 x10_3).f1)] rfl (by (try simp only [List.map_toArray, List.map_cons, List.map_nil]); first | done | rfl | (simp only [List.length_drop, List.length_take]; rfl)) ?_; (with_reducible refine (spec_wdHas.calls k3 _ _ x4_2 ((rd_T52 x3_2 x10_3).f1) true _ ?side1 ?side2 A52.out).mono ?_); (case side1 => repeat (first | exact (Kd.R_reads' HO_4.out).2.2 | (with_reducible refine Kd.C_alloc ?_ _) | (with_reducible refine Kd.C_drewN ?_ _) | (with_reducible refine Kd.C_drew ?_))); (case side2 => exact (Kd.R_reads' HO_4.out).2.1); rintro e w' ⟨rfl, ⟨nd, rfl⟩⟩; refine ⟨_, rfl, ?_⟩))
                   go_meet
                   case rel => exact ⟨_, (true), (by first | rfl | (simp; done) | (simp [*]; done)), H', ⟨by have := HK1.out; have := HK2.out; have := HK3.out; first | omega | exact Nat.le_refl _⟩, ⟨by (with_reducible repeat (first | apply Kd.R_alloc | apply Kd.R_drewN | apply Kd.R_drew)); exact Kd.R_mono HO144.out (fun _ hk => hk.2.2)⟩, ⟨by (with_reducible repeat (first | apply Kd.R_alloc | apply Kd.R_drewN | apply Kd.R_drew)); exact HO_4.out⟩, ⟨by (with_reducible repeat (first | refine blk_drewN ?_ _ | refine blk_drew ?_ | refine blk_alloc ?_ _)); exact BK127.out⟩, ⟨by repeat (first | (with_reducible exact HR134.out) | (with_reducible refine Kd.C_alloc ?_ _) | (with_reducible refine Kd.C_drewN ?_ _) | (with_reducible refine Kd.C_drew ?_) | exact HR134.out)⟩, ⟨by repeat (first | (with_reducible exact HR141.out) | (with_reducible refine Kd.C_alloc ?_ _) | (with_reducible refine Kd.C_drewN ?_ _) | (with_reducible refine Kd.C_drew ?_) | exact HR141.out)⟩, ⟨by repeat (first | (with_reducible first | exact HB.out | apply below_alloc | apply pw_below_drewN | apply below_drew1 | refine below_set ?_ GE127.out) | exact HB.out)⟩⟩
                  ·replace c53 := Bool.eq_false_iff.mpr c53
                   subst c53
                   have H1 : (if x9_2.toList = ([] : List UInt8) then (spec_dcShortest.j4 k3 l0 y142 x4_2 x9_2 false ((rd_T52 x3_2 x10_3).f0) ((rd_T52 x3_2 x10_3).f1)) else ((spec_wdLess.f ((rd_T52 x3_2 x10_3).f0) x9_2).bind fun t146 => (spec_dcShortest.j4 k3 l0 y142 x4_2 x9_2 (!t146) ((rd_T52 x3_2 x10_3).f0) ((rd_T52 x3_2 x10_3).f1)))) = some r := by rw [if_neg (show ¬ (false = true) by decide)] at H; exact H
                   clear H
                   have H := H1
                   clear H1
                   by_cases c56 : x9_2.toList = ([] : List UInt8)
                   ·rw [if_pos c56] at H
                    have c56b0 : (x9_2.toList == ([] : List UInt8)) = true := beq_iff_eq.mpr c56
                    have c56b1 : (x9_2.toList != ([] : List UInt8)) = false := bne_eq_false_iff_eq.mpr c56
                    clear c56
                    (first | rw [c56b0] | (simp only [i64_w, i32_w]; rw [c56b0]) | skip)
                    have H' := Aside0.mk H
                    clear H
                    have hcz57_0 : w51.cell? ⟨gb127, 0, none⟩ = some (.string ((rd_T52 x3_2 x10_3).f0)) := (blk_cell BK127.out 0).trans rfl
                    have hcz57_1 : w51.cell? ⟨gb127, 1, none⟩ = some (.string ((rd_T52 x3_2 x10_3).f1)) := (blk_cell BK127.out 1).trans rfl
                    have hfz57_0 := blk_frozen BK127.out 0
                    have hfz57_1 := blk_frozen BK127.out 1
                    obtain ⟨Ao58, co58, eo58⟩ := Kd.R_slice HO_4.out
                    subst eo58
                    go_wp2_with (first | ((with_reducible refine gate_callee (f := 30) rfl ?_); refine goesL_ (some 86) rfl rfl Tryd.func30 (by kernel_rfl) rfl #[.slice Ao58 x4_2.length co58, .string ((rd_T52 x3_2 x10_3).f1)] rfl (by (try simp only [List.map_toArray, List.map_cons, List.map_nil]); first | done | rfl | (simp only [List.length_drop, List.length_take]; rfl)) ?_; (with_reducible refine (spec_wdHas.calls k3 _ _ x4_2 ((rd_T52 x3_2 x10_3).f1) false _ ?side1 ?side2 A52.out).mono ?_); (case side1 => repeat (first | exact (Kd.R_reads' HO_4.out).2.2 | (with_reducible refine Kd.C_alloc ?_ _) | (with_reducible refine Kd.C_drewN ?_ _) | (with_reducible refine Kd.C_drew ?_))); (case side2 => exact (Kd.R_reads' HO_4.out).2.1); rintro e w' ⟨rfl, ⟨nd, rfl⟩⟩; refine ⟨_, rfl, ?_⟩))
                    go_meet
                    case rel => exact ⟨_, (false), (by first | rfl | (simp; done) | (simp [*]; done)), H', ⟨by have := HK1.out; have := HK2.out; have := HK3.out; first | omega | exact Nat.le_refl _⟩, ⟨by (with_reducible repeat (first | apply Kd.R_alloc | apply Kd.R_drewN | apply Kd.R_drew)); exact Kd.R_mono HO144.out (fun _ hk => hk.2.2)⟩, ⟨by (with_reducible repeat (first | apply Kd.R_alloc | apply Kd.R_drewN | apply Kd.R_drew)); exact HO_4.out⟩, ⟨by (with_reducible repeat (first | refine blk_drewN ?_ _ | refine blk_drew ?_ | refine blk_alloc ?_ _)); exact BK127.out⟩, ⟨by repeat (first | (with_reducible exact HR134.out) | (with_reducible refine Kd.C_alloc ?_ _) | (with_reducible refine Kd.C_drewN ?_ _) | (with_reducible refine Kd.C_drew ?_) | exact HR134.out)⟩, ⟨by repeat (first | (with_reducible exact HR141.out) | (with_reducible refine Kd.C_alloc ?_ _) | (with_reducible refine Kd.C_drewN ?_ _) | (with_reducible refine Kd.C_drew ?_) | exact HR141.out)⟩, ⟨by repeat (first | (with_reducible first | exact HB.out | apply below_alloc | apply pw_below_drewN | apply below_drew1 | refine below_set ?_ GE127.out) | exact HB.out)⟩⟩
                   ·rw [if_neg c56] at H
                    have c56b0 : (x9_2.toList == ([] : List UInt8)) = false := beq_eq_false_iff_ne.mpr c56
                    have c56b1 : (x9_2.toList != ([] : List UInt8)) = true := bne_iff_ne.mpr c56
                    (first | rw [c56b0] | (simp only [i64_w, i32_w]; rw [c56b0]) | skip)
                    replace H := Option.bind_eq_some_iff.mp H
                    obtain ⟨t146, A590, H⟩ := H
                    replace H : (spec_dcShortest.j4 k3 l0 y142 x4_2 x9_2 (!t146) ((rd_T52 x3_2 x10_3).f0) ((rd_T52 x3_2 x10_3).f1)) = some r := H
                    have A59 := Aside0.mk A590
                    clear A590
                    have H' := Aside0.mk H
                    clear H
                    have hcz60_0 : w51.cell? ⟨gb127, 0, none⟩ = some (.string ((rd_T52 x3_2 x10_3).f0)) := (blk_cell BK127.out 0).trans rfl
                    have hcz60_1 : w51.cell? ⟨gb127, 1, none⟩ = some (.string ((rd_T52 x3_2 x10_3).f1)) := (blk_cell BK127.out 1).trans rfl
                    have hfz60_0 := blk_frozen BK127.out 0
                    have hfz60_1 := blk_frozen BK127.out 1
                    obtain ⟨Ao61, co61, eo61⟩ := Kd.R_slice HO_4.out
                    subst eo61
                    go_wp2_with (first | ((with_reducible refine gate_callee (f := 30) rfl ?_); refine goesL_ (some 86) rfl rfl Tryd.func30 (by kernel_rfl) rfl #[.slice Ao61 x4_2.length co61, .string ((rd_T52 x3_2 x10_3).f1)] rfl (by (try simp only [List.map_toArray, List.map_cons, List.map_nil]); first | done | rfl | (simp only [List.length_drop, List.length_take]; rfl)) ?_; (with_reducible refine (spec_wdHas.calls k3 _ _ x4_2 ((rd_T52 x3_2 x10_3).f1) false _ ?side1 ?side2 A52.out).mono ?_); (case side1 => repeat (first | exact (Kd.R_reads' HO_4.out).2.2 | (with_reducible refine Kd.C_alloc ?_ _) | (with_reducible refine Kd.C_drewN ?_ _) | (with_reducible refine Kd.C_drew ?_))); (case side2 => exact (Kd.R_reads' HO_4.out).2.1); rintro e w' ⟨rfl, ⟨nd, rfl⟩⟩; refine ⟨_, rfl, ?_⟩) | (go_at_call 45; (with_reducible refine (spec_wdLess.calls ((rd_T52 x3_2 x10_3).f0) x9_2 t146 _ A59.out).mono ?_); rintro e w' ⟨rfl, ⟨nd, rfl⟩⟩))
                    go_meet
                    case rel => exact ⟨_, (!t146), (by first | rfl | (simp; done) | (simp [*]; done)), H', ⟨by have := HK1.out; have := HK2.out; have := HK3.out; first | omega | exact Nat.le_refl _⟩, ⟨by (with_reducible repeat (first | apply Kd.R_alloc | apply Kd.R_drewN | apply Kd.R_drew)); exact Kd.R_mono HO144.out (fun _ hk => hk.2.2)⟩, ⟨by (with_reducible repeat (first | apply Kd.R_alloc | apply Kd.R_drewN | apply Kd.R_drew)); exact HO_4.out⟩, ⟨by (with_reducible repeat (first | refine blk_drewN ?_ _ | refine blk_drew ?_ | refine blk_alloc ?_ _)); exact BK127.out⟩, ⟨by repeat (first | (with_reducible exact HR134.out) | (with_reducible refine Kd.C_alloc ?_ _) | (with_reducible refine Kd.C_drewN ?_ _) | (with_reducible refine Kd.C_drew ?_) | exact HR134.out)⟩, ⟨by repeat (first | (with_reducible exact HR141.out) | (with_reducible refine Kd.C_alloc ?_ _) | (with_reducible refine Kd.C_drewN ?_ _) | (with_reducible refine Kd.C_drew ?_) | exact HR141.out)⟩, ⟨by repeat (first | (with_reducible first | exact HB.out | apply below_alloc | apply pw_below_drewN | apply below_drew1 | refine below_set ?_ GE127.out) | exact HB.out)⟩⟩
                 case rest =>
                  clear HC41
                  try clear c1
                  try clear p1
                  try clear q1
                  try clear hx1
                  try clear c2
                  try clear p2
                  try clear c3
                  try clear c4
                  try clear q4
                  try clear c5
                  try clear p6
                  try clear p12
                  try clear q12
                  try clear hx12
                  try clear c17
                  try clear c17b0
                  try clear c18
                  try clear c19
                  try clear c20
                  try clear c21
                  try clear c23
                  try clear c30
                  try clear c32
                  try clear c32b0
                  try clear c33
                  try clear c33b0
                  try clear c34
                  try clear c34b0
                  try clear c35
                  try clear c35b0
                  try clear c35b1
                  try clear c36
                  try clear c38
                  try clear c38b0
                  try clear c38b1
                  try clear c39
                  try clear c39b0
                  try clear c39b1
                  try clear c40
                  try clear c45
                  try clear q46
                  try clear c47
                  try clear q47
                  try clear c53
                  try clear c56
                  try clear c56b0
                  try clear c56b1
                  try clear hcz29_0
                  try clear hcz29_1
                  try clear hcz43_0
                  try clear hcz43_1
                  try clear hcz54_0
                  try clear hcz54_1
                  try clear hcz57_0
                  try clear hcz57_1
                  try clear hcz60_0
                  try clear hcz60_1
                  try clear hfz29_0
                  try clear hfz29_1
                  try clear hfz43_0
                  try clear hfz43_1
                  try clear hfz54_0
                  try clear hfz54_1
                  try clear hfz57_0
                  try clear hfz57_1
                  try clear hfz60_0
                  try clear hfz60_1
                  try clear hx122_0
                  try clear hx122_1
                  try clear hx124_0
                  try clear hx124_1
                  try clear hx126_0
                  try clear hx126_1
                  try clear p122
                  try clear p124
                  try clear p126
                  try clear q047
                  try clear q122
                  try clear q124
                  try clear q126
                  try clear q46
                  try clear q47
                  obtain ⟨kq, x97_40, rfl, HA, HJ40, HO_3, HO_4, BK127, HR134, HR141, HB⟩ := hcut
                  cases kq with
                  | zero => exact absurd HA.out (by simp [spec_dcShortest.j4])
                  | succ kj40 =>
                   have H := HA.out
                   clear HA
                   simp only [spec_dcShortest.j4] at H
                   by_cases c62 : x97_40 = true
                   ·subst c62
                    have H1 : (spec_dcShortest.l2 kj40 l0 y142 x4_2 x9_2) = some r := by rw [if_pos rfl] at H; exact H
                    clear H
                    have H := H1
                    clear H1
                    have H' := Aside0.mk H
                    clear H
                    go_wp2
                    go_roundg kj40
                    case measure => have := HK1.out; have := HK2.out; have := HK3.out; have := HJ40.out; omega
                    case rel => exact ⟨(y142), (x4_2), (x9_2), (by first | rfl | (simp; done) | (simp [*]; done)), H', ⟨by have := HK1.out; have := HK2.out; have := HK3.out; have := HJ40.out; omega⟩, ⟨by (with_reducible repeat (first | apply Kd.R_alloc | apply Kd.R_drewN | apply Kd.R_drew)); exact Kd.R_mono HO_3.out (fun _ hk => trivial)⟩, ⟨by (with_reducible repeat (first | apply Kd.R_alloc | apply Kd.R_drewN | apply Kd.R_drew)); exact HO_4.out⟩, ⟨by repeat (first | (with_reducible first | exact HB.out | apply below_alloc | apply pw_below_drewN | apply below_drew1 | refine below_set ?_ GE127.out) | exact HB.out)⟩⟩
                   ·replace c62 := Bool.eq_false_iff.mpr c62
                    subst c62
                    have H1 : (if x4_2.length < 8796093022208 then (spec_dcShortest.l4 kj40 l0 y142 (x4_2 ++ [((rd_T52 x3_2 x10_3).f1)]) x9_2 l0 (l0.length : Int) 0 ((rd_T52 x3_2 x10_3).f0) ((rd_T52 x3_2 x10_3).f1)) else (none)) = some r := by rw [if_neg (show ¬ (false = true) by decide)] at H; exact H
                    clear H
                    have H := H1
                    clear H1
                    by_cases c63 : x4_2.length < 8796093022208
                    ·rw [if_pos c63] at H
                     have LMc63 := Aside0.mk c63
                     clear c63
                     obtain ⟨y147, hy147⟩ : ∃ y_ : List ByteArray, y_ = (x4_2 ++ [((rd_T52 x3_2 x10_3).f1)]) := ⟨_, rfl⟩
                     replace H : (spec_dcShortest.l4 kj40 l0 y142 y147 x9_2 l0 (l0.length : Int) 0 ((rd_T52 x3_2 x10_3).f0) ((rd_T52 x3_2 x10_3).f1)) = some r := by first | (rw [hy147]; with_reducible exact H) | (have H2_ := (Option.bind_some _ _).symm.trans H; rw [hy147]; with_reducible exact H2_) | (have H2_ := (Option.bind_some _ _).symm.trans H; with_reducible exact H2_) | with_reducible exact H | (rw [hy147]; exact H) | exact H
                     have Ny147 := Aside0.mk hy147
                     clear hy147
                     have H' := Aside0.mk H
                     clear H
                     have hcz64_0 : wc.cell? ⟨gb127, 0, none⟩ = some (.string ((rd_T52 x3_2 x10_3).f0)) := (blk_cell BK127.out 0).trans rfl
                     have hcz64_1 : wc.cell? ⟨gb127, 1, none⟩ = some (.string ((rd_T52 x3_2 x10_3).f1)) := (blk_cell BK127.out 1).trans rfl
                     have hfz64_0 := blk_frozen BK127.out 0
                     have hfz64_1 := blk_frozen BK127.out 1
                     go_wp2_with (first | ((with_reducible refine gate_builtin (b := .append) (xs := #[.tmp 98, .tmp 101]) rfl ?_); at_builtin; refine Kd.R_append Kd.string (w0 := w) w.heap.size rfl (.tmp 98) (.tmp 101) 22 9 (.string ⟨#[]⟩) 16 rfl Tryd.underlying22 info9 rfl (by decide) (by omega) u4 x4_2 ((rd_T52 x3_2 x10_3).f1) [.string ((rd_T52 x3_2 x10_3).f1)] (fun _ => True) (fun _ => False) rfl rfl ?aP (fun _ hk => hk.elim) ?aF ?aO ?aB ?aS ?aL ?_; (case aP => exact rfl); (case aB => exact (by repeat (first | (with_reducible first | exact HB.out | apply below_alloc | apply pw_below_drewN | apply below_drew1 | refine below_set ?_ GE127.out) | exact HB.out))); (case aF => exact (fun _ _ => trivial)); (case aO => exact (by (with_reducible repeat (first | apply Kd.R_alloc | apply Kd.R_drewN | apply Kd.R_drew)); exact HO_4.out)); (case aS => exact (below_size (by repeat (first | (with_reducible first | exact HB.out | apply below_alloc | apply pw_below_drewN | apply below_drew1 | refine below_set ?_ GE127.out) | exact HB.out)))); (case aL => have := LMc63.out; omega); intro v148 w65 ho hb hg hat; rw [← Ny147.out] at ho; have n0_ := Aside0.mk (Kd.R_over' (by (with_reducible repeat (first | apply Kd.R_alloc | apply Kd.R_drewN | apply Kd.R_drew)); exact HO_3.out) (Kd.R_typed (by (with_reducible repeat (first | apply Kd.R_alloc | apply Kd.R_drewN | apply Kd.R_drew)); exact HO_4.out)) (by decide) hg); have n1_ := Aside0.mk (blk_grown (g := gb127) (o := .cells #[.string ((rd_T52 x3_2 x10_3).f0), .string ((rd_T52 x3_2 x10_3).f1)] 52 (0, 0)) (by (with_reducible repeat (first | refine blk_drewN ?_ _ | refine blk_drew ?_ | refine blk_alloc ?_ _)); exact BK127.out) hg (Kd.R_ne HO_4.out BK127.out (by decide))); have n2_ := Aside0.mk (hb); have n3_ := Aside0.mk (ho); clear HO_3; clear BK127; clear HB; clear HO_4; have HO_3 := n0_; have BK127 := n1_; have HB := n2_; have HO149 := n3_; clear n0_ n1_ n2_ n3_; clear ho hb hg hat))
                     go_loopg [3, 9, 105] kj40 (fun kq v3 v9 v105 w' => ∃ (x3_5 : List (S52)) (x9_5 : ByteArray) (x105_5 : Int), v9 = .string x9_5 ∧ v105 = .int .i64 x105_5 ∧ Aside0 (spec_dcShortest.l4 kq l0 x3_5 y147 x9_5 l0 (l0.length : Int) x105_5 ((rd_T52 x3_2 x10_3).f0) ((rd_T52 x3_2 x10_3).f1) = some r) ∧ Aside0 (kq ≤ kj40) ∧ Aside0 (Kd.R k52 52 w' w.heap.size (fun k_ => k_ ≠ gb127) v3 x3_5) ∧ Aside0 (Kd.R Kd.string 9 w' w.heap.size (fun _ => True) v148 y147) ∧ Aside0 (w'.heap[gb127]? = some (.cells #[.string ((rd_T52 x3_2 x10_3).f0), .string ((rd_T52 x3_2 x10_3).f1)] 52 (0, 0))) ∧ Aside0 (Below w.heap.size w w'))
                     case atStart => exact ⟨(y142), (x9_2), (0), (by first | rfl | (simp; done) | (simp [*]; done)), (by first | rfl | (simp; done) | (simp [*]; done)), H', ⟨Nat.le_refl _⟩, ⟨by (with_reducible repeat (first | apply Kd.R_alloc | apply Kd.R_drewN | apply Kd.R_drew)); exact HO_3.out⟩, ⟨by (with_reducible repeat (first | apply Kd.R_alloc | apply Kd.R_drewN | apply Kd.R_drew)); exact HO149.out⟩, ⟨by (with_reducible repeat (first | refine blk_drewN ?_ _ | refine blk_drew ?_ | refine blk_alloc ?_ _)); exact BK127.out⟩, ⟨by repeat (first | (with_reducible first | exact HB.out | apply below_alloc | apply pw_below_drewN | apply below_drew1 | refine below_set ?_ GE127.out) | exact HB.out)⟩⟩
                     case round =>
                      clear H'
                      try clear c1
                      try clear p1
                      try clear q1
                      try clear hx1
                      try clear c2
                      try clear p2
                      try clear c3
                      try clear c4
                      try clear q4
                      try clear c5
                      try clear c6
                      try clear p6
                      try clear p12
                      try clear q12
                      try clear hx12
                      try clear c17
                      try clear c17b0
                      try clear c18
                      try clear c19
                      try clear c20
                      try clear c21
                      try clear c23
                      try clear c30
                      try clear c32
                      try clear c32b0
                      try clear c33
                      try clear c33b0
                      try clear c34
                      try clear c34b0
                      try clear c35
                      try clear c35b0
                      try clear c35b1
                      try clear c36
                      try clear c38
                      try clear c38b0
                      try clear c38b1
                      try clear c39
                      try clear c39b0
                      try clear c39b1
                      try clear c40
                      try clear c45
                      try clear q46
                      try clear c47
                      try clear q47
                      try clear c53
                      try clear c56
                      try clear c56b0
                      try clear c56b1
                      try clear c62
                      try clear c63
                      try clear p64
                      try clear hcz29_0
                      try clear hcz29_1
                      try clear hcz43_0
                      try clear hcz43_1
                      try clear hcz54_0
                      try clear hcz54_1
                      try clear hcz57_0
                      try clear hcz57_1
                      try clear hcz60_0
                      try clear hcz60_1
                      try clear hcz64_0
                      try clear hcz64_1
                      try clear hfz29_0
                      try clear hfz29_1
                      try clear hfz43_0
                      try clear hfz43_1
                      try clear hfz54_0
                      try clear hfz54_1
                      try clear hfz57_0
                      try clear hfz57_1
                      try clear hfz60_0
                      try clear hfz60_1
                      try clear hfz64_0
                      try clear hfz64_1
                      try clear hx122_0
                      try clear hx122_1
                      try clear hx124_0
                      try clear hx124_1
                      try clear hx126_0
                      try clear hx126_1
                      try clear p1
                      try clear p12
                      try clear p122
                      try clear p124
                      try clear p126
                      try clear p2
                      try clear p6
                      try clear q047
                      try clear q1
                      try clear q12
                      try clear q122
                      try clear q124
                      try clear q126
                      try clear q4
                      try clear q46
                      try clear q47
                      obtain ⟨x3_5, x9_5, x105_5, rfl, rfl, HA, HK5, HO_3, HO_4, BK127, HB⟩ := hrel
                      cases gk with
                      | zero => exact absurd HA.out (by simp [spec_dcShortest.l4])
                      | succ k5 =>
                       have H := HA.out
                       clear HA
                       simp only [spec_dcShortest.l4] at H
                       by_cases c66 : x105_5 < (l0.length : Int)
                       ·rw [if_pos c66] at H
                        have c66b0 : decide (x105_5 < (l0.length : Int)) = true := decide_eq_true c66
                        clear c66
                        by_cases c67 : 0 ≤ x105_5
                        ·rw [if_pos c67] at H
                         have c67b0 : decide (0 ≤ x105_5) = true := decide_eq_true c67
                         clear c67
                         by_cases c68 : x105_5 < (l0.length : Int)
                         ·rw [if_pos c68] at H
                          have c68b0 : decide (x105_5 < (l0.length : Int)) = true := decide_eq_true c68
                          clear c68
                          by_cases c69 : (rdOf ByteArray.empty l0 x105_5).toList = ((rd_T52 x3_2 x10_3).f1).toList
                          ·rw [if_pos c69] at H
                           have c69b0 : ((rdOf ByteArray.empty l0 x105_5).toList == ((rd_T52 x3_2 x10_3).f1).toList) = true := beq_iff_eq.mpr c69
                           have c69b1 : ((rdOf ByteArray.empty l0 x105_5).toList != ((rd_T52 x3_2 x10_3).f1).toList) = false := bne_eq_false_iff_eq.mpr c69
                           clear c69
                           by_cases c70 : x9_5.toList = ([] : List UInt8)
                           ·rw [if_pos c70] at H
                            have c70b0 : (x9_5.toList == ([] : List UInt8)) = true := beq_iff_eq.mpr c70
                            have c70b1 : (x9_5.toList != ([] : List UInt8)) = false := bne_eq_false_iff_eq.mpr c70
                            clear c70
                            have H' := Aside0.mk H
                            clear H
                            have p150 : 0 ≤ (x105_5 : Int) := of_decide_eq_true (by first | (with_reducible assumption) | assumption)
                            have q150 : x105_5 < (l0.length : Int) := of_decide_eq_true (by first | (with_reducible assumption) | assumption)
                            obtain ⟨ad150, e150, hx150_0⟩ := Kd.at_string HR0.out x105_5 p150 q150
                            cases e150
                            replace hx150_0 := (HB.out.cell (World.block_lt_of_cell? w _ hx150_0)).trans hx150_0
                            replace p150 := eq_true p150
                            replace q150 := eq_true q150
                            have hcz71_0 : wr.cell? ⟨gb127, 0, none⟩ = some (.string ((rd_T52 x3_2 x10_3).f0)) := (blk_cell BK127.out 0).trans rfl
                            have hcz71_1 : wr.cell? ⟨gb127, 1, none⟩ = some (.string ((rd_T52 x3_2 x10_3).f1)) := (blk_cell BK127.out 1).trans rfl
                            have hfz71_0 := blk_frozen BK127.out 0
                            have hfz71_1 := blk_frozen BK127.out 1
                            go_wp2
                            go_roundg k5
                            case measure => have := HK1.out; have := HK2.out; have := HK3.out; have := HJ40.out; have := HK5.out; omega
                            case rel => exact ⟨(x3_5), (((rd_T52 x3_2 x10_3).f0)), (wrap64 (x105_5 + 1)), (by first | rfl | (simp; done) | (simp [*]; done)), (by first | rfl | (simp; done) | (simp [*]; done)), H', ⟨by have := HK1.out; have := HK2.out; have := HK3.out; have := HJ40.out; have := HK5.out; omega⟩, ⟨by (with_reducible repeat (first | apply Kd.R_alloc | apply Kd.R_drewN | apply Kd.R_drew)); exact HO_3.out⟩, ⟨by (with_reducible repeat (first | apply Kd.R_alloc | apply Kd.R_drewN | apply Kd.R_drew)); exact HO_4.out⟩, ⟨by (with_reducible repeat (first | refine blk_drewN ?_ _ | refine blk_drew ?_ | refine blk_alloc ?_ _)); exact BK127.out⟩, ⟨by repeat (first | (with_reducible first | exact HB.out | apply below_alloc | apply pw_below_drewN | apply below_drew1 | refine below_set ?_ GE127.out) | exact HB.out)⟩⟩
                           ·rw [if_neg c70] at H
                            have c70b0 : (x9_5.toList == ([] : List UInt8)) = false := beq_eq_false_iff_ne.mpr c70
                            have c70b1 : (x9_5.toList != ([] : List UInt8)) = true := bne_iff_ne.mpr c70
                            replace H := Option.bind_eq_some_iff.mp H
                            obtain ⟨t151, A720, H⟩ := H
                            replace H : (if t151 = true then (spec_dcShortest.l4 k5 l0 x3_5 y147 ((rd_T52 x3_2 x10_3).f0) l0 (l0.length : Int) (wrap64 (x105_5 + 1)) ((rd_T52 x3_2 x10_3).f0) ((rd_T52 x3_2 x10_3).f1)) else (spec_dcShortest.l4 k5 l0 x3_5 y147 x9_5 l0 (l0.length : Int) (wrap64 (x105_5 + 1)) ((rd_T52 x3_2 x10_3).f0) ((rd_T52 x3_2 x10_3).f1))) = some r := H
                            have A72 := Aside0.mk A720
                            clear A720
                            by_cases c73 : t151 = true
                            ·subst c73
                             have H1 : (spec_dcShortest.l4 k5 l0 x3_5 y147 ((rd_T52 x3_2 x10_3).f0) l0 (l0.length : Int) (wrap64 (x105_5 + 1)) ((rd_T52 x3_2 x10_3).f0) ((rd_T52 x3_2 x10_3).f1)) = some r := by rw [if_pos rfl] at H; exact H
                             clear H
                             have H := H1
                             clear H1
                             have H' := Aside0.mk H
                             clear H
                             have p150 : 0 ≤ (x105_5 : Int) := of_decide_eq_true (by first | (with_reducible assumption) | assumption)
                             have q150 : x105_5 < (l0.length : Int) := of_decide_eq_true (by first | (with_reducible assumption) | assumption)
                             obtain ⟨ad150, e150, hx150_0⟩ := Kd.at_string HR0.out x105_5 p150 q150
                             cases e150
                             replace hx150_0 := (HB.out.cell (World.block_lt_of_cell? w _ hx150_0)).trans hx150_0
                             replace p150 := eq_true p150
                             replace q150 := eq_true q150
                             have hcz74_0 : wr.cell? ⟨gb127, 0, none⟩ = some (.string ((rd_T52 x3_2 x10_3).f0)) := (blk_cell BK127.out 0).trans rfl
                             have hcz74_1 : wr.cell? ⟨gb127, 1, none⟩ = some (.string ((rd_T52 x3_2 x10_3).f1)) := (blk_cell BK127.out 1).trans rfl
                             have hfz74_0 := blk_frozen BK127.out 0
                             have hfz74_1 := blk_frozen BK127.out 1
                             go_wp2_with (first | (go_at_call 45; (with_reducible refine (spec_wdLess.calls ((rd_T52 x3_2 x10_3).f0) x9_5 true _ A72.out).mono ?_); rintro e w' ⟨rfl, ⟨nd, rfl⟩⟩))
                             go_roundg k5
                             case measure => have := HK1.out; have := HK2.out; have := HK3.out; have := HJ40.out; have := HK5.out; omega
                             case rel => exact ⟨(x3_5), (((rd_T52 x3_2 x10_3).f0)), (wrap64 (x105_5 + 1)), (by first | rfl | (simp; done) | (simp [*]; done)), (by first | rfl | (simp; done) | (simp [*]; done)), H', ⟨by have := HK1.out; have := HK2.out; have := HK3.out; have := HJ40.out; have := HK5.out; omega⟩, ⟨by (with_reducible repeat (first | apply Kd.R_alloc | apply Kd.R_drewN | apply Kd.R_drew)); exact HO_3.out⟩, ⟨by (with_reducible repeat (first | apply Kd.R_alloc | apply Kd.R_drewN | apply Kd.R_drew)); exact HO_4.out⟩, ⟨by (with_reducible repeat (first | refine blk_drewN ?_ _ | refine blk_drew ?_ | refine blk_alloc ?_ _)); exact BK127.out⟩, ⟨by repeat (first | (with_reducible first | exact HB.out | apply below_alloc | apply pw_below_drewN | apply below_drew1 | refine below_set ?_ GE127.out) | exact HB.out)⟩⟩
                            ·replace c73 := Bool.eq_false_iff.mpr c73
                             subst c73
                             have H1 : (spec_dcShortest.l4 k5 l0 x3_5 y147 x9_5 l0 (l0.length : Int) (wrap64 (x105_5 + 1)) ((rd_T52 x3_2 x10_3).f0) ((rd_T52 x3_2 x10_3).f1)) = some r := by rw [if_neg (show ¬ (false = true) by decide)] at H; exact H
                             clear H
                             have H := H1
                             clear H1
                             have H' := Aside0.mk H
                             clear H
                             have p150 : 0 ≤ (x105_5 : Int) := of_decide_eq_true (by first | (with_reducible assumption) | assumption)
                             have q150 : x105_5 < (l0.length : Int) := of_decide_eq_true (by first | (with_reducible assumption) | assumption)
                             obtain ⟨ad150, e150, hx150_0⟩ := Kd.at_string HR0.out x105_5 p150 q150
                             cases e150
                             replace hx150_0 := (HB.out.cell (World.block_lt_of_cell? w _ hx150_0)).trans hx150_0
                             replace p150 := eq_true p150
                             replace q150 := eq_true q150
                             have hcz75_0 : wr.cell? ⟨gb127, 0, none⟩ = some (.string ((rd_T52 x3_2 x10_3).f0)) := (blk_cell BK127.out 0).trans rfl
                             have hcz75_1 : wr.cell? ⟨gb127, 1, none⟩ = some (.string ((rd_T52 x3_2 x10_3).f1)) := (blk_cell BK127.out 1).trans rfl
                             have hfz75_0 := blk_frozen BK127.out 0
                             have hfz75_1 := blk_frozen BK127.out 1
                             go_wp2_with (first | (go_at_call 45; (with_reducible refine (spec_wdLess.calls ((rd_T52 x3_2 x10_3).f0) x9_5 false _ A72.out).mono ?_); rintro e w' ⟨rfl, ⟨nd, rfl⟩⟩))
                             go_roundg k5
                             case measure => have := HK1.out; have := HK2.out; have := HK3.out; have := HJ40.out; have := HK5.out; omega
                             case rel => exact ⟨(x3_5), (x9_5), (wrap64 (x105_5 + 1)), (by first | rfl | (simp; done) | (simp [*]; done)), (by first | rfl | (simp; done) | (simp [*]; done)), H', ⟨by have := HK1.out; have := HK2.out; have := HK3.out; have := HJ40.out; have := HK5.out; omega⟩, ⟨by (with_reducible repeat (first | apply Kd.R_alloc | apply Kd.R_drewN | apply Kd.R_drew)); exact HO_3.out⟩, ⟨by (with_reducible repeat (first | apply Kd.R_alloc | apply Kd.R_drewN | apply Kd.R_drew)); exact HO_4.out⟩, ⟨by (with_reducible repeat (first | refine blk_drewN ?_ _ | refine blk_drew ?_ | refine blk_alloc ?_ _)); exact BK127.out⟩, ⟨by repeat (first | (with_reducible first | exact HB.out | apply below_alloc | apply pw_below_drewN | apply below_drew1 | refine below_set ?_ GE127.out) | exact HB.out)⟩⟩
                          ·rw [if_neg c69] at H
                           have c69b0 : ((rdOf ByteArray.empty l0 x105_5).toList == ((rd_T52 x3_2 x10_3).f1).toList) = false := beq_eq_false_iff_ne.mpr c69
                           have c69b1 : ((rdOf ByteArray.empty l0 x105_5).toList != ((rd_T52 x3_2 x10_3).f1).toList) = true := bne_iff_ne.mpr c69
                           replace H := Option.bind_eq_some_iff.mp H
                           obtain ⟨t152, A760, H⟩ := H
                           replace H : (if t152 = true then (if 0 ≤ ((rdOf ByteArray.empty l0 x105_5).size : Int) then (if ((rdOf ByteArray.empty l0 x105_5).size : Int) ≤ (((rd_T52 x3_2 x10_3).f1).size : Int) then (if x3_5.length < 4398046511104 then (spec_dcShortest.l4 k5 l0 (x3_5 ++ [(⟨((rd_T52 x3_2 x10_3).f0), ((rd_T52 x3_2 x10_3).f1).extract (((rdOf ByteArray.empty l0 x105_5).size : Int) : Int).toNat ((rd_T52 x3_2 x10_3).f1).size⟩ : S52)]) y147 x9_5 l0 (l0.length : Int) (wrap64 (x105_5 + 1)) ((rd_T52 x3_2 x10_3).f0) ((rd_T52 x3_2 x10_3).f1)) else (none)) else (none)) else (none)) else ((spec_wdBegins.f (rdOf ByteArray.empty l0 x105_5) ((rd_T52 x3_2 x10_3).f1)).bind fun t156 => (if t156 = true then (if 0 ≤ (((rd_T52 x3_2 x10_3).f1).size : Int) then (if (((rd_T52 x3_2 x10_3).f1).size : Int) ≤ ((rdOf ByteArray.empty l0 x105_5).size : Int) then (if ((rd_T52 x3_2 x10_3).f0).size + ((rdOf ByteArray.empty l0 x105_5).extract ((((rd_T52 x3_2 x10_3).f1).size : Int) : Int).toNat (rdOf ByteArray.empty l0 x105_5).size).size ≤ 9223372036854775807 then (if x3_5.length < 4398046511104 then (spec_dcShortest.l4 k5 l0 (x3_5 ++ [(⟨((rd_T52 x3_2 x10_3).f0) ++ ((rdOf ByteArray.empty l0 x105_5).extract ((((rd_T52 x3_2 x10_3).f1).size : Int) : Int).toNat (rdOf ByteArray.empty l0 x105_5).size), (rdOf ByteArray.empty l0 x105_5).extract ((((rd_T52 x3_2 x10_3).f1).size : Int) : Int).toNat (rdOf ByteArray.empty l0 x105_5).size⟩ : S52)]) y147 x9_5 l0 (l0.length : Int) (wrap64 (x105_5 + 1)) ((rd_T52 x3_2 x10_3).f0) ((rd_T52 x3_2 x10_3).f1)) else (none)) else (none)) else (none)) else (none)) else (spec_dcShortest.l4 k5 l0 x3_5 y147 x9_5 l0 (l0.length : Int) (wrap64 (x105_5 + 1)) ((rd_T52 x3_2 x10_3).f0) ((rd_T52 x3_2 x10_3).f1))))) = some r := H
                           have A76 := Aside0.mk A760
                           clear A760
                           by_cases c77 : t152 = true
                           ·subst c77
                            have H1 : (if 0 ≤ ((rdOf ByteArray.empty l0 x105_5).size : Int) then (if ((rdOf ByteArray.empty l0 x105_5).size : Int) ≤ (((rd_T52 x3_2 x10_3).f1).size : Int) then (if x3_5.length < 4398046511104 then (spec_dcShortest.l4 k5 l0 (x3_5 ++ [(⟨((rd_T52 x3_2 x10_3).f0), ((rd_T52 x3_2 x10_3).f1).extract (((rdOf ByteArray.empty l0 x105_5).size : Int) : Int).toNat ((rd_T52 x3_2 x10_3).f1).size⟩ : S52)]) y147 x9_5 l0 (l0.length : Int) (wrap64 (x105_5 + 1)) ((rd_T52 x3_2 x10_3).f0) ((rd_T52 x3_2 x10_3).f1)) else (none)) else (none)) else (none)) = some r := by rw [if_pos rfl] at H; exact H
                            clear H
                            have H := H1
                            clear H1
                            by_cases c78 : 0 ≤ ((rdOf ByteArray.empty l0 x105_5).size : Int)
                            ·rw [if_pos c78] at H
                             have c78b0 := eq_true c78
                             have c78b1 : decide (0 ≤ ((rdOf ByteArray.empty l0 x105_5).size : Int)) = true := decide_eq_true c78
                             clear c78
                             by_cases c79 : ((rdOf ByteArray.empty l0 x105_5).size : Int) ≤ (((rd_T52 x3_2 x10_3).f1).size : Int)
                             ·rw [if_pos c79] at H
                              have c79b0 := eq_true c79
                              have c79b1 : decide (((rdOf ByteArray.empty l0 x105_5).size : Int) ≤ (((rd_T52 x3_2 x10_3).f1).size : Int)) = true := decide_eq_true c79
                              clear c79
                              by_cases c80 : x3_5.length < 4398046511104
                              ·rw [if_pos c80] at H
                               have LMc80 := Aside0.mk c80
                               clear c80
                               obtain ⟨y153, hy153⟩ : ∃ y_ : List (S52), y_ = (x3_5 ++ [(⟨((rd_T52 x3_2 x10_3).f0), ((rd_T52 x3_2 x10_3).f1).extract (((rdOf ByteArray.empty l0 x105_5).size : Int) : Int).toNat ((rd_T52 x3_2 x10_3).f1).size⟩ : S52)]) := ⟨_, rfl⟩
                               replace H : (spec_dcShortest.l4 k5 l0 y153 y147 x9_5 l0 (l0.length : Int) (wrap64 (x105_5 + 1)) ((rd_T52 x3_2 x10_3).f0) ((rd_T52 x3_2 x10_3).f1)) = some r := by first | (rw [hy153]; with_reducible exact H) | (have H2_ := (Option.bind_some _ _).symm.trans H; rw [hy153]; with_reducible exact H2_) | (have H2_ := (Option.bind_some _ _).symm.trans H; with_reducible exact H2_) | with_reducible exact H | (rw [hy153]; exact H) | exact H
                               have Ny153 := Aside0.mk hy153
                               clear hy153
                               have H' := Aside0.mk H
                               clear H
                               have p150 : 0 ≤ (x105_5 : Int) := of_decide_eq_true (by first | (with_reducible assumption) | assumption)
                               have q150 : x105_5 < (l0.length : Int) := of_decide_eq_true (by first | (with_reducible assumption) | assumption)
                               obtain ⟨ad150, e150, hx150_0⟩ := Kd.at_string HR0.out x105_5 p150 q150
                               cases e150
                               replace hx150_0 := (HB.out.cell (World.block_lt_of_cell? w _ hx150_0)).trans hx150_0
                               replace p150 := eq_true p150
                               replace q150 := eq_true q150
                               have hcz81_0 : wr.cell? ⟨gb127, 0, none⟩ = some (.string ((rd_T52 x3_2 x10_3).f0)) := (blk_cell BK127.out 0).trans rfl
                               have hcz81_1 : wr.cell? ⟨gb127, 1, none⟩ = some (.string ((rd_T52 x3_2 x10_3).f1)) := (blk_cell BK127.out 1).trans rfl
                               have hfz81_0 := blk_frozen BK127.out 0
                               have hfz81_1 := blk_frozen BK127.out 1
                               try go_wp2_with (first | ((with_reducible refine gate_callee (f := 31) rfl ?_); refine goesL_ (some 128) rfl rfl Tryd.func31 (by kernel_rfl) rfl #[.string ((rd_T52 x3_2 x10_3).f1), .string (rdOf ByteArray.empty l0 x105_5)] rfl (by (try simp only [List.map_toArray, List.map_cons, List.map_nil]); first | done | rfl | (simp only [List.length_drop, List.length_take]; rfl)) ?_; (with_reducible refine (spec_wdBegins.calls ((rd_T52 x3_2 x10_3).f1) (rdOf ByteArray.empty l0 x105_5) true _ A76.out).mono ?_); rintro e w' ⟨rfl, ⟨nd, rfl⟩⟩; refine ⟨_, rfl, ?_⟩))
                               (try (rw [drewN_self wr]; generalize hq_ : World.drewN wr _ = wr; have n0_ : Aside0 (Kd.R k52 52 wr w.heap.size (fun k_ => k_ ≠ gb127) u3 x3_5) := ⟨by rw [← hq_]; exact (by (with_reducible repeat (first | apply Kd.R_alloc | apply Kd.R_drewN | apply Kd.R_drew)); exact HO_3.out)⟩; have n1_ : Aside0 (Kd.R Kd.string 9 wr w.heap.size (fun _ => True) v148 y147) := ⟨by rw [← hq_]; exact (by (with_reducible repeat (first | apply Kd.R_alloc | apply Kd.R_drewN | apply Kd.R_drew)); exact HO_4.out)⟩; have n2_ : Aside0 (wr.heap[gb127]? = some (.cells #[.string ((rd_T52 x3_2 x10_3).f0), .string ((rd_T52 x3_2 x10_3).f1)] 52 (0, 0))) := ⟨by rw [← hq_]; exact (by (with_reducible repeat (first | refine blk_drewN ?_ _ | refine blk_drew ?_ | refine blk_alloc ?_ _)); exact BK127.out)⟩; have n3_ : Aside0 (Below w.heap.size w wr) := ⟨by rw [← hq_]; exact (by repeat (first | (with_reducible first | exact HB.out | apply below_alloc | apply pw_below_drewN | apply below_drew1 | refine below_set ?_ GE127.out) | exact HB.out))⟩; clear HO_3 HO_4 BK127 HB hq_; have HO_3 := n0_; have HO_4 := n1_; have BK127 := n2_; have HB := n3_; clear n0_ n1_ n2_ n3_))
                               have n0_ := Aside0.mk (Kd.R_drew HO_3.out)
                               have n1_ := Aside0.mk (Kd.R_drew HO_4.out)
                               have n2_ := Aside0.mk (blk_drew BK127.out)
                               have n3_ := Aside0.mk (below_drew1 HB.out)
                               clear HO_3
                               clear HO_4
                               clear BK127
                               clear HB
                               have HO_3 := n0_
                               have HO_4 := n1_
                               have BK127 := n2_
                               have HB := n3_
                               clear n0_ n1_ n2_ n3_
                               refine start_ (n := 12) (S := fun w' => w'.cell? ⟨gb127, 0, none⟩ = some (.string ((rd_T52 x3_2 x10_3).f0)) ∧ w'.cell? ⟨gb127, 1, none⟩ = some (.string ((rd_T52 x3_2 x10_3).f1))) (ds := []) #[false, false, false, false, false, false, false, false, false, false, false, false] (by kernel_rfl) rfl rfl ⟨(blk_cell BK127.out 0).trans rfl, (blk_cell BK127.out 1).trans rfl⟩ (fun hHeld => ?_); refine with_tabW spec_dcShortest.tab33 spec_dcShortest.bits33 (fun HT_ HW_ => ?_)
                               generalize wr.drew = w82 at HO_3 HO_4 BK127 HB hHeld ⊢
                               refine pure_ (i := 0) (N := some 129) (v := ?_) (a' := ?_) #[true, false, false, false, false, false, false, false, false, false, false, false] rfl rfl (any_of HT_.out (by kernel_rfl)) (fun _ _ _ h => h) (Or.inl ⟨by rfl, ?_⟩) ?_ ?_
                               rotate_left
                               ·intro w'
                                go_simp
                                with_reducible rfl
                               rotate_left
                               ·simp only [Act.put, List.setIfInBounds_toArray, List.set_cons_zero, List.set_cons_succ, i64_w, i32_w]
                                rfl
                               refine pure_ (i := 1) (N := some 130) (v := ?_) (a' := ?_) #[true, true, false, false, false, false, false, false, false, false, false, false] rfl rfl (any_of HT_.out (by kernel_rfl)) (fun _ _ _ h => h) (Or.inl ⟨by rfl, ?_⟩) ?_ ?_
                               rotate_left
                               ·intro w'
                                go_simp
                                with_reducible rfl
                               rotate_left
                               ·simp only [Act.put, List.setIfInBounds_toArray, List.set_cons_zero, List.set_cons_succ, i64_w, i32_w]
                                rfl
                               refine pure_ (i := 3) (N := some 132) (v := ?_) (a' := ?_) #[true, true, false, true, false, false, false, false, false, false, false, false] rfl rfl (any_of HT_.out (by kernel_rfl)) (fun _ _ _ h => h) (Or.inl ⟨by rfl, ?_⟩) ?_ ?_
                               rotate_left
                               ·intro w'
                                go_simp
                                with_reducible rfl
                               rotate_left
                               ·simp only [Act.put, List.setIfInBounds_toArray, List.set_cons_zero, List.set_cons_succ, i64_w, i32_w]
                                rfl
                               refine pure_ (i := 5) (N := some 134) (v := ?_) (a' := ?_) #[true, true, false, true, false, true, false, false, false, false, false, false] rfl rfl (any_of HT_.out (by kernel_rfl)) (fun _ _ _ h => h) (Or.inl ⟨by rfl, ?_⟩) ?_ ?_
                               rotate_left
                               ·intro w'
                                go_simp
                                with_reducible rfl
                               rotate_left
                               ·simp only [Act.put, List.setIfInBounds_toArray, List.set_cons_zero, List.set_cons_succ, i64_w, i32_w]
                                rfl
                               refine pure_ (i := 6) (N := some 135) (v := ?_) (a' := ?_) #[true, true, false, true, false, true, true, false, false, false, false, false] rfl rfl (any_of HT_.out (by kernel_rfl)) (fun _ _ _ h => h) (Or.inl ⟨by rfl, ?_⟩) ?_ ?_
                               rotate_left
                               ·intro w'
                                go_simp
                                with_reducible rfl
                               rotate_left
                               ·simp only [Act.put, List.setIfInBounds_toArray, List.set_cons_zero, List.set_cons_succ, i64_w, i32_w]
                                rfl
                               refine take_ (i := 2) (N := some 131) (v := ?_) (a' := ?_) #[true, true, true, true, false, true, true, false, false, false, false, false] rfl rfl (take_ofW HT_.out HW_.out (by kernel_rfl)) (fun _ _ _ h => h) (Or.inl ⟨by rfl, ?_⟩) hHeld ?_ ?_
                               rotate_left
                               ·rintro w' ⟨s0, s1⟩
                                go_simp
                                with_reducible rfl
                               rotate_left
                               ·simp only [Act.put, List.setIfInBounds_toArray, List.set_cons_zero, List.set_cons_succ, i64_w, i32_w]
                                rfl
                               refine take_ (i := 4) (N := some 133) (v := ?_) (a' := ?_) #[true, true, true, true, true, true, true, false, false, false, false, false] rfl rfl (take_ofW HT_.out HW_.out (by kernel_rfl)) (fun _ _ _ h => h) (Or.inl ⟨by rfl, ?_⟩) hHeld ?_ ?_
                               rotate_left
                               ·rintro w' ⟨s0, s1⟩
                                go_simp
                                with_reducible rfl
                               rotate_left
                               ·simp only [Act.put, List.setIfInBounds_toArray, List.set_cons_zero, List.set_cons_succ, i64_w, i32_w]
                                rfl
                               refine pure_ (i := 7) (N := some 136) (v := ?_) (a' := ?_) #[true, true, true, true, true, true, true, true, false, false, false, false] rfl rfl (any_of HT_.out (by kernel_rfl)) (fun _ _ _ h => h) (Or.inl ⟨by rfl, ?_⟩) ?_ ?_
                               rotate_left
                               ·intro w'
                                go_simp
                                with_reducible rfl
                               rotate_left
                               ·simp only [Act.put, List.setIfInBounds_toArray, List.set_cons_zero, List.set_cons_succ, i64_w, i32_w]
                                rfl
                               refine pure_ (i := 8) (N := some 137) (v := ?_) (a' := ?_) #[true, true, true, true, true, true, true, true, true, false, false, false] rfl rfl (any_of HT_.out (by kernel_rfl)) (fun _ _ _ h => h) (Or.inl ⟨by rfl, ?_⟩) ?_ ?_
                               rotate_left
                               ·intro w'
                                go_simp
                                with_reducible rfl
                               rotate_left
                               ·simp only [Act.put, List.setIfInBounds_toArray, List.set_cons_zero, List.set_cons_succ, i64_w, i32_w]
                                rfl
                               refine one_ (i := 9) (N := some 138) #[true, true, true, true, true, true, true, true, true, true, false, false] rfl rfl (one_of HT_.out (by kernel_rfl)) (by decide) (fun K hK => ?_)
                               refine value_ (w1 := ?_) (v := ?_) (by rfl) rfl ?_ ?_
                               rotate_left 2
                               ·go_simp
                                constructor
                                ·rfl
                                ·rfl
                               refine hK.out _ _ ⟨(blk_cell (blk_alloc BK127.out _) 0).trans rfl, (blk_cell (blk_alloc BK127.out _) 1).trans rfl⟩ (fun hHeld => ?_)
                               clear hK K
                               refine norm_ (a' := ?_) ?_ ?_
                               rotate_left
                               ·show Act.put _ (some 138) _ = _
                                simp only [Act.put, List.setIfInBounds_toArray, List.set_cons_zero, List.set_cons_succ, i64_w, i32_w]
                                rfl
                               refine one_ (i := 10) (N := some 139) #[true, true, true, true, true, true, true, true, true, true, true, false] rfl rfl (one_of HT_.out (by kernel_rfl)) (by decide) (fun K hK => ?_)
                               refine Kd.R_append_step k52 (w0 := w) w.heap.size (by rfl) (.tmp 129) (.tmp 138) 50 52 (.agg #[(.string ⟨#[]⟩), (.string ⟨#[]⟩)]) 32 rfl Tryd.underlying50 info52 rfl (by decide) (by omega) u3 x3_5 (⟨((rd_T52 x3_2 x10_3).f0), ((rd_T52 x3_2 x10_3).f1).extract (((rdOf ByteArray.empty l0 x105_5).size : Int) : Int).toNat ((rd_T52 x3_2 x10_3).f1).size⟩ : S52) [.string ((rd_T52 x3_2 x10_3).f0), .string (((rd_T52 x3_2 x10_3).f1).extract (((rdOf ByteArray.empty l0 x105_5).size : Int) : Int).toNat ((rd_T52 x3_2 x10_3).f1).size)] (fun k_ => k_ ≠ gb127) (fun _ => False) rfl rfl ?aP (fun _ hk => hk.elim) ?aF ?aO ?aB ?aS ?aL ?_
                               (case aP => exact k52_mkM _ _ _ (⟨((rd_T52 x3_2 x10_3).f0), ((rd_T52 x3_2 x10_3).f1).extract (((rdOf ByteArray.empty l0 x105_5).size : Int) : Int).toNat ((rd_T52 x3_2 x10_3).f1).size⟩ : S52))
                               (case aB => exact (by repeat (first | (with_reducible first | exact HB.out | apply below_alloc | apply pw_below_drewN | apply below_drew1 | refine below_set ?_ GE127.out) | exact HB.out)))
                               (case aF => exact (fun k_ hk => Kd.freshB (g := gb127) (o := .cells #[.string ((rd_T52 x3_2 x10_3).f0), .string ((rd_T52 x3_2 x10_3).f1)] 52 (0, 0)) (by (with_reducible repeat (first | refine blk_drewN ?_ _ | refine blk_drew ?_ | refine blk_alloc ?_ _)); exact BK127.out) k_ hk))
                               (case aO => exact (by (with_reducible repeat (first | apply Kd.R_alloc | apply Kd.R_drewN | apply Kd.R_drew)); exact HO_3.out))
                               (case aS => exact (below_size (by repeat (first | (with_reducible first | exact HB.out | apply below_alloc | apply pw_below_drewN | apply below_drew1 | refine below_set ?_ GE127.out) | exact HB.out))))
                               (case aL => have := LMc80.out; omega)
                               intro v154 w83 ho hb hg hat
                               rw [← Ny153.out] at ho
                               have n0_ := Aside0.mk (Kd.R_over' (by (with_reducible repeat (first | apply Kd.R_alloc | apply Kd.R_drewN | apply Kd.R_drew)); exact HO_4.out) (Kd.R_typed (by (with_reducible repeat (first | apply Kd.R_alloc | apply Kd.R_drewN | apply Kd.R_drew)); exact HO_3.out)) (by decide) hg)
                               have n1_ := Aside0.mk (blk_grown (g := gb127) (o := .cells #[.string ((rd_T52 x3_2 x10_3).f0), .string ((rd_T52 x3_2 x10_3).f1)] 52 (0, 0)) (by (with_reducible repeat (first | refine blk_drewN ?_ _ | refine blk_drew ?_ | refine blk_alloc ?_ _)); exact BK127.out) hg (Kd.R_away HO_3.out (fun _ hk => hk)))
                               have n2_ := Aside0.mk (hb)
                               have n3_ := Aside0.mk (ho)
                               clear HO_4
                               clear BK127
                               clear HB
                               clear HO_3
                               have HO_4 := n0_
                               have BK127 := n1_
                               have HB := n2_
                               have HO155 := n3_
                               clear n0_ n1_ n2_ n3_
                               clear ho hb hg hat
                               refine hK.out _ _ ⟨(blk_cell BK127.out 0).trans rfl, (blk_cell BK127.out 1).trans rfl⟩ (fun hHeld => ?_)
                               clear hK K
                               refine norm_ (a' := ?_) ?_ ?_
                               rotate_left
                               ·show Act.put _ (some 139) _ = _
                                simp only [Act.put, List.setIfInBounds_toArray, List.set_cons_zero, List.set_cons_succ, i64_w, i32_w]
                                rfl
                               refine pure_ (i := 11) (N := some 3) (v := ?_) (a' := ?_) #[true, true, true, true, true, true, true, true, true, true, true, true] rfl rfl (any_of HT_.out (by kernel_rfl)) (fun _ _ _ h => h) (Or.inl ⟨by rfl, ?_⟩) ?_ ?_
                               rotate_left
                               ·intro w'
                                go_simp
                                with_reducible rfl
                               rotate_left
                               ·simp only [Act.put, List.setIfInBounds_toArray, List.set_cons_zero, List.set_cons_succ, i64_w, i32_w]
                                rfl
                               refine done_ (done_of HT_.out (by kernel_rfl)) ?_
                               try go_wp2
                               go_roundg k5
                               case measure => have := HK1.out; have := HK2.out; have := HK3.out; have := HJ40.out; have := HK5.out; omega
                               case rel => exact ⟨(y153), (x9_5), (wrap64 (x105_5 + 1)), (by first | rfl | (simp; done) | (simp [*]; done)), (by first | rfl | (simp; done) | (simp [*]; done)), H', ⟨by have := HK1.out; have := HK2.out; have := HK3.out; have := HJ40.out; have := HK5.out; omega⟩, ⟨by (with_reducible repeat (first | apply Kd.R_alloc | apply Kd.R_drewN | apply Kd.R_drew)); exact HO155.out⟩, ⟨by (with_reducible repeat (first | apply Kd.R_alloc | apply Kd.R_drewN | apply Kd.R_drew)); exact HO_4.out⟩, ⟨by (with_reducible repeat (first | refine blk_drewN ?_ _ | refine blk_drew ?_ | refine blk_alloc ?_ _)); exact BK127.out⟩, ⟨by repeat (first | (with_reducible first | exact HB.out | apply below_alloc | apply pw_below_drewN | apply below_drew1 | refine below_set ?_ GE127.out) | exact HB.out)⟩⟩
                              ·rw [if_neg c80] at H
                               exact absurd H (by simp)
                             ·rw [if_neg c79] at H
                              exact absurd H (by simp)
                            ·rw [if_neg c78] at H
                             exact absurd H (by simp)
                           ·replace c77 := Bool.eq_false_iff.mpr c77
                            subst c77
                            have H1 : ((spec_wdBegins.f (rdOf ByteArray.empty l0 x105_5) ((rd_T52 x3_2 x10_3).f1)).bind fun t156 => (if t156 = true then (if 0 ≤ (((rd_T52 x3_2 x10_3).f1).size : Int) then (if (((rd_T52 x3_2 x10_3).f1).size : Int) ≤ ((rdOf ByteArray.empty l0 x105_5).size : Int) then (if ((rd_T52 x3_2 x10_3).f0).size + ((rdOf ByteArray.empty l0 x105_5).extract ((((rd_T52 x3_2 x10_3).f1).size : Int) : Int).toNat (rdOf ByteArray.empty l0 x105_5).size).size ≤ 9223372036854775807 then (if x3_5.length < 4398046511104 then (spec_dcShortest.l4 k5 l0 (x3_5 ++ [(⟨((rd_T52 x3_2 x10_3).f0) ++ ((rdOf ByteArray.empty l0 x105_5).extract ((((rd_T52 x3_2 x10_3).f1).size : Int) : Int).toNat (rdOf ByteArray.empty l0 x105_5).size), (rdOf ByteArray.empty l0 x105_5).extract ((((rd_T52 x3_2 x10_3).f1).size : Int) : Int).toNat (rdOf ByteArray.empty l0 x105_5).size⟩ : S52)]) y147 x9_5 l0 (l0.length : Int) (wrap64 (x105_5 + 1)) ((rd_T52 x3_2 x10_3).f0) ((rd_T52 x3_2 x10_3).f1)) else (none)) else (none)) else (none)) else (none)) else (spec_dcShortest.l4 k5 l0 x3_5 y147 x9_5 l0 (l0.length : Int) (wrap64 (x105_5 + 1)) ((rd_T52 x3_2 x10_3).f0) ((rd_T52 x3_2 x10_3).f1)))) = some r := by rw [if_neg (show ¬ (false = true) by decide)] at H; exact H
                            clear H
                            have H := H1
                            clear H1
                            replace H := Option.bind_eq_some_iff.mp H
                            obtain ⟨t156, A840, H⟩ := H
                            replace H : (if t156 = true then (if 0 ≤ (((rd_T52 x3_2 x10_3).f1).size : Int) then (if (((rd_T52 x3_2 x10_3).f1).size : Int) ≤ ((rdOf ByteArray.empty l0 x105_5).size : Int) then (if ((rd_T52 x3_2 x10_3).f0).size + ((rdOf ByteArray.empty l0 x105_5).extract ((((rd_T52 x3_2 x10_3).f1).size : Int) : Int).toNat (rdOf ByteArray.empty l0 x105_5).size).size ≤ 9223372036854775807 then (if x3_5.length < 4398046511104 then (spec_dcShortest.l4 k5 l0 (x3_5 ++ [(⟨((rd_T52 x3_2 x10_3).f0) ++ ((rdOf ByteArray.empty l0 x105_5).extract ((((rd_T52 x3_2 x10_3).f1).size : Int) : Int).toNat (rdOf ByteArray.empty l0 x105_5).size), (rdOf ByteArray.empty l0 x105_5).extract ((((rd_T52 x3_2 x10_3).f1).size : Int) : Int).toNat (rdOf ByteArray.empty l0 x105_5).size⟩ : S52)]) y147 x9_5 l0 (l0.length : Int) (wrap64 (x105_5 + 1)) ((rd_T52 x3_2 x10_3).f0) ((rd_T52 x3_2 x10_3).f1)) else (none)) else (none)) else (none)) else (none)) else (spec_dcShortest.l4 k5 l0 x3_5 y147 x9_5 l0 (l0.length : Int) (wrap64 (x105_5 + 1)) ((rd_T52 x3_2 x10_3).f0) ((rd_T52 x3_2 x10_3).f1))) = some r := H
                            have A84 := Aside0.mk A840
                            clear A840
                            by_cases c85 : t156 = true
                            ·subst c85
                             have H1 : (if 0 ≤ (((rd_T52 x3_2 x10_3).f1).size : Int) then (if (((rd_T52 x3_2 x10_3).f1).size : Int) ≤ ((rdOf ByteArray.empty l0 x105_5).size : Int) then (if ((rd_T52 x3_2 x10_3).f0).size + ((rdOf ByteArray.empty l0 x105_5).extract ((((rd_T52 x3_2 x10_3).f1).size : Int) : Int).toNat (rdOf ByteArray.empty l0 x105_5).size).size ≤ 9223372036854775807 then (if x3_5.length < 4398046511104 then (spec_dcShortest.l4 k5 l0 (x3_5 ++ [(⟨((rd_T52 x3_2 x10_3).f0) ++ ((rdOf ByteArray.empty l0 x105_5).extract ((((rd_T52 x3_2 x10_3).f1).size : Int) : Int).toNat (rdOf ByteArray.empty l0 x105_5).size), (rdOf ByteArray.empty l0 x105_5).extract ((((rd_T52 x3_2 x10_3).f1).size : Int) : Int).toNat (rdOf ByteArray.empty l0 x105_5).size⟩ : S52)]) y147 x9_5 l0 (l0.length : Int) (wrap64 (x105_5 + 1)) ((rd_T52 x3_2 x10_3).f0) ((rd_T52 x3_2 x10_3).f1)) else (none)) else (none)) else (none)) else (none)) = some r := by rw [if_pos rfl] at H; exact H
                             clear H
                             have H := H1
                             clear H1
                             by_cases c86 : 0 ≤ (((rd_T52 x3_2 x10_3).f1).size : Int)
                             ·rw [if_pos c86] at H
                              have c86b0 := eq_true c86
                              have c86b1 : decide (0 ≤ (((rd_T52 x3_2 x10_3).f1).size : Int)) = true := decide_eq_true c86
                              clear c86
                              by_cases c87 : (((rd_T52 x3_2 x10_3).f1).size : Int) ≤ ((rdOf ByteArray.empty l0 x105_5).size : Int)
                              ·rw [if_pos c87] at H
                               have c87b0 := eq_true c87
                               have c87b1 : decide ((((rd_T52 x3_2 x10_3).f1).size : Int) ≤ ((rdOf ByteArray.empty l0 x105_5).size : Int)) = true := decide_eq_true c87
                               clear c87
                               by_cases c88 : ((rd_T52 x3_2 x10_3).f0).size + ((rdOf ByteArray.empty l0 x105_5).extract ((((rd_T52 x3_2 x10_3).f1).size : Int) : Int).toNat (rdOf ByteArray.empty l0 x105_5).size).size ≤ 9223372036854775807
                               ·rw [if_pos c88] at H
                                have c88b0 := eq_true c88
                                have c88b1 : decide (((rd_T52 x3_2 x10_3).f0).size + ((rdOf ByteArray.empty l0 x105_5).extract ((((rd_T52 x3_2 x10_3).f1).size : Int) : Int).toNat (rdOf ByteArray.empty l0 x105_5).size).size ≤ 9223372036854775807) = true := decide_eq_true c88
                                try have c88b2 : (9223372036854775807 < ((rd_T52 x3_2 x10_3).f0).size + ((rdOf ByteArray.empty l0 x105_5).extract ((((rd_T52 x3_2 x10_3).f1).size : Int) : Int).toNat (rdOf ByteArray.empty l0 x105_5).size).size) = False := eq_false (Nat.not_lt.2 c88)
                                try have c88b2x := c88b2
                                try simp only [ByteArray.size_extract, Nat.min_self, Int.toNat_natCast] at c88b2x
                                have c89b0 := eq_true (of_decide_eq_true (by first | (with_reducible assumption) | assumption) : 0 ≤ (((rd_T52 x3_2 x10_3).f1).size : Int))
                                have c90b0 := eq_true (of_decide_eq_true (by first | (with_reducible assumption) | assumption) : (((rd_T52 x3_2 x10_3).f1).size : Int) ≤ ((rdOf ByteArray.empty l0 x105_5).size : Int))
                                by_cases c91 : x3_5.length < 4398046511104
                                ·rw [if_pos c91] at H
                                 have LMc91 := Aside0.mk c91
                                 clear c91
                                 obtain ⟨y157, hy157⟩ : ∃ y_ : List (S52), y_ = (x3_5 ++ [(⟨((rd_T52 x3_2 x10_3).f0) ++ ((rdOf ByteArray.empty l0 x105_5).extract ((((rd_T52 x3_2 x10_3).f1).size : Int) : Int).toNat (rdOf ByteArray.empty l0 x105_5).size), (rdOf ByteArray.empty l0 x105_5).extract ((((rd_T52 x3_2 x10_3).f1).size : Int) : Int).toNat (rdOf ByteArray.empty l0 x105_5).size⟩ : S52)]) := ⟨_, rfl⟩
                                 replace H : (spec_dcShortest.l4 k5 l0 y157 y147 x9_5 l0 (l0.length : Int) (wrap64 (x105_5 + 1)) ((rd_T52 x3_2 x10_3).f0) ((rd_T52 x3_2 x10_3).f1)) = some r := by first | (rw [hy157]; with_reducible exact H) | (have H2_ := (Option.bind_some _ _).symm.trans H; rw [hy157]; with_reducible exact H2_) | (have H2_ := (Option.bind_some _ _).symm.trans H; with_reducible exact H2_) | with_reducible exact H | (rw [hy157]; exact H) | exact H
                                 have Ny157 := Aside0.mk hy157
                                 clear hy157
                                 have H' := Aside0.mk H
                                 clear H
                                 have p150 : 0 ≤ (x105_5 : Int) := of_decide_eq_true (by first | (with_reducible assumption) | assumption)
                                 have q150 : x105_5 < (l0.length : Int) := of_decide_eq_true (by first | (with_reducible assumption) | assumption)
                                 obtain ⟨ad150, e150, hx150_0⟩ := Kd.at_string HR0.out x105_5 p150 q150
                                 cases e150
                                 replace hx150_0 := (HB.out.cell (World.block_lt_of_cell? w _ hx150_0)).trans hx150_0
                                 replace p150 := eq_true p150
                                 replace q150 := eq_true q150
                                 have hcz92_0 : wr.cell? ⟨gb127, 0, none⟩ = some (.string ((rd_T52 x3_2 x10_3).f0)) := (blk_cell BK127.out 0).trans rfl
                                 have hcz92_1 : wr.cell? ⟨gb127, 1, none⟩ = some (.string ((rd_T52 x3_2 x10_3).f1)) := (blk_cell BK127.out 1).trans rfl
                                 have hfz92_0 := blk_frozen BK127.out 0
                                 have hfz92_1 := blk_frozen BK127.out 1
                                 try go_wp2_with (first | ((with_reducible refine gate_callee (f := 31) rfl ?_); refine goesL_ (some 128) rfl rfl Tryd.func31 (by kernel_rfl) rfl #[.string ((rd_T52 x3_2 x10_3).f1), .string (rdOf ByteArray.empty l0 x105_5)] rfl (by (try simp only [List.map_toArray, List.map_cons, List.map_nil]); first | done | rfl | (simp only [List.length_drop, List.length_take]; rfl)) ?_; (with_reducible refine (spec_wdBegins.calls ((rd_T52 x3_2 x10_3).f1) (rdOf ByteArray.empty l0 x105_5) false _ A76.out).mono ?_); rintro e w' ⟨rfl, ⟨nd, rfl⟩⟩; refine ⟨_, rfl, ?_⟩) | ((with_reducible refine gate_callee (f := 31) rfl ?_); refine goesL_ (some 144) rfl rfl Tryd.func31 (by kernel_rfl) rfl #[.string (rdOf ByteArray.empty l0 x105_5), .string ((rd_T52 x3_2 x10_3).f1)] rfl (by (try simp only [List.map_toArray, List.map_cons, List.map_nil]); first | done | rfl | (simp only [List.length_drop, List.length_take]; rfl)) ?_; (with_reducible refine (spec_wdBegins.calls (rdOf ByteArray.empty l0 x105_5) ((rd_T52 x3_2 x10_3).f1) true _ A84.out).mono ?_); rintro e w' ⟨rfl, ⟨nd, rfl⟩⟩; refine ⟨_, rfl, ?_⟩))
                                 (try (rw [drewN_self wr]; generalize hq_ : World.drewN wr _ = wr; have n0_ : Aside0 (Kd.R k52 52 wr w.heap.size (fun k_ => k_ ≠ gb127) u3 x3_5) := ⟨by rw [← hq_]; exact (by (with_reducible repeat (first | apply Kd.R_alloc | apply Kd.R_drewN | apply Kd.R_drew)); exact HO_3.out)⟩; have n1_ : Aside0 (Kd.R Kd.string 9 wr w.heap.size (fun _ => True) v148 y147) := ⟨by rw [← hq_]; exact (by (with_reducible repeat (first | apply Kd.R_alloc | apply Kd.R_drewN | apply Kd.R_drew)); exact HO_4.out)⟩; have n2_ : Aside0 (wr.heap[gb127]? = some (.cells #[.string ((rd_T52 x3_2 x10_3).f0), .string ((rd_T52 x3_2 x10_3).f1)] 52 (0, 0))) := ⟨by rw [← hq_]; exact (by (with_reducible repeat (first | refine blk_drewN ?_ _ | refine blk_drew ?_ | refine blk_alloc ?_ _)); exact BK127.out)⟩; have n3_ : Aside0 (Below w.heap.size w wr) := ⟨by rw [← hq_]; exact (by repeat (first | (with_reducible first | exact HB.out | apply below_alloc | apply pw_below_drewN | apply below_drew1 | refine below_set ?_ GE127.out) | exact HB.out))⟩; clear HO_3 HO_4 BK127 HB hq_; have HO_3 := n0_; have HO_4 := n1_; have BK127 := n2_; have HB := n3_; clear n0_ n1_ n2_ n3_))
                                 have n0_ := Aside0.mk (Kd.R_drew HO_3.out)
                                 have n1_ := Aside0.mk (Kd.R_drew HO_4.out)
                                 have n2_ := Aside0.mk (blk_drew BK127.out)
                                 have n3_ := Aside0.mk (below_drew1 HB.out)
                                 clear HO_3
                                 clear HO_4
                                 clear BK127
                                 clear HB
                                 have HO_3 := n0_
                                 have HO_4 := n1_
                                 have BK127 := n2_
                                 have HB := n3_
                                 clear n0_ n1_ n2_ n3_
                                 refine start_ (n := 18) (S := fun w' => w'.cell? ⟨gb127, 0, none⟩ = some (.string ((rd_T52 x3_2 x10_3).f0)) ∧ w'.cell? ⟨gb127, 1, none⟩ = some (.string ((rd_T52 x3_2 x10_3).f1))) (ds := []) #[false, false, false, false, false, false, false, false, false, false, false, false, false, false, false, false, false, false] (by kernel_rfl) rfl rfl ⟨(blk_cell BK127.out 0).trans rfl, (blk_cell BK127.out 1).trans rfl⟩ (fun hHeld => ?_); refine with_tabW spec_dcShortest.tab35 spec_dcShortest.bits35 (fun HT_ HW_ => ?_)
                                 generalize wr.drew = w93 at HO_3 HO_4 BK127 HB hHeld ⊢
                                 refine pure_ (i := 0) (N := some 145) (v := ?_) (a' := ?_) #[true, false, false, false, false, false, false, false, false, false, false, false, false, false, false, false, false, false] rfl rfl (any_of HT_.out (by kernel_rfl)) (fun _ _ _ h => h) (Or.inl ⟨by rfl, ?_⟩) ?_ ?_
                                 rotate_left
                                 ·intro w'
                                  go_simp
                                  with_reducible rfl
                                 rotate_left
                                 ·simp only [Act.put, List.setIfInBounds_toArray, List.set_cons_zero, List.set_cons_succ, i64_w, i32_w]
                                  rfl
                                 refine pure_ (i := 1) (N := some 146) (v := ?_) (a' := ?_) #[true, true, false, false, false, false, false, false, false, false, false, false, false, false, false, false, false, false] rfl rfl (any_of HT_.out (by kernel_rfl)) (fun _ _ _ h => h) (Or.inl ⟨by rfl, ?_⟩) ?_ ?_
                                 rotate_left
                                 ·intro w'
                                  go_simp
                                  with_reducible rfl
                                 rotate_left
                                 ·simp only [Act.put, List.setIfInBounds_toArray, List.set_cons_zero, List.set_cons_succ, i64_w, i32_w]
                                  rfl
                                 refine pure_ (i := 3) (N := some 148) (v := ?_) (a' := ?_) #[true, true, false, true, false, false, false, false, false, false, false, false, false, false, false, false, false, false] rfl rfl (any_of HT_.out (by kernel_rfl)) (fun _ _ _ h => h) (Or.inl ⟨by rfl, ?_⟩) ?_ ?_
                                 rotate_left
                                 ·intro w'
                                  go_simp
                                  with_reducible rfl
                                 rotate_left
                                 ·simp only [Act.put, List.setIfInBounds_toArray, List.set_cons_zero, List.set_cons_succ, i64_w, i32_w]
                                  rfl
                                 refine pure_ (i := 4) (N := some 149) (v := ?_) (a' := ?_) #[true, true, false, true, true, false, false, false, false, false, false, false, false, false, false, false, false, false] rfl rfl (any_of HT_.out (by kernel_rfl)) (fun _ _ _ h => h) (Or.inl ⟨by rfl, ?_⟩) ?_ ?_
                                 rotate_left
                                 ·intro w'
                                  go_simp
                                  with_reducible rfl
                                 rotate_left
                                 ·simp only [Act.put, List.setIfInBounds_toArray, List.set_cons_zero, List.set_cons_succ, i64_w, i32_w]
                                  rfl
                                 refine pure_ (i := 9) (N := some 154) (v := ?_) (a' := ?_) #[true, true, false, true, true, false, false, false, false, true, false, false, false, false, false, false, false, false] rfl rfl (any_of HT_.out (by kernel_rfl)) (fun _ _ _ h => h) (Or.inl ⟨by rfl, ?_⟩) ?_ ?_
                                 rotate_left
                                 ·intro w'
                                  go_simp
                                  with_reducible rfl
                                 rotate_left
                                 ·simp only [Act.put, List.setIfInBounds_toArray, List.set_cons_zero, List.set_cons_succ, i64_w, i32_w]
                                  rfl
                                 refine pure_ (i := 10) (N := some 155) (v := ?_) (a' := ?_) #[true, true, false, true, true, false, false, false, false, true, true, false, false, false, false, false, false, false] rfl rfl (any_of HT_.out (by kernel_rfl)) (fun _ _ _ h => h) (Or.inl ⟨by rfl, ?_⟩) ?_ ?_
                                 rotate_left
                                 ·intro w'
                                  go_simp
                                  with_reducible rfl
                                 rotate_left
                                 ·simp only [Act.put, List.setIfInBounds_toArray, List.set_cons_zero, List.set_cons_succ, i64_w, i32_w]
                                  rfl
                                 refine take_ (i := 2) (N := some 147) (v := ?_) (a' := ?_) #[true, true, true, true, true, false, false, false, false, true, true, false, false, false, false, false, false, false] rfl rfl (take_ofW HT_.out HW_.out (by kernel_rfl)) (fun _ _ _ h => h) (Or.inl ⟨by rfl, ?_⟩) hHeld ?_ ?_
                                 rotate_left
                                 ·rintro w' ⟨s0, s1⟩
                                  go_simp
                                  with_reducible rfl
                                 rotate_left
                                 ·simp only [Act.put, List.setIfInBounds_toArray, List.set_cons_zero, List.set_cons_succ, i64_w, i32_w]
                                  rfl
                                 refine take_ (i := 5) (N := some 150) (v := ?_) (a' := ?_) #[true, true, true, true, true, true, false, false, false, true, true, false, false, false, false, false, false, false] rfl rfl (take_ofW HT_.out HW_.out (by kernel_rfl)) (fun _ _ _ h => h) (Or.inl ⟨by rfl, ?_⟩) hHeld ?_ ?_
                                 rotate_left
                                 ·rintro w' ⟨s0, s1⟩
                                  go_simp
                                  with_reducible rfl
                                 rotate_left
                                 ·simp only [Act.put, List.setIfInBounds_toArray, List.set_cons_zero, List.set_cons_succ, i64_w, i32_w]
                                  rfl
                                 refine pure_ (i := 6) (N := some 151) (v := ?_) (a' := ?_) #[true, true, true, true, true, true, true, false, false, true, true, false, false, false, false, false, false, false] rfl rfl (any_of HT_.out (by kernel_rfl)) (fun _ _ _ h => h) (Or.inl ⟨by rfl, ?_⟩) ?_ ?_
                                 rotate_left
                                 ·intro w'
                                  go_simp
                                  with_reducible rfl
                                 rotate_left
                                 ·simp only [Act.put, List.setIfInBounds_toArray, List.set_cons_zero, List.set_cons_succ, i64_w, i32_w]
                                  rfl
                                 refine pure_ (i := 7) (N := some 152) (v := ?_) (a' := ?_) #[true, true, true, true, true, true, true, true, false, true, true, false, false, false, false, false, false, false] rfl rfl (any_of HT_.out (by kernel_rfl)) (fun _ _ _ h => h) (Or.inl ⟨by rfl, ?_⟩) ?_ ?_
                                 rotate_left
                                 ·intro w'
                                  go_simp
                                  with_reducible rfl
                                 rotate_left
                                 ·simp only [Act.put, List.setIfInBounds_toArray, List.set_cons_zero, List.set_cons_succ, i64_w, i32_w]
                                  rfl
                                 refine pure_ (i := 8) (N := some 153) (v := ?_) (a' := ?_) #[true, true, true, true, true, true, true, true, true, true, true, false, false, false, false, false, false, false] rfl rfl (any_of HT_.out (by kernel_rfl)) (fun _ _ _ h => h) (Or.inl ⟨by rfl, ?_⟩) ?_ ?_
                                 rotate_left
                                 ·intro w'
                                  go_simp
                                  with_reducible rfl
                                 rotate_left
                                 ·simp only [Act.put, List.setIfInBounds_toArray, List.set_cons_zero, List.set_cons_succ, i64_w, i32_w]
                                  rfl
                                 refine take_ (i := 11) (N := some 156) (v := ?_) (a' := ?_) #[true, true, true, true, true, true, true, true, true, true, true, true, false, false, false, false, false, false] rfl rfl (take_ofW HT_.out HW_.out (by kernel_rfl)) (fun _ _ _ h => h) (Or.inl ⟨by rfl, ?_⟩) hHeld ?_ ?_
                                 rotate_left
                                 ·rintro w' ⟨s0, s1⟩
                                  go_simp
                                  with_reducible rfl
                                 rotate_left
                                 ·simp only [Act.put, List.setIfInBounds_toArray, List.set_cons_zero, List.set_cons_succ, i64_w, i32_w]
                                  rfl
                                 refine pure_ (i := 12) (N := some 157) (v := ?_) (a' := ?_) #[true, true, true, true, true, true, true, true, true, true, true, true, true, false, false, false, false, false] rfl rfl (any_of HT_.out (by kernel_rfl)) (fun _ _ _ h => h) (Or.inl ⟨by rfl, ?_⟩) ?_ ?_
                                 rotate_left
                                 ·intro w'
                                  go_simp
                                  with_reducible rfl
                                 rotate_left
                                 ·simp only [Act.put, List.setIfInBounds_toArray, List.set_cons_zero, List.set_cons_succ, i64_w, i32_w]
                                  rfl
                                 refine pure_ (i := 13) (N := some 158) (v := ?_) (a' := ?_) #[true, true, true, true, true, true, true, true, true, true, true, true, true, true, false, false, false, false] rfl rfl (any_of HT_.out (by kernel_rfl)) (fun _ _ _ h => h) (Or.inl ⟨by rfl, ?_⟩) ?_ ?_
                                 rotate_left
                                 ·intro w'
                                  go_simp
                                  with_reducible rfl
                                 rotate_left
                                 ·simp only [Act.put, List.setIfInBounds_toArray, List.set_cons_zero, List.set_cons_succ, i64_w, i32_w]
                                  rfl
                                 refine pure_ (i := 14) (N := some 159) (v := ?_) (a' := ?_) #[true, true, true, true, true, true, true, true, true, true, true, true, true, true, true, false, false, false] rfl rfl (any_of HT_.out (by kernel_rfl)) (fun _ _ _ h => h) (Or.inl ⟨by rfl, ?_⟩) ?_ ?_
                                 rotate_left
                                 ·intro w'
                                  go_simp
                                  with_reducible rfl
                                 rotate_left
                                 ·simp only [Act.put, List.setIfInBounds_toArray, List.set_cons_zero, List.set_cons_succ, i64_w, i32_w]
                                  rfl
                                 refine one_ (i := 15) (N := some 160) #[true, true, true, true, true, true, true, true, true, true, true, true, true, true, true, true, false, false] rfl rfl (one_of HT_.out (by kernel_rfl)) (by decide) (fun K hK => ?_)
                                 refine value_ (w1 := ?_) (v := ?_) (by rfl) rfl ?_ ?_
                                 rotate_left 2
                                 ·go_simp
                                  constructor
                                  ·rfl
                                  ·rfl
                                 refine hK.out _ _ ⟨(blk_cell (blk_alloc BK127.out _) 0).trans rfl, (blk_cell (blk_alloc BK127.out _) 1).trans rfl⟩ (fun hHeld => ?_)
                                 clear hK K
                                 refine norm_ (a' := ?_) ?_ ?_
                                 rotate_left
                                 ·show Act.put _ (some 160) _ = _
                                  simp only [Act.put, List.setIfInBounds_toArray, List.set_cons_zero, List.set_cons_succ, i64_w, i32_w]
                                  rfl
                                 refine one_ (i := 16) (N := some 161) #[true, true, true, true, true, true, true, true, true, true, true, true, true, true, true, true, true, false] rfl rfl (one_of HT_.out (by kernel_rfl)) (by decide) (fun K hK => ?_)
                                 refine Kd.R_append_step k52 (w0 := w) w.heap.size (by rfl) (.tmp 145) (.tmp 160) 50 52 (.agg #[(.string ⟨#[]⟩), (.string ⟨#[]⟩)]) 32 rfl Tryd.underlying50 info52 rfl (by decide) (by omega) u3 x3_5 (⟨((rd_T52 x3_2 x10_3).f0) ++ ((rdOf ByteArray.empty l0 x105_5).extract ((((rd_T52 x3_2 x10_3).f1).size : Int) : Int).toNat (rdOf ByteArray.empty l0 x105_5).size), (rdOf ByteArray.empty l0 x105_5).extract ((((rd_T52 x3_2 x10_3).f1).size : Int) : Int).toNat (rdOf ByteArray.empty l0 x105_5).size⟩ : S52) [.string (((rd_T52 x3_2 x10_3).f0) ++ ((rdOf ByteArray.empty l0 x105_5).extract ((((rd_T52 x3_2 x10_3).f1).size : Int) : Int).toNat (rdOf ByteArray.empty l0 x105_5).size)), .string ((rdOf ByteArray.empty l0 x105_5).extract ((((rd_T52 x3_2 x10_3).f1).size : Int) : Int).toNat (rdOf ByteArray.empty l0 x105_5).size)] (fun k_ => k_ ≠ gb127) (fun _ => False) rfl rfl ?aP (fun _ hk => hk.elim) ?aF ?aO ?aB ?aS ?aL ?_
                                 (case aP => exact k52_mkM _ _ _ (⟨((rd_T52 x3_2 x10_3).f0) ++ ((rdOf ByteArray.empty l0 x105_5).extract ((((rd_T52 x3_2 x10_3).f1).size : Int) : Int).toNat (rdOf ByteArray.empty l0 x105_5).size), (rdOf ByteArray.empty l0 x105_5).extract ((((rd_T52 x3_2 x10_3).f1).size : Int) : Int).toNat (rdOf ByteArray.empty l0 x105_5).size⟩ : S52))
                                 (case aB => exact (by repeat (first | (with_reducible first | exact HB.out | apply below_alloc | apply pw_below_drewN | apply below_drew1 | refine below_set ?_ GE127.out) | exact HB.out)))
                                 (case aF => exact (fun k_ hk => Kd.freshB (g := gb127) (o := .cells #[.string ((rd_T52 x3_2 x10_3).f0), .string ((rd_T52 x3_2 x10_3).f1)] 52 (0, 0)) (by (with_reducible repeat (first | refine blk_drewN ?_ _ | refine blk_drew ?_ | refine blk_alloc ?_ _)); exact BK127.out) k_ hk))
                                 (case aO => exact (by (with_reducible repeat (first | apply Kd.R_alloc | apply Kd.R_drewN | apply Kd.R_drew)); exact HO_3.out))
                                 (case aS => exact (below_size (by repeat (first | (with_reducible first | exact HB.out | apply below_alloc | apply pw_below_drewN | apply below_drew1 | refine below_set ?_ GE127.out) | exact HB.out))))
                                 (case aL => have := LMc91.out; omega)
                                 intro v158 w94 ho hb hg hat
                                 rw [← Ny157.out] at ho
                                 have n0_ := Aside0.mk (Kd.R_over' (by (with_reducible repeat (first | apply Kd.R_alloc | apply Kd.R_drewN | apply Kd.R_drew)); exact HO_4.out) (Kd.R_typed (by (with_reducible repeat (first | apply Kd.R_alloc | apply Kd.R_drewN | apply Kd.R_drew)); exact HO_3.out)) (by decide) hg)
                                 have n1_ := Aside0.mk (blk_grown (g := gb127) (o := .cells #[.string ((rd_T52 x3_2 x10_3).f0), .string ((rd_T52 x3_2 x10_3).f1)] 52 (0, 0)) (by (with_reducible repeat (first | refine blk_drewN ?_ _ | refine blk_drew ?_ | refine blk_alloc ?_ _)); exact BK127.out) hg (Kd.R_away HO_3.out (fun _ hk => hk)))
                                 have n2_ := Aside0.mk (hb)
                                 have n3_ := Aside0.mk (ho)
                                 clear HO_4
                                 clear BK127
                                 clear HB
                                 clear HO_3
                                 have HO_4 := n0_
                                 have BK127 := n1_
                                 have HB := n2_
                                 have HO159 := n3_
                                 clear n0_ n1_ n2_ n3_
                                 clear ho hb hg hat
                                 refine hK.out _ _ ⟨(blk_cell BK127.out 0).trans rfl, (blk_cell BK127.out 1).trans rfl⟩ (fun hHeld => ?_)
                                 clear hK K
                                 refine norm_ (a' := ?_) ?_ ?_
                                 rotate_left
                                 ·show Act.put _ (some 161) _ = _
                                  simp only [Act.put, List.setIfInBounds_toArray, List.set_cons_zero, List.set_cons_succ, i64_w, i32_w]
                                  rfl
                                 refine pure_ (i := 17) (N := some 3) (v := ?_) (a' := ?_) #[true, true, true, true, true, true, true, true, true, true, true, true, true, true, true, true, true, true] rfl rfl (any_of HT_.out (by kernel_rfl)) (fun _ _ _ h => h) (Or.inl ⟨by rfl, ?_⟩) ?_ ?_
                                 rotate_left
                                 ·intro w'
                                  go_simp
                                  with_reducible rfl
                                 rotate_left
                                 ·simp only [Act.put, List.setIfInBounds_toArray, List.set_cons_zero, List.set_cons_succ, i64_w, i32_w]
                                  rfl
                                 refine done_ (done_of HT_.out (by kernel_rfl)) ?_
                                 try go_wp2
                                 go_roundg k5
                                 case measure => have := HK1.out; have := HK2.out; have := HK3.out; have := HJ40.out; have := HK5.out; omega
                                 case rel => exact ⟨(y157), (x9_5), (wrap64 (x105_5 + 1)), (by first | rfl | (simp; done) | (simp [*]; done)), (by first | rfl | (simp; done) | (simp [*]; done)), H', ⟨by have := HK1.out; have := HK2.out; have := HK3.out; have := HJ40.out; have := HK5.out; omega⟩, ⟨by (with_reducible repeat (first | apply Kd.R_alloc | apply Kd.R_drewN | apply Kd.R_drew)); exact HO159.out⟩, ⟨by (with_reducible repeat (first | apply Kd.R_alloc | apply Kd.R_drewN | apply Kd.R_drew)); exact HO_4.out⟩, ⟨by (with_reducible repeat (first | refine blk_drewN ?_ _ | refine blk_drew ?_ | refine blk_alloc ?_ _)); exact BK127.out⟩, ⟨by repeat (first | (with_reducible first | exact HB.out | apply below_alloc | apply pw_below_drewN | apply below_drew1 | refine below_set ?_ GE127.out) | exact HB.out)⟩⟩
                                ·rw [if_neg c91] at H
                                 exact absurd H (by simp)
                               ·rw [if_neg c88] at H
                                exact absurd H (by simp)
                              ·rw [if_neg c87] at H
                               exact absurd H (by simp)
                             ·rw [if_neg c86] at H
                              exact absurd H (by simp)
                            ·replace c85 := Bool.eq_false_iff.mpr c85
                             subst c85
                             have H1 : (spec_dcShortest.l4 k5 l0 x3_5 y147 x9_5 l0 (l0.length : Int) (wrap64 (x105_5 + 1)) ((rd_T52 x3_2 x10_3).f0) ((rd_T52 x3_2 x10_3).f1)) = some r := by rw [if_neg (show ¬ (false = true) by decide)] at H; exact H
                             clear H
                             have H := H1
                             clear H1
                             have H' := Aside0.mk H
                             clear H
                             have p150 : 0 ≤ (x105_5 : Int) := of_decide_eq_true (by first | (with_reducible assumption) | assumption)
                             have q150 : x105_5 < (l0.length : Int) := of_decide_eq_true (by first | (with_reducible assumption) | assumption)
                             obtain ⟨ad150, e150, hx150_0⟩ := Kd.at_string HR0.out x105_5 p150 q150
                             cases e150
                             replace hx150_0 := (HB.out.cell (World.block_lt_of_cell? w _ hx150_0)).trans hx150_0
                             replace p150 := eq_true p150
                             replace q150 := eq_true q150
                             have hcz95_0 : wr.cell? ⟨gb127, 0, none⟩ = some (.string ((rd_T52 x3_2 x10_3).f0)) := (blk_cell BK127.out 0).trans rfl
                             have hcz95_1 : wr.cell? ⟨gb127, 1, none⟩ = some (.string ((rd_T52 x3_2 x10_3).f1)) := (blk_cell BK127.out 1).trans rfl
                             have hfz95_0 := blk_frozen BK127.out 0
                             have hfz95_1 := blk_frozen BK127.out 1
                             go_wp2_with (first | ((with_reducible refine gate_callee (f := 31) rfl ?_); refine goesL_ (some 128) rfl rfl Tryd.func31 (by kernel_rfl) rfl #[.string ((rd_T52 x3_2 x10_3).f1), .string (rdOf ByteArray.empty l0 x105_5)] rfl (by (try simp only [List.map_toArray, List.map_cons, List.map_nil]); first | done | rfl | (simp only [List.length_drop, List.length_take]; rfl)) ?_; (with_reducible refine (spec_wdBegins.calls ((rd_T52 x3_2 x10_3).f1) (rdOf ByteArray.empty l0 x105_5) false _ A76.out).mono ?_); rintro e w' ⟨rfl, ⟨nd, rfl⟩⟩; refine ⟨_, rfl, ?_⟩) | ((with_reducible refine gate_callee (f := 31) rfl ?_); refine goesL_ (some 144) rfl rfl Tryd.func31 (by kernel_rfl) rfl #[.string (rdOf ByteArray.empty l0 x105_5), .string ((rd_T52 x3_2 x10_3).f1)] rfl (by (try simp only [List.map_toArray, List.map_cons, List.map_nil]); first | done | rfl | (simp only [List.length_drop, List.length_take]; rfl)) ?_; (with_reducible refine (spec_wdBegins.calls (rdOf ByteArray.empty l0 x105_5) ((rd_T52 x3_2 x10_3).f1) false _ A84.out).mono ?_); rintro e w' ⟨rfl, ⟨nd, rfl⟩⟩; refine ⟨_, rfl, ?_⟩))
                             go_roundg k5
                             case measure => have := HK1.out; have := HK2.out; have := HK3.out; have := HJ40.out; have := HK5.out; omega
                             case rel => exact ⟨(x3_5), (x9_5), (wrap64 (x105_5 + 1)), (by first | rfl | (simp; done) | (simp [*]; done)), (by first | rfl | (simp; done) | (simp [*]; done)), H', ⟨by have := HK1.out; have := HK2.out; have := HK3.out; have := HJ40.out; have := HK5.out; omega⟩, ⟨by (with_reducible repeat (first | apply Kd.R_alloc | apply Kd.R_drewN | apply Kd.R_drew)); exact HO_3.out⟩, ⟨by (with_reducible repeat (first | apply Kd.R_alloc | apply Kd.R_drewN | apply Kd.R_drew)); exact HO_4.out⟩, ⟨by (with_reducible repeat (first | refine blk_drewN ?_ _ | refine blk_drew ?_ | refine blk_alloc ?_ _)); exact BK127.out⟩, ⟨by repeat (first | (with_reducible first | exact HB.out | apply below_alloc | apply pw_below_drewN | apply below_drew1 | refine below_set ?_ GE127.out) | exact HB.out)⟩⟩
                         ·rw [if_neg c68] at H
                          exact absurd H (by simp)
                        ·rw [if_neg c67] at H
                         exact absurd H (by simp)
                       ·rw [if_neg c66] at H
                        have c66b0 : decide (x105_5 < (l0.length : Int)) = false := decide_eq_false c66
                        clear c66
                        have H' := Aside0.mk H
                        clear H
                        go_wp2
                        go_roundg k5
                        case measure => have := HK1.out; have := HK2.out; have := HK3.out; have := HJ40.out; have := HK5.out; omega
                        case rel => exact ⟨(x3_5), (y147), (x9_5), (by first | rfl | (simp; done) | (simp [*]; done)), H', ⟨by have := HK1.out; have := HK2.out; have := HK3.out; have := HJ40.out; have := HK5.out; omega⟩, ⟨by (with_reducible repeat (first | apply Kd.R_alloc | apply Kd.R_drewN | apply Kd.R_drew)); exact Kd.R_mono HO_3.out (fun _ hk => trivial)⟩, ⟨by (with_reducible repeat (first | apply Kd.R_alloc | apply Kd.R_drewN | apply Kd.R_drew)); exact HO_4.out⟩, ⟨by repeat (first | (with_reducible first | exact HB.out | apply below_alloc | apply pw_below_drewN | apply below_drew1 | refine below_set ?_ GE127.out) | exact HB.out)⟩⟩
                    ·rw [if_neg c63] at H
                     exact absurd H (by simp)
                ·rw [if_neg c40] at H
                 exact absurd H (by simp)
               ·rw [if_neg c39] at H
                exact absurd H (by simp)
              ·rw [if_neg c38] at H
               exact absurd H (by simp)
             ·rw [if_neg c36] at H
              exact absurd H (by simp)
            ·rw [if_neg c35] at H
             exact absurd H (by simp)
           ·rw [if_neg c33] at H
            exact absurd H (by simp)
          ·rw [if_neg c32] at H
           exact absurd H (by simp)
      ·rw [if_neg c15] at H
       have c15b0 : decide (0 < (x3_2.length : Int)) = false := decide_eq_false c15
       have c15b1 : decide (0 < x3_2.length) = false := decide_eq_false (by omega)
       clear c15
       obtain rfl := Option.some.inj H
       obtain ⟨Ao96, co96, eo96⟩ := Kd.R_slice HO_3.out
       subst eo96
       go_wp2
       go_ret
       exact ⟨by first | rfl | (simp [errW_none, errW_some] <;> rfl) | (simp [*, errW_none, errW_some] <;> rfl) | (simp; generalize ByteArray.toList _ = z_; cases z_ <;> rfl), by repeat (first | (with_reducible first | exact HB.out | apply below_alloc | apply pw_below_drewN | apply below_drew1) | exact HB.out)⟩

end Go.Proofs.YtgokegndboknfaaDoor.X

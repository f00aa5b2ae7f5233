-- WRITTEN by xprint.py of this repo: the kit's print.py with contracts given by hand (given.py). Lean checks it.
import Derived.Test.YtgokegndboknfaaDoorXx0
namespace Go.Proofs.YtgokegndboknfaaDoor.X
open Go.RowKit Go.Proofs.YtgokegndboknfaaDoorW.PrintWords Go.Proofs.YtgokegndboknfaaDoorW.PrintLast Go.Proofs.YtgokegndboknfaaDoorW.PrintMore
attribute [local go_sem] max2_int min2_int max_two min_two max_three min_three max_four min_four   -- for this text's walks alone
set_option linter.unusedVariables false
set_option linter.unusedSimpArgs false

/-! ### GIVEN impl_isWord: function 64 -/
/-- A letter of words. -/
def isL (b : UInt8) : Bool := b == 97 || b == 98 || b == 99
theorem isL_contains (b : UInt8) : ([97, 98, 99] : List UInt8).contains b = isL b := by
  simp only [isL, List.contains_cons, List.contains_nil, Bool.or_false, Bool.or_assoc]
theorem dropWhile_nil_iff {α : Type} (p : α → Bool) (l : List α) : l.dropWhile p = [] ↔ l.all p = true := by
  induction l with
  | nil => simp
  | cons a l ih =>
    rw [List.dropWhile_cons, List.all_cons]
    cases h : p a
    · simp
    · simp [ih]
theorem dropWhile_all {α : Type} (p : α → Bool) (l : List α) : (l.dropWhile p).all p = l.all p := by
  induction l with
  | nil => rfl
  | cons a l ih =>
    rw [List.dropWhile_cons]
    cases h : p a
    · simp
    · simp [ih, h]
theorem trim_nil_iff (l : List UInt8) : Lib.trimS l [97, 98, 99] = [] ↔ l.all isL = true := by
  have e : (fun b : UInt8 => ([97, 98, 99] : List UInt8).contains b) = isL := funext isL_contains
  unfold Lib.trimS Lib.trimLeftS Lib.trimRightS
  rw [e, dropWhile_nil_iff, List.all_reverse, dropWhile_all, List.all_reverse]
def impl_isWord.f (a0 : ByteArray) : Option Bool := some (decide (a0.size ≤ 60) && a0.data.toList.all isL)
set_option maxHeartbeats 4000000 in
theorem impl_isWord.calls (a0 : ByteArray) (r : Bool) (w : World) (h : impl_isWord.f a0 = some r) :
    Calls Tryd.prog 64 #[.string a0] w fun e w' => e = .returned (.bool r) ∧ Below w.heap.size w w' := by
  replace h := Option.some.inj h
  subst h
  by_cases h60 : a0.size ≤ 60
  · have d60 : decide ((a0.size : Int) ≤ 60) = true := decide_eq_true (by omega)
    have e60 : decide (a0.size ≤ 60) = true := decide_eq_true h60
    have hc := fun W => Any.strings_Trim_laid Tryd.lays160 (by kernel_rfl) a0 ⟨#[97, 98, 99]⟩ W (by omega) (by decide) (Go.Proofs.ascii_of_all (by decide))
    cases hall : a0.data.toList.all isL with
    | true =>
      have hn : Lib.trimS a0.data.toList [97, 98, 99] = [] := (trim_nil_iff _).2 hall
      go_enter Tryd.func64, Tryd.ntmps64
      go_wp2_with (go_at_call 74; refine (hc _).mono ?_; rintro e w' ⟨rfl, hb⟩)
      go_ret
      exact ⟨by simp [e60], hb⟩
    | false =>
      have hn : (Lib.trimS a0.data.toList [97, 98, 99]).isEmpty = false := by
        rw [Bool.eq_false_iff]
        intro hh
        rw [List.isEmpty_iff, trim_nil_iff, hall] at hh
        cases hh
      have hn2 : Lib.trimS a0.data.toList [97, 98, 99] ≠ [] := by
        intro hh
        rw [hh] at hn
        cases hn
      go_enter Tryd.func64, Tryd.ntmps64
      go_wp2_with (go_at_call 74; refine (hc _).mono ?_; rintro e w' ⟨rfl, hb⟩)
      go_ret
      exact ⟨by simp, hb⟩
  · have d60 : decide ((a0.size : Int) ≤ 60) = false := decide_eq_false (by omega)
    have e60 : decide (a0.size ≤ 60) = false := decide_eq_false h60
    go_enter Tryd.func64, Tryd.ntmps64
    go_wp2
    go_ret
    exact ⟨by simp [e60], Below.refl _ _⟩

end Go.Proofs.YtgokegndboknfaaDoor.X

/- CanBePrefix and SumOfLengths: the program's answers are the reference's, for all arguments; no condition. -/
import Derived.Test.YtnfpcgjdpcmkcaaKr
import Derived.Test.YtnfpcgjdpcmkcaaLwI
import Derived.Test.YtnfpcgjdpcmkcaaXx3
import Derived.Test.YtnfpcgjdpcmkcaaXx5
namespace Go.Proofs.Ytnfpcgjdpcmkcaa.Pure
open Go.RowKit Go.Proofs.Ytnfpcgjdpcmkcaa.X Go.Proofs.YtnfpcgjdpcmkcaaW.PrintWords Go.Proofs.YtnfpcgjdpcmkcaaW.PrintLast Go.Proofs.Ytnfpcgjdpcmkcaa

theorem specCan (x : Int) (l : List Int) (hl : l.length ≤ 1048576) : Ev (fun k => spec_CanBePrefix.f k l x) (decide (good x l) && decide (shares x l ≤ x ^ 8), decide (good x l)) := by
  unfold spec_CanBePrefix.f
  refine Ev.bind (krList x l hl) ?_
  by_cases h : good x l
  · rw [decide_eq_true h]
    exact Pl.pos rfl (Ev.bind (krFits h.1.1 h.1.2 l h.2.1) (Pl.ret rfl))
  · rw [decide_eq_false h]
    exact Pl.neg (by decide) (Pl.ret rfl)
theorem implCan (x : Int) (l : List Int) (hl : l.length ≤ 1048576) : Ev (fun k => impl_CanBePrefix.f k l x) (decide (good x l) && decide (shares x l ≤ x ^ 8), decide (good x l)) := by
  unfold impl_CanBePrefix.f
  simp only [areLetters_eq, Option.bind_some]
  by_cases hx : 2 ≤ x ∧ x ≤ 3
  · refine Pl.pos (decide_eq_true hx) ?_
    obtain ⟨b, hb, he⟩ := areLengths l hl
    refine Ev.bind he ?_
    cases b with
    | true =>
      have h := hb.1 rfl
      rw [decide_eq_true (show good x l from ⟨hx, h⟩)]
      exact Pl.pos rfl (Ev.bind (canBe hx.1 hx.2 l h.1) (Pl.ret rfl))
    | false =>
      have h : ¬ good x l := fun h => by have := hb.2 h.2; cases this
      rw [decide_eq_false h]
      exact Pl.neg (by decide) (Pl.ret rfl)
  · rw [decide_eq_false (show ¬ good x l from fun h => hx h.1)]
    exact Pl.neg (by simp only [decide_eq_true_eq]; exact hx) (Pl.ret rfl)
theorem FnExactCanBePrefix : laws_FnExactCanBePrefix.Pure := by
  intro l x _ _ _ _
  refine Ev.rounds ?_
  unfold laws_FnExactCanBePrefix.f
  by_cases hb : (l.length : Int) > 1048576
  · exact Pl.pos hb (Pl.ret rfl)
  · have hl : l.length ≤ 1048576 := by omega
    refine Pl.neg hb (Ev.bind (toIntS l hl) (Ev.bind (specCan x l hl) (Ev.bind (toIntS l hl) (Ev.bind (implCan x l hl) ?_))))
    refine Pl.neg (by simp) (Pl.succ ?_)
    simp only [laws_FnExactCanBePrefix.j0]
    refine Pl.neg (by simp) (Ev.bind (toIntS l hl) (Ev.bind (eqIntS l (by omega)) ?_))
    exact Pl.pos rfl (Pl.ret rfl)

end Go.Proofs.Ytnfpcgjdpcmkcaa.Pure

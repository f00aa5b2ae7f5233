/- IsTwoSided: the program's answer is the reference's, for all arguments; no condition. -/
import Derived.Test.YtkphnakihjiebaaDoorSt
import Derived.Test.YtkphnakihjiebaaDoorLwZ
import Derived.Test.YtkphnakihjiebaaDoorLwS
import Derived.Test.YtkphnakihjiebaaDoorSuf
import Derived.Test.YtkphnakihjiebaaDoorXx13
import Derived.Test.YtkphnakihjiebaaDoorXx15
import Derived.Test.YtkphnakihjiebaaDoorXx16
namespace Go.Proofs.YtkphnakihjiebaaDoor.Pure
open Go.RowKit Go.Proofs.YtkphnakihjiebaaDoor.X Go.Proofs.YtkphnakihjiebaaDoorW.PrintWords Go.Proofs.YtkphnakihjiebaaDoorW.PrintLast Go.Proofs.YtkphnakihjiebaaDoor

theorem both (l : List ByteArray) (hl : l.length ≤ 1048576) : ∃ v, Ev (fun k => spec_IsTwoSided.f k l) v ∧ Ev (fun k => impl_IsTwoSided.f k l) v := by
  unfold spec_IsTwoSided.f impl_IsTwoSided.f
  by_cases h : wset l
  · by_cases hp : noTwo begB l
    · refine ⟨(decide (noTwo endB l), true), Ev.bind (wdSet l) ?_, Ev.bind (isSet l (by omega)) ?_⟩
      · rw [decide_eq_true h]
        refine Pl.pos rfl (Ev.bind (krPrefix l h) ?_)
        rw [decide_eq_true hp]
        exact Pl.pos rfl (Ev.bind (revSet h) (Ev.bind (krSuffix h) (Pl.ret rfl)))
      · rw [decide_eq_true h, decide_eq_true hp]
        exact Pl.pos rfl (Pl.pos rfl (Pl.pos (sizeB_set h) (Pl.ret rfl)))
    · refine ⟨(false, true), Ev.bind (wdSet l) ?_, Ev.bind (isSet l (by omega)) ?_⟩
      · rw [decide_eq_true h]
        refine Pl.pos rfl (Ev.bind (krPrefix l h) ?_)
        rw [decide_eq_false hp]
        exact Pl.neg (by decide) (Pl.ret rfl)
      · rw [decide_eq_true h, decide_eq_false hp]
        exact Pl.pos rfl (Pl.neg (by decide) (Pl.ret rfl))
  · refine ⟨(false, false), Ev.bind (wdSet l) ?_, Ev.bind (isSet l (by omega)) ?_⟩
    · rw [decide_eq_false h]; exact Pl.neg (by decide) (Pl.ret rfl)
    · rw [decide_eq_false h]; exact Pl.neg (by decide) (Pl.ret rfl)
theorem FnExactIsTwoSided (l : List ByteArray) (hb : l.length * 16 ≤ 140737488351232) (hs : ∀ s ∈ l, s.size ≤ maxLen) : ∃ k, laws_FnExactIsTwoSided.f k l = some true := by
  refine Ev.rounds ?_
  unfold laws_FnExactIsTwoSided.f
  obtain ⟨r, hr, hq⟩ := szStringS l hb hs 1048576 (by omega) (by omega)
  refine Ev.bind hr ?_
  by_cases hc : r < 0
  · exact Pl.pos hc (Pl.ret rfl)
  obtain ⟨_, hl, _⟩ := hq (by omega)
  obtain ⟨v, h1, h2⟩ := both l hl
  refine Pl.neg hc (Ev.bind (toStringS l hl) (Ev.bind h1 (Ev.bind (toStringS l hl) (Ev.bind h2 (Pl.neg (by simp) (Pl.succ ?_))))))
  simp only [laws_FnExactIsTwoSided.j0]
  refine Pl.neg (by simp) (Ev.bind (toStringS l hl) (Ev.bind (eqStringS l (by omega)) (Pl.pos rfl (Pl.ret rfl))))

end Go.Proofs.YtkphnakihjiebaaDoor.Pure

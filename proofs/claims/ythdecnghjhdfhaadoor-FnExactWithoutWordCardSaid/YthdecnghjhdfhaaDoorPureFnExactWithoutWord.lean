/- WithoutWord: the program's answer is the reference's, for all arguments; no condition. -/
import Derived.Test.YthdecnghjhdfhaaDoorSt
import Derived.Test.YthdecnghjhdfhaaDoorLwZ
import Derived.Test.YthdecnghjhdfhaaDoorLwS
import Derived.Test.YthdecnghjhdfhaaDoorXx17
import Derived.Test.YthdecnghjhdfhaaDoorXx20
import Derived.Test.YthdecnghjhdfhaaDoorXx21
import Derived.Test.YthdecnghjhdfhaaDoorXx22
namespace Go.Proofs.YthdecnghjhdfhaaDoor.Pure
open Go.RowKit Go.Proofs.YthdecnghjhdfhaaDoor.X Go.Proofs.YthdecnghjhdfhaaDoorW.PrintWords Go.Proofs.YthdecnghjhdfhaaDoorW.PrintLast Go.Proofs.YthdecnghjhdfhaaDoor

theorem both (l : List ByteArray) (i : Int) (hl : l.length ≤ 1048576) (wi : (Lit.int .i64 i).wf = true) : ∃ v : List ByteArray × Bool, v.1.length ≤ 12 ∧ Ev (fun k => spec_WithoutWord.f k l i) v ∧ Ev (fun k => impl_WithoutWord.f k l i) v := by
  have hw := Pl.wf64 wi
  unfold spec_WithoutWord.f impl_WithoutWord.f
  simp only [l1In_eq', in_eq', Option.bind_some]
  by_cases h : wset l
  · have h12 := h.1
    by_cases hi : 0 ≤ i ∧ i ≤ wrap64 ((l.length : Int) - 1)
    · have hi2 := hi
      rw [Pl.w64 (by omega) (by omega)] at hi2
      refine ⟨(l.eraseIdx i.toNat, true), ?_, Ev.bind (wdSet l) ?_, Ev.bind (isSet l (by omega)) ?_⟩
      · simp only; rw [List.length_eraseIdx]; split <;> omega
      · rw [decide_eq_true h, decide_eq_true hi, Pl.w64 (n := i + 1) (by omega) (by omega)]
        refine Pl.pos rfl (Pl.pos rfl (Pl.pos (by omega) (Pl.pos (by omega) (Pl.pos (by simp; omega) (Pl.pos (by omega) (Pl.pos (by omega) (Pl.pos (by simp; omega) (Pl.ret ?_))))))))
        rw [List.nil_append, show (i + 1).toNat = i.toNat + 1 by omega, ← List.eraseIdx_eq_take_drop_succ]
      · rw [decide_eq_true h, decide_eq_true hi]
        refine Pl.pos rfl (Pl.pos rfl ?_)
        unfold impl_without.f
        rw [if_pos (by omega), if_pos (by omega), if_pos (by omega)]
        exact Pl.ret rfl
    · refine ⟨([], false), by simp, Ev.bind (wdSet l) ?_, Ev.bind (isSet l (by omega)) ?_⟩
      · rw [decide_eq_true h, decide_eq_false hi]; exact Pl.pos rfl (Pl.neg (by decide) (Pl.ret rfl))
      · rw [decide_eq_true h, decide_eq_false hi]; exact Pl.pos rfl (Pl.neg (by decide) (Pl.ret rfl))
  · refine ⟨([], false), by simp, Ev.bind (wdSet l) ?_, Ev.bind (isSet l (by omega)) ?_⟩
    · rw [decide_eq_false h]; exact Pl.neg (by decide) (Pl.ret rfl)
    · rw [decide_eq_false h]; exact Pl.neg (by decide) (Pl.ret rfl)
theorem FnExactWithoutWord (l : List ByteArray) (i : Int) (hb : l.length * 16 ≤ 140737488351232) (hs : ∀ s ∈ l, s.size ≤ maxLen) (wi : (Lit.int .i64 i).wf = true) : ∃ k, laws_FnExactWithoutWord.f k l i = some true := by
  refine Ev.rounds ?_
  unfold laws_FnExactWithoutWord.f
  obtain ⟨r, hr, hq⟩ := szStringS l hb hs 1048576 (by omega) (by omega)
  refine Ev.bind hr ?_
  by_cases hc : r < 0
  · exact Pl.pos hc (Pl.ret rfl)
  obtain ⟨_, hl, _⟩ := hq (by omega)
  obtain ⟨⟨g, b⟩, hlen, h1, h2⟩ := both l i hl wi
  simp only at hlen
  obtain ⟨mg, hm1, hm2⟩ := marksS g (by omega)
  obtain ⟨ms, hs1, hs2⟩ := marksS l (by omega)
  refine Pl.neg hc (Ev.bind (toStringS l hl) (Ev.bind h1 (Ev.bind (toStringS l hl) (Ev.bind h2 (Ev.bind (eqStringS g (by omega)) (Pl.pos rfl (Pl.succ ?_)))))))
  simp only [laws_FnExactWithoutWord.j0]
  refine Pl.neg (by simp) (Ev.bind (toStringS l hl) (Ev.bind (eqStringS l (by omega)) (Pl.pos rfl (Ev.bind hs1 (Pl.neg (by show ¬ (1 + (l.length : Int)) < 0; omega) (Ev.bind (eqStringS g (by omega)) (Pl.pos rfl (Pl.succ ?_))))))))
  simp only [laws_FnExactWithoutWord.j1]
  refine Pl.neg (by simp) (Ev.bind hm1 (Ev.bind hm2 (Pl.neg (by omega) (Pl.pos rfl (Ev.bind (toStringS l hl) (Ev.bind h2 (Ev.bind (eqStringS g (by omega)) (Pl.pos rfl (Pl.succ ?_)))))))))
  simp only [laws_FnExactWithoutWord.j2]
  exact Pl.neg (by simp) (Ev.bind hm2 (Pl.neg (by omega) (Pl.pos rfl (Pl.ret rfl))))

end Go.Proofs.YthdecnghjhdfhaaDoor.Pure

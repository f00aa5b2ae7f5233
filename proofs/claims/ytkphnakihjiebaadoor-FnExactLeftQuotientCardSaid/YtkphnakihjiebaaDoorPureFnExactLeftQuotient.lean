/- LeftQuotient: the program's answer is the reference's, for all arguments; no condition. -/
import Derived.Test.YtkphnakihjiebaaDoorSrt
import Derived.Test.YtkphnakihjiebaaDoorLwZ
import Derived.Test.YtkphnakihjiebaaDoorLwS2
import Derived.Test.YtkphnakihjiebaaDoorQt
import Derived.Test.YtkphnakihjiebaaDoorXx15
import Derived.Test.YtkphnakihjiebaaDoorXx16
namespace Go.Proofs.YtkphnakihjiebaaDoor.Pure
open Go.RowKit Go.Proofs.YtkphnakihjiebaaDoor.X Go.Proofs.YtkphnakihjiebaaDoorW.PrintWords Go.Proofs.YtkphnakihjiebaaDoorW.PrintLast Go.Proofs.YtkphnakihjiebaaDoor

theorem both (l m : List ByteArray) (_ : l.length ≤ 1048576) (_ : m.length ≤ 1048576) : ∃ v : List ByteArray × Bool, v.1.length ≤ 1048576 ∧ Ev (fun k => spec_LeftQuotient.f k l m) v ∧ Ev (fun k => impl_LeftQuotient.f k l m) v := by
  unfold spec_LeftQuotient.f impl_LeftQuotient.f
  by_cases h : wset l
  · by_cases g : wset m
    · have hq := quot_len l m
      have hp := (puts_ok (quot l m) [] List.Pairwise.nil).2.2
      have hl := h.1
      have hm := g.1
      have h144 : l.length * m.length ≤ 12 * 12 := Nat.mul_le_mul hl hm
      refine ⟨(puts (quot l m) [], true), by simp only [List.length_nil] at hp; show (puts _ _).length ≤ _; omega, Ev.bind (wdSet l) ?_, Ev.bind (isSet l (by omega)) ?_⟩
      · rw [decide_eq_true h]
        refine Pl.pos rfl (Ev.bind (wdSet m) ?_)
        rw [decide_eq_true g]
        exact Pl.pos rfl (Ev.bind (wdQuotient l m hl hm) (Pl.ret rfl))
      · rw [decide_eq_true h]
        refine Pl.pos rfl (Ev.bind (isSet m (by omega)) ?_)
        rw [decide_eq_true g]
        exact Pl.pos rfl (Ev.bind (left l m hl hm) (Pl.ret rfl))
    · refine ⟨([], false), by simp, Ev.bind (wdSet l) ?_, Ev.bind (isSet l (by omega)) ?_⟩
      · rw [decide_eq_true h]
        refine Pl.pos rfl (Ev.bind (wdSet m) ?_)
        rw [decide_eq_false g]
        exact Pl.neg (by decide) (Pl.ret rfl)
      · rw [decide_eq_true h]
        refine Pl.pos rfl (Ev.bind (isSet m (by omega)) ?_)
        rw [decide_eq_false g]
        exact Pl.neg (by decide) (Pl.ret rfl)
  · refine ⟨([], false), by simp, Ev.bind (wdSet l) ?_, Ev.bind (isSet l (by omega)) ?_⟩
    · rw [decide_eq_false h]; exact Pl.neg (by decide) (Pl.ret rfl)
    · rw [decide_eq_false h]; exact Pl.neg (by decide) (Pl.ret rfl)
theorem FnExactLeftQuotient (l m : List ByteArray) (hb : l.length * 16 ≤ 140737488351232) (hs : ∀ s ∈ l, s.size ≤ maxLen) (hb2 : m.length * 16 ≤ 140737488351232) (hs2 : ∀ s ∈ m, s.size ≤ maxLen) : ∃ k, laws_FnExactLeftQuotient.f k l m = some true := by
  refine Ev.rounds ?_
  unfold laws_FnExactLeftQuotient.f
  obtain ⟨r, hr, hq⟩ := szStringS l hb hs 1048576 (by omega) (by omega)
  refine Ev.bind hr ?_
  by_cases hc : r < 0
  · exact Pl.pos hc (Pl.ret rfl)
  obtain ⟨hr1, hl, _⟩ := hq (by omega)
  obtain ⟨r2, hr2, hq2⟩ := szStringS m hb2 hs2 r (by omega) (by omega)
  refine Pl.neg hc (Ev.bind hr2 ?_)
  by_cases hc2 : r2 < 0
  · exact Pl.pos hc2 (Pl.ret rfl)
  obtain ⟨_, hm, _⟩ := hq2 (by omega)
  obtain ⟨⟨g, b⟩, hlen, h1, h2⟩ := both l m hl hm
  simp only at hlen
  obtain ⟨mg, hm1, hm2⟩ := marksS g (by omega)
  obtain ⟨ml, ms, hs1⟩ := marksS2 l m (by omega) (by omega)
  obtain ⟨hs1, hs3⟩ := hs1
  refine Pl.neg hc2 (Ev.bind (toStringS l hl) (Ev.bind (toStringS m hm) (Ev.bind h1 (Ev.bind (toStringS l hl) (Ev.bind (toStringS m hm) (Ev.bind h2 (Ev.bind (eqStringS g (by omega)) (Pl.pos rfl (Pl.succ ?_)))))))))
  simp only [laws_FnExactLeftQuotient.j0]
  refine Pl.neg (by simp) (Ev.bind (toStringS l hl) (Ev.bind (eqStringS l (by omega)) (Pl.pos rfl (Ev.bind (toStringS m hm) (Ev.bind (eqStringS m (by omega)) (Pl.pos rfl (Ev.bind hs1 (Ev.bind hs3 (Pl.neg (by show ¬ (1 + (l.length : Int) + (m.length : Int)) < 0; omega) (Ev.bind (eqStringS g (by omega)) (Pl.pos rfl (Pl.succ ?_))))))))))))
  simp only [laws_FnExactLeftQuotient.j1]
  refine Pl.neg (by simp) (Ev.bind hm1 (Ev.bind hm2 (Pl.neg (by omega) (Pl.pos rfl (Ev.bind (toStringS l hl) (Ev.bind (toStringS m hm) (Ev.bind h2 (Ev.bind (eqStringS g (by omega)) (Pl.pos rfl (Pl.succ ?_))))))))))
  simp only [laws_FnExactLeftQuotient.j2]
  exact Pl.neg (by simp) (Ev.bind hm2 (Pl.neg (by omega) (Pl.pos rfl (Pl.ret rfl))))

end Go.Proofs.YtkphnakihjiebaaDoor.Pure

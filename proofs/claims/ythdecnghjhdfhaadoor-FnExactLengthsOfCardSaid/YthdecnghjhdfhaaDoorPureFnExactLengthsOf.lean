/- LengthsOf: the program's answer is the reference's, for all arguments; no condition. -/
import Derived.Test.YthdecnghjhdfhaaDoorSt
import Derived.Test.YthdecnghjhdfhaaDoorLwZ
import Derived.Test.YthdecnghjhdfhaaDoorLwS
import Derived.Test.YthdecnghjhdfhaaDoorLwI
import Derived.Test.YthdecnghjhdfhaaDoorXx10
import Derived.Test.YthdecnghjhdfhaaDoorXx13
import Derived.Test.YthdecnghjhdfhaaDoorXx14
namespace Go.Proofs.YthdecnghjhdfhaaDoor.Pure
open Go.RowKit Go.Proofs.YthdecnghjhdfhaaDoor.X Go.Proofs.YthdecnghjhdfhaaDoorW.PrintWords Go.Proofs.YthdecnghjhdfhaaDoorW.PrintLast Go.Proofs.YthdecnghjhdfhaaDoor

def lens (l : List ByteArray) : List Int := l.map fun s => (s.size : Int)
theorem spec_l (l : List ByteArray) (hl : l.length ≤ 1048576) (d : Nat) : ∀ (i : Nat) (out : List Int), l.length - i = d → i ≤ l.length → out.length = i →
    Ev (fun k => spec_LengthsOf.l0 k out l (l.length : Int) (i : Int)) (out ++ lens (l.drop i), true) := by
  induction d with
  | zero =>
    intro i out hd hi ho
    refine Pl.succ ?_
    simp only [spec_LengthsOf.l0]
    exact Pl.neg (by omega) (Pl.ret (by rw [List.drop_of_length_le (by omega)]; simp [lens]))
  | succ d ih =>
    intro i out hd hi ho
    refine Pl.succ ?_
    simp only [spec_LengthsOf.l0]
    rw [Pl.rdS_nat _ i (by omega), Pl.w64 (by omega) (by omega)]
    refine Pl.pos (by omega) (Pl.pos (by omega) (Pl.pos (by omega) (Pl.pos (by omega) ?_)))
    refine Pl.via (ih (i + 1) _ (by omega) (by omega) (by simp [ho])) ?_
    rw [drop_cons' l i (by omega)]
    simp only [lens, List.map_cons, List.append_assoc, List.cons_append, List.nil_append]
theorem impl_l (l : List ByteArray) (hl : l.length ≤ 1048576) (d : Nat) : ∀ (i : Nat) (out : List Int), l.length - i = d → i ≤ l.length → out.length = i →
    Ev (fun k => impl_lengthsOf.l0 k out l (l.length : Int) (i : Int)) (out ++ lens (l.drop i)) := by
  induction d with
  | zero =>
    intro i out hd hi ho
    refine Pl.succ ?_
    simp only [impl_lengthsOf.l0]
    exact Pl.neg (by omega) (Pl.ret (by rw [List.drop_of_length_le (by omega)]; simp [lens]))
  | succ d ih =>
    intro i out hd hi ho
    refine Pl.succ ?_
    simp only [impl_lengthsOf.l0]
    rw [Pl.rdS_nat _ i (by omega), Pl.w64 (by omega) (by omega)]
    refine Pl.pos (by omega) (Pl.pos (by omega) (Pl.pos (by omega) (Pl.pos (by omega) ?_)))
    refine Pl.via (ih (i + 1) _ (by omega) (by omega) (by simp [ho])) ?_
    rw [drop_cons' l i (by omega)]
    simp only [lens, List.map_cons, List.append_assoc, List.cons_append, List.nil_append]
noncomputable def lensV (l : List ByteArray) : List Int × Bool := if wset l then (lens l, true) else ([], false)
theorem lensV_length (l : List ByteArray) : (lensV l).1.length ≤ 12 := by
  unfold lensV
  split
  · rename_i h
    simpa [lens] using h.1
  · simp
theorem FnExactLengthsOf (l : List ByteArray) (hb : l.length * 16 ≤ 140737488351232) (hs : ∀ s ∈ l, s.size ≤ maxLen) : ∃ k, laws_FnExactLengthsOf.f k l = some true := by
  refine Ev.rounds ?_
  unfold laws_FnExactLengthsOf.f
  obtain ⟨r, hr, hq⟩ := szStringS l hb hs 1048576 (by omega) (by omega)
  refine Ev.bind hr ?_
  by_cases hc : r < 0
  · exact Pl.pos hc (Pl.ret rfl)
  obtain ⟨_, hl, _⟩ := hq (by omega)
  have h1 : Ev (fun k => spec_LengthsOf.f k l) (lensV l) := by
    unfold spec_LengthsOf.f lensV
    refine Ev.bind (wdSet l) ?_
    by_cases h : wset l
    · rw [decide_eq_true h, if_pos h]
      exact Pl.pos rfl (Pl.via (spec_l l hl l.length 0 [] (by omega) (by omega) rfl) (by simp))
    · rw [decide_eq_false h, if_neg h]
      exact Pl.neg (by decide) (Pl.ret rfl)
  have h2 : Ev (fun k => impl_LengthsOf.f k l) (lensV l) := by
    unfold impl_LengthsOf.f lensV
    refine Ev.bind (isSet l (by omega)) ?_
    by_cases h : wset l
    · rw [decide_eq_true h, if_pos h]
      refine Pl.pos rfl (Ev.bind (a := lens l) ?_ (Pl.ret rfl))
      unfold impl_lengthsOf.f
      exact Pl.via (impl_l l hl l.length 0 [] (by omega) (by omega) rfl) (by simp)
    · rw [decide_eq_false h, if_neg h]
      exact Pl.neg (by decide) (Pl.ret rfl)
  have hlen := lensV_length l
  generalize lensV l = v at hlen h1 h2
  obtain ⟨g, b⟩ := v
  simp only at hlen
  obtain ⟨mi, hm1, hm2⟩ := marksI g (by omega)
  obtain ⟨ms, hs1, hs2⟩ := marksS l (by omega)
  refine Pl.neg hc (Ev.bind (toStringS l hl) (Ev.bind h1 (Ev.bind (toStringS l hl) (Ev.bind h2 (Ev.bind (eqIntS g (by omega)) (Pl.pos rfl (Pl.succ ?_)))))))
  simp only [laws_FnExactLengthsOf.j0]
  refine Pl.neg (by simp) (Ev.bind (toStringS l hl) (Ev.bind (eqStringS l (by omega)) (Pl.pos rfl (Ev.bind hs1 (Pl.neg (by show ¬ (1 + (l.length : Int)) < 0; omega) (Ev.bind (eqIntS g (by omega)) (Pl.pos rfl (Pl.succ ?_))))))))
  simp only [laws_FnExactLengthsOf.j1]
  refine Pl.neg (by simp) (Ev.bind hm1 (Ev.bind hm2 (Pl.neg (by omega) (Pl.pos rfl (Ev.bind (toStringS l hl) (Ev.bind h2 (Ev.bind (eqIntS g (by omega)) (Pl.pos rfl (Pl.succ ?_)))))))))
  simp only [laws_FnExactLengthsOf.j2]
  exact Pl.neg (by simp) (Ev.bind hm2 (Pl.neg (by omega) (Pl.pos rfl (Pl.ret rfl))))

end Go.Proofs.YthdecnghjhdfhaaDoor.Pure

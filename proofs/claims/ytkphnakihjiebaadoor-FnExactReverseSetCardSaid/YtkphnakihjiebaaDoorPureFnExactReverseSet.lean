/- ReverseSet: the program's answer is the reference's, for all arguments; no condition. -/
import Derived.Test.YtkphnakihjiebaaDoorSrt
import Derived.Test.YtkphnakihjiebaaDoorRev
import Derived.Test.YtkphnakihjiebaaDoorLwZ
import Derived.Test.YtkphnakihjiebaaDoorLwS
import Derived.Test.YtkphnakihjiebaaDoorXx1
import Derived.Test.YtkphnakihjiebaaDoorXx8
import Derived.Test.YtkphnakihjiebaaDoorXx9
namespace Go.Proofs.YtkphnakihjiebaaDoor.Pure
open Go.RowKit Go.Proofs.YtkphnakihjiebaaDoor.X Go.Proofs.YtkphnakihjiebaaDoorW.PrintWords Go.Proofs.YtkphnakihjiebaaDoorW.PrintLast Go.Proofs.YtkphnakihjiebaaDoor

theorem rev_ord (l : List ByteArray) : ordB (l.map revB) = revs l := by
  rw [ordB_puts]
  unfold puts revs revsOn
  rw [List.foldl_map]
  rfl
theorem both (l : List ByteArray) (hl : l.length ≤ 1048576) : ∃ v : List ByteArray × Bool, v.1.length ≤ 1048576 ∧ Ev (fun k => spec_ReverseSet.f k l) v ∧ Ev (fun k => impl_ReverseSet.f k l) v := by
  unfold spec_ReverseSet.f impl_ReverseSet.f
  by_cases h : wset l
  · have hs : ∀ s ∈ l, s.size ≤ 8 := fun s hs => (wshort_size (wset_short h s hs)).2
    have h63 : l.all sz63 = true := List.all_eq_true.2 fun s q => decide_eq_true (by have := hs s q; omega)
    have h3 := (wset_revs h).1
    refine ⟨(revs l, true), by show (revs l).length ≤ _; omega, Ev.bind (wdSet l) (Pl.pos (decide_eq_true h) (Ev.bind (wdReverse l hl fun s q => by have := hs s q; omega) (Pl.ret rfl))), Ev.bind (isSet l (by omega)) (Pl.pos (decide_eq_true h) (Pl.pos hl (Pl.pos h63 (Pl.ret (by rw [rev_ord])))))⟩
  · exact ⟨([], false), by simp, Ev.bind (wdSet l) (Pl.neg (by simp [h]) (Pl.ret rfl)), Ev.bind (isSet l (by omega)) (Pl.neg (by simp [h]) (Pl.ret rfl))⟩
theorem FnExactReverseSet (l : List ByteArray) (hb : l.length * 16 ≤ 140737488351232) (hs : ∀ s ∈ l, s.size ≤ maxLen) : ∃ k, laws_FnExactReverseSet.f k l = some true := by
  refine Ev.rounds ?_
  unfold laws_FnExactReverseSet.f
  obtain ⟨r, hr, hq⟩ := szStringS l hb hs 1048576 (by omega) (by omega)
  refine Ev.bind hr ?_
  by_cases hc : r < 0
  · exact Pl.pos hc (Pl.ret rfl)
  obtain ⟨_, hl, _⟩ := hq (by omega)
  obtain ⟨⟨g, b⟩, hlen, h1, h2⟩ := both l hl
  simp only at hlen
  obtain ⟨mg, hm1, hm2⟩ := marksS g (by omega)
  obtain ⟨ms, hs1, hs2⟩ := marksS l (by omega)
  refine Pl.neg hc (Ev.bind (toStringS l hl) (Ev.bind h1 (Ev.bind (toStringS l hl) (Ev.bind h2 (Ev.bind (eqStringS g (by omega)) (Pl.pos rfl (Pl.succ ?_)))))))
  simp only [laws_FnExactReverseSet.j0]
  refine Pl.neg (by simp) (Ev.bind (toStringS l hl) (Ev.bind (eqStringS l (by omega)) (Pl.pos rfl (Ev.bind hs1 (Pl.neg (by show ¬ (1 + (l.length : Int)) < 0; omega) (Ev.bind (eqStringS g (by omega)) (Pl.pos rfl (Pl.succ ?_))))))))
  simp only [laws_FnExactReverseSet.j1]
  refine Pl.neg (by simp) (Ev.bind hm1 (Ev.bind hm2 (Pl.neg (by omega) (Pl.pos rfl (Ev.bind (toStringS l hl) (Ev.bind h2 (Ev.bind (eqStringS g (by omega)) (Pl.pos rfl (Pl.succ ?_)))))))))
  simp only [laws_FnExactReverseSet.j2]
  exact Pl.neg (by simp) (Ev.bind hm2 (Pl.neg (by omega) (Pl.pos rfl (Pl.ret rfl))))

end Go.Proofs.YtkphnakihjiebaaDoor.Pure

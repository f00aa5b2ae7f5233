/- FirstInside: the program's answer is the reference's, for all arguments; no condition. -/
import Derived.Test.YtmgankgjjnegaaaDoorIns
import Derived.Test.YtmgankgjjnegaaaDoorLwZ
import Derived.Test.YtmgankgjjnegaaaDoorLwM
import Derived.Test.YtmgankgjjnegaaaDoorLwI
import Derived.Test.YtmgankgjjnegaaaDoorXx3
import Derived.Test.YtmgankgjjnegaaaDoorXx9
import Derived.Test.YtmgankgjjnegaaaDoorXx10
namespace Go.Proofs.YtmgankgjjnegaaaDoor.Pure
open Go.RowKit Go.Proofs.YtmgankgjjnegaaaDoor.X Go.Proofs.YtmgankgjjnegaaaDoorW.PrintWords Go.Proofs.YtmgankgjjnegaaaDoorW.PrintLast Go.Proofs.YtmgankgjjnegaaaDoor

theorem wshort_small {l : List ByteArray} (h : wset l) : ∀ s ∈ l, s.size ≤ 8 := fun s hs => by
  obtain ⟨i, hi, rfl⟩ := List.getElem_of_mem hs
  have := h.2.1 i hi
  unfold wshort at this
  simp only [Bool.and_eq_true, decide_eq_true_eq] at this
  exact this.1.2
theorem both (l : List ByteArray) (hl : l.length ≤ 1048576) : ∃ v : List Int × Bool, v.1.length ≤ 1048576 ∧ Ev (fun k => spec_FirstInside.f k l) v ∧ Ev (fun k => impl_FirstInside.f k l) v := by
  unfold spec_FirstInside.f impl_FirstInside.f
  by_cases h : wset l
  · have h12 := h.1
    obtain ⟨R, hR, h1, h2⟩ := inside l (by omega) (fun s q => by have := (wshort_small h s q); omega)
    exact ⟨pr R, by show R.length ≤ _; omega, Ev.bind (wdSet l) (Pl.pos (decide_eq_true h) (Ev.bind h1 (Pl.ret rfl))), Ev.bind (isSet l (by omega)) (Pl.pos (decide_eq_true h) (Ev.bind h2 (Pl.ret rfl)))⟩
  · exact ⟨([], false), by simp, Ev.bind (wdSet l) (Pl.neg (by simp [h]) (Pl.ret rfl)), Ev.bind (isSet l (by omega)) (Pl.neg (by simp [h]) (Pl.ret rfl))⟩
theorem FnExactFirstInside (l : List ByteArray) (hb : l.length * 16 ≤ 140737488351232) (hs : ∀ s ∈ l, s.size ≤ maxLen) : ∃ k, laws_FnExactFirstInside.f k l = some true := by
  refine Ev.rounds ?_
  unfold laws_FnExactFirstInside.f
  obtain ⟨r, hr, hq⟩ := szStringS l hb hs 1048576 (by omega) (by omega)
  refine Ev.bind hr ?_
  by_cases hc : r < 0
  · exact Pl.pos hc (Pl.ret rfl)
  obtain ⟨_, hl, _⟩ := hq (by omega)
  obtain ⟨⟨g, b⟩, hlen, h1, h2⟩ := both l hl
  simp only at hlen
  obtain ⟨mg, hm1, hm2⟩ := marksI g (by omega)
  obtain ⟨ms, hs1⟩ := marksO l (by omega)
  refine Pl.neg hc (Ev.bind (toStringS l hl) (Ev.bind h1 (Ev.bind (toStringS l hl) (Ev.bind h2 (Ev.bind (eqIntS g (by omega)) (Pl.pos rfl (Pl.succ ?_)))))))
  simp only [laws_FnExactFirstInside.j0]
  refine Pl.neg (by simp) (Ev.bind (toStringS l hl) (Ev.bind (eqStringS l (by omega)) (Pl.pos rfl (Ev.bind hs1 (Pl.neg (by show ¬ (1 + (l.length : Int)) < 0; omega) (Ev.bind (eqIntS g (by omega)) (Pl.pos rfl (Pl.succ ?_))))))))
  simp only [laws_FnExactFirstInside.j1]
  refine Pl.neg (by simp) (Ev.bind hm1 (Ev.bind hm2 (Pl.neg (by omega) (Pl.pos rfl (Ev.bind (toStringS l hl) (Ev.bind h2 (Ev.bind (eqIntS g (by omega)) (Pl.pos rfl (Pl.succ ?_)))))))))
  simp only [laws_FnExactFirstInside.j2]
  exact Pl.neg (by simp) (Ev.bind hm2 (Pl.neg (by omega) (Pl.pos rfl (Pl.ret rfl))))

end Go.Proofs.YtmgankgjjnegaaaDoor.Pure

/- IsCommaFree: the program's answer is the reference's, for all arguments; no condition. -/
import Derived.Test.YtmgankgjjnegaaaDoorIns
import Derived.Test.YtmgankgjjnegaaaDoorLwZ
import Derived.Test.YtmgankgjjnegaaaDoorLwE
import Derived.Test.YtmgankgjjnegaaaDoorXx10
import Derived.Test.YtmgankgjjnegaaaDoorXx11
import Derived.Test.YtmgankgjjnegaaaDoorXx12
namespace Go.Proofs.YtmgankgjjnegaaaDoor.Pure
open Go.RowKit Go.Proofs.YtmgankgjjnegaaaDoor.X Go.Proofs.YtmgankgjjnegaaaDoorW.PrintWords Go.Proofs.YtmgankgjjnegaaaDoorW.PrintLast Go.Proofs.YtmgankgjjnegaaaDoor

theorem wshort_small {l : List ByteArray} (h : wset l) : ∀ s ∈ l, s.size ≤ 8 := fun s hs => by
  obtain ⟨i, hi, rfl⟩ := List.getElem_of_mem hs
  have := h.2.1 i hi
  unfold wshort at this
  simp only [Bool.and_eq_true, decide_eq_true_eq] at this
  exact this.1.2
theorem both (l : List ByteArray) (hl : l.length ≤ 1048576) : ∃ v, Ev (fun k => spec_IsCommaFree.f k l) v ∧ Ev (fun k => impl_IsCommaFree.f k l) v := by
  unfold spec_IsCommaFree.f impl_IsCommaFree.f
  by_cases h : wset l
  · have h12 := h.1
    obtain ⟨R, hR, h1, h2⟩ := inside l (by omega) (fun s q => by have := (wshort_small h s q); omega)
    exact ⟨(R.isEmpty, true), Ev.bind (wdSet l) (Pl.pos (decide_eq_true h) (Ev.bind h1 (Pl.ret (by simp [pr])))), Ev.bind (isSet l (by omega)) (Pl.pos (decide_eq_true h) (Ev.bind h2 (Pl.ret rfl)))⟩
  · exact ⟨(false, false), Ev.bind (wdSet l) (Pl.neg (by simp [h]) (Pl.ret rfl)), Ev.bind (isSet l (by omega)) (Pl.neg (by simp [h]) (Pl.ret rfl))⟩
theorem FnExactIsCommaFree (l : List ByteArray) (hb : l.length * 16 ≤ 140737488351232) (hs : ∀ s ∈ l, s.size ≤ maxLen) : ∃ k, laws_FnExactIsCommaFree.f k l = some true := by
  refine Ev.rounds ?_
  unfold laws_FnExactIsCommaFree.f
  obtain ⟨r, hr, hq⟩ := szStringS l hb hs 1048576 (by omega) (by omega)
  refine Ev.bind hr ?_
  by_cases hc : r < 0
  · exact Pl.pos hc (Pl.ret rfl)
  obtain ⟨_, hl, _⟩ := hq (by omega)
  obtain ⟨v, h1, h2⟩ := both l hl
  refine Pl.neg hc (Ev.bind (toStringS l hl) (Ev.bind h1 (Ev.bind (toStringS l hl) (Ev.bind h2 (Pl.neg (by simp) (Pl.succ ?_))))))
  simp only [laws_FnExactIsCommaFree.j0]
  refine Pl.neg (by simp) (Ev.bind (toStringS l hl) (Ev.bind (eqStringS l (by omega)) (Pl.pos rfl (Pl.ret rfl))))

end Go.Proofs.YtmgankgjjnegaaaDoor.Pure

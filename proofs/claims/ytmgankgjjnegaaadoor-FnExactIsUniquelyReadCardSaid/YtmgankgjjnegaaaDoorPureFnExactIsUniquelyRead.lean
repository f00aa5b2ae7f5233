/- IsUniquelyRead: the program's answer is the reference's, for all arguments; no condition. -/
import Derived.Test.YtmgankgjjnegaaaDoorLwZ
import Derived.Test.YtmgankgjjnegaaaDoorLwE
import Derived.Test.YtmgankgjjnegaaaDoorDc
import Derived.Test.YtmgankgjjnegaaaDoorXx10
namespace Go.Proofs.YtmgankgjjnegaaaDoor.Pure
open Go.RowKit Go.Proofs.YtmgankgjjnegaaaDoor.X Go.Proofs.YtmgankgjjnegaaaDoorW.PrintWords Go.Proofs.YtmgankgjjnegaaaDoorW.PrintLast Go.Proofs.YtmgankgjjnegaaaDoor

theorem both (l : List ByteArray) (s : ByteArray) (hl : l.length ≤ 1048576) : ∃ v, Ev (fun k => spec_IsUniquelyRead.f k l s) v ∧ Ev (fun k => impl_IsUniquelyRead.f k l s) v := by
  obtain ⟨v, h1, h2⟩ := readings_both l s hl
  unfold spec_IsUniquelyRead.f impl_IsUniquelyRead.f
  by_cases h : wset l ∧ wgood s = true
  · rw [if_pos h] at h1
    refine ⟨(v == 1, true), Ev.bind (dcAsked l s) ?_, Ev.bind h1 (Pl.ret rfl)⟩
    rw [decide_eq_true h.1, h.2]
    exact Pl.pos rfl (Ev.bind (h2 h) (Pl.ret rfl))
  · rw [if_neg h] at h1
    refine ⟨(false, false), Ev.bind (dcAsked l s) ?_, Ev.bind h1 (Pl.ret rfl)⟩
    refine Pl.neg ?_ (Pl.ret rfl)
    intro hq
    rw [Bool.and_eq_true, decide_eq_true_eq] at hq
    exact h hq
theorem FnExactIsUniquelyRead (l : List ByteArray) (s : ByteArray) (hb : l.length * 16 ≤ 140737488351232) (hs : ∀ s ∈ l, s.size ≤ maxLen) (_ : s.size ≤ 140737488351232) : ∃ k, laws_FnExactIsUniquelyRead.f k l s = some true := by
  refine Ev.rounds ?_
  unfold laws_FnExactIsUniquelyRead.f
  by_cases h1 : (s.size : Int) > 1048576
  · exact Pl.pos h1 (Pl.ret rfl)
  refine Pl.neg h1 ?_
  obtain ⟨r, hr, hq⟩ := szStringS l hb hs 1048576 (by omega) (by omega)
  refine Ev.bind hr ?_
  by_cases hc : r < 0
  · exact Pl.pos hc (Pl.ret rfl)
  obtain ⟨_, hl, _⟩ := hq (by omega)
  obtain ⟨v, h1, h2⟩ := both l s hl
  refine Pl.neg hc (Ev.bind (toStringS l hl) (Ev.bind h1 (Ev.bind (toStringS l hl) (Ev.bind h2 (Pl.neg (by simp) (Pl.succ ?_))))))
  simp only [laws_FnExactIsUniquelyRead.j0]
  refine Pl.neg (by simp) (Ev.bind (toStringS l hl) (Ev.bind (eqStringS l (by omega)) (Pl.pos rfl (Pl.ret rfl))))

end Go.Proofs.YtmgankgjjnegaaaDoor.Pure

/- IsSet: the program's answer is the reference's, for all arguments; no condition. -/
import Derived.Test.YthdecnghjhdfhaaDoorSt
import Derived.Test.YthdecnghjhdfhaaDoorLwZ
import Derived.Test.YthdecnghjhdfhaaDoorLwS
import Derived.Test.YthdecnghjhdfhaaDoorXx7
import Derived.Test.YthdecnghjhdfhaaDoorXx8
namespace Go.Proofs.YthdecnghjhdfhaaDoor.Pure
open Go.RowKit Go.Proofs.YthdecnghjhdfhaaDoor.X Go.Proofs.YthdecnghjhdfhaaDoorW.PrintWords Go.Proofs.YthdecnghjhdfhaaDoorW.PrintLast Go.Proofs.YthdecnghjhdfhaaDoor

theorem FnExactIsSet (l : List ByteArray) (hb : l.length * 16 ≤ 140737488351232) (hs : ∀ s ∈ l, s.size ≤ maxLen) : ∃ k, laws_FnExactIsSet.f k l = some true := by
  refine Ev.rounds ?_
  unfold laws_FnExactIsSet.f
  obtain ⟨r, hr, hq⟩ := szStringS l hb hs 1048576 (by omega) (by omega)
  refine Ev.bind hr ?_
  by_cases hc : r < 0
  · exact Pl.pos hc (Pl.ret rfl)
  obtain ⟨_, hl, _⟩ := hq (by omega)
  have h1 : Ev (fun k => spec_IsSet.f k l) (decide (wset l)) := Ev.bind (wdSet l) (Pl.ret rfl)
  have h2 : Ev (fun k => impl_IsSet.f k l) (decide (wset l)) := Ev.bind (isSet l (by omega)) (Pl.ret rfl)
  refine Pl.neg hc (Ev.bind (toStringS l hl) (Ev.bind h1 (Ev.bind (toStringS l hl) (Ev.bind h2 (Pl.neg (by simp) ?_)))))
  exact Ev.bind (toStringS l hl) (Ev.bind (eqStringS l (by omega)) (Pl.pos rfl (Pl.ret rfl)))

end Go.Proofs.YthdecnghjhdfhaaDoor.Pure

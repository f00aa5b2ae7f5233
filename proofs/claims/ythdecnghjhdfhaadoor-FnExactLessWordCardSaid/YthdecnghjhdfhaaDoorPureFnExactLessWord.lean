/- LessWord: the program's answer is the reference's, for all arguments; no condition. -/
import Derived.Test.YthdecnghjhdfhaaDoorCmp
import Derived.Test.YthdecnghjhdfhaaDoorXx5
import Derived.Test.YthdecnghjhdfhaaDoorXx7
namespace Go.Proofs.YthdecnghjhdfhaaDoor.Pure
open Go.RowKit Go.Proofs.YthdecnghjhdfhaaDoor.X Go.Proofs.YthdecnghjhdfhaaDoorW.PrintWords Go.Proofs.YthdecnghjhdfhaaDoorW.PrintLast Go.Proofs.YthdecnghjhdfhaaDoor

theorem FnExactLessWord (s t : ByteArray) (_ : s.size ≤ 140737488351232) (_ : t.size ≤ 140737488351232) : ∃ k, laws_FnExactLessWord.f k s t = some true := by
  refine Ev.rounds ?_
  unfold laws_FnExactLessWord.f
  by_cases h1 : (s.size : Int) > 1048576
  · exact Pl.pos h1 (Pl.ret rfl)
  refine Pl.neg h1 ?_
  by_cases h2 : (t.size : Int) > 1048576
  · exact Pl.pos h2 (Pl.ret rfl)
  refine Pl.neg h2 ?_
  have hs : Ev (fun k => spec_LessWord.f k s t) (wgood s && wgood t && wless s t, wgood s && wgood t) := by
    unfold spec_LessWord.f
    simp only [wdLess_eq, Option.bind_some]
    refine Ev.bind (wdGood s) ?_
    cases wgood s
    · exact Pl.neg (by decide) (Pl.ret rfl)
    · refine Pl.pos rfl (Ev.bind (wdGood t) ?_)
      cases wgood t
      · exact Pl.neg (by decide) (Pl.ret rfl)
      · exact Pl.pos rfl (Pl.ret rfl)
  have hi : Ev (fun k => impl_LessWord.f k s t) (wgood s && wgood t && wless s t, wgood s && wgood t) := by
    unfold impl_LessWord.f
    simp only [isWord_eq, Option.bind_some]
    cases wgood s
    · exact Pl.neg (by decide) (Pl.ret rfl)
    · refine Pl.pos rfl ?_
      cases wgood t
      · exact Pl.neg (by decide) (Pl.ret rfl)
      · exact Pl.pos rfl (Ev.bind (compareWords s t) (Pl.ret (by rw [cmpW_neg]; rfl)))
  exact Ev.bind hs (Ev.bind hi (Pl.neg (by simp) (Pl.neg (by simp) (Pl.ret rfl))))

end Go.Proofs.YthdecnghjhdfhaaDoor.Pure

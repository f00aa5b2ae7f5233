/- IsWord: the program's answer is the reference's, for all arguments; no condition. -/
import Derived.Test.YtnfpcgjdpcmkcaaDoorWd
import Derived.Test.YtnfpcgjdpcmkcaaDoorXx1
import Derived.Test.YtnfpcgjdpcmkcaaDoorXx3
namespace Go.Proofs.YtnfpcgjdpcmkcaaDoor.Pure
open Go.RowKit Go.Proofs.YtnfpcgjdpcmkcaaDoor.X Go.Proofs.YtnfpcgjdpcmkcaaDoorW.PrintWords Go.Proofs.YtnfpcgjdpcmkcaaDoorW.PrintLast Go.Proofs.YtnfpcgjdpcmkcaaDoor

theorem FnExactIsWord (s : ByteArray) (_ : s.size ≤ 140737488351232) : ∃ k, laws_FnExactIsWord.f k s = some true := by
  refine Ev.rounds ?_
  unfold laws_FnExactIsWord.f spec_IsWord.f impl_IsWord.f
  simp only [isWord_eq, Option.bind_some]
  by_cases hb : (s.size : Int) > 1048576
  · exact Pl.pos hb (Pl.ret rfl)
  · exact Pl.neg hb (Ev.bind (Ev.bind (wdGood s) (Pl.ret rfl)) (Pl.neg (by simp) (Pl.ret rfl)))

end Go.Proofs.YtnfpcgjdpcmkcaaDoor.Pure

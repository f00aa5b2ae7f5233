/- Words: what the reference asks of a text; no condition beyond sizes. -/
import Derived.Test.YtidjjcgfdkmefaaDoorWc
import Derived.Test.YtidjjcgfdkmefaaDoorXx1
namespace Go.Proofs.YtidjjcgfdkmefaaDoor.X
open Go.RowKit Go.Proofs.YtidjjcgfdkmefaaDoorW.PrintWords Go.Proofs.YtidjjcgfdkmefaaDoorW.PrintLast Go.Proofs.YtidjjcgfdkmefaaDoorW.PrintMore Go.Proofs.YtidjjcgfdkmefaaDoor

theorem wdGood (s : ByteArray) : Ev (fun k => spec_wdGood.f k s) (wgood s) := by
  unfold spec_wdGood.f wgood
  by_cases h : s.size ≤ 60
  · rw [decide_eq_true h, Bool.true_and]
    exact Pl.pos (by omega) (Ev.bind (wdIs s (by omega)) (Pl.ret rfl))
  · rw [decide_eq_false h, Bool.false_and]
    exact Pl.neg (by omega) (Pl.ret rfl)

end Go.Proofs.YtidjjcgfdkmefaaDoor.X

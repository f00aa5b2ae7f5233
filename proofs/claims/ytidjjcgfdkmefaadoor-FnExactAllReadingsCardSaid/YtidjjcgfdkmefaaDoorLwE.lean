/- What the laws' own equality of lists of texts tells; no condition beyond lengths. -/
import Derived.Test.YtidjjcgfdkmefaaDoorPl
import Derived.Test.YtidjjcgfdkmefaaDoorXx1
namespace Go.Proofs.YtidjjcgfdkmefaaDoor.X
open Go.RowKit Go.Proofs.YtidjjcgfdkmefaaDoorW.PrintWords Go.Proofs.YtidjjcgfdkmefaaDoorW.PrintLast Go.Proofs.YtidjjcgfdkmefaaDoorW.PrintMore Go.Proofs.YtidjjcgfdkmefaaDoor

theorem eqStringS_l (l : List ByteArray) (hl : l.length ≤ 4611686018427387904) (d : Nat) : ∀ (i : Nat), l.length - i = d → i ≤ l.length → Ev (fun k => laws_eqStringS.l0 k l l (i : Int)) true := by
  induction d with
  | zero =>
    intro i hd hi
    refine Pl.succ ?_
    simp only [laws_eqStringS.l0]
    exact Pl.neg (by omega) (Pl.ret rfl)
  | succ d ih =>
    intro i hd hi
    refine Pl.succ ?_
    simp only [laws_eqStringS.l0]
    refine Pl.pos (by omega) (Pl.pos (by omega) (Pl.pos (by omega) (Pl.pos (by first | rfl | trivial) ?_)))
    rw [Pl.w64 (by omega) (by omega)]
    exact ih (i + 1) (by omega) (by omega)
theorem eqStringS (l : List ByteArray) (hl : l.length ≤ 4611686018427387904) : Ev (fun k => laws_eqStringS.f k l l) true := by
  unfold laws_eqStringS.f
  exact Pl.pos rfl (eqStringS_l l hl l.length 0 (by omega) (by omega))


end Go.Proofs.YtidjjcgfdkmefaaDoor.X

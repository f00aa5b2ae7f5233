/- The lengths of words: the program's list; no condition beyond sizes. -/
import Derived.Test.YthdecnghjhdfhaaDoorWd
import Derived.Test.YthdecnghjhdfhaaDoorXx13
namespace Go.Proofs.YthdecnghjhdfhaaDoor.X
open Go.RowKit Go.Proofs.YthdecnghjhdfhaaDoorW.PrintWords Go.Proofs.YthdecnghjhdfhaaDoorW.PrintLast Go.Proofs.YthdecnghjhdfhaaDoorW.PrintMore Go.Proofs.YthdecnghjhdfhaaDoor

def lens (l : List ByteArray) : List Int := l.map fun s => (s.size : Int)
theorem lengthsOf_l (l : List ByteArray) (hl : l.length ≤ 1048576) (d : Nat) : ∀ (i : Nat) (out : List Int), l.length - i = d → i ≤ l.length → out.length = i →
    Ev (fun k => impl_lengthsOf.l0 k out l (l.length : Int) (i : Int)) (out ++ lens (l.drop i)) := by
  induction d with
  | zero =>
    intro i out hd hi ho
    refine Pl.succ ?_
    simp only [impl_lengthsOf.l0]
    exact Pl.neg (by omega) (Pl.ret (by rw [List.drop_of_length_le (by omega)]; simp [lens]))
  | succ d ih =>
    intro i out hd hi ho
    refine Pl.succ ?_
    simp only [impl_lengthsOf.l0]
    rw [Pl.rdS_nat _ i (by omega), Pl.w64 (by omega) (by omega)]
    refine Pl.pos (by omega) (Pl.pos (by omega) (Pl.pos (by omega) (Pl.pos (by omega) ?_)))
    refine Pl.via (ih (i + 1) _ (by omega) (by omega) (by simp [ho])) ?_
    rw [drop_cons' l i (by omega)]
    simp only [lens, List.map_cons, List.append_assoc, List.cons_append, List.nil_append]
theorem lengthsOf (l : List ByteArray) (hl : l.length ≤ 1048576) : Ev (fun k => impl_lengthsOf.f k l) (lens l) := by
  unfold impl_lengthsOf.f
  exact Pl.via (lengthsOf_l l hl l.length 0 [] (by omega) (by omega) rfl) (by simp)

end Go.Proofs.YthdecnghjhdfhaaDoor.X

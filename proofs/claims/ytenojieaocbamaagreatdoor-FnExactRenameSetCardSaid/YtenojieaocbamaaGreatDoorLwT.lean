/- What the laws' own copies of lists of numbers tell; no condition beyond lengths. -/
import Derived.Test.YtenojieaocbamaaGreatDoorPl
import Derived.Test.YtenojieaocbamaaGreatDoorXx1
namespace Go.Proofs.YtenojieaocbamaaGreatDoor.X
open Go.RowKit Go.Proofs.YtenojieaocbamaaGreatDoorW.PrintWords Go.Proofs.YtenojieaocbamaaGreatDoorW.PrintLast Go.Proofs.YtenojieaocbamaaGreatDoorW.PrintMore Go.Proofs.YtenojieaocbamaaGreatDoor

theorem toIntS_l (l : List Int) (hl : l.length ≤ 1048576) (d : Nat) : ∀ (i : Nat) (x : List Int), l.length - i = d → i ≤ l.length → x.length = l.length → (∀ j, j < i → x[j]? = l[j]?) →
    Ev (fun k => laws_toIntS.l0 k l x (i : Int)) l := by
  induction d with
  | zero =>
    intro i x hd hi hx he
    refine Pl.succ ?_
    simp only [laws_toIntS.l0]
    refine Pl.neg (by omega) (Pl.ret ?_)
    apply List.ext_getElem?
    intro j
    by_cases hj : j < i
    · exact he j hj
    · rw [List.getElem?_eq_none (by omega), List.getElem?_eq_none (by omega)]
  | succ d ih =>
    intro i x hd hi hx he
    refine Pl.succ ?_
    simp only [laws_toIntS.l0]
    refine Pl.pos (by omega) (Pl.pos (by omega) (Pl.pos (by omega) ?_))
    rw [Pl.w64 (by omega) (by omega), Int.toNat_natCast, Pl.rd_nat _ _ (by omega)]
    refine ih (i + 1) _ (by omega) (by omega) (by simpa using hx) ?_
    intro j hj
    rw [List.getElem?_set]
    by_cases e : i = j
    · subst e
      rw [if_pos rfl, if_pos (by omega), List.getElem?_eq_getElem (by omega)]
    · rw [if_neg e]
      exact he j (by omega)
theorem toIntS (l : List Int) (hl : l.length ≤ 1048576) : Ev (fun k => laws_toIntS.f k l) l := by
  unfold laws_toIntS.f
  refine Pl.pos (by omega) (Pl.pos (by omega) ?_)
  exact toIntS_l l hl l.length 0 _ (by omega) (by omega) (by simp) (fun j hj => absurd hj (Nat.not_lt_zero _))

end Go.Proofs.YtenojieaocbamaaGreatDoor.X

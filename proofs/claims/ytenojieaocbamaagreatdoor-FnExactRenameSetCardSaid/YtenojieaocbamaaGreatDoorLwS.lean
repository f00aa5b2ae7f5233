/- What the laws' own helpers over lists of texts tell; no condition beyond lengths. -/
import Derived.Test.YtenojieaocbamaaGreatDoorLwM
import Derived.Test.YtenojieaocbamaaGreatDoorXx12
namespace Go.Proofs.YtenojieaocbamaaGreatDoor.X
open Go.RowKit Go.Proofs.YtenojieaocbamaaGreatDoorW.PrintWords Go.Proofs.YtenojieaocbamaaGreatDoorW.PrintLast Go.Proofs.YtenojieaocbamaaGreatDoorW.PrintMore Go.Proofs.YtenojieaocbamaaGreatDoor

theorem heldStringS_l (n : Nat) (hn : n ≤ 1073741824) (l' : List ByteArray) (h1 : l'.length = n) (h2 : ∀ j, j < n → ∃ t, l'[j]? = some t ∧ Ev (fun k => laws_markText.f k (1 + (j : Int))) t) (d : Nat) : ∀ (i : Nat), n - i = d → i ≤ n →
    Ev (fun k => laws_heldStringS.l0 k l' (1 + (i : Int)) (i : Int)) (1 + (n : Int)) := by
  induction d with
  | zero =>
    intro i hd hi
    refine Pl.succ ?_
    simp only [laws_heldStringS.l0]
    obtain rfl : i = n := by omega
    exact Pl.neg (by omega) (Pl.ret rfl)
  | succ d ih =>
    intro i hd hi
    obtain ⟨t, hti, ht⟩ := h2 i (by omega)
    refine Pl.succ ?_
    simp only [laws_heldStringS.l0]
    have hr : rdOf ByteArray.empty l' (i : Int) = t := by
      rw [List.getElem?_eq_getElem (by omega)] at hti
      rw [Pl.rdS_nat _ _ (by omega)]
      exact Option.some.inj hti
    refine Pl.pos (by omega) (Pl.pos (by omega) (Ev.bind ht (Pl.pos (by rw [hr]) ?_)))
    rw [Pl.w64 (by omega) (by omega), Pl.w64 (by omega) (by omega)]
    have e : (1 + (i : Int) + 1) = 1 + ((i + 1 : Nat) : Int) := by omega
    rw [e]
    exact ih (i + 1) (by omega) (by omega)
/-- Marked, and held: the marks stand. -/
theorem marksS (l : List ByteArray) (hn : l.length ≤ 1073741824) : ∃ l', Ev (fun k => laws_markStringS.f k l 1) (1 + (l.length : Int), l') ∧ Ev (fun k => laws_heldStringS.f k l' 1) (1 + (l.length : Int)) := by
  obtain ⟨l', h1, h2, h3⟩ := markStringS_l l.length hn l.length 0 l (by omega) (by omega) rfl (fun j hj => absurd hj (Nat.not_lt_zero _))
  exact ⟨l', h3, heldStringS_l l.length hn l' h1 h2 l.length 0 (by omega) (by omega)⟩

end Go.Proofs.YtenojieaocbamaaGreatDoor.X

/- What the laws' own helpers over lists of numbers tell; no condition beyond lengths. -/
import Derived.Test.YtemjfkogaimolaaDoorLwIe
import Derived.Test.YtemjfkogaimolaaDoorXx9
namespace Go.Proofs.YtemjfkogaimolaaDoor.X
open Go.RowKit Go.Proofs.YtemjfkogaimolaaDoorW.PrintWords Go.Proofs.YtemjfkogaimolaaDoorW.PrintLast Go.Proofs.YtemjfkogaimolaaDoorW.PrintMore Go.Proofs.YtemjfkogaimolaaDoor

theorem markIntS_l (n : Nat) (hn : n ≤ 4611686018427387904) (d : Nat) : ∀ (i : Nat) (x : List Int), n - i = d → i ≤ n → x.length = n → (∀ j, j < i → x[j]? = some (1 + (j : Int))) →
    ∃ l', l'.length = n ∧ (∀ j, j < n → l'[j]? = some (1 + (j : Int))) ∧ Ev (fun k => laws_markIntS.l0 k x (1 + (i : Int)) (i : Int)) (1 + (n : Int), l') := by
  induction d with
  | zero =>
    intro i x hd hi hx he
    refine ⟨x, hx, fun j hj => he j (by omega), ?_⟩
    refine Pl.succ ?_
    simp only [laws_markIntS.l0]
    obtain rfl : i = n := by omega
    exact Pl.neg (by omega) (Pl.ret rfl)
  | succ d ih =>
    intro i x hd hi hx he
    obtain ⟨l', h1, h2, h3⟩ := ih (i + 1) (x.set i (1 + (i : Int))) (by omega) (by omega) (by simpa using hx) (by
      intro j hj
      rw [List.getElem?_set]
      by_cases e : i = j
      · subst e
        rw [if_pos rfl, if_pos (by omega)]
      · rw [if_neg e]
        exact he j (by omega))
    refine ⟨l', h1, h2, ?_⟩
    refine Pl.succ ?_
    simp only [laws_markIntS.l0]
    refine Pl.pos (by omega) (Pl.pos (by omega) ?_)
    rw [Pl.w64 (by omega) (by omega), Pl.w64 (by omega) (by omega), Int.toNat_natCast]
    have e : (1 + (i : Int) + 1) = 1 + ((i + 1 : Nat) : Int) := by omega
    rw [e]
    exact h3
theorem heldIntS_l (n : Nat) (hn : n ≤ 4611686018427387904) (l' : List Int) (h1 : l'.length = n) (h2 : ∀ j, j < n → l'[j]? = some (1 + (j : Int))) (d : Nat) : ∀ (i : Nat), n - i = d → i ≤ n →
    Ev (fun k => laws_heldIntS.l0 k l' (1 + (i : Int)) (i : Int)) (1 + (n : Int)) := by
  induction d with
  | zero =>
    intro i hd hi
    refine Pl.succ ?_
    simp only [laws_heldIntS.l0]
    obtain rfl : i = n := by omega
    exact Pl.neg (by omega) (Pl.ret rfl)
  | succ d ih =>
    intro i hd hi
    refine Pl.succ ?_
    simp only [laws_heldIntS.l0]
    have hr : rd l' (i : Int) = 1 + (i : Int) := by
      have := h2 i (by omega)
      rw [List.getElem?_eq_getElem (by omega)] at this
      rw [Pl.rd_nat _ _ (by omega)]
      exact Option.some.inj this
    refine Pl.pos (by omega) (Pl.pos (by omega) (Pl.pos hr ?_))
    rw [Pl.w64 (by omega) (by omega), Pl.w64 (by omega) (by omega)]
    have e : (1 + (i : Int) + 1) = 1 + ((i + 1 : Nat) : Int) := by omega
    rw [e]
    exact ih (i + 1) (by omega) (by omega)
/-- Marked, and held: the marks stand. -/
theorem marksI (l : List Int) (hn : l.length ≤ 4611686018427387904) : ∃ l', Ev (fun k => laws_markIntS.f k l 1) (1 + (l.length : Int), l') ∧ Ev (fun k => laws_heldIntS.f k l' 1) (1 + (l.length : Int)) := by
  obtain ⟨l', h1, h2, h3⟩ := markIntS_l l.length hn l.length 0 l (by omega) (by omega) rfl (fun j hj => absurd hj (Nat.not_lt_zero _))
  exact ⟨l', h3, heldIntS_l l.length hn l' h1 h2 l.length 0 (by omega) (by omega)⟩

end Go.Proofs.YtemjfkogaimolaaDoor.X

/- Sets: program and reference tell the same lists; no condition beyond sizes. -/
import Derived.Test.YtidjjcgfdkmefaaDoorCmp
import Derived.Test.YtidjjcgfdkmefaaDoorXx1
import Derived.Test.YtidjjcgfdkmefaaDoorXx5
import Derived.Test.YtidjjcgfdkmefaaDoorXx7
namespace Go.Proofs.YtidjjcgfdkmefaaDoor.X
open Go.RowKit Go.Proofs.YtidjjcgfdkmefaaDoorW.PrintWords Go.Proofs.YtidjjcgfdkmefaaDoorW.PrintLast Go.Proofs.YtidjjcgfdkmefaaDoorW.PrintMore Go.Proofs.YtidjjcgfdkmefaaDoor

theorem l1In_eq' (a b c : Int) : spec_l1In.f a b c = some (decide (b ≤ a ∧ a ≤ c)) := by
  unfold spec_l1In.f
  by_cases h : b ≤ a
  · rw [if_pos h]; simp [h]
  · rw [if_neg h]; simp [h]
theorem in_eq' (a b c : Int) : impl_in.f a b c = some (decide (b ≤ a ∧ a ≤ c)) := by
  unfold impl_in.f
  by_cases h : b ≤ a
  · rw [if_pos h]; simp [h]
  · rw [if_neg h]; simp [h]
/-- The text may be in a set. -/
def wshort (s : ByteArray) : Bool := decide (1 ≤ s.size ∧ s.size ≤ 8) && (bts s).all isL
theorem wdShort (s : ByteArray) : Ev (fun k => spec_wdShort.f k s) (wshort s) := by
  unfold spec_wdShort.f wshort
  simp only [l1In_eq', Option.bind_some]
  by_cases h : 1 ≤ s.size ∧ s.size ≤ 8
  · rw [decide_eq_true h, Bool.true_and]
    exact Pl.pos (decide_eq_true (by omega)) (Ev.bind (wdIs s (by omega)) (Pl.ret rfl))
  · rw [decide_eq_false h, Bool.false_and]
    exact Pl.neg (by rw [decide_eq_false (by omega)]; decide) (Pl.ret rfl)
theorem isShort_eq (s : ByteArray) : impl_isShort.f s = some (wshort s) := by
  unfold impl_isShort.f wshort
  rw [isWord_eq]
  simp only [in_eq', Option.bind_some]
  unfold wgood
  cases h1 : (bts s).all isL
  · simp
  · by_cases h : 1 ≤ s.size ∧ s.size ≤ 8
    · rw [decide_eq_true h, decide_eq_true (show s.size ≤ 60 by omega)]
      rw [if_pos (by rfl), decide_eq_true (by omega)]; rfl
    · rw [decide_eq_false h]
      by_cases h60 : s.size ≤ 60
      · rw [decide_eq_true h60, if_pos (by rfl), decide_eq_false (by omega)]; rfl
      · rw [decide_eq_false h60, if_neg (by decide)]; rfl
/-- The list is a set. -/
def wset (l : List ByteArray) : Prop := l.length ≤ 12 ∧ (∀ i (h : i < l.length), wshort l[i] = true) ∧ ∀ i (h : i + 1 < l.length), wless l[i] l[i + 1] = true
noncomputable instance (l : List ByteArray) : Decidable (wset l) := Classical.propDecidable _
theorem wdSet_l (l : List ByteArray) (hl : l.length ≤ 12) (d : Nat) : ∀ i, l.length - i = d → i ≤ l.length → (∀ j (h : j < l.length), j < i → wshort l[j] = true) → (∀ j (h : j + 1 < l.length), j + 1 < i → wless l[j] l[j + 1] = true) →
    Ev (fun k => spec_wdSet.l0 k l l (l.length : Int) (i : Int)) (decide (wset l)) := by
  induction d with
  | zero =>
    intro i hd hi h1 h2
    refine Pl.succ ?_
    simp only [spec_wdSet.l0]
    exact Pl.neg (by omega) (Pl.ret (decide_eq_true ⟨hl, fun j h => h1 j h (by omega), fun j h => h2 j h (by omega)⟩).symm)
  | succ d ih =>
    intro i hd hi h1 h2
    have hil : i < l.length := by omega
    refine Pl.succ ?_
    simp only [spec_wdSet.l0, wdLess_eq, Option.bind_some]
    rw [Pl.rdS_nat _ i hil]
    refine Pl.pos (by omega) (Pl.pos (by omega) (Pl.pos (by omega) (Ev.bind (wdShort l[i]) ?_)))
    cases hs : wshort l[i] with
    | false => exact Pl.neg (by decide) (Pl.ret (decide_eq_false (fun h => by rw [h.2.1 i hil] at hs; cases hs)).symm)
    | true =>
      refine Pl.pos rfl ?_
      rw [Pl.w64 (n := (i : Int) + 1) (by omega) (by omega)]
      have hnext : (∀ j (h : j < l.length), j < i + 1 → wshort l[j] = true) := fun j h hj => by
        by_cases e : j = i
        · subst e; exact hs
        · exact h1 j h (by omega)
      cases i with
      | zero =>
        exact Pl.neg (by omega) (ih 1 (by omega) (by omega) hnext (fun j h hj => by omega))
      | succ m =>
        rw [Pl.w64 (n := ((m + 1 : Nat) : Int) - 1) (by omega) (by omega), show ((m + 1 : Nat) : Int) - 1 = (m : Int) by omega, Pl.rdS_nat _ m (by omega)]
        refine Pl.pos (by omega) (Pl.pos (by omega) (Pl.pos (by omega) ?_))
        cases hw : wless l[m] l[m + 1] with
        | false => exact Pl.neg (by decide) (Pl.ret (decide_eq_false (fun h => by rw [h.2.2 m hil] at hw; cases hw)).symm)
        | true =>
          refine Pl.pos rfl (ih (m + 1 + 1) (by omega) (by omega) hnext (fun j h hj => ?_))
          by_cases e : j = m
          · subst e; exact hw
          · exact h2 j h (by omega)
theorem wdSet (l : List ByteArray) : Ev (fun k => spec_wdSet.f k l) (decide (wset l)) := by
  unfold spec_wdSet.f
  by_cases h : l.length ≤ 12
  · exact Pl.neg (by omega) (wdSet_l l h l.length 0 (by omega) (by omega) (fun j _ hj => absurd hj (Nat.not_lt_zero _)) (fun j _ hj => absurd hj (Nat.not_lt_zero _)))
  · exact Pl.pos (by omega) (Pl.ret (decide_eq_false (fun hh => h hh.1)).symm)
theorem isSet_l (l : List ByteArray) (hl : l.length ≤ 4611686018427387904) (d : Nat) : ∀ i, l.length - i = d → i ≤ l.length → (∀ j (h : j < l.length), j < i → wshort l[j] = true) → (∀ j (h : j + 1 < l.length), j + 1 < i → wless l[j] l[j + 1] = true) →
    Ev (fun k => impl_isSet.l0 k l l (l.length : Int) (i : Int)) (decide (wset l)) := by
  induction d with
  | zero =>
    intro i hd hi h1 h2
    refine Pl.succ ?_
    simp only [impl_isSet.l0]
    refine Pl.neg (by omega) (Pl.ret ?_)
    by_cases h : l.length ≤ 12
    · rw [decide_eq_true (show (l.length : Int) ≤ 12 by omega)]
      exact (decide_eq_true ⟨h, fun j h => h1 j h (by omega), fun j h => h2 j h (by omega)⟩).symm
    · rw [decide_eq_false (show ¬ (l.length : Int) ≤ 12 by omega)]
      exact (decide_eq_false (fun hh => h hh.1)).symm
  | succ d ih =>
    intro i hd hi h1 h2
    have hil : i < l.length := by omega
    refine Pl.succ ?_
    simp only [impl_isSet.l0, isShort_eq, Option.bind_some]
    rw [Pl.rdS_nat _ i hil]
    refine Pl.pos (by omega) (Pl.pos (by omega) (Pl.pos (by omega) ?_))
    cases hs : wshort l[i] with
    | false => exact Pl.neg (by decide) (Pl.ret (decide_eq_false (fun h => by rw [h.2.1 i hil] at hs; cases hs)).symm)
    | true =>
      refine Pl.pos rfl ?_
      rw [Pl.w64 (n := (i : Int) + 1) (by omega) (by omega)]
      have hnext : (∀ j (h : j < l.length), j < i + 1 → wshort l[j] = true) := fun j h hj => by
        by_cases e : j = i
        · subst e; exact hs
        · exact h1 j h (by omega)
      cases i with
      | zero =>
        exact Pl.neg (by omega) (ih 1 (by omega) (by omega) hnext (fun j h hj => by omega))
      | succ m =>
        rw [Pl.w64 (n := ((m + 1 : Nat) : Int) - 1) (by omega) (by omega), show ((m + 1 : Nat) : Int) - 1 = (m : Int) by omega, Pl.rdS_nat _ m (by omega)]
        refine Pl.pos (by omega) (Pl.pos (by omega) (Pl.pos (by omega) (Ev.bind (compareWords _ _) ?_)))
        have hc := cmpW_neg l[m] l[m + 1]
        cases hw : wless l[m] l[m + 1] with
        | false =>
          rw [hw, decide_eq_false_iff_not] at hc
          exact Pl.pos (by omega) (Pl.ret (decide_eq_false (fun h => by rw [h.2.2 m hil] at hw; cases hw)).symm)
        | true =>
          rw [hw, decide_eq_true_eq] at hc
          refine Pl.neg (by omega) (ih (m + 1 + 1) (by omega) (by omega) hnext (fun j h hj => ?_))
          by_cases e : j = m
          · subst e; exact hw
          · exact h2 j h (by omega)
theorem isSet (l : List ByteArray) (hl : l.length ≤ 4611686018427387904) : Ev (fun k => impl_isSet.f k l) (decide (wset l)) := by
  unfold impl_isSet.f
  exact isSet_l l hl l.length 0 (by omega) (by omega) (fun j _ hj => absurd hj (Nat.not_lt_zero _)) (fun j _ hj => absurd hj (Nat.not_lt_zero _))

end Go.Proofs.YtidjjcgfdkmefaaDoor.X

/- What the laws' own helpers tell of lists of texts that come in; no condition beyond sizes. -/
import Derived.Test.YtidjjcgfdkmefaaDoorPl
import Derived.Test.YtidjjcgfdkmefaaDoorXx1
namespace Go.Proofs.YtidjjcgfdkmefaaDoor.X
open Go.RowKit Go.Proofs.YtidjjcgfdkmefaaDoorW.PrintWords Go.Proofs.YtidjjcgfdkmefaaDoorW.PrintLast Go.Proofs.YtidjjcgfdkmefaaDoorW.PrintMore Go.Proofs.YtidjjcgfdkmefaaDoor

theorem toStringS_l (l : List ByteArray) (hl : l.length ≤ 1048576) (d : Nat) : ∀ (i : Nat) (x : List ByteArray), l.length - i = d → i ≤ l.length → x.length = l.length → (∀ j, j < i → x[j]? = l[j]?) →
    Ev (fun k => laws_toStringS.l0 k l x (i : Int)) l := by
  induction d with
  | zero =>
    intro i x hd hi hx he
    refine Pl.succ ?_
    simp only [laws_toStringS.l0]
    refine Pl.neg (by omega) (Pl.ret ?_)
    apply List.ext_getElem?
    intro j
    by_cases hj : j < i
    · exact he j hj
    · rw [List.getElem?_eq_none (by omega), List.getElem?_eq_none (by omega)]
  | succ d ih =>
    intro i x hd hi hx he
    refine Pl.succ ?_
    simp only [laws_toStringS.l0]
    refine Pl.pos (by omega) (Pl.pos (by omega) (Pl.pos (by omega) ?_))
    rw [Pl.w64 (by omega) (by omega), Int.toNat_natCast, Pl.rdS_nat _ _ (by omega)]
    refine ih (i + 1) _ (by omega) (by omega) (by simpa using hx) ?_
    intro j hj
    rw [List.getElem?_set]
    by_cases e : i = j
    · subst e
      rw [if_pos rfl, if_pos (by omega), List.getElem?_eq_getElem (by omega)]
    · rw [if_neg e]
      exact he j (by omega)
theorem toStringS (l : List ByteArray) (hl : l.length ≤ 1048576) : Ev (fun k => laws_toStringS.f k l) l := by
  unfold laws_toStringS.f
  refine Pl.pos (by omega) (Pl.pos (by omega) ?_)
  exact toStringS_l l hl l.length 0 _ (by omega) (by omega) (by simp) (fun j hj => absurd hj (Nat.not_lt_zero _))
theorem szStringS_l (l : List ByteArray) (hl : l.length ≤ 1048576) (hs : ∀ s ∈ l, s.size ≤ 9223372036854775807) (d : Nat) : ∀ (i : Nat) (left : Int), l.length - i = d → i ≤ l.length → 0 ≤ left → left ≤ 1048576 →
    ∃ r, Ev (fun k => laws_szStringS.l0 k l left (i : Int)) r ∧ (0 ≤ r → r ≤ left ∧ ∀ j (h : j < l.length), i ≤ j → (l[j].size : Int) ≤ left) := by
  induction d with
  | zero =>
    intro i left hd hi h0 hb
    refine ⟨left, Pl.succ ?_, fun _ => ⟨Int.le_refl _, fun j h hj => by omega⟩⟩
    simp only [laws_szStringS.l0]
    exact Pl.neg (by omega) (Pl.ret rfl)
  | succ d ih =>
    intro i left hd hi h0 hb
    have hil : i < l.length := by omega
    have hsz := hs l[i] (List.getElem_mem hil)
    by_cases hc : left - (l[i].size : Int) < 0
    · refine ⟨-1, Pl.succ ?_, fun h => by omega⟩
      simp only [laws_szStringS.l0]
      rw [Pl.rdS_nat _ i hil, Pl.w64 (n := left - (l[i].size : Int)) (by omega) (by omega)]
      exact Pl.pos (by omega) (Pl.pos (by omega) (Pl.pos hc (Pl.ret rfl)))
    · obtain ⟨r, hr, hq⟩ := ih (i + 1) (left - (l[i].size : Int)) (by omega) (by omega) (by omega) (by omega)
      refine ⟨r, Pl.succ ?_, fun h => ⟨by have := (hq h).1; omega, fun j hj hij => ?_⟩⟩
      · simp only [laws_szStringS.l0]
        rw [Pl.rdS_nat _ i hil, Pl.w64 (n := left - (l[i].size : Int)) (by omega) (by omega), Pl.w64 (n := (i : Int) + 1) (by omega) (by omega)]
        exact Pl.pos (by omega) (Pl.pos (by omega) (Pl.neg hc hr))
      · by_cases e : j = i
        · subst e; omega
        · have := (hq h).2 j hj (by omega); omega
/-- What the size tells: all is small, or the law has nothing to say. -/
theorem szStringS (l : List ByteArray) (hl : l.length * 16 ≤ 140737488351232) (hs : ∀ s ∈ l, s.size ≤ maxLen) (left : Int) (h0 : 0 ≤ left) (hb : left ≤ 1048576) :
    ∃ r, Ev (fun k => laws_szStringS.f k l left) r ∧ (0 ≤ r → r ≤ left ∧ l.length ≤ 1048576 ∧ ∀ s ∈ l, s.size ≤ 1048576) := by
  unfold laws_szStringS.f
  by_cases hc : left - (l.length : Int) < 0
  · refine ⟨-1, ?_, fun h => by omega⟩
    rw [Pl.w64 (by omega) (by omega)]
    exact Pl.pos hc (Pl.ret rfl)
  · have hm : ∀ s ∈ l, s.size ≤ 9223372036854775807 := fun s h => by have := hs s h; unfold maxLen at this; exact this
    obtain ⟨r, hr, hq⟩ := szStringS_l l (by omega) hm l.length 0 (left - (l.length : Int)) (by omega) (by omega) (by omega) (by omega)
    refine ⟨r, ?_, fun h => ⟨by have := (hq h).1; omega, by omega, fun s hs' => ?_⟩⟩
    · rw [Pl.w64 (by omega) (by omega)]
      exact Pl.neg hc hr
    · obtain ⟨j, hj, rfl⟩ := List.getElem_of_mem hs'
      have := (hq h).2 j hj (Nat.zero_le _)
      omega

end Go.Proofs.YtidjjcgfdkmefaaDoor.X

/- What the laws' own helpers over lists of lists of numbers tell; no condition beyond lengths. -/
import Derived.Test.YtidjjcgfdkmefaaDoorLwIe
import Derived.Test.YtidjjcgfdkmefaaDoorXx0
import Derived.Test.YtidjjcgfdkmefaaDoorXx9
import Derived.Test.YtidjjcgfdkmefaaDoorXx10
import Derived.Test.YtidjjcgfdkmefaaDoorXx11
namespace Go.Proofs.YtidjjcgfdkmefaaDoor.X
open Go.RowKit Go.Proofs.YtidjjcgfdkmefaaDoorW.PrintWords Go.Proofs.YtidjjcgfdkmefaaDoorW.PrintLast Go.Proofs.YtidjjcgfdkmefaaDoorW.PrintMore Go.Proofs.YtidjjcgfdkmefaaDoor

theorem rdLL (l : List (List Int)) (i : Nat) (h : i < l.length) : rd_L3 l (i : Int) = l[i] := by
  simp [rd_L3, List.getD_eq_getElem?_getD, h]
theorem eqIntSS_l (l : List (List Int)) (hl : l.length ≤ 1000000) (hr : ∀ r ∈ l, r.length ≤ 1000000) (d : Nat) : ∀ (i : Nat), l.length - i = d → i ≤ l.length → Ev (fun k => laws_eqIntSS.l0 k l l (i : Int)) true := by
  induction d with
  | zero =>
    intro i hd hi
    refine Pl.succ ?_
    simp only [laws_eqIntSS.l0]
    exact Pl.neg (by omega) (Pl.ret rfl)
  | succ d ih =>
    intro i hd hi
    have hil : i < l.length := by omega
    refine Pl.succ ?_
    simp only [laws_eqIntSS.l0]
    rw [rdLL l i hil]
    refine Pl.pos (by omega) (Pl.pos (by omega) (Pl.pos (by omega) (Ev.bind (eqIntS _ (by have := hr _ (List.getElem_mem hil); omega)) (Pl.pos rfl ?_))))
    rw [Pl.w64 (by omega) (by omega)]
    exact ih (i + 1) (by omega) (by omega)
theorem eqIntSS (l : List (List Int)) (hl : l.length ≤ 1000000) (hr : ∀ r ∈ l, r.length ≤ 1000000) : Ev (fun k => laws_eqIntSS.f k l l) true := by
  unfold laws_eqIntSS.f
  exact Pl.pos rfl (eqIntSS_l l hl hr l.length 0 (by omega) (by omega))
theorem markIntS_a (a : Int) (ha : 0 ≤ a ∧ a ≤ 1000000000000000) (n : Nat) (hn : n ≤ 1000000) (d : Nat) : ∀ (i : Nat) (x : List Int), n - i = d → i ≤ n → x.length = n → (∀ j, j < i → x[j]? = some (a + (j : Int))) →
    ∃ l', l'.length = n ∧ (∀ j, j < n → l'[j]? = some (a + (j : Int))) ∧ Ev (fun k => laws_markIntS.l0 k x (a + (i : Int)) (i : Int)) (a + (n : Int), l') := by
  induction d with
  | zero =>
    intro i x hd hi hx he
    refine ⟨x, hx, fun j hj => he j (by omega), ?_⟩
    refine Pl.succ ?_
    simp only [laws_markIntS.l0]
    obtain rfl : i = n := by omega
    exact Pl.neg (by omega) (Pl.ret rfl)
  | succ d ih =>
    intro i x hd hi hx he
    obtain ⟨l', h1, h2, h3⟩ := ih (i + 1) (x.set i (a + (i : Int))) (by omega) (by omega) (by simpa using hx) (by
      intro j hj
      rw [List.getElem?_set]
      by_cases e : i = j
      · subst e
        rw [if_pos rfl, if_pos (by omega)]
      · rw [if_neg e]
        exact he j (by omega))
    refine ⟨l', h1, h2, ?_⟩
    refine Pl.succ ?_
    simp only [laws_markIntS.l0]
    refine Pl.pos (by omega) (Pl.pos (by omega) ?_)
    rw [Pl.w64 (n := (i : Int) + 1) (by omega) (by omega), Pl.w64 (n := a + (i : Int) + 1) (by omega) (by omega), Int.toNat_natCast]
    have e : (a + (i : Int) + 1) = a + ((i + 1 : Nat) : Int) := by omega
    rw [e]
    exact h3
theorem heldIntS_a (a : Int) (ha : 0 ≤ a ∧ a ≤ 1000000000000000) (n : Nat) (hn : n ≤ 1000000) (l' : List Int) (h1 : l'.length = n) (h2 : ∀ j, j < n → l'[j]? = some (a + (j : Int))) (d : Nat) : ∀ (i : Nat), n - i = d → i ≤ n →
    Ev (fun k => laws_heldIntS.l0 k l' (a + (i : Int)) (i : Int)) (a + (n : Int)) := by
  induction d with
  | zero =>
    intro i hd hi
    refine Pl.succ ?_
    simp only [laws_heldIntS.l0]
    obtain rfl : i = n := by omega
    exact Pl.neg (by omega) (Pl.ret rfl)
  | succ d ih =>
    intro i hd hi
    refine Pl.succ ?_
    simp only [laws_heldIntS.l0]
    have hr : rd l' (i : Int) = a + (i : Int) := by
      have := h2 i (by omega)
      rw [List.getElem?_eq_getElem (by omega)] at this
      rw [Pl.rd_nat _ _ (by omega)]
      exact Option.some.inj this
    refine Pl.pos (by omega) (Pl.pos (by omega) (Pl.pos hr ?_))
    rw [Pl.w64 (n := a + (i : Int) + 1) (by omega) (by omega), Pl.w64 (n := (i : Int) + 1) (by omega) (by omega)]
    have e : (a + (i : Int) + 1) = a + ((i + 1 : Nat) : Int) := by omega
    rw [e]
    exact ih (i + 1) (by omega) (by omega)
theorem markIa (l : List Int) (a : Int) (ha : 0 ≤ a ∧ a ≤ 1000000000000000) (hn : l.length ≤ 1000000) : ∃ l', Ev (fun k => laws_markIntS.f k l a) (a + (l.length : Int), l') ∧ Ev (fun k => laws_heldIntS.f k l' a) (a + (l.length : Int)) := by
  obtain ⟨l', h1, h2, h3⟩ := markIntS_a a ha l.length hn l.length 0 l (by omega) (by omega) rfl (fun j hj => absurd hj (Nat.not_lt_zero _))
  refine ⟨l', ?_, ?_⟩
  · have : a + ((0 : Nat) : Int) = a := by omega
    rw [this] at h3
    exact h3
  · have := heldIntS_a a ha l.length hn l' h1 h2 l.length 0 (by omega) (by omega)
    have e : a + ((0 : Nat) : Int) = a := by omega
    rw [e] at this
    exact this
/-- The rows hold the marks from a on; e: what is next. -/
def HeldI : List (List Int) → Int → Int → Prop
  | [], a, e => e = a
  | x :: xs, a, e => ∃ b, 0 ≤ b ∧ Ev (fun k => laws_heldIntS.f k x a) b ∧ HeldI xs b e
theorem marksI_l : ∀ (l : List (List Int)) (a : Int), 0 ≤ a → a + (l.length : Int) * 1000000 ≤ 1000000000000000 → (∀ r ∈ l, r.length ≤ 1000000) → ∃ (l' : List (List Int)) (e : Int), 0 ≤ e ∧ l'.length = l.length ∧ Ev (fun k => mSSI k l a) (e, l') ∧ HeldI l' a e
  | [], a, h0, _, _ => ⟨[], a, h0, rfl, Ev.now _, rfl⟩
  | x :: xs, a, h0, h1, h2 => by
    have hx := h2 x List.mem_cons_self
    rw [List.length_cons] at h1
    obtain ⟨x', q1, q2⟩ := markIa x a ⟨h0, by omega⟩ hx
    obtain ⟨l', e, e0, e1, e2, e3⟩ := marksI_l xs (a + (x.length : Int)) (by omega) (by omega) (fun r hr => h2 r (List.mem_cons_of_mem _ hr))
    refine ⟨x' :: l', e, e0, by rw [List.length_cons, List.length_cons, e1], ?_, ⟨_, by omega, q2, e3⟩⟩
    unfold mSSI
    exact Ev.bind q1 (Ev.bind e2 (Ev.now _))
theorem heldIntSS_l (l : List (List Int)) (hl : l.length ≤ 1000000) : ∀ (suf pre : List (List Int)) (a e : Int), l = pre ++ suf → HeldI suf a e → Ev (fun k => laws_heldIntSS.l0 k l a (pre.length : Int)) e
  | [], pre, a, e, hp, h => by
    refine Pl.succ ?_
    simp only [laws_heldIntSS.l0]
    have : l.length = pre.length := by rw [hp]; simp
    exact Pl.neg (by omega) (Pl.ret h.symm)
  | x :: xs, pre, a, e, hp, h => by
    obtain ⟨b, hb, h1, h2⟩ := h
    have hlen : l.length = pre.length + (xs.length + 1) := by rw [hp]; simp
    have hx : rd_L3 l (pre.length : Int) = x := by rw [rdLL l pre.length (by omega)]; simp [hp]
    refine Pl.succ ?_
    simp only [laws_heldIntSS.l0]
    rw [hx, Pl.w64 (n := (pre.length : Int) + 1) (by omega) (by omega)]
    refine Pl.pos (by omega) (Pl.pos (by omega) (Ev.bind h1 (Pl.neg (by omega) ?_)))
    have := heldIntSS_l l hl xs (pre ++ [x]) b e (by rw [hp]; simp) h2
    rw [List.length_append, List.length_singleton] at this
    exact this
/-- Marked, and held: the marks stand. -/
theorem marksII (l : List (List Int)) (hl : l.length ≤ 1000000) (hr : ∀ r ∈ l, r.length ≤ 1000000) : ∃ (l' : List (List Int)) (e : Int), 0 ≤ e ∧ Ev (fun k => laws_markIntSS.f k l 1) (e, l') ∧ Ev (fun k => laws_heldIntSS.f k l' 1) e := by
  obtain ⟨l', e, e0, e1, e2, e3⟩ := marksI_l l 1 (by omega) (by omega) hr
  exact ⟨l', e, e0, e2, heldIntSS_l l' (by omega) l' [] 1 e rfl e3⟩

end Go.Proofs.YtidjjcgfdkmefaaDoor.X

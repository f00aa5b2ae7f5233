/- LevelsOf: the program's answer is the reference's, for all arguments; no condition. (All that the proof needs of plain lists stands ahead.) -/
import Derived.Test.YtidjjcgfdkmefaaDoorPl
import Derived.Lib.Bytealg
import Derived.Lib.SlicesCompact
import Derived.Sort.Statements
import Derived.Test.YtidjjcgfdkmefaaDoorXx0
import Derived.Test.YtidjjcgfdkmefaaDoorXx1
import Derived.Test.YtidjjcgfdkmefaaDoorXx2
import Derived.Test.YtidjjcgfdkmefaaDoorXx3
import Derived.Test.YtidjjcgfdkmefaaDoorXx4
import Derived.Test.YtidjjcgfdkmefaaDoorXx5
import Derived.Test.YtidjjcgfdkmefaaDoorXx6
import Derived.Test.YtidjjcgfdkmefaaDoorXx7
import Derived.Test.YtidjjcgfdkmefaaDoorXx8
import Derived.Test.YtidjjcgfdkmefaaDoorXx9
import Derived.Test.YtidjjcgfdkmefaaDoorXx10
import Derived.Test.YtidjjcgfdkmefaaDoorXx11
import Derived.Test.YtidjjcgfdkmefaaDoorXx12
import Derived.Test.YtidjjcgfdkmefaaDoorXx13
namespace Go.Proofs.YtidjjcgfdkmefaaDoor.X
open Go.RowKit Go.Proofs.YtidjjcgfdkmefaaDoorW.PrintWords Go.Proofs.YtidjjcgfdkmefaaDoorW.PrintLast Go.Proofs.YtidjjcgfdkmefaaDoorW.PrintMore Go.Proofs.YtidjjcgfdkmefaaDoor

theorem toStringS_l (l : List ByteArray) (hl : l.length ≤ 1048576) (d : Nat) : ∀ (i : Nat) (x : List ByteArray), l.length - i = d → i ≤ l.length → x.length = l.length → (∀ j, j < i → x[j]? = l[j]?) →
    Ev (fun k => laws_toStringS.l0 k l x (i : Int)) l := by
  induction d with
  | zero =>
    intro i x hd hi hx he
    refine Pl.succ ?_
    simp only [laws_toStringS.l0]
    refine Pl.neg (by omega) (Pl.ret ?_)
    apply List.ext_getElem?
    intro j
    by_cases hj : j < i
    · exact he j hj
    · rw [List.getElem?_eq_none (by omega), List.getElem?_eq_none (by omega)]
  | succ d ih =>
    intro i x hd hi hx he
    refine Pl.succ ?_
    simp only [laws_toStringS.l0]
    refine Pl.pos (by omega) (Pl.pos (by omega) (Pl.pos (by omega) ?_))
    rw [Pl.w64 (by omega) (by omega), Int.toNat_natCast, Pl.rdS_nat _ _ (by omega)]
    refine ih (i + 1) _ (by omega) (by omega) (by simpa using hx) ?_
    intro j hj
    rw [List.getElem?_set]
    by_cases e : i = j
    · subst e
      rw [if_pos rfl, if_pos (by omega), List.getElem?_eq_getElem (by omega)]
    · rw [if_neg e]
      exact he j (by omega)
theorem toStringS (l : List ByteArray) (hl : l.length ≤ 1048576) : Ev (fun k => laws_toStringS.f k l) l := by
  unfold laws_toStringS.f
  refine Pl.pos (by omega) (Pl.pos (by omega) ?_)
  exact toStringS_l l hl l.length 0 _ (by omega) (by omega) (by simp) (fun j hj => absurd hj (Nat.not_lt_zero _))
theorem szStringS_l (l : List ByteArray) (hl : l.length ≤ 1048576) (hs : ∀ s ∈ l, s.size ≤ 9223372036854775807) (d : Nat) : ∀ (i : Nat) (left : Int), l.length - i = d → i ≤ l.length → 0 ≤ left → left ≤ 1048576 →
    ∃ r, Ev (fun k => laws_szStringS.l0 k l left (i : Int)) r ∧ (0 ≤ r → r ≤ left ∧ ∀ j (h : j < l.length), i ≤ j → (l[j].size : Int) ≤ left) := by
  induction d with
  | zero =>
    intro i left hd hi h0 hb
    refine ⟨left, Pl.succ ?_, fun _ => ⟨Int.le_refl _, fun j h hj => by omega⟩⟩
    simp only [laws_szStringS.l0]
    exact Pl.neg (by omega) (Pl.ret rfl)
  | succ d ih =>
    intro i left hd hi h0 hb
    have hil : i < l.length := by omega
    have hsz := hs l[i] (List.getElem_mem hil)
    by_cases hc : left - (l[i].size : Int) < 0
    · refine ⟨-1, Pl.succ ?_, fun h => by omega⟩
      simp only [laws_szStringS.l0]
      rw [Pl.rdS_nat _ i hil, Pl.w64 (n := left - (l[i].size : Int)) (by omega) (by omega)]
      exact Pl.pos (by omega) (Pl.pos (by omega) (Pl.pos hc (Pl.ret rfl)))
    · obtain ⟨r, hr, hq⟩ := ih (i + 1) (left - (l[i].size : Int)) (by omega) (by omega) (by omega) (by omega)
      refine ⟨r, Pl.succ ?_, fun h => ⟨by have := (hq h).1; omega, fun j hj hij => ?_⟩⟩
      · simp only [laws_szStringS.l0]
        rw [Pl.rdS_nat _ i hil, Pl.w64 (n := left - (l[i].size : Int)) (by omega) (by omega), Pl.w64 (n := (i : Int) + 1) (by omega) (by omega)]
        exact Pl.pos (by omega) (Pl.pos (by omega) (Pl.neg hc hr))
      · by_cases e : j = i
        · subst e; omega
        · have := (hq h).2 j hj (by omega); omega
/-- What the size tells: all is small, or the law has nothing to say. -/
theorem szStringS (l : List ByteArray) (hl : l.length * 16 ≤ 140737488351232) (hs : ∀ s ∈ l, s.size ≤ maxLen) (left : Int) (h0 : 0 ≤ left) (hb : left ≤ 1048576) :
    ∃ r, Ev (fun k => laws_szStringS.f k l left) r ∧ (0 ≤ r → r ≤ left ∧ l.length ≤ 1048576 ∧ ∀ s ∈ l, s.size ≤ 1048576) := by
  unfold laws_szStringS.f
  by_cases hc : left - (l.length : Int) < 0
  · refine ⟨-1, ?_, fun h => by omega⟩
    rw [Pl.w64 (by omega) (by omega)]
    exact Pl.pos hc (Pl.ret rfl)
  · have hm : ∀ s ∈ l, s.size ≤ 9223372036854775807 := fun s h => by have := hs s h; unfold maxLen at this; exact this
    obtain ⟨r, hr, hq⟩ := szStringS_l l (by omega) hm l.length 0 (left - (l.length : Int)) (by omega) (by omega) (by omega) (by omega)
    refine ⟨r, ?_, fun h => ⟨by have := (hq h).1; omega, by omega, fun s hs' => ?_⟩⟩
    · rw [Pl.w64 (by omega) (by omega)]
      exact Pl.neg hc hr
    · obtain ⟨j, hj, rfl⟩ := List.getElem_of_mem hs'
      have := (hq h).2 j hj (Nat.zero_le _)
      omega

end Go.Proofs.YtidjjcgfdkmefaaDoor.X
namespace Go.Proofs.YtidjjcgfdkmefaaDoor.X
open Go.RowKit Go.Proofs.YtidjjcgfdkmefaaDoorW.PrintWords Go.Proofs.YtidjjcgfdkmefaaDoorW.PrintLast Go.Proofs.YtidjjcgfdkmefaaDoorW.PrintMore Go.Proofs.YtidjjcgfdkmefaaDoor

theorem eqStringS_l (l : List ByteArray) (hl : l.length ≤ 4611686018427387904) (d : Nat) : ∀ (i : Nat), l.length - i = d → i ≤ l.length → Ev (fun k => laws_eqStringS.l0 k l l (i : Int)) true := by
  induction d with
  | zero =>
    intro i hd hi
    refine Pl.succ ?_
    simp only [laws_eqStringS.l0]
    exact Pl.neg (by omega) (Pl.ret rfl)
  | succ d ih =>
    intro i hd hi
    refine Pl.succ ?_
    simp only [laws_eqStringS.l0]
    refine Pl.pos (by omega) (Pl.pos (by omega) (Pl.pos (by omega) (Pl.pos (by first | rfl | trivial) ?_)))
    rw [Pl.w64 (by omega) (by omega)]
    exact ih (i + 1) (by omega) (by omega)
theorem eqStringS (l : List ByteArray) (hl : l.length ≤ 4611686018427387904) : Ev (fun k => laws_eqStringS.f k l l) true := by
  unfold laws_eqStringS.f
  exact Pl.pos rfl (eqStringS_l l hl l.length 0 (by omega) (by omega))


end Go.Proofs.YtidjjcgfdkmefaaDoor.X
namespace Go.Proofs.YtidjjcgfdkmefaaDoor.X
open Go.RowKit Go.Proofs.YtidjjcgfdkmefaaDoorW.PrintWords Go.Proofs.YtidjjcgfdkmefaaDoorW.PrintLast Go.Proofs.YtidjjcgfdkmefaaDoorW.PrintMore Go.Proofs.YtidjjcgfdkmefaaDoor

theorem markText_l (d : Nat) : ∀ (n : Nat) (acc : ByteArray), n < 10 ^ d → n ≤ 1099511627776 → acc.size + d ≤ 1000 → ∃ t, Ev (fun k => laws_markText.l0 k (n : Int) acc) t := by
  induction d with
  | zero =>
    intro n acc hn hq hs
    refine ⟨(⟨#[109]⟩ : ByteArray) ++ acc, Pl.succ ?_⟩
    simp only [laws_markText.l0]
    exact Pl.neg (by omega) (Pl.pos (by omega) (Pl.ret rfl))
  | succ d ih =>
    intro n acc hn hq hs
    by_cases h0 : n = 0
    · refine ⟨(⟨#[109]⟩ : ByteArray) ++ acc, Pl.succ ?_⟩
      simp only [laws_markText.l0]
      exact Pl.neg (by omega) (Pl.pos (by omega) (Pl.ret rfl))
    · have hsz : ∀ y : Int, (strOfNums [y]).size = 1 := fun y => by rw [strOfNums_size]; rfl
      obtain ⟨t, ht⟩ := ih (n / 10) (strOfNums [(wrap64 (48 + (Int.tmod (n : Int) 10))) % 256] ++ acc) (by rw [Nat.pow_succ] at hn; omega) (by omega) (by rw [ByteArray.size_append, hsz]; omega)
      refine ⟨t, Pl.succ ?_⟩
      simp only [laws_markText.l0, Option.bind_some]
      refine Pl.pos (by omega) (Pl.pos (by rw [hsz]; omega) ?_)
      have e : Int.tdiv (n : Int) 10 = ((n / 10 : Nat) : Int) := (Int.ofNat_tdiv n 10).symm
      rw [e, Pl.w64 (by omega) (by omega)]
      exact ht
theorem markText (n : Nat) (h1 : 1 ≤ n) (hn : n ≤ 1099511627776) : ∃ t, Ev (fun k => laws_markText.f k (n : Int)) t := by
  obtain ⟨t, ht⟩ := markText_l 13 n ⟨#[]⟩ (by omega) hn (by decide)
  refine ⟨t, ?_⟩
  unfold laws_markText.f
  exact Pl.neg (by omega) ht

theorem markStringS_l (n : Nat) (hn : n ≤ 1073741824) (d : Nat) : ∀ (i : Nat) (x : List ByteArray), n - i = d → i ≤ n → x.length = n → (∀ j, j < i → ∃ t, x[j]? = some t ∧ Ev (fun k => laws_markText.f k (1 + (j : Int))) t) →
    ∃ l', l'.length = n ∧ (∀ j, j < n → ∃ t, l'[j]? = some t ∧ Ev (fun k => laws_markText.f k (1 + (j : Int))) t) ∧ Ev (fun k => laws_markStringS.l0 k x (1 + (i : Int)) (i : Int)) (1 + (n : Int), l') := by
  induction d with
  | zero =>
    intro i x hd hi hx he
    refine ⟨x, hx, fun j hj => he j (by omega), ?_⟩
    refine Pl.succ ?_
    simp only [laws_markStringS.l0]
    obtain rfl : i = n := by omega
    exact Pl.neg (by omega) (Pl.ret rfl)
  | succ d ih =>
    intro i x hd hi hx he
    obtain ⟨t, ht⟩ := markText (1 + i) (by omega) (by omega)
    have e1 : ((1 + i : Nat) : Int) = 1 + (i : Int) := by omega
    rw [e1] at ht
    obtain ⟨l', h1, h2, h3⟩ := ih (i + 1) (x.set i t) (by omega) (by omega) (by simpa using hx) (by
      intro j hj
      rw [List.getElem?_set]
      by_cases e : i = j
      · subst e
        exact ⟨t, by rw [if_pos rfl, if_pos (by omega)], ht⟩
      · rw [if_neg e]
        exact he j (by omega))
    refine ⟨l', h1, h2, ?_⟩
    refine Pl.succ ?_
    simp only [laws_markStringS.l0]
    refine Pl.pos (by omega) (Ev.bind ht (Pl.pos (by omega) ?_))
    rw [Pl.w64 (by omega) (by omega), Pl.w64 (by omega) (by omega), Int.toNat_natCast]
    have e : (1 + (i : Int) + 1) = 1 + ((i + 1 : Nat) : Int) := by omega
    rw [e]
    exact h3
theorem marksO (l : List ByteArray) (hn : l.length ≤ 1073741824) : ∃ l', Ev (fun k => laws_markStringS.f k l 1) (1 + (l.length : Int), l') := by
  obtain ⟨l', h1, h2, h3⟩ := markStringS_l l.length hn l.length 0 l (by omega) (by omega) rfl (fun j hj => absurd hj (Nat.not_lt_zero _))
  exact ⟨l', h3⟩

end Go.Proofs.YtidjjcgfdkmefaaDoor.X
namespace Go.Proofs.YtidjjcgfdkmefaaDoor.X
open Go.RowKit Go.Proofs.YtidjjcgfdkmefaaDoorW.PrintWords Go.Proofs.YtidjjcgfdkmefaaDoorW.PrintLast Go.Proofs.YtidjjcgfdkmefaaDoorW.PrintMore Go.Proofs.YtidjjcgfdkmefaaDoor

theorem eqIntS_l (l : List Int) (hl : l.length ≤ 4611686018427387904) (d : Nat) : ∀ (i : Nat), l.length - i = d → i ≤ l.length → Ev (fun k => laws_eqIntS.l0 k l l (i : Int)) true := by
  induction d with
  | zero =>
    intro i hd hi
    refine Pl.succ ?_
    simp only [laws_eqIntS.l0]
    exact Pl.neg (by omega) (Pl.ret rfl)
  | succ d ih =>
    intro i hd hi
    refine Pl.succ ?_
    simp only [laws_eqIntS.l0]
    refine Pl.pos (by omega) (Pl.pos (by omega) (Pl.pos (by omega) (Pl.pos trivial ?_)))
    rw [Pl.w64 (by omega) (by omega)]
    exact ih (i + 1) (by omega) (by omega)
theorem eqIntS (l : List Int) (hl : l.length ≤ 4611686018427387904) : Ev (fun k => laws_eqIntS.f k l l) true := by
  unfold laws_eqIntS.f
  exact Pl.pos rfl (eqIntS_l l hl l.length 0 (by omega) (by omega))


end Go.Proofs.YtidjjcgfdkmefaaDoor.X
namespace Go.Proofs.YtidjjcgfdkmefaaDoor.X
open Go.RowKit Go.Proofs.YtidjjcgfdkmefaaDoorW.PrintWords Go.Proofs.YtidjjcgfdkmefaaDoorW.PrintLast Go.Proofs.YtidjjcgfdkmefaaDoorW.PrintMore Go.Proofs.YtidjjcgfdkmefaaDoor

theorem rdLL (l : List (List Int)) (i : Nat) (h : i < l.length) : rd_L3 l (i : Int) = l[i] := by
  simp [rd_L3, List.getD_eq_getElem?_getD, h]
theorem eqIntSS_l (l : List (List Int)) (hl : l.length ≤ 1000000) (hr : ∀ r ∈ l, r.length ≤ 1000000) (d : Nat) : ∀ (i : Nat), l.length - i = d → i ≤ l.length → Ev (fun k => laws_eqIntSS.l0 k l l (i : Int)) true := by
  induction d with
  | zero =>
    intro i hd hi
    refine Pl.succ ?_
    simp only [laws_eqIntSS.l0]
    exact Pl.neg (by omega) (Pl.ret rfl)
  | succ d ih =>
    intro i hd hi
    have hil : i < l.length := by omega
    refine Pl.succ ?_
    simp only [laws_eqIntSS.l0]
    rw [rdLL l i hil]
    refine Pl.pos (by omega) (Pl.pos (by omega) (Pl.pos (by omega) (Ev.bind (eqIntS _ (by have := hr _ (List.getElem_mem hil); omega)) (Pl.pos rfl ?_))))
    rw [Pl.w64 (by omega) (by omega)]
    exact ih (i + 1) (by omega) (by omega)
theorem eqIntSS (l : List (List Int)) (hl : l.length ≤ 1000000) (hr : ∀ r ∈ l, r.length ≤ 1000000) : Ev (fun k => laws_eqIntSS.f k l l) true := by
  unfold laws_eqIntSS.f
  exact Pl.pos rfl (eqIntSS_l l hl hr l.length 0 (by omega) (by omega))
theorem markIntS_a (a : Int) (ha : 0 ≤ a ∧ a ≤ 1000000000000000) (n : Nat) (hn : n ≤ 1000000) (d : Nat) : ∀ (i : Nat) (x : List Int), n - i = d → i ≤ n → x.length = n → (∀ j, j < i → x[j]? = some (a + (j : Int))) →
    ∃ l', l'.length = n ∧ (∀ j, j < n → l'[j]? = some (a + (j : Int))) ∧ Ev (fun k => laws_markIntS.l0 k x (a + (i : Int)) (i : Int)) (a + (n : Int), l') := by
  induction d with
  | zero =>
    intro i x hd hi hx he
    refine ⟨x, hx, fun j hj => he j (by omega), ?_⟩
    refine Pl.succ ?_
    simp only [laws_markIntS.l0]
    obtain rfl : i = n := by omega
    exact Pl.neg (by omega) (Pl.ret rfl)
  | succ d ih =>
    intro i x hd hi hx he
    obtain ⟨l', h1, h2, h3⟩ := ih (i + 1) (x.set i (a + (i : Int))) (by omega) (by omega) (by simpa using hx) (by
      intro j hj
      rw [List.getElem?_set]
      by_cases e : i = j
      · subst e
        rw [if_pos rfl, if_pos (by omega)]
      · rw [if_neg e]
        exact he j (by omega))
    refine ⟨l', h1, h2, ?_⟩
    refine Pl.succ ?_
    simp only [laws_markIntS.l0]
    refine Pl.pos (by omega) (Pl.pos (by omega) ?_)
    rw [Pl.w64 (n := (i : Int) + 1) (by omega) (by omega), Pl.w64 (n := a + (i : Int) + 1) (by omega) (by omega), Int.toNat_natCast]
    have e : (a + (i : Int) + 1) = a + ((i + 1 : Nat) : Int) := by omega
    rw [e]
    exact h3
theorem heldIntS_a (a : Int) (ha : 0 ≤ a ∧ a ≤ 1000000000000000) (n : Nat) (hn : n ≤ 1000000) (l' : List Int) (h1 : l'.length = n) (h2 : ∀ j, j < n → l'[j]? = some (a + (j : Int))) (d : Nat) : ∀ (i : Nat), n - i = d → i ≤ n →
    Ev (fun k => laws_heldIntS.l0 k l' (a + (i : Int)) (i : Int)) (a + (n : Int)) := by
  induction d with
  | zero =>
    intro i hd hi
    refine Pl.succ ?_
    simp only [laws_heldIntS.l0]
    obtain rfl : i = n := by omega
    exact Pl.neg (by omega) (Pl.ret rfl)
  | succ d ih =>
    intro i hd hi
    refine Pl.succ ?_
    simp only [laws_heldIntS.l0]
    have hr : rd l' (i : Int) = a + (i : Int) := by
      have := h2 i (by omega)
      rw [List.getElem?_eq_getElem (by omega)] at this
      rw [Pl.rd_nat _ _ (by omega)]
      exact Option.some.inj this
    refine Pl.pos (by omega) (Pl.pos (by omega) (Pl.pos hr ?_))
    rw [Pl.w64 (n := a + (i : Int) + 1) (by omega) (by omega), Pl.w64 (n := (i : Int) + 1) (by omega) (by omega)]
    have e : (a + (i : Int) + 1) = a + ((i + 1 : Nat) : Int) := by omega
    rw [e]
    exact ih (i + 1) (by omega) (by omega)
theorem markIa (l : List Int) (a : Int) (ha : 0 ≤ a ∧ a ≤ 1000000000000000) (hn : l.length ≤ 1000000) : ∃ l', Ev (fun k => laws_markIntS.f k l a) (a + (l.length : Int), l') ∧ Ev (fun k => laws_heldIntS.f k l' a) (a + (l.length : Int)) := by
  obtain ⟨l', h1, h2, h3⟩ := markIntS_a a ha l.length hn l.length 0 l (by omega) (by omega) rfl (fun j hj => absurd hj (Nat.not_lt_zero _))
  refine ⟨l', ?_, ?_⟩
  · have : a + ((0 : Nat) : Int) = a := by omega
    rw [this] at h3
    exact h3
  · have := heldIntS_a a ha l.length hn l' h1 h2 l.length 0 (by omega) (by omega)
    have e : a + ((0 : Nat) : Int) = a := by omega
    rw [e] at this
    exact this
/-- The rows hold the marks from a on; e: what is next. -/
def HeldI : List (List Int) → Int → Int → Prop
  | [], a, e => e = a
  | x :: xs, a, e => ∃ b, 0 ≤ b ∧ Ev (fun k => laws_heldIntS.f k x a) b ∧ HeldI xs b e
theorem marksI_l : ∀ (l : List (List Int)) (a : Int), 0 ≤ a → a + (l.length : Int) * 1000000 ≤ 1000000000000000 → (∀ r ∈ l, r.length ≤ 1000000) → ∃ (l' : List (List Int)) (e : Int), 0 ≤ e ∧ l'.length = l.length ∧ Ev (fun k => mSSI k l a) (e, l') ∧ HeldI l' a e
  | [], a, h0, _, _ => ⟨[], a, h0, rfl, Ev.now _, rfl⟩
  | x :: xs, a, h0, h1, h2 => by
    have hx := h2 x List.mem_cons_self
    rw [List.length_cons] at h1
    obtain ⟨x', q1, q2⟩ := markIa x a ⟨h0, by omega⟩ hx
    obtain ⟨l', e, e0, e1, e2, e3⟩ := marksI_l xs (a + (x.length : Int)) (by omega) (by omega) (fun r hr => h2 r (List.mem_cons_of_mem _ hr))
    refine ⟨x' :: l', e, e0, by rw [List.length_cons, List.length_cons, e1], ?_, ⟨_, by omega, q2, e3⟩⟩
    unfold mSSI
    exact Ev.bind q1 (Ev.bind e2 (Ev.now _))
theorem heldIntSS_l (l : List (List Int)) (hl : l.length ≤ 1000000) : ∀ (suf pre : List (List Int)) (a e : Int), l = pre ++ suf → HeldI suf a e → Ev (fun k => laws_heldIntSS.l0 k l a (pre.length : Int)) e
  | [], pre, a, e, hp, h => by
    refine Pl.succ ?_
    simp only [laws_heldIntSS.l0]
    have : l.length = pre.length := by rw [hp]; simp
    exact Pl.neg (by omega) (Pl.ret h.symm)
  | x :: xs, pre, a, e, hp, h => by
    obtain ⟨b, hb, h1, h2⟩ := h
    have hlen : l.length = pre.length + (xs.length + 1) := by rw [hp]; simp
    have hx : rd_L3 l (pre.length : Int) = x := by rw [rdLL l pre.length (by omega)]; simp [hp]
    refine Pl.succ ?_
    simp only [laws_heldIntSS.l0]
    rw [hx, Pl.w64 (n := (pre.length : Int) + 1) (by omega) (by omega)]
    refine Pl.pos (by omega) (Pl.pos (by omega) (Ev.bind h1 (Pl.neg (by omega) ?_)))
    have := heldIntSS_l l hl xs (pre ++ [x]) b e (by rw [hp]; simp) h2
    rw [List.length_append, List.length_singleton] at this
    exact this
/-- Marked, and held: the marks stand. -/
theorem marksII (l : List (List Int)) (hl : l.length ≤ 1000000) (hr : ∀ r ∈ l, r.length ≤ 1000000) : ∃ (l' : List (List Int)) (e : Int), 0 ≤ e ∧ Ev (fun k => laws_markIntSS.f k l 1) (e, l') ∧ Ev (fun k => laws_heldIntSS.f k l' 1) e := by
  obtain ⟨l', e, e0, e1, e2, e3⟩ := marksI_l l 1 (by omega) (by omega) hr
  exact ⟨l', e, e0, e2, heldIntSS_l l' (by omega) l' [] 1 e rfl e3⟩

end Go.Proofs.YtidjjcgfdkmefaaDoor.X
namespace Go.Proofs.YtidjjcgfdkmefaaDoor.X
open Go.RowKit Go.Proofs.YtidjjcgfdkmefaaDoorW.PrintWords Go.Proofs.YtidjjcgfdkmefaaDoorW.PrintLast Go.Proofs.YtidjjcgfdkmefaaDoorW.PrintMore Go.Proofs.YtidjjcgfdkmefaaDoor

/-- A text's bytes. -/
abbrev bts (s : ByteArray) : List UInt8 := s.data.toList
theorem bts_len (s : ByteArray) : (bts s).length = s.size := by rw [bts, Array.length_toList]; rfl
theorem bt_nat (s : ByteArray) (i : Nat) (h : i < s.size) : bt s (i : Int) = (((bts s)[i]'(by rw [bts_len]; exact h)).toNat : Int) := by
  unfold bt
  rw [dif_pos (by simpa using h)]
  simp only [Int.toNat_natCast, bts, Array.getElem_toList]
  rfl
theorem isL_iff (b : UInt8) : isL b = true ↔ 97 ≤ b.toNat ∧ b.toNat ≤ 99 := by
  simp only [isL, Bool.or_eq_true, beq_iff_eq, ← UInt8.toNat_inj]
  show ((b.toNat = 97 ∨ b.toNat = 98) ∨ b.toNat = 99) ↔ _
  omega
theorem drop_cons' {α : Type} (l : List α) (i : Nat) (h : i < l.length) : l.drop i = l[i] :: l.drop (i + 1) := List.drop_eq_getElem_cons h
theorem wdIs_l (s : ByteArray) (hs : s.size ≤ 4611686018427387904) (d : Nat) : ∀ i : Nat, s.size - i = d → i ≤ s.size → Ev (fun k => spec_wdIs.l0 k s (i : Int)) (((bts s).drop i).all isL) := by
  induction d with
  | zero =>
    intro i hd hi
    refine Pl.succ ?_
    simp only [spec_wdIs.l0]
    exact Pl.neg (by omega) (Pl.ret (by rw [List.drop_of_length_le (by rw [bts_len]; omega)]; rfl))
  | succ d ih =>
    intro i hd hi
    have hl : i < (bts s).length := by rw [bts_len]; omega
    rw [drop_cons' _ i hl, List.all_cons]
    refine Pl.succ ?_
    simp only [spec_wdIs.l0]
    rw [bt_nat s i (by omega), Pl.w64 (by omega) (by omega)]
    have hb : ((bts s)[i]).toNat < 256 := UInt8.toNat_lt _
    have hL := isL_iff ((bts s)[i])
    refine Pl.pos (by omega) (Pl.pos (by omega) ?_)
    cases hq : isL ((bts s)[i]) with
    | true =>
      have := hL.1 hq
      exact Pl.neg (by omega) (Pl.neg (by omega) (ih (i + 1) (by omega) (by omega)))
    | false =>
      have hn : ¬ (97 ≤ ((bts s)[i]).toNat ∧ ((bts s)[i]).toNat ≤ 99) := fun h => by rw [hL.2 h] at hq; cases hq
      rw [Bool.false_and]
      by_cases h1 : (((bts s)[i]).toNat : Int) < 97
      · exact Pl.pos h1 (Pl.ret rfl)
      · exact Pl.neg h1 (Pl.pos (by omega) (Pl.ret rfl))
theorem wdIs (s : ByteArray) (hs : s.size ≤ 4611686018427387904) : Ev (fun k => spec_wdIs.f k s) ((bts s).all isL) := by
  unfold spec_wdIs.f
  exact wdIs_l s hs s.size 0 (by omega) (by omega)
/-- The text is a word. -/
def wgood (s : ByteArray) : Bool := decide (s.size ≤ 60) && (bts s).all isL
theorem isWord_eq (s : ByteArray) : impl_isWord.f s = some (wgood s) := rfl
theorem wgood_size {s : ByteArray} (h : wgood s = true) : s.size ≤ 60 := by
  simp only [wgood, Bool.and_eq_true, decide_eq_true_eq] at h
  exact h.1

end Go.Proofs.YtidjjcgfdkmefaaDoor.X
namespace Go.Proofs.YtidjjcgfdkmefaaDoor.X
open Go.RowKit Go.Proofs.YtidjjcgfdkmefaaDoorW.PrintWords Go.Proofs.YtidjjcgfdkmefaaDoorW.PrintLast Go.Proofs.YtidjjcgfdkmefaaDoorW.PrintMore Go.Proofs.YtidjjcgfdkmefaaDoor

/-- One word comes before another one. -/
def wless (s t : ByteArray) : Bool := decide (s.size < t.size) || (decide (s.size = t.size) && Op.bytesLess (bts s) (bts t))
/-- The comparison as a number. -/
def cmpW (s t : ByteArray) : Int := if s.size < t.size then -1 else if t.size < s.size then 1 else Lib.compareBytes (bts s) (bts t)
theorem u8_lt_iff (a b : UInt8) : a < b ↔ a.toNat < b.toNat := UInt8.lt_iff_toNat_lt
theorem cmpB_neg : ∀ x y : List UInt8, decide (Lib.compareBytes x y < 0) = Op.bytesLess x y
  | [], [] => by simp [Lib.compareBytes, Op.bytesLess]
  | [], _ :: _ => by simp [Lib.compareBytes, Op.bytesLess]
  | _ :: _, [] => by simp [Lib.compareBytes, Op.bytesLess]
  | a :: x, b :: y => by
    have ih := cmpB_neg x y
    rw [Lib.compareBytes, Op.bytesLess]
    by_cases h1 : a < b
    · simp [h1]
    · by_cases h2 : b < a
      · have h3 : ¬ a = b := by
          rintro rfl
          rw [u8_lt_iff] at h2
          omega
        simp [h1, h2, h3]
      · have h3 : a = b := by
          rw [u8_lt_iff] at h1 h2
          exact UInt8.toNat_inj.1 (by omega)
        subst h3
        simp only [h1, if_false, ih, beq_self_eq_true, Bool.true_and, decide_false, Bool.false_or]
theorem cmpW_neg (s t : ByteArray) : decide (cmpW s t < 0) = wless s t := by
  unfold cmpW wless
  by_cases h1 : s.size < t.size
  · simp [h1]
  · by_cases h2 : t.size < s.size
    · have : ¬ s.size = t.size := by omega
      simp [h1, h2, this]
    · have : s.size = t.size := by omega
      rw [if_neg h1, if_neg h2, cmpB_neg, decide_eq_false h1, decide_eq_true this]
      rfl
theorem wdLess_eq (s t : ByteArray) : spec_wdLess.f s t = some (wless s t) := by
  unfold spec_wdLess.f wless
  by_cases h1 : s.size < t.size
  · rw [if_pos (by omega), decide_eq_true h1]; rfl
  · rw [if_neg (by omega), decide_eq_false h1]
    by_cases h2 : s.size = t.size
    · rw [if_pos (by omega), decide_eq_true h2, Pl.toL, Pl.toL]; rfl
    · rw [if_neg (by omega), decide_eq_false h2]; rfl
theorem cmpInt_eq (a b : Int) : cmp_Compare_int.f a b = some (if a < b then -1 else if a > b then 1 else 0) := by
  unfold cmp_Compare_int.f cmp_isNaN_int.f
  by_cases h1 : a < b
  · simp [h1]
  · by_cases h2 : a > b
    · simp [h1, h2]
    · simp [h1, h2]
theorem cmpOr (a b : Int) : Ev (fun k => cmp_Or_int.f k [a, b]) (if a = 0 then b else a) := by
  have r0 : rd [a, b] (0 : Int) = a := rfl
  have r1 : rd [a, b] (1 : Int) = b := rfl
  unfold cmp_Or_int.f
  refine Pl.succ ?_
  simp only [cmp_Or_int.l0, List.length_cons, List.length_nil, r0]
  refine Pl.pos (by omega) (Pl.pos (by omega) (Pl.pos (by omega) ?_))
  by_cases h : a = 0
  · rw [if_pos h]
    refine Pl.pos h (Pl.succ ?_)
    rw [Pl.w64 (by omega) (by omega)]
    simp only [cmp_Or_int.l0, Int.zero_add, r1, List.length_cons, List.length_nil]
    refine Pl.pos (by omega) (Pl.pos (by omega) (Pl.pos (by omega) ?_))
    by_cases h2 : b = 0
    · refine Pl.pos h2 (Pl.succ ?_)
      rw [Pl.w64 (by omega) (by omega)]
      simp only [cmp_Or_int.l0]
      exact Pl.neg (by omega) (Pl.ret h2.symm)
    · exact Pl.neg h2 (Pl.ret rfl)
  · rw [if_neg h]
    exact Pl.neg h (Pl.ret rfl)
theorem compareWords (s t : ByteArray) : Ev (fun k => impl_compareWords.f k s t) (cmpW s t) := by
  unfold impl_compareWords.f cmpW
  simp only [cmpInt_eq, strings_Compare.f, Option.bind_some]
  refine Ev.bind (cmpOr _ _) (Pl.ret ?_)
  by_cases h1 : s.size < t.size
  · have e1 : (s.size : Int) < t.size := by omega
    simp [h1, e1]
  · have e1 : ¬ (s.size : Int) < t.size := by omega
    by_cases h2 : t.size < s.size
    · have e2 : (t.size : Int) < s.size := by omega
      simp [h1, e1, h2, e2]
    · have e2 : ¬ (t.size : Int) < s.size := by omega
      simp [h1, e1, h2, e2]

end Go.Proofs.YtidjjcgfdkmefaaDoor.X
namespace Go.Proofs.YtidjjcgfdkmefaaDoor.X
open Go.RowKit Go.Proofs.YtidjjcgfdkmefaaDoorW.PrintWords Go.Proofs.YtidjjcgfdkmefaaDoorW.PrintLast Go.Proofs.YtidjjcgfdkmefaaDoorW.PrintMore Go.Proofs.YtidjjcgfdkmefaaDoor

theorem l1In_eq' (a b c : Int) : spec_l1In.f a b c = some (decide (b ≤ a ∧ a ≤ c)) := by
  unfold spec_l1In.f
  by_cases h : b ≤ a
  · rw [if_pos h]; simp [h]
  · rw [if_neg h]; simp [h]
theorem in_eq' (a b c : Int) : impl_in.f a b c = some (decide (b ≤ a ∧ a ≤ c)) := by
  unfold impl_in.f
  by_cases h : b ≤ a
  · rw [if_pos h]; simp [h]
  · rw [if_neg h]; simp [h]
/-- The text may be in a set. -/
def wshort (s : ByteArray) : Bool := decide (1 ≤ s.size ∧ s.size ≤ 8) && (bts s).all isL
theorem wdShort (s : ByteArray) : Ev (fun k => spec_wdShort.f k s) (wshort s) := by
  unfold spec_wdShort.f wshort
  simp only [l1In_eq', Option.bind_some]
  by_cases h : 1 ≤ s.size ∧ s.size ≤ 8
  · rw [decide_eq_true h, Bool.true_and]
    exact Pl.pos (decide_eq_true (by omega)) (Ev.bind (wdIs s (by omega)) (Pl.ret rfl))
  · rw [decide_eq_false h, Bool.false_and]
    exact Pl.neg (by rw [decide_eq_false (by omega)]; decide) (Pl.ret rfl)
theorem isShort_eq (s : ByteArray) : impl_isShort.f s = some (wshort s) := by
  unfold impl_isShort.f wshort
  rw [isWord_eq]
  simp only [in_eq', Option.bind_some]
  unfold wgood
  cases h1 : (bts s).all isL
  · simp
  · by_cases h : 1 ≤ s.size ∧ s.size ≤ 8
    · rw [decide_eq_true h, decide_eq_true (show s.size ≤ 60 by omega)]
      rw [if_pos (by rfl), decide_eq_true (by omega)]; rfl
    · rw [decide_eq_false h]
      by_cases h60 : s.size ≤ 60
      · rw [decide_eq_true h60, if_pos (by rfl), decide_eq_false (by omega)]; rfl
      · rw [decide_eq_false h60, if_neg (by decide)]; rfl
/-- The list is a set. -/
def wset (l : List ByteArray) : Prop := l.length ≤ 12 ∧ (∀ i (h : i < l.length), wshort l[i] = true) ∧ ∀ i (h : i + 1 < l.length), wless l[i] l[i + 1] = true
noncomputable instance (l : List ByteArray) : Decidable (wset l) := Classical.propDecidable _
theorem wdSet_l (l : List ByteArray) (hl : l.length ≤ 12) (d : Nat) : ∀ i, l.length - i = d → i ≤ l.length → (∀ j (h : j < l.length), j < i → wshort l[j] = true) → (∀ j (h : j + 1 < l.length), j + 1 < i → wless l[j] l[j + 1] = true) →
    Ev (fun k => spec_wdSet.l0 k l l (l.length : Int) (i : Int)) (decide (wset l)) := by
  induction d with
  | zero =>
    intro i hd hi h1 h2
    refine Pl.succ ?_
    simp only [spec_wdSet.l0]
    exact Pl.neg (by omega) (Pl.ret (decide_eq_true ⟨hl, fun j h => h1 j h (by omega), fun j h => h2 j h (by omega)⟩).symm)
  | succ d ih =>
    intro i hd hi h1 h2
    have hil : i < l.length := by omega
    refine Pl.succ ?_
    simp only [spec_wdSet.l0, wdLess_eq, Option.bind_some]
    rw [Pl.rdS_nat _ i hil]
    refine Pl.pos (by omega) (Pl.pos (by omega) (Pl.pos (by omega) (Ev.bind (wdShort l[i]) ?_)))
    cases hs : wshort l[i] with
    | false => exact Pl.neg (by decide) (Pl.ret (decide_eq_false (fun h => by rw [h.2.1 i hil] at hs; cases hs)).symm)
    | true =>
      refine Pl.pos rfl ?_
      rw [Pl.w64 (n := (i : Int) + 1) (by omega) (by omega)]
      have hnext : (∀ j (h : j < l.length), j < i + 1 → wshort l[j] = true) := fun j h hj => by
        by_cases e : j = i
        · subst e; exact hs
        · exact h1 j h (by omega)
      cases i with
      | zero =>
        exact Pl.neg (by omega) (ih 1 (by omega) (by omega) hnext (fun j h hj => by omega))
      | succ m =>
        rw [Pl.w64 (n := ((m + 1 : Nat) : Int) - 1) (by omega) (by omega), show ((m + 1 : Nat) : Int) - 1 = (m : Int) by omega, Pl.rdS_nat _ m (by omega)]
        refine Pl.pos (by omega) (Pl.pos (by omega) (Pl.pos (by omega) ?_))
        cases hw : wless l[m] l[m + 1] with
        | false => exact Pl.neg (by decide) (Pl.ret (decide_eq_false (fun h => by rw [h.2.2 m hil] at hw; cases hw)).symm)
        | true =>
          refine Pl.pos rfl (ih (m + 1 + 1) (by omega) (by omega) hnext (fun j h hj => ?_))
          by_cases e : j = m
          · subst e; exact hw
          · exact h2 j h (by omega)
theorem wdSet (l : List ByteArray) : Ev (fun k => spec_wdSet.f k l) (decide (wset l)) := by
  unfold spec_wdSet.f
  by_cases h : l.length ≤ 12
  · exact Pl.neg (by omega) (wdSet_l l h l.length 0 (by omega) (by omega) (fun j _ hj => absurd hj (Nat.not_lt_zero _)) (fun j _ hj => absurd hj (Nat.not_lt_zero _)))
  · exact Pl.pos (by omega) (Pl.ret (decide_eq_false (fun hh => h hh.1)).symm)
theorem isSet_l (l : List ByteArray) (hl : l.length ≤ 4611686018427387904) (d : Nat) : ∀ i, l.length - i = d → i ≤ l.length → (∀ j (h : j < l.length), j < i → wshort l[j] = true) → (∀ j (h : j + 1 < l.length), j + 1 < i → wless l[j] l[j + 1] = true) →
    Ev (fun k => impl_isSet.l0 k l l (l.length : Int) (i : Int)) (decide (wset l)) := by
  induction d with
  | zero =>
    intro i hd hi h1 h2
    refine Pl.succ ?_
    simp only [impl_isSet.l0]
    refine Pl.neg (by omega) (Pl.ret ?_)
    by_cases h : l.length ≤ 12
    · rw [decide_eq_true (show (l.length : Int) ≤ 12 by omega)]
      exact (decide_eq_true ⟨h, fun j h => h1 j h (by omega), fun j h => h2 j h (by omega)⟩).symm
    · rw [decide_eq_false (show ¬ (l.length : Int) ≤ 12 by omega)]
      exact (decide_eq_false (fun hh => h hh.1)).symm
  | succ d ih =>
    intro i hd hi h1 h2
    have hil : i < l.length := by omega
    refine Pl.succ ?_
    simp only [impl_isSet.l0, isShort_eq, Option.bind_some]
    rw [Pl.rdS_nat _ i hil]
    refine Pl.pos (by omega) (Pl.pos (by omega) (Pl.pos (by omega) ?_))
    cases hs : wshort l[i] with
    | false => exact Pl.neg (by decide) (Pl.ret (decide_eq_false (fun h => by rw [h.2.1 i hil] at hs; cases hs)).symm)
    | true =>
      refine Pl.pos rfl ?_
      rw [Pl.w64 (n := (i : Int) + 1) (by omega) (by omega)]
      have hnext : (∀ j (h : j < l.length), j < i + 1 → wshort l[j] = true) := fun j h hj => by
        by_cases e : j = i
        · subst e; exact hs
        · exact h1 j h (by omega)
      cases i with
      | zero =>
        exact Pl.neg (by omega) (ih 1 (by omega) (by omega) hnext (fun j h hj => by omega))
      | succ m =>
        rw [Pl.w64 (n := ((m + 1 : Nat) : Int) - 1) (by omega) (by omega), show ((m + 1 : Nat) : Int) - 1 = (m : Int) by omega, Pl.rdS_nat _ m (by omega)]
        refine Pl.pos (by omega) (Pl.pos (by omega) (Pl.pos (by omega) (Ev.bind (compareWords _ _) ?_)))
        have hc := cmpW_neg l[m] l[m + 1]
        cases hw : wless l[m] l[m + 1] with
        | false =>
          rw [hw, decide_eq_false_iff_not] at hc
          exact Pl.pos (by omega) (Pl.ret (decide_eq_false (fun h => by rw [h.2.2 m hil] at hw; cases hw)).symm)
        | true =>
          rw [hw, decide_eq_true_eq] at hc
          refine Pl.neg (by omega) (ih (m + 1 + 1) (by omega) (by omega) hnext (fun j h hj => ?_))
          by_cases e : j = m
          · subst e; exact hw
          · exact h2 j h (by omega)
theorem isSet (l : List ByteArray) (hl : l.length ≤ 4611686018427387904) : Ev (fun k => impl_isSet.f k l) (decide (wset l)) := by
  unfold impl_isSet.f
  exact isSet_l l hl l.length 0 (by omega) (by omega) (fun j _ hj => absurd hj (Nat.not_lt_zero _)) (fun j _ hj => absurd hj (Nat.not_lt_zero _))

end Go.Proofs.YtidjjcgfdkmefaaDoor.X
namespace Go.Proofs.YtidjjcgfdkmefaaDoor.X
open Go.RowKit Go.Proofs.YtidjjcgfdkmefaaDoorW.PrintWords Go.Proofs.YtidjjcgfdkmefaaDoorW.PrintLast Go.Proofs.YtidjjcgfdkmefaaDoorW.PrintMore Go.Proofs.YtidjjcgfdkmefaaDoor

theorem bytesLess_irrefl : ∀ x : List UInt8, Op.bytesLess x x = false
  | [] => rfl
  | a :: x => by
    rw [Op.bytesLess, bytesLess_irrefl x]
    simp
theorem bytesLess_trans : ∀ x y z : List UInt8, Op.bytesLess x y = true → Op.bytesLess y z = true → Op.bytesLess x z = true
  | [], [], _, h, _ => by cases h
  | [], _ :: _, [], _, h => by cases h
  | [], _ :: _, _ :: _, _, _ => rfl
  | _ :: _, [], _, h, _ => by cases h
  | _ :: _, _ :: _, [], _, h => by cases h
  | a :: x, b :: y, c :: z, h1, h2 => by
    rw [Op.bytesLess] at h1 h2 ⊢
    simp only [Bool.or_eq_true, Bool.and_eq_true, decide_eq_true_eq, beq_iff_eq] at h1 h2 ⊢
    rcases h1 with h1 | ⟨rfl, h1⟩
    · rcases h2 with h2 | ⟨rfl, h2⟩
      · left
        rw [u8_lt_iff] at h1 h2 ⊢
        omega
      · exact .inl h1
    · rcases h2 with h2 | ⟨rfl, h2⟩
      · exact .inl h2
      · exact .inr ⟨rfl, bytesLess_trans x y z h1 h2⟩
theorem wless_irrefl (s : ByteArray) : wless s s = false := by
  unfold wless
  rw [bytesLess_irrefl]
  simp
theorem wless_trans {s t u : ByteArray} (h1 : wless s t = true) (h2 : wless t u = true) : wless s u = true := by
  unfold wless at *
  simp only [Bool.or_eq_true, Bool.and_eq_true, decide_eq_true_eq] at *
  rcases h1 with h1 | ⟨e1, h1⟩ <;> rcases h2 with h2 | ⟨e2, h2⟩
  · left; omega
  · left; omega
  · left; omega
  · right; exact ⟨by omega, bytesLess_trans _ _ _ h1 h2⟩
theorem wless_size {s t : ByteArray} (h : wless s t = true) : s.size ≤ t.size := by
  unfold wless at h
  simp only [Bool.or_eq_true, Bool.and_eq_true, decide_eq_true_eq] at h
  omega
theorem wset_less {l : List ByteArray} (h : wset l) (d : Nat) : ∀ i (hi : i + d + 1 < l.length), wless (l[i]'(by omega)) l[i + d + 1] = true := by
  induction d with
  | zero => intro i hi; exact h.2.2 i hi
  | succ d ih =>
    intro i hi
    exact wless_trans (ih i (by omega)) (h.2.2 (i + d + 1) hi)
theorem wset_lt {l : List ByteArray} (h : wset l) {i k : Nat} (hik : i < k) (hk : k < l.length) : wless (l[i]'(by omega)) l[k] = true := by
  have := wset_less h (k - i - 1) i (by omega)
  simpa only [show i + (k - i - 1) + 1 = k by omega] using this

end Go.Proofs.YtidjjcgfdkmefaaDoor.X
namespace Go.Proofs.YtidjjcgfdkmefaaDoor.X
open Go.RowKit Go.Proofs.YtidjjcgfdkmefaaDoorW.PrintWords Go.Proofs.YtidjjcgfdkmefaaDoorW.PrintLast Go.Proofs.YtidjjcgfdkmefaaDoorW.PrintMore Go.Proofs.YtidjjcgfdkmefaaDoor

theorem toL_ex (s : ByteArray) (a b : Nat) : (s.extract a b).toList = ((bts s).drop a).take (b - a) := by
  rw [Pl.toL, ByteArray.data_extract, Array.toList_extract]
/-- A word put into an ordered list. -/
def put : List ByteArray → ByteArray → List ByteArray
  | [], x => [x]
  | y :: l, x => if wless y x = true then y :: put l x else if y.toList = x.toList then y :: l else x :: y :: l
theorem wdPut_l (l : List ByteArray) (x : ByteArray) (hl : l.length ≤ 1048576) (d : Nat) : ∀ i : Nat, i + d = l.length → Ev (fun k => spec_wdPut.l0 k l x (i : Int)) (l.take i ++ put (l.drop i) x) := by
  induction d with
  | zero =>
    intro i hd
    obtain rfl : i = l.length := by omega
    refine Pl.succ ?_
    simp only [spec_wdPut.l0, Option.bind_some]
    rw [Int.toNat_natCast]
    refine Pl.neg (by omega) (Pl.pos (by omega) (Pl.pos (by omega) (Pl.pos ?_ (Pl.pos ?_ (Pl.pos ?_ (Pl.ret ?_))))))
    · simp only [List.length_nil, List.length_take]; omega
    · simp only [List.nil_append, List.length_take]; omega
    · simp only [List.nil_append, List.length_append, List.length_take, List.length_drop, List.length_cons, List.length_nil]; omega
    · simp [put]
  | succ d ih =>
    intro i hd
    have hil : i < l.length := by omega
    have hdr : l.drop i = l[i] :: l.drop (i + 1) := List.drop_eq_getElem_cons hil
    refine Pl.succ ?_
    simp only [spec_wdPut.l0, wdLess_eq, Option.bind_some]
    rw [Pl.rdS_nat _ i hil, Int.toNat_natCast, Pl.w64 (by omega) (by omega)]
    refine Pl.pos (by omega) (Pl.pos (by omega) ?_)
    by_cases h1 : wless l[i] x = true
    · have hp : put (l.drop i) x = l[i] :: put (l.drop (i + 1)) x := by rw [hdr, put, if_pos h1]
      rw [hp]
      refine Pl.pos h1 (Pl.via (ih (i + 1) (by omega)) ?_)
      rw [List.take_succ_eq_append_getElem hil, List.append_assoc]
      rfl
    · refine Pl.neg h1 ?_
      by_cases h2 : l[i].toList = x.toList
      · have hp : put (l.drop i) x = l.drop i := by rw [hdr, put, if_neg h1, if_pos h2]
        rw [hp, List.take_append_drop]
        exact Pl.pos h2 (Pl.ret rfl)
      · have hp : put (l.drop i) x = x :: l.drop i := by rw [hdr, put, if_neg h1, if_neg h2]
        rw [hp]
        refine Pl.neg h2 (Pl.pos (by omega) (Pl.pos ?_ (Pl.pos ?_ (Pl.pos ?_ (Pl.ret ?_)))))
        · simp only [List.length_nil, List.length_take]; omega
        · simp only [List.nil_append, List.length_take]; omega
        · simp only [List.nil_append, List.length_append, List.length_take, List.length_drop, List.length_cons, List.length_nil]; omega
        · simp
theorem wdPut (l : List ByteArray) (x : ByteArray) (hl : l.length ≤ 1048576) : Ev (fun k => spec_wdPut.f k l x) (put l x) :=
  Pl.via (wdPut_l l x hl l.length 0 (by omega)) (by simp)
theorem bytesLess_total : ∀ x y : List UInt8, x ≠ y → Op.bytesLess x y = false → Op.bytesLess y x = true
  | [], [], h, _ => absurd rfl h
  | [], _ :: _, _, h => by cases h
  | _ :: _, [], _, _ => rfl
  | a :: x, b :: y, h, h1 => by
    rw [Op.bytesLess] at h1 ⊢
    simp only [Bool.or_eq_false_iff, Bool.and_eq_false_iff, decide_eq_false_iff_not, beq_eq_false_iff_ne, Bool.or_eq_true, Bool.and_eq_true, decide_eq_true_eq, beq_iff_eq] at h1 ⊢
    by_cases e : a = b
    · subst e
      refine .inr ⟨rfl, bytesLess_total x y (fun e => h (by rw [e])) ?_⟩
      rcases h1.2 with h2 | h2
      · exact absurd rfl h2
      · exact h2
    · left
      have hn : a.toNat ≠ b.toNat := fun h => e (UInt8.toNat_inj.1 h)
      have h2 := h1.1
      rw [u8_lt_iff] at h2 ⊢
      omega
theorem wless_total {s t : ByteArray} (h1 : ¬ wless s t = true) (h2 : s.toList ≠ t.toList) : wless t s = true := by
  rw [Bool.not_eq_true] at h1
  unfold wless at h1 ⊢
  simp only [Bool.or_eq_false_iff, Bool.and_eq_false_iff, decide_eq_false_iff_not, Bool.or_eq_true, Bool.and_eq_true, decide_eq_true_eq] at h1 ⊢
  rcases h1.2 with h3 | h3
  · left; omega
  · by_cases e : s.size = t.size
    · right
      refine ⟨e.symm, bytesLess_total _ _ ?_ h3⟩
      rw [Pl.toL, Pl.toL] at h2
      exact h2
    · left; omega
theorem put_mem (l : List ByteArray) (x z : ByteArray) : z ∈ put l x ↔ z = x ∨ z ∈ l := by
  induction l with
  | nil => simp [put]
  | cons y l ih =>
    rw [put]
    split
    · rw [List.mem_cons, ih, List.mem_cons]
      constructor
      · rintro (h | h | h)
        · exact .inr (.inl h)
        · exact .inl h
        · exact .inr (.inr h)
      · rintro (h | h | h)
        · exact .inr (.inl h)
        · exact .inl h
        · exact .inr (.inr h)
    · split
      · rename_i h
        have e : y = x := Pl.ba_ext h
        subst e
        rw [List.mem_cons]
        constructor
        · exact .inr
        · rintro (h | h)
          · exact .inl h
          · exact h
      · rw [List.mem_cons]
theorem put_srt (l : List ByteArray) (x : ByteArray) (h : l.Pairwise (fun a b => wless a b = true)) : (put l x).Pairwise (fun a b => wless a b = true) := by
  induction l with
  | nil => exact List.pairwise_singleton _ _
  | cons y l ih =>
    rw [List.pairwise_cons] at h
    rw [put]
    split
    · rename_i h1
      refine List.pairwise_cons.2 ⟨fun z hz => ?_, ih h.2⟩
      rcases (put_mem l x z).1 hz with rfl | hz
      · exact h1
      · exact h.1 z hz
    · rename_i h1
      split
      · exact List.pairwise_cons.2 h
      · rename_i h2
        have hxy := wless_total h1 h2
        refine List.pairwise_cons.2 ⟨fun z hz => ?_, List.pairwise_cons.2 h⟩
        rcases List.mem_cons.1 hz with rfl | hz
        · exact hxy
        · exact wless_trans hxy (h.1 z hz)
theorem put_len (l : List ByteArray) (x : ByteArray) : (put l x).length ≤ l.length + 1 := by
  induction l with
  | nil => simp [put]
  | cons y l ih =>
    rw [put]
    split
    · simp only [List.length_cons]; omega
    · split <;> simp
theorem wset_short {l : List ByteArray} (h : wset l) : ∀ s ∈ l, wshort s = true := fun s hs => by
  obtain ⟨i, hi, rfl⟩ := List.getElem_of_mem hs
  exact h.2.1 i hi
theorem wshort_size {s : ByteArray} (h : wshort s = true) : 1 ≤ s.size ∧ s.size ≤ 8 := by
  unfold wshort at h
  simp only [Bool.and_eq_true, decide_eq_true_eq] at h
  exact h.1
theorem wset_of {l : List ByteArray} (h1 : l.length ≤ 12) (h2 : ∀ s ∈ l, wshort s = true) (h3 : l.Pairwise (fun a b => wless a b = true)) : wset l :=
  ⟨h1, fun i hi => h2 _ (List.getElem_mem hi), fun i hi => List.pairwise_iff_getElem.1 h3 i (i + 1) (by omega) hi (by omega)⟩

end Go.Proofs.YtidjjcgfdkmefaaDoor.X
namespace Go.Proofs.YtidjjcgfdkmefaaDoor.X
open Go.RowKit Go.Proofs.YtidjjcgfdkmefaaDoorW.PrintWords Go.Proofs.YtidjjcgfdkmefaaDoorW.PrintLast Go.Proofs.YtidjjcgfdkmefaaDoorW.PrintMore Go.Proofs.YtidjjcgfdkmefaaDoor Go.Lib Go.Sort
section
variable {α : Type} [Inhabited α] [DecidableEq α]
theorem cu_mem (d : Array α) (m : Nat) (z : α) : z ∈ compactUpTo d m ↔ ∃ j, j < m ∧ keeps d j = true ∧ d[j]! = z := by
  unfold compactUpTo
  rw [List.mem_map]
  constructor
  · rintro ⟨j, hj, h⟩
    rw [List.mem_filter, List.mem_range] at hj
    exact ⟨j, hj.1, hj.2, h⟩
  · rintro ⟨j, h1, h2, h3⟩
    exact ⟨j, List.mem_filter.2 ⟨List.mem_range.2 h1, h2⟩, h3⟩
theorem cu_run (d : Array α) : ∀ j, ∃ i, i ≤ j ∧ keeps d i = true ∧ d[i]! = d[j]! := by
  intro j
  induction j with
  | zero => exact ⟨0, Nat.le_refl _, keeps_lt_one d 0 (by omega), rfl⟩
  | succ j ih =>
    by_cases h : d[j + 1]! = d[j]!
    · obtain ⟨i, h1, h2, h3⟩ := ih
      exact ⟨i, by omega, h2, h3.trans h.symm⟩
    · exact ⟨j + 1, Nat.le_refl _, keeps_pos (by simpa using h), rfl⟩
omit [DecidableEq α] in
theorem toA_get (zs : List α) (j : Nat) (h : j < zs.length) : zs.toArray[j]! = zs[j] := by
  rw [getElem!_pos zs.toArray j (by simpa using h), List.getElem_toArray]
theorem compact_mem (zs : List α) (z : α) : z ∈ compact zs ↔ z ∈ zs := by
  unfold compact
  rw [cu_mem]
  constructor
  · rintro ⟨j, h1, _, rfl⟩
    rw [toA_get zs j h1]
    exact List.getElem_mem h1
  · intro h
    obtain ⟨j, hj, rfl⟩ := List.getElem_of_mem h
    obtain ⟨i, h1, h2, h3⟩ := cu_run zs.toArray j
    exact ⟨i, by omega, h2, by rw [h3, toA_get zs j hj]⟩
theorem compact_len (zs : List α) : (compact zs).length ≤ zs.length := by
  unfold compact compactUpTo
  rw [List.length_map]
  exact Nat.le_trans (List.length_filter_le _ _) (by simp)
theorem compact_srt (lt : α → α → Bool) (hO : SWO lt) (hT : ∀ x y, lt x y = false → lt y x = false → x = y) (zs : List α) (hs : zs.Pairwise fun x y => lt y x = false) : (compact zs).Pairwise fun x y => lt x y = true := by
  unfold compact compactUpTo
  rw [List.pairwise_map]
  have h1 : ((List.range zs.length).filter (keeps zs.toArray)).Pairwise (· < ·) := List.pairwise_lt_range.filter _
  refine h1.imp_of_mem ?_
  intro i j hi hj hij
  rw [List.mem_filter, List.mem_range] at hi hj
  have hle : ∀ a b (_ : a < b) (hb : b < zs.length), lt zs[b] (zs[a]'(by omega)) = false := fun a b hab hb => List.pairwise_iff_getElem.1 hs a b (by omega) hb hab
  have hk := hj.2
  unfold keeps at hk
  rw [decide_eq_true_eq] at hk
  have hne : zs.toArray[j]! ≠ zs.toArray[j - 1]! := by
    rcases hk with h | h
    · omega
    · exact h
  rw [toA_get zs j hj.1, toA_get zs (j - 1) (by omega)] at hne
  rw [toA_get zs i hi.1, toA_get zs j hj.1]
  have hlt : lt (zs[j - 1]'(by omega)) zs[j] = true := by
    cases hc : lt (zs[j - 1]'(by omega)) zs[j] with
    | true => rfl
    | false => exact absurd (hT _ _ (hle (j - 1) j (by omega) hj.1) hc) hne
  by_cases e : i = j - 1
  · subst e; exact hlt
  · cases hc : lt zs[i] zs[j] with
    | true => rfl
    | false =>
      have := hO.ntrans _ _ _ (hle i (j - 1) (by omega) (by omega)) hc
      rw [hlt] at this
      cases this
omit [Inhabited α] [DecidableEq α] in
theorem srt_ext (lt : α → α → Bool) (hi : ∀ x, lt x x = false) (ht : ∀ x y, lt x y = true → lt y x = false) : ∀ l1 l2 : List α, l1.Pairwise (fun x y => lt x y = true) → l2.Pairwise (fun x y => lt x y = true) → (∀ z, z ∈ l1 ↔ z ∈ l2) → l1 = l2
  | [], [], _, _, _ => rfl
  | [], b :: l2, _, _, h => absurd ((h b).2 List.mem_cons_self) (by simp)
  | a :: l1, [], _, _, h => absurd ((h a).1 List.mem_cons_self) (by simp)
  | a :: l1, b :: l2, h1, h2, h => by
    rw [List.pairwise_cons] at h1 h2
    have hab : a = b := by
      rcases List.mem_cons.1 ((h a).1 List.mem_cons_self) with e | ha
      · exact e
      · rcases List.mem_cons.1 ((h b).2 List.mem_cons_self) with e | hb
        · exact e.symm
        · have := ht _ _ (h1.1 b hb)
          rw [h2.1 a ha] at this
          cases this
    subst hab
    congr 1
    refine srt_ext lt hi ht l1 l2 h1.2 h2.2 fun z => ?_
    constructor
    · intro hz
      rcases List.mem_cons.1 ((h z).1 (List.mem_cons_of_mem _ hz)) with e | h3
      · subst e; have := h1.1 z hz; rw [hi] at this; cases this
      · exact h3
    · intro hz
      rcases List.mem_cons.1 ((h z).2 (List.mem_cons_of_mem _ hz)) with e | h3
      · subst e; have := h2.1 z hz; rw [hi] at this; cases this
      · exact h3
omit [Inhabited α] [DecidableEq α] in
theorem msort_srt (lt : α → α → Bool) (hO : SWO lt) (zs : List α) : (zs.mergeSort fun x y => !lt y x).Pairwise fun x y => lt y x = false := by
  refine (List.pairwise_mergeSort (le := fun x y => !lt y x) ?_ ?_ zs).imp fun h => by simpa using h
  · intro a b c h1 h2
    simp only [Bool.not_eq_true'] at h1 h2 ⊢
    exact hO.ntrans _ _ _ h2 h1
  · intro a b
    cases h : lt b a with
    | false => rfl
    | true =>
      cases h2 : lt a b with
      | false => rfl
      | true => have := hO.trans _ _ _ h h2; rw [hO.irrefl] at this; cases this
omit [Inhabited α] [DecidableEq α] in
theorem msort_mem (le : α → α → Bool) (zs : List α) (z : α) : z ∈ zs.mergeSort le ↔ z ∈ zs := (List.mergeSort_perm zs le).mem_iff
end
theorem bytesLess_lt : ∀ x y : List UInt8, Op.bytesLess x y = true ↔ x < y
  | [], [] => by simp [Op.bytesLess]
  | [], _ :: _ => by simp [Op.bytesLess]
  | _ :: _, [] => by simp [Op.bytesLess]
  | a :: x, b :: y => by
    rw [Op.bytesLess, List.cons_lt_cons_iff, ← bytesLess_lt x y]
    simp
theorem wless_cf (s t : ByteArray) : wless s t = ltOf cfW s.data.toList t.data.toList := by
  unfold ltOf
  rw [Bool.eq_iff_iff, decide_eq_true_eq, cfW_lt]
  unfold wless
  simp only [Bool.or_eq_true, Bool.and_eq_true, decide_eq_true_eq]
  rw [bytesLess_lt]
  exact Iff.rfl
theorem ordB_mem (l : List ByteArray) (z : ByteArray) : z ∈ ordB l ↔ z ∈ l := by
  unfold ordB sortW
  rw [List.mem_map]
  constructor
  · rintro ⟨x, hx, rfl⟩
    rw [compact_mem, msort_mem, List.mem_map] at hx
    obtain ⟨y, hy, rfl⟩ := hx
    exact hy
  · intro hz
    refine ⟨z.data.toList, ?_, rfl⟩
    rw [compact_mem, msort_mem, List.mem_map]
    exact ⟨z, hz, rfl⟩
theorem ordB_len (l : List ByteArray) : (ordB l).length ≤ l.length := by
  unfold ordB sortW
  rw [List.length_map]
  refine Nat.le_trans (compact_len _) ?_
  rw [List.length_mergeSort, List.length_map]
  exact Nat.le_refl _
theorem ordB_srt (l : List ByteArray) : (ordB l).Pairwise (fun a b => wless a b = true) := by
  unfold ordB sortW
  rw [List.pairwise_map]
  refine (compact_srt (ltOf cfW) swoW totW _ (msort_srt (ltOf cfW) swoW _)).imp fun h => ?_
  rw [wless_cf]
  exact h
theorem wless_asymm {x y : ByteArray} (h : wless x y = true) : wless y x = false := by
  cases h2 : wless y x with
  | false => rfl
  | true => have := wless_trans h h2; rw [wless_irrefl] at this; cases this
theorem ordB_eq (l r : List ByteArray) (hr : r.Pairwise (fun a b => wless a b = true)) (hm : ∀ z, z ∈ r ↔ z ∈ l) : ordB l = r :=
  srt_ext wless wless_irrefl (fun _ _ h => wless_asymm h) _ _ (ordB_srt l) hr fun z => (ordB_mem l z).trans (hm z).symm
/-- Words put into an ordered list, one after another. -/
def puts (l out : List ByteArray) : List ByteArray := l.foldl put out
theorem puts_ok (l : List ByteArray) : ∀ out : List ByteArray, out.Pairwise (fun a b => wless a b = true) →
    (puts l out).Pairwise (fun a b => wless a b = true) ∧ (∀ z, z ∈ puts l out ↔ z ∈ out ∨ z ∈ l) ∧ (puts l out).length ≤ out.length + l.length := by
  induction l with
  | nil => intro out h; exact ⟨h, fun z => by simp [puts], by simp [puts]⟩
  | cons x l ih =>
    intro out h
    obtain ⟨h1, h2, h3⟩ := ih (put out x) (put_srt out x h)
    have e : puts (x :: l) out = puts l (put out x) := rfl
    refine ⟨h1, fun z => ?_, ?_⟩
    · rw [e, h2 z, put_mem, List.mem_cons]
      constructor
      · rintro ((h | h) | h)
        · exact .inr (.inl h)
        · exact .inl h
        · exact .inr (.inr h)
      · rintro (h | h | h)
        · exact .inl (.inr h)
        · exact .inl (.inl h)
        · exact .inr h
    · have := put_len out x
      rw [e, List.length_cons]
      omega
theorem ordB_puts (l : List ByteArray) : ordB l = puts l [] := by
  obtain ⟨h1, h2, _⟩ := puts_ok l [] List.Pairwise.nil
  exact ordB_eq l _ h1 fun z => by simpa using h2 z
theorem ordered_eq (l : List ByteArray) (hl : l.length ≤ 1048576) : impl_ordered.f l = some (puts l []) := by
  unfold impl_ordered.f
  rw [if_pos (by omega), ordB_puts]
end Go.Proofs.YtidjjcgfdkmefaaDoor.X
namespace Go.Proofs.YtidjjcgfdkmefaaDoor.X
open Go.RowKit Go.Proofs.YtidjjcgfdkmefaaDoorW.PrintWords Go.Proofs.YtidjjcgfdkmefaaDoorW.PrintLast Go.Proofs.YtidjjcgfdkmefaaDoorW.PrintMore Go.Proofs.YtidjjcgfdkmefaaDoor

def innerW (s : ByteArray) : List ByteArray := (List.range' 0 s.size).map fun n => s.extract 0 n
theorem puts_app (a b out : List ByteArray) : puts (a ++ b) out = puts b (puts a out) := List.foldl_append
theorem pfInner_l (l : List ByteArray) (hl : l.length ≤ 12) (hs : ∀ s ∈ l, s.size ≤ 8) (d : Nat) : ∀ (i : Nat) (out : List ByteArray), i + d = l.length → out.length ≤ 8 * i →
    Ev (fun k => spec_pfInner.l0 k out l (l.length : Int) (i : Int)) (puts ((l.drop i).flatMap innerW) out) := by
  induction d with
  | zero =>
    intro i out hd ho
    refine Pl.succ ?_
    simp only [spec_pfInner.l0]
    exact Pl.neg (by omega) (Pl.ret (by rw [List.drop_of_length_le (by omega)]; rfl))
  | succ d ih =>
    intro i out hd ho
    have hil : i < l.length := by omega
    have h8 := hs _ (List.getElem_mem hil)
    have hin : ∀ (e n : Nat) (out : List ByteArray), n + e = l[i].size → out.length ≤ 8 * i + n → Ev (fun k => spec_pfInner.l1 k out l[i] (n : Int) l (l.length : Int) (i : Int)) (puts ((l.drop (i + 1)).flatMap innerW) (puts ((List.range' n e).map fun n => l[i].extract 0 n) out)) := by
      intro e
      induction e with
      | zero =>
        intro n out hn ho
        refine Pl.succ ?_
        simp only [spec_pfInner.l1]
        rw [Pl.w64 (n := (i : Int) + 1) (by omega) (by omega)]
        exact Pl.neg (by omega) (Pl.via (ih (i + 1) out (by omega) (by omega)) rfl)
      | succ e ihe =>
        intro n out hn ho
        have hp := put_len out (l[i].extract 0 n)
        refine Pl.succ ?_
        simp only [spec_pfInner.l1]
        rw [Pl.w64 (by omega) (by omega), Int.toNat_natCast]
        refine Pl.pos (by omega) (Pl.pos (by omega) (Pl.pos (by omega) (Ev.bind (wdPut out (l[i].extract 0 n) (by omega)) ?_)))
        exact Pl.via (ihe (n + 1) _ (by omega) (by omega)) (by rw [List.range'_succ]; rfl)
    refine Pl.succ ?_
    simp only [spec_pfInner.l0]
    rw [Pl.rdS_nat _ i hil]
    refine Pl.pos (by omega) (Pl.pos (by omega) (Pl.pos (by omega) ?_))
    refine Pl.via (hin l[i].size 0 out (by omega) (by omega)) ?_
    rw [List.drop_eq_getElem_cons hil, List.flatMap_cons, puts_app]
    rfl
theorem innerWords_l (l : List ByteArray) (hl : l.length ≤ 12) (hs : ∀ s ∈ l, s.size ≤ 8) (d : Nat) : ∀ (i : Nat) (out : List ByteArray), i + d = l.length → out.length ≤ 8 * i →
    Ev (fun k => impl_innerWords.l0 k out l (l.length : Int) (i : Int)) (puts (out ++ (l.drop i).flatMap innerW) []) := by
  induction d with
  | zero =>
    intro i out hd ho
    refine Pl.succ ?_
    simp only [impl_innerWords.l0, ordered_eq out (by omega), Option.bind_some]
    exact Pl.neg (by omega) (Pl.ret (by rw [List.drop_of_length_le (by omega), List.flatMap_nil, List.append_nil]))
  | succ d ih =>
    intro i out hd ho
    have hil : i < l.length := by omega
    have h8 := hs _ (List.getElem_mem hil)
    have hin : ∀ (e n : Nat) (out : List ByteArray), n + e = l[i].size → out.length ≤ 8 * i + n → Ev (fun k => impl_innerWords.l1 k out l[i] l (l.length : Int) (i : Int) (l[i].size : Int) (n : Int)) (puts (out ++ ((List.range' n e).map fun n => l[i].extract 0 n) ++ (l.drop (i + 1)).flatMap innerW) []) := by
      intro e
      induction e with
      | zero =>
        intro n out hn ho
        refine Pl.succ ?_
        simp only [impl_innerWords.l1]
        rw [Pl.w64 (n := (i : Int) + 1) (by omega) (by omega)]
        exact Pl.neg (by omega) (Pl.via (ih (i + 1) out (by omega) (by omega)) (by simp))
      | succ e ihe =>
        intro n out hn ho
        refine Pl.succ ?_
        simp only [impl_innerWords.l1]
        rw [Pl.w64 (by omega) (by omega), Int.toNat_natCast]
        refine Pl.pos (by omega) (Pl.pos (by omega) (Pl.pos (by omega) (Pl.pos (by omega) ?_)))
        exact Pl.via (ihe (n + 1) _ (by omega) (by simp; omega)) (by rw [List.range'_succ]; simp)
    refine Pl.succ ?_
    simp only [impl_innerWords.l0]
    rw [Pl.rdS_nat _ i hil]
    refine Pl.pos (by omega) (Pl.pos (by omega) (Pl.pos (by omega) ?_))
    refine Pl.via (hin l[i].size 0 out (by omega) (by omega)) ?_
    rw [List.drop_eq_getElem_cons hil, List.flatMap_cons, List.append_assoc]
    rfl
theorem innerW_len (l : List ByteArray) (hs : ∀ s ∈ l, s.size ≤ 8) : (l.flatMap innerW).length ≤ 8 * l.length := by
  induction l with
  | nil => simp
  | cons x l ih =>
    have h1 := hs x List.mem_cons_self
    have h2 := ih fun s h => hs s (List.mem_cons_of_mem _ h)
    rw [List.flatMap_cons, List.length_append, List.length_cons]
    have : (innerW x).length = x.size := by simp [innerW]
    omega
/-- The inner words, in order. -/
def innerS (l : List ByteArray) : List ByteArray := puts (l.flatMap innerW) []
theorem pfInner (l : List ByteArray) (hl : l.length ≤ 12) (hs : ∀ s ∈ l, s.size ≤ 8) : Ev (fun k => spec_pfInner.f k l) (innerS l) := by
  have h1 := pfInner_l l hl hs l.length 0 [] (by omega) (by simp)
  rw [List.drop_zero] at h1
  exact h1
theorem innerWords (l : List ByteArray) (hl : l.length ≤ 12) (hs : ∀ s ∈ l, s.size ≤ 8) : Ev (fun k => impl_innerWords.f k l) (innerS l) := by
  have h1 := innerWords_l l hl hs l.length 0 [] (by omega) (by simp)
  rw [List.drop_zero, List.nil_append] at h1
  exact h1
theorem innerS_len (l : List ByteArray) (hl : l.length ≤ 12) (hs : ∀ s ∈ l, s.size ≤ 8) : (innerS l).length ≤ 96 := by
  have h1 := innerW_len l hs
  have h2 := (puts_ok (l.flatMap innerW) [] List.Pairwise.nil).2.2
  simp only [List.length_nil] at h2
  unfold innerS
  omega
theorem innerS_mem (l : List ByteArray) (z : ByteArray) : z ∈ innerS l ↔ ∃ s ∈ l, ∃ n, n < s.size ∧ z = s.extract 0 n := by
  have h2 := (puts_ok (l.flatMap innerW) [] List.Pairwise.nil).2.1 z
  have h3 : z ∈ innerS l ↔ z ∈ l.flatMap innerW := by
    unfold innerS
    rw [h2]
    simp
  rw [h3, List.mem_flatMap]
  unfold innerW
  constructor
  · rintro ⟨s, hs, hz⟩
    obtain ⟨n, hn, rfl⟩ := List.mem_map.1 hz
    rw [List.mem_range'_1] at hn
    exact ⟨s, hs, n, by omega, rfl⟩
  · rintro ⟨s, hs, n, hn, rfl⟩
    exact ⟨s, hs, List.mem_map.2 ⟨n, by rw [List.mem_range'_1]; omega, rfl⟩⟩

end Go.Proofs.YtidjjcgfdkmefaaDoor.X
namespace Go.Proofs.YtidjjcgfdkmefaaDoor.X
open Go.RowKit Go.Proofs.YtidjjcgfdkmefaaDoorW.PrintWords Go.Proofs.YtidjjcgfdkmefaaDoorW.PrintLast Go.Proofs.YtidjjcgfdkmefaaDoorW.PrintMore Go.Proofs.YtidjjcgfdkmefaaDoor

def lens (l : List ByteArray) : List Int := l.map fun s => (s.size : Int)
theorem lengthsOf_l (l : List ByteArray) (hl : l.length ≤ 1048576) (d : Nat) : ∀ (i : Nat) (out : List Int), l.length - i = d → i ≤ l.length → out.length = i →
    Ev (fun k => impl_lengthsOf.l0 k out l (l.length : Int) (i : Int)) (out ++ lens (l.drop i)) := by
  induction d with
  | zero =>
    intro i out hd hi ho
    refine Pl.succ ?_
    simp only [impl_lengthsOf.l0]
    exact Pl.neg (by omega) (Pl.ret (by rw [List.drop_of_length_le (by omega)]; simp [lens]))
  | succ d ih =>
    intro i out hd hi ho
    refine Pl.succ ?_
    simp only [impl_lengthsOf.l0]
    rw [Pl.rdS_nat _ i (by omega), Pl.w64 (by omega) (by omega)]
    refine Pl.pos (by omega) (Pl.pos (by omega) (Pl.pos (by omega) (Pl.pos (by omega) ?_)))
    refine Pl.via (ih (i + 1) _ (by omega) (by omega) (by simp [ho])) ?_
    rw [drop_cons' l i (by omega)]
    simp only [lens, List.map_cons, List.append_assoc, List.cons_append, List.nil_append]
theorem lengthsOf (l : List ByteArray) (hl : l.length ≤ 1048576) : Ev (fun k => impl_lengthsOf.f k l) (lens l) := by
  unfold impl_lengthsOf.f
  exact Pl.via (lengthsOf_l l hl l.length 0 [] (by omega) (by omega) rfl) (by simp)

end Go.Proofs.YtidjjcgfdkmefaaDoor.X
namespace Go.Proofs.YtidjjcgfdkmefaaDoor.X
open Go.RowKit Go.Proofs.YtidjjcgfdkmefaaDoorW.PrintWords Go.Proofs.YtidjjcgfdkmefaaDoorW.PrintLast Go.Proofs.YtidjjcgfdkmefaaDoorW.PrintMore Go.Proofs.YtidjjcgfdkmefaaDoor

/-- Rows of two numbers, for each length below m. -/
def rowsL (m : Nat) (a b : Nat → Int) : List (List Int) := (List.range m).map fun i => [a i, b i]
theorem rowsL_len (m : Nat) (a b : Nat → Int) : (rowsL m a b).length = m := by simp [rowsL]
theorem rowsL_get (m : Nat) (a b : Nat → Int) (i : Nat) (h : i < m) : (rowsL m a b)[i]? = some [a i, b i] := by simp [rowsL, h]
theorem rowsL_set (m : Nat) (a b a' b' : Nat → Int) (i : Nat) (h : ∀ j, j ≠ i → a' j = a j ∧ b' j = b j) : (rowsL m a b).set i [a' i, b' i] = rowsL m a' b' := by
  refine List.ext_getElem? fun j => ?_
  rw [List.getElem?_set]
  by_cases e : i = j
  · subst e
    by_cases hm : i < m
    · rw [if_pos rfl, if_pos (by rw [rowsL_len]; exact hm), rowsL_get _ _ _ _ hm]
    · rw [if_pos rfl, if_neg (by rw [rowsL_len]; exact hm), List.getElem?_eq_none (by rw [rowsL_len]; omega)]
  · rw [if_neg e]
    by_cases hm : j < m
    · rw [rowsL_get _ _ _ _ hm, rowsL_get _ _ _ _ hm, (h j (Ne.symm e)).1, (h j (Ne.symm e)).2]
    · rw [List.getElem?_eq_none (by rw [rowsL_len]; omega), List.getElem?_eq_none (by rw [rowsL_len]; omega)]
/-- How many of these words have so many letters. -/
def cntL (ws : List ByteArray) (i : Nat) : Int := ((ws.filter fun s => s.size == i).length : Int)
theorem cntL_cons (s : ByteArray) (ws : List ByteArray) (i : Nat) : cntL (s :: ws) i = (if s.size = i then 1 else 0) + cntL ws i := by
  unfold cntL
  rw [List.filter_cons]
  by_cases h : s.size = i
  · rw [if_pos (by simpa using h), if_pos h, List.length_cons]; omega
  · rw [if_neg (by simpa using h), if_neg h]; omega
theorem cntL_le (ws : List ByteArray) (i : Nat) : 0 ≤ cntL ws i ∧ cntL ws i ≤ (ws.length : Int) := by
  unfold cntL
  have := List.length_filter_le (fun s : ByteArray => s.size == i) ws
  omega
theorem lvB0 (m : Nat) : ∀ (ws : List ByteArray) (a b : Nat → Int), (∀ s ∈ ws, s.size < m) → (∀ i, 0 ≤ a i ∧ a i + (ws.length : Int) ≤ 1000000) → lvB 0 ws (rowsL m a b) = some (rowsL m (fun i => a i + cntL ws i) b)
  | [], a, b, _, _ => by
    rw [lvB]
    congr 2
    funext i
    simp [cntL]
  | s :: ws, a, b, hs, ha => by
    have h1 := hs s List.mem_cons_self
    have h2 := ha s.size
    rw [List.length_cons] at h2
    rw [lvB, rowsL_get m a b s.size h1, Option.bind_some]
    show lvB 0 ws ((rowsL m a b).set s.size (if 0 = 0 then [wrap64 (a s.size + 1), b s.size] else _)) = _
    rw [if_pos rfl, Pl.w64 (by omega) (by omega)]
    have e := rowsL_set m a b (fun i => a i + (if s.size = i then 1 else 0)) b s.size (fun j hj => ⟨by rw [if_neg (Ne.symm hj)]; omega, rfl⟩)
    simp only [if_true] at e
    rw [e, lvB0 m ws _ b (fun t ht => hs t (List.mem_cons_of_mem _ ht)) (fun i => by have := ha i; rw [List.length_cons] at this; split <;> omega)]
    congr 2
    funext i
    rw [cntL_cons]
    omega
theorem lvB1 (m : Nat) : ∀ (ws : List ByteArray) (a b : Nat → Int), (∀ s ∈ ws, s.size < m) → (∀ i, 0 ≤ b i ∧ b i + (ws.length : Int) ≤ 1000000) → lvB 1 ws (rowsL m a b) = some (rowsL m a (fun i => b i + cntL ws i))
  | [], a, b, _, _ => by
    rw [lvB]
    congr 2
    funext i
    simp [cntL]
  | s :: ws, a, b, hs, ha => by
    have h1 := hs s List.mem_cons_self
    have h2 := ha s.size
    rw [List.length_cons] at h2
    rw [lvB, rowsL_get m a b s.size h1, Option.bind_some]
    show lvB 1 ws ((rowsL m a b).set s.size (if 1 = 0 then _ else [a s.size, wrap64 (b s.size + 1)])) = _
    rw [if_neg (by decide), Pl.w64 (by omega) (by omega)]
    have e := rowsL_set m a b a (fun i => b i + (if s.size = i then 1 else 0)) s.size (fun j hj => ⟨rfl, by rw [if_neg (Ne.symm hj)]; omega⟩)
    simp only [if_true] at e
    rw [e, lvB1 m ws a _ (fun t ht => hs t (List.mem_cons_of_mem _ ht)) (fun i => by have := ha i; rw [List.length_cons] at this; split <;> omega)]
    congr 2
    funext i
    rw [cntL_cons]
    omega
/-- The greatest length. -/
def mxL (l : List ByteArray) (m : Nat) : Nat := l.foldl (fun m s => max m s.size) m
theorem mxL_ge (l : List ByteArray) : ∀ m, m ≤ mxL l m ∧ (∀ s ∈ l, s.size ≤ mxL l m) := by
  induction l with
  | nil => intro m; exact ⟨Nat.le_refl _, fun s h => by cases h⟩
  | cons x l ih =>
    intro m
    obtain ⟨h1, h2⟩ := ih (max m x.size)
    have e : mxL (x :: l) m = mxL l (max m x.size) := rfl
    rw [e]
    refine ⟨by omega, fun s hs => ?_⟩
    rcases List.mem_cons.1 hs with q | q
    · subst q; omega
    · exact h2 s q
theorem mxL_le (l : List ByteArray) (hs : ∀ s ∈ l, s.size ≤ 8) : ∀ m, m ≤ 8 → mxL l m ≤ 8 := by
  induction l with
  | nil => intro m h; exact h
  | cons x l ih =>
    intro m h
    have e : mxL (x :: l) m = mxL l (max m x.size) := rfl
    rw [e]
    exact ih (fun s hs' => hs s (List.mem_cons_of_mem _ hs')) _ (by have := hs x List.mem_cons_self; omega)
theorem foldmax (l : List ByteArray) : ∀ m : Nat, (lens l ++ [0]).foldl max (m : Int) = (mxL l m : Int) := by
  induction l with
  | nil => intro m; show max (m : Int) 0 = (m : Int); omega
  | cons x l ih =>
    intro m
    show (lens l ++ [0]).foldl max (max (m : Int) (x.size : Int)) = _
    rw [show max (m : Int) (x.size : Int) = ((max m x.size : Nat) : Int) by omega, ih]
    rfl
theorem maxOf_lens (l : List ByteArray) : Lib.maxOf (lens l ++ [0]) = (mxL l 0 : Int) := by
  unfold Lib.maxOf
  have h0 := foldmax l 0
  cases l with
  | nil => rfl
  | cons x l =>
    have h1 := foldmax (x :: l) x.size
    show (lens (x :: l) ++ [0]).foldl max (x.size : Int) = _
    rw [h1]
    show ((mxL l (max x.size x.size) : Nat) : Int) = ((mxL l (max 0 x.size) : Nat) : Int)
    rw [Nat.max_self, Nat.zero_max]

end Go.Proofs.YtidjjcgfdkmefaaDoor.X
namespace Go.Proofs.YtidjjcgfdkmefaaDoor.Pure
open Go.RowKit Go.Proofs.YtidjjcgfdkmefaaDoor.X Go.Proofs.YtidjjcgfdkmefaaDoorW.PrintWords Go.Proofs.YtidjjcgfdkmefaaDoorW.PrintLast Go.Proofs.YtidjjcgfdkmefaaDoor

theorem l1Most (a b : Nat) : spec_l1Most.f (a : Int) (b : Int) = some ((max a b : Nat) : Int) := by
  unfold spec_l1Most.f
  by_cases h : (a : Int) > (b : Int)
  · rw [if_pos h]; congr 1; omega
  · rw [if_neg h]; congr 1; omega
theorem l3_l (l inn : List ByteArray) (hi : inn.length ≤ 1000) (M : Int) (out : List (List Int)) (ho : out.length ≤ 1000) (kk : Nat) (hk : kk ≤ 1000) (words : Int) (R : List (List Int) × Bool)
    (hnext : Ev (fun k => spec_LevelsOf.l1 k l M inn (out ++ [[words, cntL inn kk]]) ((kk + 1 : Nat) : Int)) R) (e : Nat) : ∀ (j : Nat) (own : Int), j + e = inn.length → 0 ≤ own → own ≤ (j : Int) → own + cntL (inn.drop j) kk = cntL inn kk →
    Ev (fun k => spec_LevelsOf.l3 k l M inn out (kk : Int) words own inn (inn.length : Int) (j : Int)) R := by
  induction e with
  | zero =>
    intro j own hj h0 h1 hc
    refine Pl.succ ?_
    simp only [spec_LevelsOf.l3]
    rw [List.drop_of_length_le (by omega)] at hc
    have h00 : cntL ([] : List ByteArray) kk = 0 := rfl
    obtain rfl : own = cntL inn kk := by omega
    rw [Pl.w64 (n := (kk : Int) + 1) (by omega) (by omega)]
    exact Pl.neg (by omega) (Pl.pos (by omega) hnext)
  | succ e ih =>
    intro j own hj h0 h1 hc
    have hil : j < inn.length := by omega
    refine Pl.succ ?_
    simp only [spec_LevelsOf.l3]
    rw [Pl.rdS_nat _ j hil, Pl.w64 (n := (j : Int) + 1) (by omega) (by omega)]
    rw [List.drop_eq_getElem_cons hil, cntL_cons] at hc
    refine Pl.pos (by omega) (Pl.pos (by omega) (Pl.pos (by omega) ?_))
    by_cases hs : inn[j].size = kk
    · rw [if_pos hs] at hc
      rw [Pl.w64 (n := own + 1) (by omega) (by omega)]
      exact Pl.pos (by omega) (ih (j + 1) (own + 1) (by omega) (by omega) (by omega) (by omega))
    · rw [if_neg hs] at hc
      exact Pl.neg (by omega) (ih (j + 1) own (by omega) (by omega) (by omega) (by omega))
theorem l2_l (l inn : List ByteArray) (hl : l.length ≤ 1000) (hi : inn.length ≤ 1000) (M : Int) (out : List (List Int)) (ho : out.length ≤ 1000) (kk : Nat) (hk : kk ≤ 1000) (R : List (List Int) × Bool)
    (hnext : Ev (fun k => spec_LevelsOf.l1 k l M inn (out ++ [[cntL l kk, cntL inn kk]]) ((kk + 1 : Nat) : Int)) R) (e : Nat) : ∀ (j : Nat) (words : Int), j + e = l.length → 0 ≤ words → words ≤ (j : Int) → words + cntL (l.drop j) kk = cntL l kk →
    Ev (fun k => spec_LevelsOf.l2 k l M inn out (kk : Int) words 0 l (l.length : Int) (j : Int)) R := by
  induction e with
  | zero =>
    intro j words hj h0 h1 hc
    refine Pl.succ ?_
    simp only [spec_LevelsOf.l2]
    rw [List.drop_of_length_le (by omega)] at hc
    have h00 : cntL ([] : List ByteArray) kk = 0 := rfl
    obtain rfl : words = cntL l kk := by omega
    exact Pl.neg (by omega) (l3_l l inn hi M out ho kk hk _ R hnext inn.length 0 0 (by omega) (by omega) (by omega) (by rw [List.drop_zero]; omega))
  | succ e ih =>
    intro j words hj h0 h1 hc
    have hil : j < l.length := by omega
    refine Pl.succ ?_
    simp only [spec_LevelsOf.l2]
    rw [Pl.rdS_nat _ j hil, Pl.w64 (n := (j : Int) + 1) (by omega) (by omega)]
    rw [List.drop_eq_getElem_cons hil, cntL_cons] at hc
    refine Pl.pos (by omega) (Pl.pos (by omega) (Pl.pos (by omega) ?_))
    by_cases hs : l[j].size = kk
    · rw [if_pos hs] at hc
      rw [Pl.w64 (n := words + 1) (by omega) (by omega)]
      exact Pl.pos (by omega) (ih (j + 1) (words + 1) (by omega) (by omega) (by omega) (by omega))
    · rw [if_neg hs] at hc
      exact Pl.neg (by omega) (ih (j + 1) words (by omega) (by omega) (by omega) (by omega))
theorem rowsL_succ (m : Nat) (a b : Nat → Int) : rowsL (m + 1) a b = rowsL m a b ++ [[a m, b m]] := by
  unfold rowsL
  rw [List.range_succ, List.map_append]
  rfl
theorem l1_l (l inn : List ByteArray) (hl : l.length ≤ 1000) (hi : inn.length ≤ 1000) (M : Nat) (hM : M ≤ 8) (d : Nat) : ∀ (kk : Nat), kk + d = M + 1 → Ev (fun k => spec_LevelsOf.l1 k l (M : Int) inn (rowsL kk (cntL l) (cntL inn)) (kk : Int)) (rowsL (M + 1) (cntL l) (cntL inn), true) := by
  induction d with
  | zero =>
    intro kk hk
    refine Pl.succ ?_
    simp only [spec_LevelsOf.l1]
    obtain rfl : kk = M + 1 := by omega
    exact Pl.neg (by omega) (Pl.ret rfl)
  | succ d ih =>
    intro kk hk
    refine Pl.succ ?_
    simp only [spec_LevelsOf.l1]
    have := ih (kk + 1) (by omega)
    rw [rowsL_succ] at this
    exact Pl.pos (by omega) (l2_l l inn hl hi (M : Int) _ (by rw [rowsL_len]; omega) kk (by omega) _ this l.length 0 0 (by omega) (by omega) (by omega) (by rw [List.drop_zero]; omega))
theorem l0_l (l : List ByteArray) (hl : l.length ≤ 12) (hs : ∀ s ∈ l, s.size ≤ 8) (d : Nat) : ∀ (i mm : Nat), i + d = l.length → mm ≤ 8 → Ev (fun k => spec_LevelsOf.l0 k l (mm : Int) l (l.length : Int) (i : Int)) (rowsL (mxL (l.drop i) mm + 1) (cntL l) (cntL (innerS l)), true) := by
  induction d with
  | zero =>
    intro i mm hi hm
    refine Pl.succ ?_
    simp only [spec_LevelsOf.l0]
    rw [List.drop_of_length_le (by omega)]
    have hil := innerS_len l hl hs
    have := l1_l l (innerS l) (by omega) (by omega) mm hm (mm + 1) 0 (by omega)
    exact Pl.neg (by omega) (Ev.bind (pfInner l hl hs) this)
  | succ d ih =>
    intro i mm hi hm
    have hil : i < l.length := by omega
    have h8 := hs _ (List.getElem_mem hil)
    refine Pl.succ ?_
    simp only [spec_LevelsOf.l0]
    rw [Pl.rdS_nat _ i hil, Pl.w64 (n := (i : Int) + 1) (by omega) (by omega), List.drop_eq_getElem_cons hil, l1Most]
    exact Pl.pos (by omega) (Pl.pos (by omega) (Pl.pos (by omega) (ih (i + 1) (max mm l[i].size) (by omega) (by omega))))
theorem both (l : List ByteArray) (hl : l.length ≤ 1048576) : ∃ v : List (List Int) × Bool, v.1.length ≤ 1000 ∧ (∀ r ∈ v.1, r.length ≤ 1000) ∧ Ev (fun k => spec_LevelsOf.f k l) v ∧ Ev (fun k => impl_LevelsOf.f k l) v := by
  unfold spec_LevelsOf.f impl_LevelsOf.f
  by_cases h : wset l
  · have hs : ∀ s ∈ l, s.size ≤ 8 := fun s hs => by
      obtain ⟨i, hi, rfl⟩ := List.getElem_of_mem hs
      have := h.2.1 i hi
      unfold wshort at this
      simp only [Bool.and_eq_true, decide_eq_true_eq] at this
      exact this.1.2
    have h12 := h.1
    have hM := mxL_le l hs 0 (by omega)
    have hge := (mxL_ge l 0).2
    have hin := innerS_len l h.1 hs
    have e1 := l0_l l h.1 hs l.length 0 0 (by omega) (by omega)
    rw [List.drop_zero] at e1
    obtain ⟨M, hMe⟩ : ∃ M, mxL l 0 = M := ⟨_, rfl⟩
    have hmax := maxOf_lens l
    rw [hMe] at e1 hM hge hmax
    refine ⟨(rowsL (M + 1) (cntL l) (cntL (innerS l)), true), by rw [rowsL_len]; omega, fun r hr => by
      obtain ⟨i, _, rfl⟩ := List.mem_map.1 hr
      simp, Ev.bind (wdSet l) (Pl.pos (decide_eq_true h) e1), Ev.bind (isSet l (by omega)) (Pl.pos (decide_eq_true h) (Ev.bind (lengthsOf l (by omega)) ?_))⟩
    have hll : (lens l).length = l.length := by simp [lens]
    rw [hmax, Int.toNat_natCast]
    refine Pl.pos ⟨by omega, by omega, by omega⟩ ?_
    have hr0 : List.replicate (M + 1) ([0, 0] : List Int) = rowsL (M + 1) (fun _ => 0) (fun _ => 0) := by
      refine List.ext_getElem? fun j => ?_
      by_cases hj : j < M + 1
      · rw [rowsL_get _ _ _ _ hj, List.getElem?_replicate, if_pos hj]
      · rw [List.getElem?_eq_none (by simp; omega), List.getElem?_eq_none (by rw [rowsL_len]; omega)]
    rw [hr0, lvB0 (M + 1) l _ _ (fun s hs' => by have := hge s hs'; omega) (fun i => by omega)]
    refine Ev.bind (Ev.now _) (Ev.bind (innerWords l h.1 hs) (Ev.bind ⟨0, fun _ _ => lvB1 (M + 1) (innerS l) _ _ (fun z hz => by
      obtain ⟨s, hs', n, hn, rfl⟩ := (innerS_mem l z).1 hz
      have := hge s hs'
      rw [ByteArray.size_extract]
      omega) (fun i => by omega)⟩ (Pl.ret ?_)))
    congr 2
    · funext i; omega
    · funext i; omega
  · exact ⟨([], false), by simp, by simp, Ev.bind (wdSet l) (Pl.neg (by simp [h]) (Pl.ret rfl)), Ev.bind (isSet l (by omega)) (Pl.neg (by simp [h]) (Pl.ret rfl))⟩
theorem FnExactLevelsOf (l : List ByteArray) (hb : l.length * 16 ≤ 140737488351232) (hs : ∀ s ∈ l, s.size ≤ maxLen) : ∃ k, laws_FnExactLevelsOf.f k l = some true := by
  refine Ev.rounds ?_
  unfold laws_FnExactLevelsOf.f
  obtain ⟨r, hr, hq⟩ := szStringS l hb hs 1048576 (by omega) (by omega)
  refine Ev.bind hr ?_
  by_cases hc : r < 0
  · exact Pl.pos hc (Pl.ret rfl)
  obtain ⟨_, hl, _⟩ := hq (by omega)
  obtain ⟨⟨g, b⟩, hlen, hrow, h1, h2⟩ := both l hl
  simp only at hlen hrow
  obtain ⟨mg, e, e0, hm1, hm2⟩ := marksII g (by omega) (fun r hr => by have := hrow r hr; omega)
  obtain ⟨ms, hs1⟩ := marksO l (by omega)
  refine Pl.neg hc (Ev.bind (toStringS l hl) (Ev.bind h1 (Ev.bind h2 (Ev.bind (eqIntSS g (by omega) (fun r hr => by have := hrow r hr; omega)) (Ev.bind (eqStringS l (by omega)) (Ev.bind hs1 (Ev.bind hm1 (Ev.bind hm2 (Pl.pos ⟨rfl, rfl, rfl, by show (0 : Int) ≤ 1 + (l.length : Int); omega, e0, rfl⟩ (Pl.ret rfl))))))))))

end Go.Proofs.YtidjjcgfdkmefaaDoor.Pure

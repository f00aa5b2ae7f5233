/- DanglingOf: the program's answer is the reference's, for all arguments; no condition. (All that the proof needs of plain lists stands ahead.) -/
import Derived.Test.YtidjjcgfdkmefaaGreatDoorPl
import Derived.Lib.Bytealg
import Derived.Lib.SlicesCompact
import Derived.Sort.Statements
import Derived.Lib.SlicesS
import Derived.Test.YtidjjcgfdkmefaaGreatDoorXx0
import Derived.Test.YtidjjcgfdkmefaaGreatDoorXx1
import Derived.Test.YtidjjcgfdkmefaaGreatDoorXx2
import Derived.Test.YtidjjcgfdkmefaaGreatDoorXx3
import Derived.Test.YtidjjcgfdkmefaaGreatDoorXx4
import Derived.Test.YtidjjcgfdkmefaaGreatDoorXx5
import Derived.Test.YtidjjcgfdkmefaaGreatDoorXx6
import Derived.Test.YtidjjcgfdkmefaaGreatDoorXx7
import Derived.Test.YtidjjcgfdkmefaaGreatDoorXx8
import Derived.Test.YtidjjcgfdkmefaaGreatDoorXx9
import Derived.Test.YtidjjcgfdkmefaaGreatDoorXx10
import Derived.Test.YtidjjcgfdkmefaaGreatDoorXx12
import Derived.Test.YtidjjcgfdkmefaaGreatDoorXx14
import Derived.Test.YtidjjcgfdkmefaaGreatDoorXx15
import Derived.Test.YtidjjcgfdkmefaaGreatDoorXx16
import Derived.Test.YtidjjcgfdkmefaaGreatDoorXx17
import Derived.Test.YtidjjcgfdkmefaaGreatDoorXx18
namespace Go.Proofs.YtidjjcgfdkmefaaGreatDoor.X
open Go.RowKit Go.Proofs.YtidjjcgfdkmefaaGreatDoorW.PrintWords Go.Proofs.YtidjjcgfdkmefaaGreatDoorW.PrintLast Go.Proofs.YtidjjcgfdkmefaaGreatDoorW.PrintMore Go.Proofs.YtidjjcgfdkmefaaGreatDoor

/-- A text's bytes. -/
abbrev bts (s : ByteArray) : List UInt8 := s.data.toList
theorem bts_len (s : ByteArray) : (bts s).length = s.size := by rw [bts, Array.length_toList]; rfl
theorem bt_nat (s : ByteArray) (i : Nat) (h : i < s.size) : bt s (i : Int) = (((bts s)[i]'(by rw [bts_len]; exact h)).toNat : Int) := by
  unfold bt
  rw [dif_pos (by simpa using h)]
  simp only [Int.toNat_natCast, bts, Array.getElem_toList]
  rfl
theorem isL_iff (b : UInt8) : isL b = true ↔ 97 ≤ b.toNat ∧ b.toNat ≤ 99 := by
  simp only [isL, Bool.or_eq_true, beq_iff_eq, ← UInt8.toNat_inj]
  show ((b.toNat = 97 ∨ b.toNat = 98) ∨ b.toNat = 99) ↔ _
  omega
theorem drop_cons' {α : Type} (l : List α) (i : Nat) (h : i < l.length) : l.drop i = l[i] :: l.drop (i + 1) := List.drop_eq_getElem_cons h
theorem wdIs_l (s : ByteArray) (hs : s.size ≤ 4611686018427387904) (d : Nat) : ∀ i : Nat, s.size - i = d → i ≤ s.size → Ev (fun k => spec_wdIs.l0 k s (i : Int)) (((bts s).drop i).all isL) := by
  induction d with
  | zero =>
    intro i hd hi
    refine Pl.succ ?_
    simp only [spec_wdIs.l0]
    exact Pl.neg (by omega) (Pl.ret (by rw [List.drop_of_length_le (by rw [bts_len]; omega)]; rfl))
  | succ d ih =>
    intro i hd hi
    have hl : i < (bts s).length := by rw [bts_len]; omega
    rw [drop_cons' _ i hl, List.all_cons]
    refine Pl.succ ?_
    simp only [spec_wdIs.l0]
    rw [bt_nat s i (by omega), Pl.w64 (by omega) (by omega)]
    have hb : ((bts s)[i]).toNat < 256 := UInt8.toNat_lt _
    have hL := isL_iff ((bts s)[i])
    refine Pl.pos (by omega) (Pl.pos (by omega) ?_)
    cases hq : isL ((bts s)[i]) with
    | true =>
      have := hL.1 hq
      exact Pl.neg (by omega) (Pl.neg (by omega) (ih (i + 1) (by omega) (by omega)))
    | false =>
      have hn : ¬ (97 ≤ ((bts s)[i]).toNat ∧ ((bts s)[i]).toNat ≤ 99) := fun h => by rw [hL.2 h] at hq; cases hq
      rw [Bool.false_and]
      by_cases h1 : (((bts s)[i]).toNat : Int) < 97
      · exact Pl.pos h1 (Pl.ret rfl)
      · exact Pl.neg h1 (Pl.pos (by omega) (Pl.ret rfl))
theorem wdIs (s : ByteArray) (hs : s.size ≤ 4611686018427387904) : Ev (fun k => spec_wdIs.f k s) ((bts s).all isL) := by
  unfold spec_wdIs.f
  exact wdIs_l s hs s.size 0 (by omega) (by omega)
/-- The text is a word. -/
def wgood (s : ByteArray) : Bool := decide (s.size ≤ 60) && (bts s).all isL
theorem isWord_eq (s : ByteArray) : impl_isWord.f s = some (wgood s) := rfl
theorem wgood_size {s : ByteArray} (h : wgood s = true) : s.size ≤ 60 := by
  simp only [wgood, Bool.and_eq_true, decide_eq_true_eq] at h
  exact h.1

end Go.Proofs.YtidjjcgfdkmefaaGreatDoor.X
namespace Go.Proofs.YtidjjcgfdkmefaaGreatDoor.X
open Go.RowKit Go.Proofs.YtidjjcgfdkmefaaGreatDoorW.PrintWords Go.Proofs.YtidjjcgfdkmefaaGreatDoorW.PrintLast Go.Proofs.YtidjjcgfdkmefaaGreatDoorW.PrintMore Go.Proofs.YtidjjcgfdkmefaaGreatDoor

/-- One word comes before another one. -/
def wless (s t : ByteArray) : Bool := decide (s.size < t.size) || (decide (s.size = t.size) && Op.bytesLess (bts s) (bts t))
/-- The comparison as a number. -/
def cmpW (s t : ByteArray) : Int := if s.size < t.size then -1 else if t.size < s.size then 1 else Lib.compareBytes (bts s) (bts t)
theorem u8_lt_iff (a b : UInt8) : a < b ↔ a.toNat < b.toNat := UInt8.lt_iff_toNat_lt
theorem cmpB_neg : ∀ x y : List UInt8, decide (Lib.compareBytes x y < 0) = Op.bytesLess x y
  | [], [] => by simp [Lib.compareBytes, Op.bytesLess]
  | [], _ :: _ => by simp [Lib.compareBytes, Op.bytesLess]
  | _ :: _, [] => by simp [Lib.compareBytes, Op.bytesLess]
  | a :: x, b :: y => by
    have ih := cmpB_neg x y
    rw [Lib.compareBytes, Op.bytesLess]
    by_cases h1 : a < b
    · simp [h1]
    · by_cases h2 : b < a
      · have h3 : ¬ a = b := by
          rintro rfl
          rw [u8_lt_iff] at h2
          omega
        simp [h1, h2, h3]
      · have h3 : a = b := by
          rw [u8_lt_iff] at h1 h2
          exact UInt8.toNat_inj.1 (by omega)
        subst h3
        simp only [h1, if_false, ih, beq_self_eq_true, Bool.true_and, decide_false, Bool.false_or]
theorem cmpW_neg (s t : ByteArray) : decide (cmpW s t < 0) = wless s t := by
  unfold cmpW wless
  by_cases h1 : s.size < t.size
  · simp [h1]
  · by_cases h2 : t.size < s.size
    · have : ¬ s.size = t.size := by omega
      simp [h1, h2, this]
    · have : s.size = t.size := by omega
      rw [if_neg h1, if_neg h2, cmpB_neg, decide_eq_false h1, decide_eq_true this]
      rfl
theorem wdLess_eq (s t : ByteArray) : spec_wdLess.f s t = some (wless s t) := by
  unfold spec_wdLess.f wless
  by_cases h1 : s.size < t.size
  · rw [if_pos (by omega), decide_eq_true h1]; rfl
  · rw [if_neg (by omega), decide_eq_false h1]
    by_cases h2 : s.size = t.size
    · rw [if_pos (by omega), decide_eq_true h2, Pl.toL, Pl.toL]; rfl
    · rw [if_neg (by omega), decide_eq_false h2]; rfl
theorem cmpInt_eq (a b : Int) : cmp_Compare_int.f a b = some (if a < b then -1 else if a > b then 1 else 0) := by
  unfold cmp_Compare_int.f cmp_isNaN_int.f
  by_cases h1 : a < b
  · simp [h1]
  · by_cases h2 : a > b
    · simp [h1, h2]
    · simp [h1, h2]
theorem cmpOr (a b : Int) : Ev (fun k => cmp_Or_int.f k [a, b]) (if a = 0 then b else a) := by
  have r0 : rd [a, b] (0 : Int) = a := rfl
  have r1 : rd [a, b] (1 : Int) = b := rfl
  unfold cmp_Or_int.f
  refine Pl.succ ?_
  simp only [cmp_Or_int.l0, List.length_cons, List.length_nil, r0]
  refine Pl.pos (by omega) (Pl.pos (by omega) (Pl.pos (by omega) ?_))
  by_cases h : a = 0
  · rw [if_pos h]
    refine Pl.pos h (Pl.succ ?_)
    rw [Pl.w64 (by omega) (by omega)]
    simp only [cmp_Or_int.l0, Int.zero_add, r1, List.length_cons, List.length_nil]
    refine Pl.pos (by omega) (Pl.pos (by omega) (Pl.pos (by omega) ?_))
    by_cases h2 : b = 0
    · refine Pl.pos h2 (Pl.succ ?_)
      rw [Pl.w64 (by omega) (by omega)]
      simp only [cmp_Or_int.l0]
      exact Pl.neg (by omega) (Pl.ret h2.symm)
    · exact Pl.neg h2 (Pl.ret rfl)
  · rw [if_neg h]
    exact Pl.neg h (Pl.ret rfl)
theorem compareWords (s t : ByteArray) : Ev (fun k => impl_compareWords.f k s t) (cmpW s t) := by
  unfold impl_compareWords.f cmpW
  simp only [cmpInt_eq, strings_Compare.f, Option.bind_some]
  refine Ev.bind (cmpOr _ _) (Pl.ret ?_)
  by_cases h1 : s.size < t.size
  · have e1 : (s.size : Int) < t.size := by omega
    simp [h1, e1]
  · have e1 : ¬ (s.size : Int) < t.size := by omega
    by_cases h2 : t.size < s.size
    · have e2 : (t.size : Int) < s.size := by omega
      simp [h1, e1, h2, e2]
    · have e2 : ¬ (t.size : Int) < s.size := by omega
      simp [h1, e1, h2, e2]

end Go.Proofs.YtidjjcgfdkmefaaGreatDoor.X
namespace Go.Proofs.YtidjjcgfdkmefaaGreatDoor.X
open Go.RowKit Go.Proofs.YtidjjcgfdkmefaaGreatDoorW.PrintWords Go.Proofs.YtidjjcgfdkmefaaGreatDoorW.PrintLast Go.Proofs.YtidjjcgfdkmefaaGreatDoorW.PrintMore Go.Proofs.YtidjjcgfdkmefaaGreatDoor

theorem l1In_eq' (a b c : Int) : spec_l1In.f a b c = some (decide (b ≤ a ∧ a ≤ c)) := by
  unfold spec_l1In.f
  by_cases h : b ≤ a
  · rw [if_pos h]; simp [h]
  · rw [if_neg h]; simp [h]
theorem in_eq' (a b c : Int) : impl_in.f a b c = some (decide (b ≤ a ∧ a ≤ c)) := by
  unfold impl_in.f
  by_cases h : b ≤ a
  · rw [if_pos h]; simp [h]
  · rw [if_neg h]; simp [h]
/-- The text may be in a set. -/
def wshort (s : ByteArray) : Bool := decide (1 ≤ s.size ∧ s.size ≤ 8) && (bts s).all isL
theorem wdShort (s : ByteArray) : Ev (fun k => spec_wdShort.f k s) (wshort s) := by
  unfold spec_wdShort.f wshort
  simp only [l1In_eq', Option.bind_some]
  by_cases h : 1 ≤ s.size ∧ s.size ≤ 8
  · rw [decide_eq_true h, Bool.true_and]
    exact Pl.pos (decide_eq_true (by omega)) (Ev.bind (wdIs s (by omega)) (Pl.ret rfl))
  · rw [decide_eq_false h, Bool.false_and]
    exact Pl.neg (by rw [decide_eq_false (by omega)]; decide) (Pl.ret rfl)
theorem isShort_eq (s : ByteArray) : impl_isShort.f s = some (wshort s) := by
  unfold impl_isShort.f wshort
  rw [isWord_eq]
  simp only [in_eq', Option.bind_some]
  unfold wgood
  cases h1 : (bts s).all isL
  · simp
  · by_cases h : 1 ≤ s.size ∧ s.size ≤ 8
    · rw [decide_eq_true h, decide_eq_true (show s.size ≤ 60 by omega)]
      rw [if_pos (by rfl), decide_eq_true (by omega)]; rfl
    · rw [decide_eq_false h]
      by_cases h60 : s.size ≤ 60
      · rw [decide_eq_true h60, if_pos (by rfl), decide_eq_false (by omega)]; rfl
      · rw [decide_eq_false h60, if_neg (by decide)]; rfl
/-- The list is a set. -/
def wset (l : List ByteArray) : Prop := l.length ≤ 12 ∧ (∀ i (h : i < l.length), wshort l[i] = true) ∧ ∀ i (h : i + 1 < l.length), wless l[i] l[i + 1] = true
noncomputable instance (l : List ByteArray) : Decidable (wset l) := Classical.propDecidable _
theorem wdSet_l (l : List ByteArray) (hl : l.length ≤ 12) (d : Nat) : ∀ i, l.length - i = d → i ≤ l.length → (∀ j (h : j < l.length), j < i → wshort l[j] = true) → (∀ j (h : j + 1 < l.length), j + 1 < i → wless l[j] l[j + 1] = true) →
    Ev (fun k => spec_wdSet.l0 k l l (l.length : Int) (i : Int)) (decide (wset l)) := by
  induction d with
  | zero =>
    intro i hd hi h1 h2
    refine Pl.succ ?_
    simp only [spec_wdSet.l0]
    exact Pl.neg (by omega) (Pl.ret (decide_eq_true ⟨hl, fun j h => h1 j h (by omega), fun j h => h2 j h (by omega)⟩).symm)
  | succ d ih =>
    intro i hd hi h1 h2
    have hil : i < l.length := by omega
    refine Pl.succ ?_
    simp only [spec_wdSet.l0, wdLess_eq, Option.bind_some]
    rw [Pl.rdS_nat _ i hil]
    refine Pl.pos (by omega) (Pl.pos (by omega) (Pl.pos (by omega) (Ev.bind (wdShort l[i]) ?_)))
    cases hs : wshort l[i] with
    | false => exact Pl.neg (by decide) (Pl.ret (decide_eq_false (fun h => by rw [h.2.1 i hil] at hs; cases hs)).symm)
    | true =>
      refine Pl.pos rfl ?_
      rw [Pl.w64 (n := (i : Int) + 1) (by omega) (by omega)]
      have hnext : (∀ j (h : j < l.length), j < i + 1 → wshort l[j] = true) := fun j h hj => by
        by_cases e : j = i
        · subst e; exact hs
        · exact h1 j h (by omega)
      cases i with
      | zero =>
        exact Pl.neg (by omega) (ih 1 (by omega) (by omega) hnext (fun j h hj => by omega))
      | succ m =>
        rw [Pl.w64 (n := ((m + 1 : Nat) : Int) - 1) (by omega) (by omega), show ((m + 1 : Nat) : Int) - 1 = (m : Int) by omega, Pl.rdS_nat _ m (by omega)]
        refine Pl.pos (by omega) (Pl.pos (by omega) (Pl.pos (by omega) ?_))
        cases hw : wless l[m] l[m + 1] with
        | false => exact Pl.neg (by decide) (Pl.ret (decide_eq_false (fun h => by rw [h.2.2 m hil] at hw; cases hw)).symm)
        | true =>
          refine Pl.pos rfl (ih (m + 1 + 1) (by omega) (by omega) hnext (fun j h hj => ?_))
          by_cases e : j = m
          · subst e; exact hw
          · exact h2 j h (by omega)
theorem wdSet (l : List ByteArray) : Ev (fun k => spec_wdSet.f k l) (decide (wset l)) := by
  unfold spec_wdSet.f
  by_cases h : l.length ≤ 12
  · exact Pl.neg (by omega) (wdSet_l l h l.length 0 (by omega) (by omega) (fun j _ hj => absurd hj (Nat.not_lt_zero _)) (fun j _ hj => absurd hj (Nat.not_lt_zero _)))
  · exact Pl.pos (by omega) (Pl.ret (decide_eq_false (fun hh => h hh.1)).symm)
theorem isSet_l (l : List ByteArray) (hl : l.length ≤ 4611686018427387904) (d : Nat) : ∀ i, l.length - i = d → i ≤ l.length → (∀ j (h : j < l.length), j < i → wshort l[j] = true) → (∀ j (h : j + 1 < l.length), j + 1 < i → wless l[j] l[j + 1] = true) →
    Ev (fun k => impl_isSet.l0 k l l (l.length : Int) (i : Int)) (decide (wset l)) := by
  induction d with
  | zero =>
    intro i hd hi h1 h2
    refine Pl.succ ?_
    simp only [impl_isSet.l0]
    refine Pl.neg (by omega) (Pl.ret ?_)
    by_cases h : l.length ≤ 12
    · rw [decide_eq_true (show (l.length : Int) ≤ 12 by omega)]
      exact (decide_eq_true ⟨h, fun j h => h1 j h (by omega), fun j h => h2 j h (by omega)⟩).symm
    · rw [decide_eq_false (show ¬ (l.length : Int) ≤ 12 by omega)]
      exact (decide_eq_false (fun hh => h hh.1)).symm
  | succ d ih =>
    intro i hd hi h1 h2
    have hil : i < l.length := by omega
    refine Pl.succ ?_
    simp only [impl_isSet.l0, isShort_eq, Option.bind_some]
    rw [Pl.rdS_nat _ i hil]
    refine Pl.pos (by omega) (Pl.pos (by omega) (Pl.pos (by omega) ?_))
    cases hs : wshort l[i] with
    | false => exact Pl.neg (by decide) (Pl.ret (decide_eq_false (fun h => by rw [h.2.1 i hil] at hs; cases hs)).symm)
    | true =>
      refine Pl.pos rfl ?_
      rw [Pl.w64 (n := (i : Int) + 1) (by omega) (by omega)]
      have hnext : (∀ j (h : j < l.length), j < i + 1 → wshort l[j] = true) := fun j h hj => by
        by_cases e : j = i
        · subst e; exact hs
        · exact h1 j h (by omega)
      cases i with
      | zero =>
        exact Pl.neg (by omega) (ih 1 (by omega) (by omega) hnext (fun j h hj => by omega))
      | succ m =>
        rw [Pl.w64 (n := ((m + 1 : Nat) : Int) - 1) (by omega) (by omega), show ((m + 1 : Nat) : Int) - 1 = (m : Int) by omega, Pl.rdS_nat _ m (by omega)]
        refine Pl.pos (by omega) (Pl.pos (by omega) (Pl.pos (by omega) (Ev.bind (compareWords _ _) ?_)))
        have hc := cmpW_neg l[m] l[m + 1]
        cases hw : wless l[m] l[m + 1] with
        | false =>
          rw [hw, decide_eq_false_iff_not] at hc
          exact Pl.pos (by omega) (Pl.ret (decide_eq_false (fun h => by rw [h.2.2 m hil] at hw; cases hw)).symm)
        | true =>
          rw [hw, decide_eq_true_eq] at hc
          refine Pl.neg (by omega) (ih (m + 1 + 1) (by omega) (by omega) hnext (fun j h hj => ?_))
          by_cases e : j = m
          · subst e; exact hw
          · exact h2 j h (by omega)
theorem isSet (l : List ByteArray) (hl : l.length ≤ 4611686018427387904) : Ev (fun k => impl_isSet.f k l) (decide (wset l)) := by
  unfold impl_isSet.f
  exact isSet_l l hl l.length 0 (by omega) (by omega) (fun j _ hj => absurd hj (Nat.not_lt_zero _)) (fun j _ hj => absurd hj (Nat.not_lt_zero _))

end Go.Proofs.YtidjjcgfdkmefaaGreatDoor.X
namespace Go.Proofs.YtidjjcgfdkmefaaGreatDoor.X
open Go.RowKit Go.Proofs.YtidjjcgfdkmefaaGreatDoorW.PrintWords Go.Proofs.YtidjjcgfdkmefaaGreatDoorW.PrintLast Go.Proofs.YtidjjcgfdkmefaaGreatDoorW.PrintMore Go.Proofs.YtidjjcgfdkmefaaGreatDoor

theorem bytesLess_irrefl : ∀ x : List UInt8, Op.bytesLess x x = false
  | [] => rfl
  | a :: x => by
    rw [Op.bytesLess, bytesLess_irrefl x]
    simp
theorem bytesLess_trans : ∀ x y z : List UInt8, Op.bytesLess x y = true → Op.bytesLess y z = true → Op.bytesLess x z = true
  | [], [], _, h, _ => by cases h
  | [], _ :: _, [], _, h => by cases h
  | [], _ :: _, _ :: _, _, _ => rfl
  | _ :: _, [], _, h, _ => by cases h
  | _ :: _, _ :: _, [], _, h => by cases h
  | a :: x, b :: y, c :: z, h1, h2 => by
    rw [Op.bytesLess] at h1 h2 ⊢
    simp only [Bool.or_eq_true, Bool.and_eq_true, decide_eq_true_eq, beq_iff_eq] at h1 h2 ⊢
    rcases h1 with h1 | ⟨rfl, h1⟩
    · rcases h2 with h2 | ⟨rfl, h2⟩
      · left
        rw [u8_lt_iff] at h1 h2 ⊢
        omega
      · exact .inl h1
    · rcases h2 with h2 | ⟨rfl, h2⟩
      · exact .inl h2
      · exact .inr ⟨rfl, bytesLess_trans x y z h1 h2⟩
theorem wless_irrefl (s : ByteArray) : wless s s = false := by
  unfold wless
  rw [bytesLess_irrefl]
  simp
theorem wless_trans {s t u : ByteArray} (h1 : wless s t = true) (h2 : wless t u = true) : wless s u = true := by
  unfold wless at *
  simp only [Bool.or_eq_true, Bool.and_eq_true, decide_eq_true_eq] at *
  rcases h1 with h1 | ⟨e1, h1⟩ <;> rcases h2 with h2 | ⟨e2, h2⟩
  · left; omega
  · left; omega
  · left; omega
  · right; exact ⟨by omega, bytesLess_trans _ _ _ h1 h2⟩
theorem wless_size {s t : ByteArray} (h : wless s t = true) : s.size ≤ t.size := by
  unfold wless at h
  simp only [Bool.or_eq_true, Bool.and_eq_true, decide_eq_true_eq] at h
  omega
theorem wset_less {l : List ByteArray} (h : wset l) (d : Nat) : ∀ i (hi : i + d + 1 < l.length), wless (l[i]'(by omega)) l[i + d + 1] = true := by
  induction d with
  | zero => intro i hi; exact h.2.2 i hi
  | succ d ih =>
    intro i hi
    exact wless_trans (ih i (by omega)) (h.2.2 (i + d + 1) hi)
theorem wset_lt {l : List ByteArray} (h : wset l) {i k : Nat} (hik : i < k) (hk : k < l.length) : wless (l[i]'(by omega)) l[k] = true := by
  have := wset_less h (k - i - 1) i (by omega)
  simpa only [show i + (k - i - 1) + 1 = k by omega] using this

end Go.Proofs.YtidjjcgfdkmefaaGreatDoor.X
namespace Go.Proofs.YtidjjcgfdkmefaaGreatDoor.X
open Go.RowKit Go.Proofs.YtidjjcgfdkmefaaGreatDoorW.PrintWords Go.Proofs.YtidjjcgfdkmefaaGreatDoorW.PrintLast Go.Proofs.YtidjjcgfdkmefaaGreatDoorW.PrintMore Go.Proofs.YtidjjcgfdkmefaaGreatDoor

theorem toL_ex (s : ByteArray) (a b : Nat) : (s.extract a b).toList = ((bts s).drop a).take (b - a) := by
  rw [Pl.toL, ByteArray.data_extract, Array.toList_extract]
/-- A word put into an ordered list. -/
def put : List ByteArray → ByteArray → List ByteArray
  | [], x => [x]
  | y :: l, x => if wless y x = true then y :: put l x else if y.toList = x.toList then y :: l else x :: y :: l
theorem wdPut_l (l : List ByteArray) (x : ByteArray) (hl : l.length ≤ 1048576) (d : Nat) : ∀ i : Nat, i + d = l.length → Ev (fun k => spec_wdPut.l0 k l x (i : Int)) (l.take i ++ put (l.drop i) x) := by
  induction d with
  | zero =>
    intro i hd
    obtain rfl : i = l.length := by omega
    refine Pl.succ ?_
    simp only [spec_wdPut.l0, Option.bind_some]
    rw [Int.toNat_natCast]
    refine Pl.neg (by omega) (Pl.pos (by omega) (Pl.pos (by omega) (Pl.pos ?_ (Pl.pos ?_ (Pl.pos ?_ (Pl.ret ?_))))))
    · simp only [List.length_nil, List.length_take]; omega
    · simp only [List.nil_append, List.length_take]; omega
    · simp only [List.nil_append, List.length_append, List.length_take, List.length_drop, List.length_cons, List.length_nil]; omega
    · simp [put]
  | succ d ih =>
    intro i hd
    have hil : i < l.length := by omega
    have hdr : l.drop i = l[i] :: l.drop (i + 1) := List.drop_eq_getElem_cons hil
    refine Pl.succ ?_
    simp only [spec_wdPut.l0, wdLess_eq, Option.bind_some]
    rw [Pl.rdS_nat _ i hil, Int.toNat_natCast, Pl.w64 (by omega) (by omega)]
    refine Pl.pos (by omega) (Pl.pos (by omega) ?_)
    by_cases h1 : wless l[i] x = true
    · have hp : put (l.drop i) x = l[i] :: put (l.drop (i + 1)) x := by rw [hdr, put, if_pos h1]
      rw [hp]
      refine Pl.pos h1 (Pl.via (ih (i + 1) (by omega)) ?_)
      rw [List.take_succ_eq_append_getElem hil, List.append_assoc]
      rfl
    · refine Pl.neg h1 ?_
      by_cases h2 : l[i].toList = x.toList
      · have hp : put (l.drop i) x = l.drop i := by rw [hdr, put, if_neg h1, if_pos h2]
        rw [hp, List.take_append_drop]
        exact Pl.pos h2 (Pl.ret rfl)
      · have hp : put (l.drop i) x = x :: l.drop i := by rw [hdr, put, if_neg h1, if_neg h2]
        rw [hp]
        refine Pl.neg h2 (Pl.pos (by omega) (Pl.pos ?_ (Pl.pos ?_ (Pl.pos ?_ (Pl.ret ?_)))))
        · simp only [List.length_nil, List.length_take]; omega
        · simp only [List.nil_append, List.length_take]; omega
        · simp only [List.nil_append, List.length_append, List.length_take, List.length_drop, List.length_cons, List.length_nil]; omega
        · simp
theorem wdPut (l : List ByteArray) (x : ByteArray) (hl : l.length ≤ 1048576) : Ev (fun k => spec_wdPut.f k l x) (put l x) :=
  Pl.via (wdPut_l l x hl l.length 0 (by omega)) (by simp)
theorem bytesLess_total : ∀ x y : List UInt8, x ≠ y → Op.bytesLess x y = false → Op.bytesLess y x = true
  | [], [], h, _ => absurd rfl h
  | [], _ :: _, _, h => by cases h
  | _ :: _, [], _, _ => rfl
  | a :: x, b :: y, h, h1 => by
    rw [Op.bytesLess] at h1 ⊢
    simp only [Bool.or_eq_false_iff, Bool.and_eq_false_iff, decide_eq_false_iff_not, beq_eq_false_iff_ne, Bool.or_eq_true, Bool.and_eq_true, decide_eq_true_eq, beq_iff_eq] at h1 ⊢
    by_cases e : a = b
    · subst e
      refine .inr ⟨rfl, bytesLess_total x y (fun e => h (by rw [e])) ?_⟩
      rcases h1.2 with h2 | h2
      · exact absurd rfl h2
      · exact h2
    · left
      have hn : a.toNat ≠ b.toNat := fun h => e (UInt8.toNat_inj.1 h)
      have h2 := h1.1
      rw [u8_lt_iff] at h2 ⊢
      omega
theorem wless_total {s t : ByteArray} (h1 : ¬ wless s t = true) (h2 : s.toList ≠ t.toList) : wless t s = true := by
  rw [Bool.not_eq_true] at h1
  unfold wless at h1 ⊢
  simp only [Bool.or_eq_false_iff, Bool.and_eq_false_iff, decide_eq_false_iff_not, Bool.or_eq_true, Bool.and_eq_true, decide_eq_true_eq] at h1 ⊢
  rcases h1.2 with h3 | h3
  · left; omega
  · by_cases e : s.size = t.size
    · right
      refine ⟨e.symm, bytesLess_total _ _ ?_ h3⟩
      rw [Pl.toL, Pl.toL] at h2
      exact h2
    · left; omega
theorem put_mem (l : List ByteArray) (x z : ByteArray) : z ∈ put l x ↔ z = x ∨ z ∈ l := by
  induction l with
  | nil => simp [put]
  | cons y l ih =>
    rw [put]
    split
    · rw [List.mem_cons, ih, List.mem_cons]
      constructor
      · rintro (h | h | h)
        · exact .inr (.inl h)
        · exact .inl h
        · exact .inr (.inr h)
      · rintro (h | h | h)
        · exact .inr (.inl h)
        · exact .inl h
        · exact .inr (.inr h)
    · split
      · rename_i h
        have e : y = x := Pl.ba_ext h
        subst e
        rw [List.mem_cons]
        constructor
        · exact .inr
        · rintro (h | h)
          · exact .inl h
          · exact h
      · rw [List.mem_cons]
theorem put_srt (l : List ByteArray) (x : ByteArray) (h : l.Pairwise (fun a b => wless a b = true)) : (put l x).Pairwise (fun a b => wless a b = true) := by
  induction l with
  | nil => exact List.pairwise_singleton _ _
  | cons y l ih =>
    rw [List.pairwise_cons] at h
    rw [put]
    split
    · rename_i h1
      refine List.pairwise_cons.2 ⟨fun z hz => ?_, ih h.2⟩
      rcases (put_mem l x z).1 hz with rfl | hz
      · exact h1
      · exact h.1 z hz
    · rename_i h1
      split
      · exact List.pairwise_cons.2 h
      · rename_i h2
        have hxy := wless_total h1 h2
        refine List.pairwise_cons.2 ⟨fun z hz => ?_, List.pairwise_cons.2 h⟩
        rcases List.mem_cons.1 hz with rfl | hz
        · exact hxy
        · exact wless_trans hxy (h.1 z hz)
theorem put_len (l : List ByteArray) (x : ByteArray) : (put l x).length ≤ l.length + 1 := by
  induction l with
  | nil => simp [put]
  | cons y l ih =>
    rw [put]
    split
    · simp only [List.length_cons]; omega
    · split <;> simp
theorem wset_short {l : List ByteArray} (h : wset l) : ∀ s ∈ l, wshort s = true := fun s hs => by
  obtain ⟨i, hi, rfl⟩ := List.getElem_of_mem hs
  exact h.2.1 i hi
theorem wshort_size {s : ByteArray} (h : wshort s = true) : 1 ≤ s.size ∧ s.size ≤ 8 := by
  unfold wshort at h
  simp only [Bool.and_eq_true, decide_eq_true_eq] at h
  exact h.1
theorem wset_of {l : List ByteArray} (h1 : l.length ≤ 12) (h2 : ∀ s ∈ l, wshort s = true) (h3 : l.Pairwise (fun a b => wless a b = true)) : wset l :=
  ⟨h1, fun i hi => h2 _ (List.getElem_mem hi), fun i hi => List.pairwise_iff_getElem.1 h3 i (i + 1) (by omega) hi (by omega)⟩

end Go.Proofs.YtidjjcgfdkmefaaGreatDoor.X
namespace Go.Proofs.YtidjjcgfdkmefaaGreatDoor.X
open Go.RowKit Go.Proofs.YtidjjcgfdkmefaaGreatDoorW.PrintWords Go.Proofs.YtidjjcgfdkmefaaGreatDoorW.PrintLast Go.Proofs.YtidjjcgfdkmefaaGreatDoorW.PrintMore Go.Proofs.YtidjjcgfdkmefaaGreatDoor Go.Lib Go.Sort
section
variable {α : Type} [Inhabited α] [DecidableEq α]
theorem cu_mem (d : Array α) (m : Nat) (z : α) : z ∈ compactUpTo d m ↔ ∃ j, j < m ∧ keeps d j = true ∧ d[j]! = z := by
  unfold compactUpTo
  rw [List.mem_map]
  constructor
  · rintro ⟨j, hj, h⟩
    rw [List.mem_filter, List.mem_range] at hj
    exact ⟨j, hj.1, hj.2, h⟩
  · rintro ⟨j, h1, h2, h3⟩
    exact ⟨j, List.mem_filter.2 ⟨List.mem_range.2 h1, h2⟩, h3⟩
theorem cu_run (d : Array α) : ∀ j, ∃ i, i ≤ j ∧ keeps d i = true ∧ d[i]! = d[j]! := by
  intro j
  induction j with
  | zero => exact ⟨0, Nat.le_refl _, keeps_lt_one d 0 (by omega), rfl⟩
  | succ j ih =>
    by_cases h : d[j + 1]! = d[j]!
    · obtain ⟨i, h1, h2, h3⟩ := ih
      exact ⟨i, by omega, h2, h3.trans h.symm⟩
    · exact ⟨j + 1, Nat.le_refl _, keeps_pos (by simpa using h), rfl⟩
omit [DecidableEq α] in
theorem toA_get (zs : List α) (j : Nat) (h : j < zs.length) : zs.toArray[j]! = zs[j] := by
  rw [getElem!_pos zs.toArray j (by simpa using h), List.getElem_toArray]
theorem compact_mem (zs : List α) (z : α) : z ∈ compact zs ↔ z ∈ zs := by
  unfold compact
  rw [cu_mem]
  constructor
  · rintro ⟨j, h1, _, rfl⟩
    rw [toA_get zs j h1]
    exact List.getElem_mem h1
  · intro h
    obtain ⟨j, hj, rfl⟩ := List.getElem_of_mem h
    obtain ⟨i, h1, h2, h3⟩ := cu_run zs.toArray j
    exact ⟨i, by omega, h2, by rw [h3, toA_get zs j hj]⟩
theorem compact_len (zs : List α) : (compact zs).length ≤ zs.length := by
  unfold compact compactUpTo
  rw [List.length_map]
  exact Nat.le_trans (List.length_filter_le _ _) (by simp)
theorem compact_srt (lt : α → α → Bool) (hO : SWO lt) (hT : ∀ x y, lt x y = false → lt y x = false → x = y) (zs : List α) (hs : zs.Pairwise fun x y => lt y x = false) : (compact zs).Pairwise fun x y => lt x y = true := by
  unfold compact compactUpTo
  rw [List.pairwise_map]
  have h1 : ((List.range zs.length).filter (keeps zs.toArray)).Pairwise (· < ·) := List.pairwise_lt_range.filter _
  refine h1.imp_of_mem ?_
  intro i j hi hj hij
  rw [List.mem_filter, List.mem_range] at hi hj
  have hle : ∀ a b (_ : a < b) (hb : b < zs.length), lt zs[b] (zs[a]'(by omega)) = false := fun a b hab hb => List.pairwise_iff_getElem.1 hs a b (by omega) hb hab
  have hk := hj.2
  unfold keeps at hk
  rw [decide_eq_true_eq] at hk
  have hne : zs.toArray[j]! ≠ zs.toArray[j - 1]! := by
    rcases hk with h | h
    · omega
    · exact h
  rw [toA_get zs j hj.1, toA_get zs (j - 1) (by omega)] at hne
  rw [toA_get zs i hi.1, toA_get zs j hj.1]
  have hlt : lt (zs[j - 1]'(by omega)) zs[j] = true := by
    cases hc : lt (zs[j - 1]'(by omega)) zs[j] with
    | true => rfl
    | false => exact absurd (hT _ _ (hle (j - 1) j (by omega) hj.1) hc) hne
  by_cases e : i = j - 1
  · subst e; exact hlt
  · cases hc : lt zs[i] zs[j] with
    | true => rfl
    | false =>
      have := hO.ntrans _ _ _ (hle i (j - 1) (by omega) (by omega)) hc
      rw [hlt] at this
      cases this
omit [Inhabited α] [DecidableEq α] in
theorem srt_ext (lt : α → α → Bool) (hi : ∀ x, lt x x = false) (ht : ∀ x y, lt x y = true → lt y x = false) : ∀ l1 l2 : List α, l1.Pairwise (fun x y => lt x y = true) → l2.Pairwise (fun x y => lt x y = true) → (∀ z, z ∈ l1 ↔ z ∈ l2) → l1 = l2
  | [], [], _, _, _ => rfl
  | [], b :: l2, _, _, h => absurd ((h b).2 List.mem_cons_self) (by simp)
  | a :: l1, [], _, _, h => absurd ((h a).1 List.mem_cons_self) (by simp)
  | a :: l1, b :: l2, h1, h2, h => by
    rw [List.pairwise_cons] at h1 h2
    have hab : a = b := by
      rcases List.mem_cons.1 ((h a).1 List.mem_cons_self) with e | ha
      · exact e
      · rcases List.mem_cons.1 ((h b).2 List.mem_cons_self) with e | hb
        · exact e.symm
        · have := ht _ _ (h1.1 b hb)
          rw [h2.1 a ha] at this
          cases this
    subst hab
    congr 1
    refine srt_ext lt hi ht l1 l2 h1.2 h2.2 fun z => ?_
    constructor
    · intro hz
      rcases List.mem_cons.1 ((h z).1 (List.mem_cons_of_mem _ hz)) with e | h3
      · subst e; have := h1.1 z hz; rw [hi] at this; cases this
      · exact h3
    · intro hz
      rcases List.mem_cons.1 ((h z).2 (List.mem_cons_of_mem _ hz)) with e | h3
      · subst e; have := h2.1 z hz; rw [hi] at this; cases this
      · exact h3
omit [Inhabited α] [DecidableEq α] in
theorem msort_srt (lt : α → α → Bool) (hO : SWO lt) (zs : List α) : (zs.mergeSort fun x y => !lt y x).Pairwise fun x y => lt y x = false := by
  refine (List.pairwise_mergeSort (le := fun x y => !lt y x) ?_ ?_ zs).imp fun h => by simpa using h
  · intro a b c h1 h2
    simp only [Bool.not_eq_true'] at h1 h2 ⊢
    exact hO.ntrans _ _ _ h2 h1
  · intro a b
    cases h : lt b a with
    | false => rfl
    | true =>
      cases h2 : lt a b with
      | false => rfl
      | true => have := hO.trans _ _ _ h h2; rw [hO.irrefl] at this; cases this
omit [Inhabited α] [DecidableEq α] in
theorem msort_mem (le : α → α → Bool) (zs : List α) (z : α) : z ∈ zs.mergeSort le ↔ z ∈ zs := (List.mergeSort_perm zs le).mem_iff
end
theorem bytesLess_lt : ∀ x y : List UInt8, Op.bytesLess x y = true ↔ x < y
  | [], [] => by simp [Op.bytesLess]
  | [], _ :: _ => by simp [Op.bytesLess]
  | _ :: _, [] => by simp [Op.bytesLess]
  | a :: x, b :: y => by
    rw [Op.bytesLess, List.cons_lt_cons_iff, ← bytesLess_lt x y]
    simp
theorem wless_cf (s t : ByteArray) : wless s t = ltOf cfW s.data.toList t.data.toList := by
  unfold ltOf
  rw [Bool.eq_iff_iff, decide_eq_true_eq, cfW_lt]
  unfold wless
  simp only [Bool.or_eq_true, Bool.and_eq_true, decide_eq_true_eq]
  rw [bytesLess_lt]
  exact Iff.rfl
theorem ordB_mem (l : List ByteArray) (z : ByteArray) : z ∈ ordB l ↔ z ∈ l := by
  unfold ordB sortW
  rw [List.mem_map]
  constructor
  · rintro ⟨x, hx, rfl⟩
    rw [compact_mem, msort_mem, List.mem_map] at hx
    obtain ⟨y, hy, rfl⟩ := hx
    exact hy
  · intro hz
    refine ⟨z.data.toList, ?_, rfl⟩
    rw [compact_mem, msort_mem, List.mem_map]
    exact ⟨z, hz, rfl⟩
theorem ordB_len (l : List ByteArray) : (ordB l).length ≤ l.length := by
  unfold ordB sortW
  rw [List.length_map]
  refine Nat.le_trans (compact_len _) ?_
  rw [List.length_mergeSort, List.length_map]
  exact Nat.le_refl _
theorem ordB_srt (l : List ByteArray) : (ordB l).Pairwise (fun a b => wless a b = true) := by
  unfold ordB sortW
  rw [List.pairwise_map]
  refine (compact_srt (ltOf cfW) swoW totW _ (msort_srt (ltOf cfW) swoW _)).imp fun h => ?_
  rw [wless_cf]
  exact h
theorem wless_asymm {x y : ByteArray} (h : wless x y = true) : wless y x = false := by
  cases h2 : wless y x with
  | false => rfl
  | true => have := wless_trans h h2; rw [wless_irrefl] at this; cases this
theorem ordB_eq (l r : List ByteArray) (hr : r.Pairwise (fun a b => wless a b = true)) (hm : ∀ z, z ∈ r ↔ z ∈ l) : ordB l = r :=
  srt_ext wless wless_irrefl (fun _ _ h => wless_asymm h) _ _ (ordB_srt l) hr fun z => (ordB_mem l z).trans (hm z).symm
/-- Words put into an ordered list, one after another. -/
def puts (l out : List ByteArray) : List ByteArray := l.foldl put out
theorem puts_ok (l : List ByteArray) : ∀ out : List ByteArray, out.Pairwise (fun a b => wless a b = true) →
    (puts l out).Pairwise (fun a b => wless a b = true) ∧ (∀ z, z ∈ puts l out ↔ z ∈ out ∨ z ∈ l) ∧ (puts l out).length ≤ out.length + l.length := by
  induction l with
  | nil => intro out h; exact ⟨h, fun z => by simp [puts], by simp [puts]⟩
  | cons x l ih =>
    intro out h
    obtain ⟨h1, h2, h3⟩ := ih (put out x) (put_srt out x h)
    have e : puts (x :: l) out = puts l (put out x) := rfl
    refine ⟨h1, fun z => ?_, ?_⟩
    · rw [e, h2 z, put_mem, List.mem_cons]
      constructor
      · rintro ((h | h) | h)
        · exact .inr (.inl h)
        · exact .inl h
        · exact .inr (.inr h)
      · rintro (h | h | h)
        · exact .inl (.inr h)
        · exact .inl (.inl h)
        · exact .inr h
    · have := put_len out x
      rw [e, List.length_cons]
      omega
theorem ordB_puts (l : List ByteArray) : ordB l = puts l [] := by
  obtain ⟨h1, h2, _⟩ := puts_ok l [] List.Pairwise.nil
  exact ordB_eq l _ h1 fun z => by simpa using h2 z
theorem ordered_eq (l : List ByteArray) (hl : l.length ≤ 1048576) : impl_ordered.f l = some (puts l []) := by
  unfold impl_ordered.f
  rw [if_pos (by omega), ordB_puts]
end Go.Proofs.YtidjjcgfdkmefaaGreatDoor.X
namespace Go.Proofs.YtidjjcgfdkmefaaGreatDoor.X
open Go.RowKit Go.Proofs.YtidjjcgfdkmefaaGreatDoorW.PrintWords Go.Proofs.YtidjjcgfdkmefaaGreatDoorW.PrintLast Go.Proofs.YtidjjcgfdkmefaaGreatDoorW.PrintMore Go.Proofs.YtidjjcgfdkmefaaGreatDoor

theorem puts_ext (a b : List ByteArray) (h : ∀ z, z ∈ a ↔ z ∈ b) : puts a [] = puts b [] := by
  rw [← ordB_puts]
  obtain ⟨h1, h2, _⟩ := puts_ok b [] List.Pairwise.nil
  exact ordB_eq a _ h1 fun z => by rw [h2 z, h z]; simp
theorem puts_cat (a b out : List ByteArray) : puts (a ++ b) out = puts b (puts a out) := List.foldl_append
theorem put_new (l : List ByteArray) (x : ByteArray) (h : x ∉ l) : (put l x).length = l.length + 1 := by
  induction l with
  | nil => rfl
  | cons y l ih =>
    rw [put]
    split
    · rw [List.length_cons, ih (fun q => h (List.mem_cons_of_mem _ q)), List.length_cons]
    · split
      · rename_i hq
        exact absurd (Pl.ba_ext hq ▸ List.mem_cons_self) h
      · rfl
theorem put_old (l : List ByteArray) (x : ByteArray) (hs : l.Pairwise (fun a b => wless a b = true)) (h : x ∈ l) : put l x = l := by
  induction l with
  | nil => cases h
  | cons y l ih =>
    rw [List.pairwise_cons] at hs
    rw [put]
    by_cases e : y = x
    · subst e
      rw [if_neg (by rw [wless_irrefl]; decide), if_pos rfl]
    · have hx : x ∈ l := by
        rcases List.mem_cons.1 h with q | q
        · exact absurd q.symm e
        · exact q
      rw [if_pos (hs.1 x hx), ih hs.2 hx]
theorem set_sizes {l : List ByteArray} (h : wset l) : ∀ s ∈ l, s.size ≤ 8 := fun s hs => (wshort_size (wset_short h s hs)).2

end Go.Proofs.YtidjjcgfdkmefaaGreatDoor.X
namespace Go.Proofs.YtidjjcgfdkmefaaGreatDoor.X
open Go.RowKit Go.Proofs.YtidjjcgfdkmefaaGreatDoorW.PrintWords Go.Proofs.YtidjjcgfdkmefaaGreatDoorW.PrintLast Go.Proofs.YtidjjcgfdkmefaaGreatDoorW.PrintMore Go.Proofs.YtidjjcgfdkmefaaGreatDoor

def bgQ (s t : ByteArray) : Bool := decide (t.size ≤ s.size) && ((s.extract 0 t.size).toList == t.toList)
theorem wdBegins_q (s t : ByteArray) : spec_wdBegins.f s t = some (bgQ s t) := by
  unfold spec_wdBegins.f bgQ
  by_cases h : t.size ≤ s.size
  · rw [if_pos (by omega), if_pos (by omega), decide_eq_true h]; rfl
  · rw [if_neg (by omega), decide_eq_false h]; rfl
theorem cutPrefix_q (s t : ByteArray) : strings_CutPrefix.f s t = some (if bgQ s t = true then (s.extract t.size s.size, true) else (s, false)) := by
  unfold strings_CutPrefix.f stringslite_CutPrefix.f stringslite_HasPrefix.f bgQ
  by_cases h : t.size ≤ s.size
  · rw [if_pos (by omega), if_pos (by omega), if_pos (by omega), decide_eq_true h, Bool.true_and, Int.toNat_natCast, Option.bind_some]
    cases hq : (s.extract 0 t.size).toList == t.toList with
    | true => rw [if_pos rfl, if_pos (by omega), if_pos (by omega), if_pos rfl]; rfl
    | false => rfl
  · rw [if_neg (by omega), decide_eq_false h]; rfl
theorem ext_nil (s : ByteArray) (n : Nat) (h : n ≤ s.size) : (s.extract n s.size).toList = [] ↔ s.size = n := by
  rw [toL_ex, List.take_eq_nil_iff, List.drop_eq_nil_iff]
  have : (bts s).length = s.size := bts_len s
  omega
/-- The rest of t behind s, if there is one and it is not empty. -/
def rest (s t : ByteArray) : List ByteArray := if bgQ t s = true ∧ s.size < t.size then [t.extract s.size t.size] else []
def quot (a b : List ByteArray) : List ByteArray := a.flatMap fun s => b.flatMap (rest s)
theorem puts_app' (a b out : List ByteArray) : puts (a ++ b) out = puts b (puts a out) := List.foldl_append
theorem rest_len (s t : ByteArray) : (rest s t).length ≤ 1 := by unfold rest; split <;> simp
theorem rests_len (s : ByteArray) (b : List ByteArray) : (b.flatMap (rest s)).length ≤ b.length := by
  induction b with
  | nil => simp
  | cons t b ih => rw [List.flatMap_cons, List.length_append, List.length_cons]; have := rest_len s t; omega
theorem quot_len (a b : List ByteArray) : (quot a b).length ≤ a.length * b.length := by
  unfold quot
  induction a with
  | nil => simp
  | cons s a ih => rw [List.flatMap_cons, List.length_append, List.length_cons, Nat.succ_mul]; have := rests_len s b; omega
theorem wdQuotient_l (a b : List ByteArray) (ha : a.length ≤ 1000) (hb : b.length ≤ 1000) (d : Nat) : ∀ (i : Nat) (out : List ByteArray), i + d = a.length → out.length ≤ b.length * i →
    Ev (fun k => spec_wdQuotient.l0 k b out a (a.length : Int) (i : Int)) (puts (quot (a.drop i) b) out) := by
  induction d with
  | zero =>
    intro i out hd ho
    refine Pl.succ ?_
    simp only [spec_wdQuotient.l0]
    exact Pl.neg (by omega) (Pl.ret (by rw [List.drop_of_length_le (by omega)]; rfl))
  | succ d ih =>
    intro i out hd ho
    have hia : i < a.length := by omega
    have hmul : b.length * i ≤ 1000 * 1000 := Nat.mul_le_mul hb (by omega)
    have hsuc : b.length * (i + 1) = b.length * i + b.length := Nat.mul_succ _ _
    have hin : ∀ (e j : Nat) (out : List ByteArray), j + e = b.length → out.length ≤ b.length * i + j → Ev (fun k => spec_wdQuotient.l1 k b out a[i] a (a.length : Int) (i : Int) b (b.length : Int) (j : Int)) (puts (quot (a.drop (i + 1)) b) (puts ((b.drop j).flatMap (rest a[i])) out)) := by
      intro e
      induction e with
      | zero =>
        intro j out hj ho
        refine Pl.succ ?_
        simp only [spec_wdQuotient.l1]
        rw [Pl.w64 (n := (i : Int) + 1) (by omega) (by omega), List.drop_of_length_le (show b.length ≤ j by omega)]
        exact Pl.neg (by omega) (Pl.via (ih (i + 1) out (by omega) (by omega)) rfl)
      | succ e ihe =>
        intro j out hj ho
        have hjb : j < b.length := by omega
        have hp := put_len out (b[j].extract a[i].size b[j].size)
        refine Pl.succ ?_
        simp only [spec_wdQuotient.l1, wdBegins_q, Option.bind_some]
        rw [Pl.rdS_nat _ j hjb, Pl.w64 (n := (j : Int) + 1) (by omega) (by omega), Int.toNat_natCast, List.drop_eq_getElem_cons hjb, List.flatMap_cons, puts_app']
        refine Pl.pos (by omega) (Pl.pos (by omega) (Pl.pos (by omega) ?_))
        by_cases h1 : a[i].size < b[j].size
        · refine Pl.pos (by omega) ?_
          by_cases h2 : bgQ b[j] a[i] = true
          · have hr : rest a[i] b[j] = [b[j].extract a[i].size b[j].size] := if_pos ⟨h2, h1⟩
            rw [hr]
            exact Pl.pos h2 (Pl.pos (by omega) (Pl.pos (by omega) (Ev.bind (wdPut out _ (by omega)) (ihe (j + 1) _ (by omega) (by omega)))))
          · have hr : rest a[i] b[j] = [] := if_neg (fun q => h2 q.1)
            rw [hr]
            exact Pl.neg h2 (ihe (j + 1) _ (by omega) (by omega))
        · have hr : rest a[i] b[j] = [] := if_neg (fun q => h1 q.2)
          rw [hr]
          exact Pl.neg (by omega) (ihe (j + 1) _ (by omega) (by omega))
    refine Pl.succ ?_
    simp only [spec_wdQuotient.l0]
    rw [Pl.rdS_nat _ i hia]
    refine Pl.pos (by omega) (Pl.pos (by omega) (Pl.pos (by omega) ?_))
    refine Pl.via (hin b.length 0 out (by omega) (by omega)) ?_
    rw [List.drop_eq_getElem_cons hia]
    unfold quot
    rw [List.flatMap_cons, puts_app', List.drop_zero]
theorem wdQuotient (a b : List ByteArray) (ha : a.length ≤ 12) (hb : b.length ≤ 12) : Ev (fun k => spec_wdQuotient.f k a b) (puts (quot a b) []) :=
  Pl.via (wdQuotient_l a b (by omega) (by omega) a.length 0 [] (by omega) (by simp)) (by rw [List.drop_zero])
theorem left_l (a b : List ByteArray) (ha : a.length ≤ 1000) (hb : b.length ≤ 1000) (d : Nat) : ∀ (i : Nat) (out : List ByteArray), i + d = a.length → out.length ≤ b.length * i →
    Ev (fun k => impl_left.l0 k b out a (a.length : Int) (i : Int)) (puts (out ++ quot (a.drop i) b) []) := by
  induction d with
  | zero =>
    intro i out hd ho
    have hmul : b.length * i ≤ 1000 * 1000 := Nat.mul_le_mul hb (by omega)
    refine Pl.succ ?_
    simp only [impl_left.l0, ordered_eq out (by omega), Option.bind_some]
    exact Pl.neg (by omega) (Pl.ret (by rw [List.drop_of_length_le (by omega)]; simp [quot]))
  | succ d ih =>
    intro i out hd ho
    have hia : i < a.length := by omega
    have hmul : b.length * i ≤ 1000 * 1000 := Nat.mul_le_mul hb (by omega)
    have hsuc : b.length * (i + 1) = b.length * i + b.length := Nat.mul_succ _ _
    have hin : ∀ (e j : Nat) (out : List ByteArray), j + e = b.length → out.length ≤ b.length * i + j → Ev (fun k => impl_left.l1 k b out a[i] a (a.length : Int) (i : Int) b (b.length : Int) (j : Int)) (puts (out ++ (b.drop j).flatMap (rest a[i]) ++ quot (a.drop (i + 1)) b) []) := by
      intro e
      induction e with
      | zero =>
        intro j out hj ho
        refine Pl.succ ?_
        simp only [impl_left.l1]
        rw [Pl.w64 (n := (i : Int) + 1) (by omega) (by omega), List.drop_of_length_le (show b.length ≤ j by omega)]
        exact Pl.neg (by omega) (Pl.via (ih (i + 1) out (by omega) (by omega)) (by simp))
      | succ e ihe =>
        intro j out hj ho
        have hjb : j < b.length := by omega
        refine Pl.succ ?_
        simp only [impl_left.l1, cutPrefix_q, Option.bind_some]
        rw [Pl.rdS_nat _ j hjb, Pl.w64 (n := (j : Int) + 1) (by omega) (by omega), List.drop_eq_getElem_cons hjb, List.flatMap_cons]
        refine Pl.pos (by omega) (Pl.pos (by omega) (Pl.pos (by omega) ?_))
        by_cases h2 : bgQ b[j] a[i] = true
        · have hz : a[i].size ≤ b[j].size := by unfold bgQ at h2; simp only [Bool.and_eq_true, decide_eq_true_eq] at h2; exact h2.1
          rw [if_pos h2]
          refine Pl.pos rfl ?_
          by_cases h1 : a[i].size < b[j].size
          · have hr : rest a[i] b[j] = [b[j].extract a[i].size b[j].size] := if_pos ⟨h2, h1⟩
            rw [hr]
            refine Pl.neg (by rw [ext_nil _ _ hz]; omega) (Pl.pos (by omega) ?_)
            exact Pl.via (ihe (j + 1) _ (by omega) (by simp; omega)) (by simp)
          · have hr : rest a[i] b[j] = [] := if_neg (fun q => h1 q.2)
            rw [hr, List.nil_append]
            exact Pl.pos (by rw [ext_nil _ _ hz]; omega) (ihe (j + 1) _ (by omega) (by omega))
        · have hr : rest a[i] b[j] = [] := if_neg (fun q => h2 q.1)
          rw [hr, if_neg h2, List.nil_append]
          exact Pl.neg (by simp) (ihe (j + 1) _ (by omega) (by omega))
    refine Pl.succ ?_
    simp only [impl_left.l0]
    rw [Pl.rdS_nat _ i hia]
    refine Pl.pos (by omega) (Pl.pos (by omega) (Pl.pos (by omega) ?_))
    refine Pl.via (hin b.length 0 out (by omega) (by omega)) ?_
    rw [List.drop_eq_getElem_cons hia]
    unfold quot
    rw [List.flatMap_cons, List.drop_zero, List.append_assoc]
theorem left (a b : List ByteArray) (ha : a.length ≤ 12) (hb : b.length ≤ 12) : Ev (fun k => impl_left.f k a b) (puts (quot a b) []) :=
  Pl.via (left_l a b (by omega) (by omega) a.length 0 [] (by omega) (by simp)) (by rw [List.drop_zero, List.nil_append])

end Go.Proofs.YtidjjcgfdkmefaaGreatDoor.X
namespace Go.Proofs.YtidjjcgfdkmefaaGreatDoor.X
open Go.RowKit Go.Proofs.YtidjjcgfdkmefaaGreatDoorW.PrintWords Go.Proofs.YtidjjcgfdkmefaaGreatDoorW.PrintLast Go.Proofs.YtidjjcgfdkmefaaGreatDoorW.PrintMore Go.Proofs.YtidjjcgfdkmefaaGreatDoor

/-- The text behind the first word. -/
def tailX : List ByteArray → List UInt8
  | [] => []
  | s :: l => 44 :: (s.data.toList ++ tailX l)
def wtx : List ByteArray → List UInt8
  | [] => [45]
  | s :: l => s.data.toList ++ tailX l
theorem textX_l (l : List ByteArray) (hl : l.length ≤ 1000) (hs : ∀ s ∈ l, s.size ≤ 8) (d : Nat) : ∀ (i : Nat) (out : ByteArray), i + d = l.length → 1 ≤ i → 1 ≤ out.size → out.size ≤ 9 * i →
    Ev (fun k => spec_wdText.l0 k out l (l.length : Int) (i : Int)) ⟨(out.data.toList ++ tailX (l.drop i)).toArray⟩ := by
  induction d with
  | zero =>
    intro i out hd hi ho hb
    refine Pl.succ ?_
    simp only [spec_wdText.l0]
    have hne : out.toList ≠ [] := by
      intro e
      have : out.toList.length = out.size := by rw [Pl.toL]; exact bts_len out
      rw [e] at this
      simp at this
      omega
    refine Pl.neg (by omega) (Pl.neg hne (Pl.ret ?_))
    rw [List.drop_of_length_le (by omega), tailX, List.append_nil]
  | succ d ih =>
    intro i out hd hi ho hb
    have hil : i < l.length := by omega
    have h8 := hs l[i] (List.getElem_mem hil)
    have e1 : (out ++ (⟨#[44]⟩ : ByteArray)).size = out.size + 1 := by rw [ByteArray.size_append]; rfl
    refine Pl.succ ?_
    simp only [spec_wdText.l0]
    rw [Pl.rdS_nat _ i hil, Pl.w64 (by omega) (by omega)]
    refine Pl.pos (by omega) (Pl.pos (by omega) (Pl.pos (by omega) (Pl.pos (by omega) (Pl.pos (by omega) (Pl.pos (by omega) ?_)))))
    refine Pl.via (ih (i + 1) _ (by omega) (by omega) (by rw [ByteArray.size_append]; omega) (by rw [ByteArray.size_append]; omega)) ?_
    rw [List.drop_eq_getElem_cons hil, tailX]
    congr 1
    congr 1
    simp only [ByteArray.data_append, Array.toList_append, List.append_assoc]
    rfl
theorem wdTextX (l : List ByteArray) (hl : l.length ≤ 1000) (hs : ∀ s ∈ l, 1 ≤ s.size ∧ s.size ≤ 8) : Ev (fun k => spec_wdText.f k l) ⟨(wtx l).toArray⟩ := by
  unfold spec_wdText.f
  cases l with
  | nil =>
    refine Pl.succ ?_
    simp only [spec_wdText.l0]
    exact Pl.neg (by simp) (Pl.pos (by rw [Pl.toL]) (Pl.ret rfl))
  | cons x l =>
    have hx := hs x List.mem_cons_self
    simp only [List.length_cons] at hl
    have hr : rdOf ByteArray.empty (x :: l) (0 : Int) = x := rfl
    have e0 : (⟨#[]⟩ : ByteArray) ++ x = x := by
      apply Pl.ba_ext
      simp only [Pl.toL, ByteArray.data_append, Array.toList_append]
      rfl
    refine Pl.succ ?_
    simp only [spec_wdText.l0]
    rw [hr, e0, Pl.w64 (by omega) (by omega)]
    refine Pl.pos (by simp only [List.length_cons]; omega) (Pl.pos (by omega) (Pl.pos (by simp only [List.length_cons]; omega) (Pl.neg (by omega) (Pl.pos (by show 0 + x.size ≤ 9223372036854775807; omega) ?_))))
    exact textX_l (x :: l) (by simp only [List.length_cons]; omega) (fun s h => (hs s h).2) l.length 1 x (by simp only [List.length_cons]; omega) (by omega) (by omega) (by omega)
theorem tailX_head (l : List ByteArray) : tailX l = [] ∨ ∃ r, tailX l = 44 :: r := by
  cases l with
  | nil => exact .inl rfl
  | cons s l => exact .inr ⟨_, rfl⟩
theorem cut_eq {p q : List UInt8} (hp : p = [] ∨ ∃ r, p = 44 :: r) (hq : q = [] ∨ ∃ r, q = 44 :: r) : ∀ x y : List UInt8, (∀ b ∈ x, b ≠ 44) → (∀ b ∈ y, b ≠ 44) → x ++ p = y ++ q → x = y ∧ p = q
  | [], [], _, _, h => ⟨rfl, h⟩
  | [], b :: y, _, hy, h => by
    rcases hp with rfl | ⟨r, rfl⟩
    · cases h
    · injection h with h1 _
      exact absurd h1.symm (hy b List.mem_cons_self)
  | a :: x, [], hx, _, h => by
    rcases hq with rfl | ⟨r, rfl⟩
    · cases h
    · injection h with h1 _
      exact absurd h1 (hx a List.mem_cons_self)
  | a :: x, b :: y, hx, hy, h => by
    injection h with h1 h2
    obtain ⟨e1, e2⟩ := cut_eq hp hq x y (fun b hb => hx b (List.mem_cons_of_mem _ hb)) (fun c hc => hy c (List.mem_cons_of_mem _ hc)) h2
    exact ⟨by rw [h1, e1], e2⟩
theorem isL_ne {b : UInt8} (h : isL b = true) : b ≠ 44 ∧ b ≠ 45 := by
  unfold isL at h
  simp only [Bool.or_eq_true, beq_iff_eq] at h
  rcases h with (rfl | rfl) | rfl <;> decide
theorem bts_inj {a b : ByteArray} (h : a.data.toList = b.data.toList) : a = b := ByteArray.ext (Array.toList_inj.1 h)
theorem tailX_inj : ∀ l m : List ByteArray, (∀ s ∈ l, (bts s).all isL = true) → (∀ s ∈ m, (bts s).all isL = true) → tailX l = tailX m → l = m
  | [], [], _, _, _ => rfl
  | [], _ :: _, _, _, h => by cases h
  | _ :: _, [], _, _, h => by cases h
  | s :: l, t :: m, hl, hm, h => by
    injection h with _ h
    obtain ⟨e1, e2⟩ := cut_eq (tailX_head l) (tailX_head m) _ _ (fun b hb => (isL_ne (List.all_eq_true.1 (hl s List.mem_cons_self) b hb)).1) (fun b hb => (isL_ne (List.all_eq_true.1 (hm t List.mem_cons_self) b hb)).1) h
    rw [bts_inj e1, tailX_inj l m (fun x hx => hl x (List.mem_cons_of_mem _ hx)) (fun x hx => hm x (List.mem_cons_of_mem _ hx)) e2]
theorem wtx_inj (l m : List ByteArray) (hl : ∀ s ∈ l, 1 ≤ s.size ∧ (bts s).all isL = true) (hm : ∀ s ∈ m, 1 ≤ s.size ∧ (bts s).all isL = true) (h : wtx l = wtx m) : l = m := by
  have first : ∀ (s : ByteArray) (r : List UInt8), 1 ≤ s.size → (bts s).all isL = true → [45] = s.data.toList ++ r → False := fun s r h1 h2 h3 => by
    have hlen : s.data.toList.length = s.size := bts_len s
    cases hd : s.data.toList with
    | nil => rw [hd] at hlen; simp at hlen; omega
    | cons b t =>
      rw [hd] at h3
      injection h3 with h4 _
      have := List.all_eq_true.1 h2 b (by show b ∈ s.data.toList; rw [hd]; exact List.mem_cons_self)
      exact (isL_ne this).2 h4.symm
  cases l with
  | nil =>
    cases m with
    | nil => rfl
    | cons t m => exact (first t _ (hm t List.mem_cons_self).1 (hm t List.mem_cons_self).2 h).elim
  | cons s l =>
    cases m with
    | nil => exact (first s _ (hl s List.mem_cons_self).1 (hl s List.mem_cons_self).2 h.symm).elim
    | cons t m =>
      obtain ⟨e1, e2⟩ := cut_eq (tailX_head l) (tailX_head m) _ _ (fun b hb => (isL_ne (List.all_eq_true.1 (hl s List.mem_cons_self).2 b hb)).1) (fun b hb => (isL_ne (List.all_eq_true.1 (hm t List.mem_cons_self).2 b hb)).1) h
      rw [bts_inj e1, tailX_inj l m (fun x hx => (hl x (List.mem_cons_of_mem _ hx)).2) (fun x hx => (hm x (List.mem_cons_of_mem _ hx)).2) e2]

end Go.Proofs.YtidjjcgfdkmefaaGreatDoor.X
namespace Go.Proofs.YtidjjcgfdkmefaaGreatDoor.X
section
variable {α : Type}
def Rch (E : α → α → Prop) : Nat → α → α → Prop
  | 0, x, y => x = y
  | n + 1, x, y => ∃ z, E x z ∧ Rch E n z y
theorem Rch.add {E : α → α → Prop} : ∀ {m n : Nat} {x y z : α}, Rch E m x y → Rch E n y z → Rch E (m + n) x z
  | 0, n, x, y, z, h1, h2 => by
    cases (show x = y from h1)
    rw [Nat.zero_add]; exact h2
  | m + 1, n, x, y, z, h1, h2 => by
    obtain ⟨q, h3, h4⟩ := h1
    rw [Nat.add_right_comm]
    exact ⟨q, h3, Rch.add h4 h2⟩
theorem Rch.loop {E : α → α → Prop} {l : Nat} {x : α} (h : Rch E l x x) : ∀ k, Rch E (k * l) x x
  | 0 => by rw [Nat.zero_mul]; exact rfl
  | k + 1 => by rw [Nat.succ_mul]; exact (Rch.loop h k).add h
theorem Rch.walk {E : α → α → Prop} : ∀ {n : Nat} {x y : α}, Rch E n x y → ∃ f : Nat → α, f 0 = x ∧ f n = y ∧ ∀ i, i < n → E (f i) (f (i + 1))
  | 0, x, y, h => ⟨fun _ => x, rfl, h, fun i hi => absurd hi (Nat.not_lt_zero _)⟩
  | n + 1, x, y, h => by
    obtain ⟨z, h1, h2⟩ := h
    obtain ⟨f, f0, fn, hf⟩ := Rch.walk h2
    refine ⟨fun i => if i = 0 then x else f (i - 1), rfl, by simp [fn], fun i hi => ?_⟩
    cases i with
    | zero => simp [f0]; exact h1
    | succ i => simpa using hf i (by omega)
theorem Rch.of_walk {E : α → α → Prop} (f : Nat → α) (d : Nat) : ∀ i, (∀ t, i ≤ t → t < i + d → E (f t) (f (t + 1))) → Rch E d (f i) (f (i + d)) := by
  induction d with
  | zero => intro i _; exact rfl
  | succ d ih =>
    intro i h
    refine ⟨f (i + 1), h i (Nat.le_refl _) (by omega), ?_⟩
    have := ih (i + 1) (fun t h1 h2 => h t (by omega) (by omega))
    rwa [show i + 1 + d = i + (d + 1) by omega] at this
theorem nodup_len : ∀ (l V : List α), l.Nodup → (∀ x, x ∈ l → x ∈ V) → l.length ≤ V.length
  | [], V, _, _ => Nat.zero_le _
  | x :: l, V, h, hs => by
    classical
    rw [List.nodup_cons] at h
    have hx := hs x List.mem_cons_self
    have h1 := nodup_len l (V.erase x) h.2 (fun y hy => (List.mem_erase_of_ne (fun e : y = x => h.1 (e ▸ hy))).2 (hs y (List.mem_cons_of_mem _ hy)))
    have h2 := List.length_erase_of_mem hx
    have h3 := List.length_pos_of_mem hx
    simp only [List.length_cons]
    omega
theorem range_nodup (f : Nat → α) : ∀ (n i : Nat), (∀ a b, i ≤ a → a < b → b < i + n → f a ≠ f b) → ((List.range n).map fun t => f (i + t)).Nodup := by
  intro n i h
  unfold List.Nodup
  rw [List.pairwise_map]
  refine List.pairwise_lt_range.imp_of_mem ?_
  intro a b ha hb hab
  rw [List.mem_range] at ha hb
  exact h (i + a) (i + b) (by omega) (by omega) (by omega)
theorem first_rep (f : Nat → α) : ∀ n, (∃ i j, i < j ∧ j ≤ n ∧ f i = f j) → ∃ i j, i < j ∧ j ≤ n ∧ f i = f j ∧ ∀ a b, a < b → b < j → f a ≠ f b
  | 0, ⟨i, j, h1, h2, _⟩ => by omega
  | n + 1, ⟨i, j, h1, h2, h3⟩ => by
    by_cases h : ∃ i j, i < j ∧ j ≤ n ∧ f i = f j
    · obtain ⟨a, b, q1, q2, q3, q4⟩ := first_rep f n h
      exact ⟨a, b, q1, by omega, q3, q4⟩
    · refine ⟨i, j, h1, h2, h3, fun a b q1 q2 e => h ⟨a, b, q1, ?_, e⟩⟩
      omega
theorem cover (E : α → α → Prop) : ∀ (n : Nat) (A : List α), A.length ≤ n → A.Nodup → ∃ D : List Nat, (∀ d, d ∈ D → 0 < d) ∧ D.sum ≤ A.length ∧ ∀ Z : List α, Z ≠ [] → Z.Nodup → (∀ x, x ∈ Z → x ∈ A) → (∀ x, x ∈ Z → Rch E Z.length x x) → ∃ x, x ∈ Z ∧ ∃ d, d ∈ D ∧ Rch E d x x := by
  classical
  intro n
  induction n with
  | zero =>
    intro A hA hn
    refine ⟨[], by simp, by simp, fun Z hz _ hs _ => ?_⟩
    obtain ⟨x, hx⟩ := List.exists_mem_of_ne_nil Z hz
    have := List.length_pos_of_mem (hs x hx)
    omega
  | succ n ih =>
    intro A hA hn
    by_cases hC : ∃ C : List α, C ≠ [] ∧ C.Nodup ∧ (∀ x, x ∈ C → x ∈ A) ∧ ∀ x, x ∈ C → Rch E C.length x x
    · obtain ⟨C, c1, c2, c3, c4⟩ := hC
      have hlen : (C ++ A.filter fun x => decide (x ∉ C)).length ≤ A.length := by
        refine nodup_len _ _ ?_ ?_
        · refine List.nodup_append.2 ⟨c2, List.Nodup.sublist List.filter_sublist hn, fun x hx y hy e => ?_⟩
          subst e
          rw [List.mem_filter] at hy
          exact absurd hx (by simpa using hy.2)
        · intro x hx
          rcases List.mem_append.1 hx with h | h
          · exact c3 x h
          · exact (List.mem_filter.1 h).1
      rw [List.length_append] at hlen
      have hpos : 0 < C.length := List.length_pos_iff.2 c1
      obtain ⟨D, d1, d2, d3⟩ := ih (A.filter fun x => decide (x ∉ C)) (by omega) (List.Nodup.sublist List.filter_sublist hn)
      refine ⟨C.length :: D, ?_, ?_, ?_⟩
      · intro d hd
        rcases List.mem_cons.1 hd with rfl | h
        · exact hpos
        · exact d1 d h
      · rw [List.sum_cons]; omega
      · intro Z z1 z2 z3 z4
        by_cases hx : ∃ x, x ∈ Z ∧ x ∈ C
        · obtain ⟨x, h1, h2⟩ := hx
          exact ⟨x, h1, C.length, List.mem_cons_self, c4 x h2⟩
        · obtain ⟨x, h1, d, h2, h3⟩ := d3 Z z1 z2 (fun x hz => List.mem_filter.2 ⟨z3 x hz, by simpa using fun hc => hx ⟨x, hz, hc⟩⟩) z4
          exact ⟨x, h1, d, List.mem_cons_of_mem _ h2, h3⟩
    · refine ⟨[], by simp, by simp, fun Z z1 z2 z3 z4 => absurd ⟨Z, z1, z2, z3, z4⟩ hC⟩
end
def prodD (D : List Nat) : Nat → Nat
  | 0 => 1
  | n + 1 => (if n ∈ D ∧ 0 < n then n else 1) * prodD D n
def sumD (D : List Nat) : Nat → Nat
  | 0 => 0
  | n + 1 => (if n ∈ D then n else 0) + sumD D n
def wt (n : Nat) : Nat := if n < 12 then [0, 0, 4, 7, 8, 9, 8, 8, 6, 5, 4, 2].getD n 0 else 0
def wsum : Nat → Nat
  | 0 => 0
  | n + 1 => wt n + wsum n
theorem prodD_pos (D : List Nat) : ∀ n, 0 < prodD D n
  | 0 => Nat.one_pos
  | n + 1 => by
    unfold prodD
    refine Nat.mul_pos ?_ (prodD_pos D n)
    split
    · rename_i h; exact h.2
    · exact Nat.one_pos
theorem prodD_dvd (D : List Nat) (d : Nat) (h1 : d ∈ D) (h2 : 0 < d) : ∀ n, d < n → d ∣ prodD D n
  | 0, h => absurd h (Nat.not_lt_zero _)
  | n + 1, h => by
    unfold prodD
    by_cases e : d = n
    · subst e
      rw [if_pos ⟨h1, h2⟩]
      exact Nat.dvd_mul_right _ _
    · exact Nat.dvd_trans (prodD_dvd D d h1 h2 n (by omega)) (Nat.dvd_mul_left _ _)
theorem pow_wt : ∀ n, n < 97 → n ^ 10 ≤ 2 ^ (3 * n + wt n) := by decide +kernel
theorem prodD_le (D : List Nat) : ∀ n, n ≤ 97 → prodD D n ^ 10 ≤ 2 ^ (3 * sumD D n + wsum n)
  | 0, _ => by rw [show prodD D 0 = 1 from rfl, Nat.one_pow]; exact Nat.one_le_two_pow
  | n + 1, h => by
    unfold prodD sumD wsum
    rw [Nat.mul_pow]
    have h1 := prodD_le D n (by omega)
    have h2 : (if n ∈ D ∧ 0 < n then n else 1) ^ 10 ≤ 2 ^ (3 * (if n ∈ D then n else 0) + wt n) := by
      by_cases hn : n ∈ D
      · by_cases h0 : 0 < n
        · rw [if_pos ⟨hn, h0⟩, if_pos hn]; exact pow_wt n (by omega)
        · rw [if_neg (fun q => h0 q.2), Nat.one_pow]; exact Nat.one_le_two_pow
      · rw [if_neg (fun q => hn q.1), Nat.one_pow]; exact Nat.one_le_two_pow
    refine Nat.le_trans (Nat.mul_le_mul h2 h1) ?_
    rw [← Nat.pow_add]
    exact Nat.pow_le_pow_right (by decide) (by omega)
theorem sumD_one (d : Nat) (D : List Nat) : ∀ n, sumD (d :: D) n ≤ (if d < n then d else 0) + sumD D n
  | 0 => by simp [sumD]
  | n + 1 => by
    have ih := sumD_one d D n
    unfold sumD
    by_cases e : n = d
    · subst e
      rw [if_pos List.mem_cons_self, if_pos (by omega)]
      rw [if_neg (by omega)] at ih
      split <;> omega
    · have hm : (n ∈ d :: D) ↔ n ∈ D := by rw [List.mem_cons]; exact ⟨fun h => h.resolve_left e, .inr⟩
      by_cases h1 : d < n
      · rw [if_pos (show d < n + 1 by omega)]
        rw [if_pos h1] at ih
        by_cases h2 : n ∈ D
        · rw [if_pos h2, if_pos (hm.2 h2)]; omega
        · rw [if_neg h2, if_neg (fun q => h2 (hm.1 q))]; omega
      · rw [if_neg (show ¬ d < n + 1 by omega)]
        rw [if_neg h1] at ih
        by_cases h2 : n ∈ D
        · rw [if_pos h2, if_pos (hm.2 h2)]; omega
        · rw [if_neg h2, if_neg (fun q => h2 (hm.1 q))]; omega
theorem sumD_nil : ∀ n, sumD [] n = 0
  | 0 => rfl
  | n + 1 => by unfold sumD; rw [sumD_nil n]; simp
theorem sumD_le : ∀ (D : List Nat) (n : Nat), sumD D n ≤ D.sum
  | [], n => by rw [sumD_nil]; simp
  | d :: D, n => by
    have h1 := sumD_one d D n
    have h2 := sumD_le D n
    rw [List.sum_cons]
    split at h1 <;> omega
theorem mem_le_sum (d : Nat) : ∀ l : List Nat, d ∈ l → d ≤ l.sum
  | [], h => by cases h
  | x :: l, h => by
    rw [List.sum_cons]
    rcases List.mem_cons.1 h with rfl | h
    · omega
    · have := mem_le_sum d l h; omega
theorem prodD_small (D : List Nat) (h : D.sum ≤ 84) : prodD D 97 ≤ 4294967296 := by
  refine Nat.le_of_not_lt fun hlt => ?_
  have h1 := prodD_le D 97 (Nat.le_refl _)
  have h2 := sumD_le D 97
  have h3 : wsum 97 = 61 := by decide
  obtain ⟨e, he⟩ : ∃ e : Nat, e = 313 := ⟨_, rfl⟩
  obtain ⟨a, ha⟩ : ∃ a : Nat, a = 32 := ⟨_, rfl⟩
  have h4 : (2 : Nat) ^ (3 * sumD D 97 + wsum 97) ≤ 2 ^ e := Nat.pow_le_pow_right (by decide) (by omega)
  have h5 : (2 ^ a) ^ 10 ≤ prodD D 97 ^ 10 := Nat.pow_le_pow_left (by rw [ha]; omega) 10
  have h6 : (2 : Nat) ^ e < (2 ^ a) ^ 10 := by
    rw [← Nat.pow_mul]
    exact Nat.pow_lt_pow_right (by decide) (by omega)
  exact Nat.lt_irrefl _ (Nat.lt_of_lt_of_le h6 (Nat.le_trans h5 (Nat.le_trans h1 h4)))
section
variable {α : Type}
theorem Rch.snoc {E : α → α → Prop} : ∀ {n : Nat} {x y z : α}, Rch E n x y → E y z → Rch E (n + 1) x z := fun h1 h2 => Rch.add h1 ⟨_, h2, rfl⟩
theorem U_Rch {E : α → α → Prop} {U : Nat → List α} (hU : ∀ n v, v ∈ U (n + 1) ↔ ∃ u, u ∈ U n ∧ E u v) : ∀ n v, v ∈ U n ↔ ∃ u, u ∈ U 0 ∧ Rch E n u v
  | 0, v => ⟨fun h => ⟨v, h, rfl⟩, fun ⟨u, h1, h2⟩ => (show u = v from h2) ▸ h1⟩
  | n + 1, v => by
    rw [hU n v]
    constructor
    · rintro ⟨u, h1, h2⟩
      obtain ⟨q, h3, h4⟩ := (U_Rch hU n u).1 h1
      exact ⟨q, h3, h4.snoc h2⟩
    · rintro ⟨q, h3, h4⟩
      obtain ⟨f, f0, fn, hf⟩ := Rch.walk h4
      refine ⟨f n, (U_Rch hU n (f n)).2 ⟨q, h3, ?_⟩, fn ▸ hf n (by omega)⟩
      have := Rch.of_walk (E := E) f n 0 (fun t _ h => hf t (by omega))
      rwa [Nat.zero_add, f0] at this
/-- What is reached in n steps, within few points, repeats before long. -/
theorem repeats (E : α → α → Prop) (U : Nat → List α) (V : List α) (hU : ∀ n v, v ∈ U (n + 1) ↔ ∃ u, u ∈ U n ∧ E u v) (hV : ∀ n v, v ∈ U n → v ∈ V) (hn : V.Nodup) (hl : V.length ≤ 84) :
    ∃ i j, i < j ∧ j ≤ 400000000000 ∧ ∀ v, v ∈ U i ↔ v ∈ U j := by
  classical
  obtain ⟨D, d1, d2, d3⟩ := cover E V.length V (Nat.le_refl _) hn
  have hL := prodD_small D (by omega)
  have hL0 := prodD_pos D 97
  have hdv : ∀ d, d ∈ D → d ∣ prodD D 97 := fun d hd => by
    refine prodD_dvd D d hd (d1 d hd) 97 ?_
    have : d ≤ D.sum := mem_le_sum d D hd
    omega
  generalize prodD D 97 = L at *
  have key : ∀ n v, V.length ≤ n → v ∈ U n → v ∈ U (n + L) := by
    intro n v hnl hv
    obtain ⟨u, hu, hr⟩ := (U_Rch hU n v).1 hv
    obtain ⟨f, f0, fn, hf⟩ := Rch.walk hr
    have hfV : ∀ i, i ≤ n → f i ∈ V := fun i hi => hV i _ ((U_Rch hU i (f i)).2 ⟨u, hu, by
      have := Rch.of_walk (E := E) f i 0 (fun t _ h => hf t (by omega))
      rwa [Nat.zero_add, f0] at this⟩)
    have hrep : ∃ i j, i < j ∧ j ≤ V.length ∧ f i = f j := by
      refine Classical.byContradiction fun hno => ?_
      have h1 := range_nodup f (V.length + 1) 0 (fun a b _ hab hb e => hno ⟨a, b, hab, by omega, e⟩)
      have h2 := nodup_len _ V h1 (fun x hx => by
        obtain ⟨t, ht, rfl⟩ := List.mem_map.1 hx
        rw [List.mem_range] at ht
        exact hfV _ (by omega))
      rw [List.length_map, List.length_range] at h2
      omega
    obtain ⟨i, j, hij, hj, hfe, hinj⟩ := first_rep f V.length hrep
    obtain ⟨x, hx, d, hd, hc⟩ := d3 ((List.range (j - i)).map fun t => f (i + t)) (by
        intro e
        have := congrArg List.length e
        rw [List.length_map, List.length_range] at this
        simp only [List.length_nil] at this
        omega) (range_nodup f (j - i) i (fun a b ha hab hb => hinj a b hab (by omega))) (fun x hx => by
        obtain ⟨t, ht, rfl⟩ := List.mem_map.1 hx
        rw [List.mem_range] at ht
        exact hfV _ (by omega)) (fun x hx => by
        obtain ⟨t, ht, rfl⟩ := List.mem_map.1 hx
        rw [List.mem_range] at ht
        rw [List.length_map, List.length_range]
        have h1 := Rch.of_walk (E := E) f (j - i - t) (i + t) (fun q _ h => hf q (by omega))
        have h2 := Rch.of_walk (E := E) f t i (fun q _ h => hf q (by omega))
        rw [show i + t + (j - i - t) = j by omega, ← hfe] at h1
        have := h1.add h2
        rwa [show j - i - t + t = j - i by omega] at this)
    obtain ⟨t, ht, rfl⟩ := List.mem_map.1 hx
    rw [List.mem_range] at ht
    obtain ⟨k, hk⟩ := hdv d hd
    have hc2 := hc.loop k
    rw [Nat.mul_comm, ← hk] at hc2
    refine (U_Rch hU (n + L) v).2 ⟨u, hu, ?_⟩
    have h1 := Rch.of_walk (E := E) f (i + t) 0 (fun q _ h => hf q (by omega))
    have h2 := Rch.of_walk (E := E) f (n - (i + t)) (i + t) (fun q _ h => hf q (by omega))
    rw [Nat.zero_add, f0] at h1
    rw [show i + t + (n - (i + t)) = n by omega, fn] at h2
    have := (h1.add hc2).add h2
    rwa [show i + t + L + (n - (i + t)) = n + L by omega] at this
  have hstep : ∃ q, q ≤ V.length ∧ ∀ v, v ∈ U (V.length + q * L) ↔ v ∈ U (V.length + (q + 1) * L) := by
    refine Classical.byContradiction fun hno => ?_
    have grow : ∀ q, q ≤ V.length + 1 → q ≤ (V.filter fun v => decide (v ∈ U (V.length + q * L))).length := by
      intro q
      induction q with
      | zero => intro _; exact Nat.zero_le _
      | succ q ih =>
        intro hq
        have h1 := ih (by omega)
        have hsub : ∀ v, v ∈ U (V.length + q * L) → v ∈ U (V.length + (q + 1) * L) := fun v hv => by
          have := key _ v (by omega) hv
          rwa [Nat.succ_mul, ← Nat.add_assoc]
        have hex : ∃ v, v ∈ U (V.length + (q + 1) * L) ∧ v ∉ U (V.length + q * L) := by
          refine Classical.byContradiction fun hall => hno ⟨q, by omega, fun v => ⟨hsub v, fun hv => ?_⟩⟩
          refine Classical.byContradiction fun h => hall ⟨v, hv, h⟩
        obtain ⟨v, hv1, hv2⟩ := hex
        have h2 := nodup_len (v :: V.filter fun v => decide (v ∈ U (V.length + q * L))) (V.filter fun v => decide (v ∈ U (V.length + (q + 1) * L))) (by
          rw [List.nodup_cons]
          exact ⟨fun h => hv2 (by simpa using (List.mem_filter.1 h).2), List.Nodup.sublist List.filter_sublist hn⟩) (by
          intro x hx
          rcases List.mem_cons.1 hx with rfl | h
          · exact List.mem_filter.2 ⟨hV _ _ hv1, by simpa using hv1⟩
          · have h3 := List.mem_filter.1 h
            exact List.mem_filter.2 ⟨h3.1, by simpa using hsub x (by simpa using h3.2)⟩)
        rw [List.length_cons] at h2
        omega
    have h1 := grow (V.length + 1) (Nat.le_refl _)
    have h2 : (V.filter fun v => decide (v ∈ U (V.length + (V.length + 1) * L))).length ≤ V.length := List.length_filter_le _ _
    omega
  obtain ⟨q, hq, he⟩ := hstep
  refine ⟨V.length + q * L, V.length + (q + 1) * L, ?_, ?_, he⟩
  · rw [Nat.succ_mul]; omega
  · have : (q + 1) * L ≤ 85 * 4294967296 := Nat.mul_le_mul (by omega) hL
    omega
end

end Go.Proofs.YtidjjcgfdkmefaaGreatDoor.X
namespace Go.Proofs.YtidjjcgfdkmefaaGreatDoor.X
open Go.RowKit Go.Proofs.YtidjjcgfdkmefaaGreatDoorW.PrintWords Go.Proofs.YtidjjcgfdkmefaaGreatDoorW.PrintLast Go.Proofs.YtidjjcgfdkmefaaGreatDoorW.PrintMore Go.Proofs.YtidjjcgfdkmefaaGreatDoor

theorem srt_nodup {l : List ByteArray} (h : l.Pairwise (fun a b => wless a b = true)) : l.Nodup :=
  h.imp (fun hab e => by subst e; rw [wless_irrefl] at hab; cases hab)
theorem ext_end (s : ByteArray) (a : Nat) : bts (s.extract a s.size) = (bts s).drop a := by
  have h := toL_ex s a s.size
  rw [Pl.toL] at h
  refine h.trans (List.take_of_length_le ?_)
  rw [List.length_drop, bts_len]
  exact Nat.le_refl _
theorem ext_sz (s : ByteArray) (a : Nat) : (s.extract a s.size).size = s.size - a := by
  rw [← bts_len, ext_end, List.length_drop, bts_len]
theorem ext_ext (u : ByteArray) (i j : Nat) : (u.extract i u.size).extract j (u.extract i u.size).size = u.extract (i + j) u.size := by
  refine bts_inj ?_
  show bts _ = bts _
  rw [ext_end, ext_end, ext_end, List.drop_drop]
/-- The ends of a word that are not the whole of it. -/
def sfx (t : ByteArray) : List ByteArray := (List.range (t.size - 1)).map fun i => t.extract (i + 1) t.size
def sfxs (set : List ByteArray) : List ByteArray := set.flatMap sfx
theorem sfxs_mem (set : List ByteArray) (v : ByteArray) : v ∈ sfxs set ↔ ∃ t, t ∈ set ∧ ∃ i, 1 ≤ i ∧ i < t.size ∧ v = t.extract i t.size := by
  unfold sfxs sfx
  simp only [List.mem_flatMap, List.mem_map, List.mem_range]
  constructor
  · rintro ⟨t, ht, i, hi, rfl⟩
    exact ⟨t, ht, i + 1, by omega, by omega, rfl⟩
  · rintro ⟨t, ht, i, h1, h2, rfl⟩
    exact ⟨t, ht, i - 1, by omega, by rw [show i - 1 + 1 = i by omega]⟩
theorem sfxs_len : ∀ set : List ByteArray, (∀ t ∈ set, t.size ≤ 8) → (sfxs set).length ≤ 7 * set.length
  | [], _ => by simp [sfxs]
  | t :: set, h => by
    have h1 := h t List.mem_cons_self
    have h2 := sfxs_len set (fun u hu => h u (List.mem_cons_of_mem _ hu))
    unfold sfxs at h2 ⊢
    rw [List.flatMap_cons, List.length_append, List.length_cons]
    have : (sfx t).length = t.size - 1 := by unfold sfx; rw [List.length_map, List.length_range]
    omega
theorem rest_mem (s t v : ByteArray) : v ∈ rest s t ↔ bgQ t s = true ∧ s.size < t.size ∧ v = t.extract s.size t.size := by
  unfold rest
  split
  · rename_i h
    rw [List.mem_singleton]
    exact ⟨fun e => ⟨h.1, h.2, e⟩, fun e => e.2.2⟩
  · rename_i h
    exact ⟨fun e => absurd e (by simp), fun e => absurd ⟨e.1, e.2.1⟩ h⟩
theorem rest_self (s v : ByteArray) : ¬ v ∈ rest s s := fun h => absurd ((rest_mem s s v).1 h).2.1 (Nat.lt_irrefl _)
theorem quot_mem (a b : List ByteArray) (v : ByteArray) : v ∈ quot a b ↔ ∃ s, s ∈ a ∧ ∃ t, t ∈ b ∧ v ∈ rest s t := by
  unfold quot
  simp only [List.mem_flatMap]
theorem rest_sfxs {set : List ByteArray} {s u v : ByteArray} (hs : 1 ≤ s.size) (hu : u ∈ set ∨ u ∈ sfxs set) (h : v ∈ rest s u) : v ∈ sfxs set := by
  obtain ⟨_, h2, rfl⟩ := (rest_mem s u v).1 h
  rw [sfxs_mem]
  rcases hu with hu | hu
  · exact ⟨u, hu, s.size, hs, h2, rfl⟩
  · obtain ⟨t, ht, i, h3, h4, rfl⟩ := (sfxs_mem set u).1 hu
    rw [ext_sz] at h2
    exact ⟨t, ht, i + s.size, by omega, by omega, ext_ext t i s.size⟩
theorem wshort_all {s : ByteArray} (h : wshort s = true) : (bts s).all isL = true := by
  unfold wshort at h
  simp only [Bool.and_eq_true] at h
  exact h.2
theorem sfxs_ok {set : List ByteArray} (h : wset set) {v : ByteArray} (hv : v ∈ sfxs set) : 1 ≤ v.size ∧ v.size ≤ 8 ∧ (bts v).all isL = true := by
  obtain ⟨t, ht, i, h1, h2, rfl⟩ := (sfxs_mem set v).1 hv
  have h3 := wset_short h t ht
  have h4 := wshort_size h3
  refine ⟨by rw [ext_sz]; omega, by rw [ext_sz]; omega, ?_⟩
  rw [ext_end, List.all_eq_true]
  exact fun b hb => List.all_eq_true.1 (wshort_all h3) b (List.mem_of_mem_drop hb)
/-- The dangling lists. -/
def dgs (set : List ByteArray) : Nat → List ByteArray
  | 0 => puts (quot set set) []
  | n + 1 => puts (quot set (dgs set n) ++ quot (dgs set n) set) []
theorem puts_mem (l : List ByteArray) (v : ByteArray) : v ∈ puts l [] ↔ v ∈ l := by
  rw [(puts_ok l [] List.Pairwise.nil).2.1 v]; simp
theorem puts_len (l : List ByteArray) : (puts l []).length ≤ l.length := by
  have := (puts_ok l [] List.Pairwise.nil).2.2
  simpa using this
theorem dgs_srt (set : List ByteArray) (n : Nat) : (dgs set n).Pairwise (fun a b => wless a b = true) := by
  cases n <;> exact (puts_ok _ [] List.Pairwise.nil).1
def dgE (set : List ByteArray) (u v : ByteArray) : Prop := ∃ s, s ∈ set ∧ (v ∈ rest s u ∨ v ∈ rest u s)
theorem dgs_mem (set : List ByteArray) (n : Nat) (v : ByteArray) : v ∈ dgs set (n + 1) ↔ ∃ u, u ∈ dgs set n ∧ dgE set u v := by
  rw [dgs, puts_mem, List.mem_append, quot_mem, quot_mem]
  constructor
  · rintro (⟨s, hs, t, ht, h⟩ | ⟨s, hs, t, ht, h⟩)
    · exact ⟨t, ht, s, hs, .inl h⟩
    · exact ⟨s, hs, t, ht, .inr h⟩
  · rintro ⟨u, hu, s, hs, h | h⟩
    · exact .inl ⟨s, hs, u, hu, h⟩
    · exact .inr ⟨u, hu, s, hs, h⟩
theorem dgs_sub {set : List ByteArray} (h : wset set) : ∀ n v, v ∈ dgs set n → v ∈ sfxs set
  | 0, v, hv => by
    rw [dgs, puts_mem, quot_mem] at hv
    obtain ⟨s, hs, t, ht, hr⟩ := hv
    exact rest_sfxs (wshort_size (wset_short h s hs)).1 (.inl ht) hr
  | n + 1, v, hv => by
    obtain ⟨u, hu, s, hs, hr | hr⟩ := (dgs_mem set n v).1 hv
    · exact rest_sfxs (wshort_size (wset_short h s hs)).1 (.inr (dgs_sub h n u hu)) hr
    · exact rest_sfxs (sfxs_ok h (dgs_sub h n u hu)).1 (.inl hs) hr
theorem sfxs84 {set : List ByteArray} (h : wset set) : (sfxs set).length ≤ 84 := by
  have h1 := sfxs_len set (set_sizes h)
  have h2 := h.1
  omega
theorem dgs_len {set : List ByteArray} (h : wset set) (n : Nat) : (dgs set n).length ≤ 84 :=
  Nat.le_trans (nodup_len _ _ (srt_nodup (dgs_srt set n)) (dgs_sub h n)) (sfxs84 h)
theorem dgs_ok {set : List ByteArray} (h : wset set) (n : Nat) : ∀ v ∈ dgs set n, 1 ≤ v.size ∧ v.size ≤ 8 ∧ (bts v).all isL = true := fun v hv => sfxs_ok h (dgs_sub h n v hv)
theorem dgs_rep {set : List ByteArray} (h : wset set) : ∃ i j, i < j ∧ j ≤ 400000000000 ∧ dgs set i = dgs set j := by
  obtain ⟨i, j, h1, h2, h3⟩ := repeats (dgE set) (dgs set) (puts (sfxs set) []) (dgs_mem set) (fun n v hv => (puts_mem _ v).2 (dgs_sub h n v hv)) (srt_nodup (puts_ok _ [] List.Pairwise.nil).1) (Nat.le_trans (puts_len _) (sfxs84 h))
  exact ⟨i, j, h1, h2, srt_ext wless wless_irrefl (fun _ _ h => wless_asymm h) _ _ (dgs_srt set i) (dgs_srt set j) h3⟩
/-- Where the lists end: at a word of the set, at an empty list, or at one that was there. -/
def dgStop (set : List ByteArray) (n : Nat) : Prop := (∃ v, v ∈ dgs set n ∧ v ∈ set) ∨ dgs set n = [] ∨ ∃ i, i < n ∧ dgs set i = dgs set n
theorem leastN (p : Nat → Prop) : ∀ n, p n → ∃ m, m ≤ n ∧ p m ∧ ∀ i, i < m → ¬ p i := by
  intro n
  induction n using Nat.strongRecOn with
  | ind n ih =>
    intro hn
    by_cases h : ∃ i, i < n ∧ p i
    · obtain ⟨i, h1, h2⟩ := h
      obtain ⟨m, h3, h4⟩ := ih i h1 h2
      exact ⟨m, by omega, h4⟩
    · exact ⟨n, Nat.le_refl _, hn, fun i hi hp => h ⟨i, hi, hp⟩⟩
theorem dgStop_ex {set : List ByteArray} (h : wset set) : ∃ J, J ≤ 400000000000 ∧ dgStop set J ∧ ∀ i, i < J → ¬ dgStop set i := by
  obtain ⟨i, j, h1, h2, h3⟩ := dgs_rep h
  obtain ⟨m, h4, h5⟩ := leastN (dgStop set) j (.inr (.inr ⟨i, h1, h3⟩))
  exact ⟨m, by omega, h5⟩
noncomputable def dgn (set : List ByteArray) : Nat := if h : wset set then Classical.choose (dgStop_ex h) else 0
theorem dgn_spec {set : List ByteArray} (h : wset set) : dgn set ≤ 400000000000 ∧ dgStop set (dgn set) ∧ ∀ i, i < dgn set → ¬ dgStop set i := by
  unfold dgn
  rw [dif_pos h]
  exact Classical.choose_spec (dgStop_ex h)
noncomputable def dgl (set : List ByteArray) : List (List ByteArray) := (List.range (dgn set + 1)).map (dgs set)
noncomputable def dgh (set : List ByteArray) : Bool := (dgs set (dgn set)).any fun x => Lib.containsS set x
theorem range_snoc (U : Nat → List ByteArray) (i : Nat) : (List.range i).map U ++ [U i] = (List.range (i + 1)).map U := by
  rw [List.range_succ, List.map_append]; rfl

end Go.Proofs.YtidjjcgfdkmefaaGreatDoor.X
namespace Go.Proofs.YtidjjcgfdkmefaaGreatDoor.X
open Go.RowKit Go.Proofs.YtidjjcgfdkmefaaGreatDoorW.PrintWords Go.Proofs.YtidjjcgfdkmefaaGreatDoorW.PrintLast Go.Proofs.YtidjjcgfdkmefaaGreatDoorW.PrintMore Go.Proofs.YtidjjcgfdkmefaaGreatDoor

theorem wdHas_l (l : List ByteArray) (w : ByteArray) (hl : l.length ≤ 1048576) (d : Nat) : ∀ i : Nat, i + d = l.length → Ev (fun k => spec_wdHas.l0 k w l (l.length : Int) (i : Int)) (Lib.containsS (l.drop i) w) := by
  induction d with
  | zero =>
    intro i hd
    refine Pl.succ ?_
    simp only [spec_wdHas.l0]
    rw [List.drop_of_length_le (by omega)]
    exact Pl.neg (by omega) (Pl.ret (by
      cases hq : Lib.containsS ([] : List ByteArray) w with
      | false => rfl
      | true => exact absurd ((Lib.containsS_iff _ _).1 hq) (by simp)))
  | succ d ih =>
    intro i hd
    have hil : i < l.length := by omega
    refine Pl.succ ?_
    simp only [spec_wdHas.l0]
    rw [Pl.rdS_nat _ i hil, Pl.w64 (n := (i : Int) + 1) (by omega) (by omega), List.drop_eq_getElem_cons hil]
    refine Pl.pos (by omega) (Pl.pos (by omega) (Pl.pos (by omega) ?_))
    by_cases h : w.toList = l[i].toList
    · exact Pl.pos h (Pl.ret ((Lib.containsS_iff _ _).2 (Pl.ba_ext h ▸ List.mem_cons_self)).symm)
    · refine Pl.neg h (Pl.via (ih (i + 1) (by omega)) ?_)
      have hne : w ≠ l[i] := fun e => h (by rw [e])
      exact Bool.eq_iff_iff.2 ((Lib.containsS_iff _ _).trans (Iff.trans ⟨List.mem_cons_of_mem _, fun q => (List.mem_cons.1 q).resolve_left hne⟩ (Lib.containsS_iff _ _).symm))
theorem wdHas (l : List ByteArray) (w : ByteArray) (hl : l.length ≤ 1048576) : Ev (fun k => spec_wdHas.f k l w) (Lib.containsS l w) :=
  Pl.via (wdHas_l l w hl l.length 0 (by omega)) (by rw [List.drop_zero])

end Go.Proofs.YtidjjcgfdkmefaaGreatDoor.X
namespace Go.Proofs.YtidjjcgfdkmefaaGreatDoor.X
open Go.RowKit Go.Proofs.YtidjjcgfdkmefaaGreatDoorW.PrintWords Go.Proofs.YtidjjcgfdkmefaaGreatDoorW.PrintLast Go.Proofs.YtidjjcgfdkmefaaGreatDoorW.PrintMore Go.Proofs.YtidjjcgfdkmefaaGreatDoor

theorem wdQuotientX (a b : List ByteArray) (ha : a.length ≤ 1000) (hb : b.length ≤ 1000) : Ev (fun k => spec_wdQuotient.f k a b) (puts (quot a b) []) :=
  Pl.via (wdQuotient_l a b ha hb a.length 0 [] (by omega) (by simp)) (by rw [List.drop_zero])
theorem leftX (a b : List ByteArray) (ha : a.length ≤ 1000) (hb : b.length ≤ 1000) : Ev (fun k => impl_left.f k a b) (puts (quot a b) []) :=
  Pl.via (left_l a b ha hb a.length 0 [] (by omega) (by simp)) (by rw [List.drop_zero, List.nil_append])
theorem dcNext_l (l : List ByteArray) (hl : l.length ≤ 100000) (d : Nat) : ∀ (i : Nat) (out : List ByteArray), i + d = l.length → out.length ≤ 200000 + i → Ev (fun k => spec_dcNext.l0 k out l (l.length : Int) (i : Int)) (puts (l.drop i) out) := by
  induction d with
  | zero =>
    intro i out hd ho
    refine Pl.succ ?_
    simp only [spec_dcNext.l0]
    rw [List.drop_of_length_le (by omega)]
    exact Pl.neg (by omega) (Pl.ret rfl)
  | succ d ih =>
    intro i out hd ho
    have hil : i < l.length := by omega
    have hp := put_len out l[i]
    refine Pl.succ ?_
    simp only [spec_dcNext.l0]
    rw [Pl.rdS_nat _ i hil, Pl.w64 (n := (i : Int) + 1) (by omega) (by omega), List.drop_eq_getElem_cons hil]
    exact Pl.pos (by omega) (Pl.pos (by omega) (Pl.pos (by omega) (Ev.bind (wdPut out l[i] (by omega)) (ih (i + 1) _ (by omega) (by omega)))))
theorem dcNext (set l : List ByteArray) (hs : set.length ≤ 12) (hl : l.length ≤ 84) : Ev (fun k => spec_dcNext.f k set l) (puts (quot set l ++ quot l set) []) := by
  unfold spec_dcNext.f
  have q1 := puts_len (quot set l)
  have q2 := quot_len set l
  have q3 := puts_len (quot l set)
  have q4 := quot_len l set
  have q5 : set.length * l.length ≤ 12 * 84 := Nat.mul_le_mul hs hl
  have q6 : l.length * set.length ≤ 84 * 12 := Nat.mul_le_mul hl hs
  refine Ev.bind (wdQuotientX set l (by omega) (by omega)) (Ev.bind (wdQuotientX l set (by omega) (by omega)) (Pl.via (dcNext_l _ (by omega) _ 0 _ (Nat.zero_add _) (by omega)) ?_))
  rw [List.drop_zero]
  refine srt_ext wless wless_irrefl (fun _ _ h => wless_asymm h) _ _ (puts_ok _ _ (puts_ok _ [] List.Pairwise.nil).1).1 (puts_ok _ [] List.Pairwise.nil).1 fun z => ?_
  rw [(puts_ok _ _ (puts_ok _ [] List.Pairwise.nil).1).2.1 z, puts_mem, puts_mem, puts_mem, List.mem_append]
theorem mapO_ev {α β : Type} (f : Nat → α → Option β) (g : α → β) : ∀ l : List α, (∀ x, x ∈ l → Ev (fun k => f k x) (g x)) → Ev (fun k => mapO (f k) l) (l.map g)
  | [], _ => Ev.now []
  | x :: l, h => Ev.bind (h x List.mem_cons_self) (Ev.bind (mapO_ev f g l fun y hy => h y (List.mem_cons_of_mem _ hy)) (Pl.ret rfl))
def txB (l : List ByteArray) : ByteArray := ⟨(wtx l).toArray⟩
theorem txB_inj {set : List ByteArray} (h : wset set) (i j : Nat) : ((txB (dgs set i)).toList == (txB (dgs set j)).toList) = true ↔ dgs set i = dgs set j := by
  rw [beq_iff_eq]
  constructor
  · intro e
    rw [Pl.toL, Pl.toL] at e
    exact wtx_inj _ _ (fun s hs => ⟨(dgs_ok h i s hs).1, (dgs_ok h i s hs).2.2⟩) (fun s hs => ⟨(dgs_ok h j s hs).1, (dgs_ok h j s hs).2.2⟩) (by simpa [txB] using e)
  · intro e; rw [e]
theorem specStop {set : List ByteArray} (h : wset set) (i : Nat) : ((((List.range i).map (dgs set)).map txB).any (fun t => t.toList == (txB (dgs set i)).toList) || ((dgs set i).map fun x => Lib.containsS set x).any id || (dgs set i).isEmpty) = true ↔ dgStop set i := by
  unfold dgStop
  rw [Bool.or_eq_true, Bool.or_eq_true, List.any_eq_true, List.any_eq_true, List.isEmpty_iff]
  constructor
  · rintro ((⟨t, ht, e⟩ | ⟨b, hb, e⟩) | e)
    · obtain ⟨l, hl, rfl⟩ := List.mem_map.1 ht
      obtain ⟨j, hj, rfl⟩ := List.mem_map.1 hl
      exact .inr (.inr ⟨j, List.mem_range.1 hj, (txB_inj h j i).1 e⟩)
    · obtain ⟨x, hx, rfl⟩ := List.mem_map.1 hb
      exact .inl ⟨x, hx, (Lib.containsS_iff _ _).1 e⟩
    · exact .inr (.inl e)
  · rintro (⟨v, h1, h2⟩ | e | ⟨j, hj, e⟩)
    · exact .inl (.inr ⟨_, List.mem_map.2 ⟨v, h1, rfl⟩, (Lib.containsS_iff _ _).2 h2⟩)
    · exact .inr e
    · exact .inl (.inl ⟨_, List.mem_map.2 ⟨_, List.mem_map.2 ⟨j, List.mem_range.2 hj, rfl⟩, rfl⟩, (txB_inj h j i).2 e⟩)
theorem implStop {set : List ByteArray} (i : Nat) : ((dgs set i).any (fun x => Lib.containsS set x) = true ∨ ((dgs set i).isEmpty || ((List.range i).map (dgs set)).any (fun x => decide (x = dgs set i))) = true) ↔ dgStop set i := by
  unfold dgStop
  rw [Bool.or_eq_true, List.any_eq_true, List.any_eq_true, List.isEmpty_iff]
  constructor
  · rintro (⟨v, h1, h2⟩ | e | ⟨l, hl, e⟩)
    · exact .inl ⟨v, h1, (Lib.containsS_iff _ _).1 h2⟩
    · exact .inr (.inl e)
    · obtain ⟨j, hj, rfl⟩ := List.mem_map.1 hl
      exact .inr (.inr ⟨j, List.mem_range.1 hj, of_decide_eq_true e⟩)
  · rintro (⟨v, h1, h2⟩ | e | ⟨j, hj, e⟩)
    · exact .inl ⟨v, h1, (Lib.containsS_iff _ _).2 h2⟩
    · exact .inr (.inl e)
    · exact .inr (.inr ⟨_, List.mem_map.2 ⟨j, List.mem_range.2 hj, rfl⟩, decide_eq_true e⟩)
theorem dlL_ev {set : List ByteArray} (h : wset set) (hn : ∀ l : List ByteArray, l.length ≤ 84 → Ev (fun k => spec_dcNext.f k set l) (puts (quot set l ++ quot l set) [])) (d : Nat) : ∀ i, i + d = dgn set → ∃ K, ∀ k, K ≤ k → ∀ n, d < n → dlL k set n ((List.range i).map (dgs set)) (dgs set i) = some (dgl set) := by
  obtain ⟨hJ, hS, hN⟩ := dgn_spec h
  have base : ∀ i, Ev (fun k => spec_wdText.f k (dgs set i)) (txB (dgs set i)) := fun i => wdTextX _ (by have := dgs_len h i; omega) (fun s hs => ⟨(dgs_ok h i s hs).1, (dgs_ok h i s hs).2.1⟩)
  have he : ∀ i, Ev (fun k => mapO (spec_wdText.f k) ((List.range i).map (dgs set))) (((List.range i).map (dgs set)).map txB) := fun i => mapO_ev (fun k => spec_wdText.f k) txB _ (fun l hl => by
    obtain ⟨j, _, rfl⟩ := List.mem_map.1 hl
    exact base j)
  have hh : ∀ i, Ev (fun k => mapO (spec_wdHas.f k set) (dgs set i)) ((dgs set i).map fun x => Lib.containsS set x) := fun i => mapO_ev (fun k => spec_wdHas.f k set) _ _ (fun x _ => wdHas set x (by have := h.1; omega))
  have hl12 := h.1
  induction d with
  | zero =>
    intro i hi
    obtain rfl : i = dgn set := by omega
    obtain ⟨K1, h1⟩ := base (dgn set)
    obtain ⟨K2, h2⟩ := he (dgn set)
    obtain ⟨K3, h3⟩ := hh (dgn set)
    dsimp only at h1 h2 h3
    refine ⟨max K1 (max K2 K3), fun k hk n hn' => ?_⟩
    obtain ⟨n, rfl⟩ : ∃ m, n = m + 1 := ⟨n - 1, by omega⟩
    unfold dlL
    rw [h1 k (by omega), h2 k (by omega), h3 k (by omega), Option.bind_some, Option.bind_some, Option.bind_some, if_pos (by rw [List.length_map, List.length_range]; omega), if_pos ((specStop h _).2 hS), range_snoc]
    rfl
  | succ d ih =>
    intro i hi
    obtain ⟨K0, h0⟩ := ih (i + 1) (by omega)
    obtain ⟨K1, h1⟩ := base i
    obtain ⟨K2, h2⟩ := he i
    obtain ⟨K3, h3⟩ := hh i
    obtain ⟨K4, h4⟩ := hn (dgs set i) (dgs_len h i)
    dsimp only at h1 h2 h3 h4
    refine ⟨max K0 (max K1 (max K2 (max K3 K4))), fun k hk n hn' => ?_⟩
    obtain ⟨n, rfl⟩ : ∃ m, n = m + 1 := ⟨n - 1, by omega⟩
    unfold dlL
    rw [h1 k (by omega), h2 k (by omega), h3 k (by omega), Option.bind_some, Option.bind_some, Option.bind_some, if_pos (by rw [List.length_map, List.length_range]; omega), if_neg (fun q => hN i (by omega) ((specStop h _).1 q)), h4 k (by omega), Option.bind_some, range_snoc]
    exact h0 k (by omega) n (by omega)
theorem dcLists_of {set : List ByteArray} (h : wset set) (hn : ∀ l : List ByteArray, l.length ≤ 84 → Ev (fun k => spec_dcNext.f k set l) (puts (quot set l ++ quot l set) [])) : Ev (fun k => spec_dcLists.f k set) (dgl set) := by
  have hl12 := h.1
  obtain ⟨K1, h1⟩ := wdQuotientX set set (by omega) (by omega)
  obtain ⟨K2, h2⟩ := dlL_ev h hn (dgn set) 0 (by omega)
  refine ⟨max (max K1 K2) (dgn set + 1), fun k hk => ?_⟩
  show spec_dcLists.f k set = _
  unfold spec_dcLists.f
  have e1 : spec_wdQuotient.f k set set = some (puts (quot set set) []) := h1 k (by omega)
  rw [e1, Option.bind_some]
  exact h2 k (by omega) k (by omega)
theorem without_at (set : List ByteArray) (i : Nat) (hi : i < set.length) (hl : set.length ≤ 12) : impl_without.f set (i : Int) = some (set.eraseIdx i) := by
  unfold impl_without.f
  rw [if_pos (by omega), if_pos (by omega), if_pos (by omega), Int.toNat_natCast]
theorem dg1_ev {set : List ByteArray} (hl : set.length ≤ 12) (d : Nat) : ∀ (i : Nat) (acc : List ByteArray), i + d = set.length → acc.length ≤ 12 * i → ∃ raw, raw.length ≤ 144 ∧ (∀ v, v ∈ raw ↔ v ∈ acc ∨ ∃ s, s ∈ set.drop i ∧ ∃ t, t ∈ set ∧ v ∈ rest s t) ∧ Ev (fun k => dg1 k set (set.drop i) i acc) raw := by
  induction d with
  | zero =>
    intro i acc hi ha
    rw [List.drop_of_length_le (by omega)]
    exact ⟨acc, by omega, fun v => by simp, Ev.now acc⟩
  | succ d ih =>
    intro i acc hi ha
    have hlt : i < set.length := by omega
    have hle : (puts (quot [set[i]] (set.eraseIdx i)) []).length ≤ 12 := by
      have h1 := puts_len (quot [set[i]] (set.eraseIdx i))
      have h2 := quot_len [set[i]] (set.eraseIdx i)
      have h3 := List.length_eraseIdx_le set i
      simp only [List.length_cons, List.length_nil] at h2
      omega
    obtain ⟨raw, h1, h2, h3⟩ := ih (i + 1) (acc ++ puts (quot [set[i]] (set.eraseIdx i)) []) (by omega) (by rw [List.length_append]; omega)
    refine ⟨raw, h1, fun v => ?_, ?_⟩
    · rw [h2 v, List.mem_append, puts_mem, quot_mem, List.drop_eq_getElem_cons hlt]
      constructor
      · rintro ((h | ⟨s, hs, t, ht, h⟩) | ⟨s, hs, h⟩)
        · exact .inl h
        · rw [List.mem_singleton] at hs
          subst hs
          exact .inr ⟨_, List.mem_cons_self, t, List.mem_of_mem_eraseIdx ht, h⟩
        · exact .inr ⟨s, List.mem_cons_of_mem _ hs, h⟩
      · rintro (h | ⟨s, hs, t, ht, h⟩)
        · exact .inl (.inl h)
        · rcases List.mem_cons.1 hs with rfl | hs
          · refine .inl (.inr ⟨_, List.mem_singleton.2 rfl, t, ?_, h⟩)
            obtain ⟨j, hj, rfl⟩ := List.getElem_of_mem ht
            rw [List.mem_eraseIdx_iff_getElem]
            refine ⟨j, hj, fun e => ?_, rfl⟩
            subst e
            exact rest_self _ _ h
          · exact .inr ⟨s, hs, t, ht, h⟩
    · rw [List.drop_eq_getElem_cons hlt]
      simp only [dg1]
      rw [without_at set i hlt hl]
      have hlb := List.length_eraseIdx_le set i
      exact Ev.bind (Ev.now _) (Ev.bind (leftX [set[i]] (set.eraseIdx i) (by simp) (by omega)) (Pl.pos (by omega) h3))
theorem dg2_ev {set : List ByteArray} (h : wset set) (d : Nat) : ∀ i, i + d = dgn set → ∃ K, ∀ k, K ≤ k → ∀ n, d < n → dg2 k set n ((List.range i).map (dgs set)) (dgs set i) = some (dgl set, dgh set) := by
  obtain ⟨hJ, hS, hN⟩ := dgn_spec h
  have hl12 := h.1
  induction d with
  | zero =>
    intro i hi
    obtain rfl : i = dgn set := by omega
    refine ⟨0, fun k hk n hn' => ?_⟩
    obtain ⟨n, rfl⟩ : ∃ m, n = m + 1 := ⟨n - 1, by omega⟩
    unfold dg2 dgh
    cases hb : (dgs set (dgn set)).any (fun x => Lib.containsS set x) with
    | true => rw [if_pos rfl, range_snoc]; rfl
    | false =>
      have h2 := ((implStop (dgn set)).2 hS).resolve_left (by rw [hb]; decide)
      rw [if_neg (by decide), if_pos h2, range_snoc]; rfl
  | succ d ih =>
    intro i hi
    obtain ⟨K0, h0⟩ := ih (i + 1) (by omega)
    have hlen := dgs_len h i
    obtain ⟨K1, h1⟩ := leftX set (dgs set i) (by omega) (by omega)
    obtain ⟨K2, h2⟩ := leftX (dgs set i) set (by omega) (by omega)
    refine ⟨max K0 (max K1 K2), fun k hk n hn' => ?_⟩
    obtain ⟨n, rfl⟩ : ∃ m, n = m + 1 := ⟨n - 1, by omega⟩
    have hno := fun q => hN i (by omega) ((implStop i).1 q)
    have q1 := puts_len (quot set (dgs set i))
    have q2 := quot_len set (dgs set i)
    have q3 := puts_len (quot (dgs set i) set)
    have q4 := quot_len (dgs set i) set
    have q5 : set.length * (dgs set i).length ≤ 12 * 84 := Nat.mul_le_mul hl12 hlen
    have q6 : (dgs set i).length * set.length ≤ 84 * 12 := Nat.mul_le_mul hlen hl12
    have e1 : impl_left.f k set (dgs set i) = some (puts (quot set (dgs set i)) []) := h1 k (by omega)
    have e2 : impl_left.f k (dgs set i) set = some (puts (quot (dgs set i) set) []) := h2 k (by omega)
    have e3 : puts (puts (quot set (dgs set i)) [] ++ puts (quot (dgs set i) set) []) [] = dgs set (i + 1) := puts_ext _ _ (fun z => by rw [List.mem_append, List.mem_append, puts_mem, puts_mem])
    unfold dg2
    rw [if_neg (fun q => hno (.inl q)), if_neg (fun q => hno (.inr q)), if_pos (by rw [List.length_map, List.length_range]; omega), e1, Option.bind_some, e2, Option.bind_some, if_pos (by omega), if_pos (by omega), ordered_eq _ (by rw [List.length_append]; omega), Option.bind_some, e3, range_snoc]
    exact h0 k (by omega) n (by omega)
theorem dangling_ev {set : List ByteArray} (h : wset set) : Ev (fun k => impl_dangling.f k set) (dgl set, dgh set) := by
  have hl12 := h.1
  obtain ⟨raw, h1, h2, h3⟩ := dg1_ev hl12 set.length 0 [] (by omega) (by simp)
  rw [List.drop_zero] at h2 h3
  obtain ⟨K1, h3⟩ := h3
  obtain ⟨K2, h4⟩ := dg2_ev h (dgn set) 0 (by omega)
  refine ⟨max (max K1 K2) (dgn set + 1), fun k hk => ?_⟩
  show impl_dangling.f k set = _
  unfold impl_dangling.f
  have e1 : dg1 k set set 0 [] = some raw := h3 k (by omega)
  have e2 : puts raw [] = dgs set 0 := puts_ext _ _ (fun z => by rw [h2 z, quot_mem]; simp)
  rw [e1, Option.bind_some, ordered_eq _ (by omega), Option.bind_some, e2]
  exact h4 k (by omega) k (by omega)
theorem dcLists {set : List ByteArray} (h : wset set) : Ev (fun k => spec_dcLists.f k set) (dgl set) := dcLists_of h fun l hl => dcNext set l h.1 hl

end Go.Proofs.YtidjjcgfdkmefaaGreatDoor.X
namespace Go.Proofs.YtidjjcgfdkmefaaGreatDoor.X
open Go.RowKit Go.Proofs.YtidjjcgfdkmefaaGreatDoorW.PrintWords Go.Proofs.YtidjjcgfdkmefaaGreatDoorW.PrintLast Go.Proofs.YtidjjcgfdkmefaaGreatDoorW.PrintMore Go.Proofs.YtidjjcgfdkmefaaGreatDoor

theorem toStringS_l (l : List ByteArray) (hl : l.length ≤ 1048576) (d : Nat) : ∀ (i : Nat) (x : List ByteArray), l.length - i = d → i ≤ l.length → x.length = l.length → (∀ j, j < i → x[j]? = l[j]?) →
    Ev (fun k => laws_toStringS.l0 k l x (i : Int)) l := by
  induction d with
  | zero =>
    intro i x hd hi hx he
    refine Pl.succ ?_
    simp only [laws_toStringS.l0]
    refine Pl.neg (by omega) (Pl.ret ?_)
    apply List.ext_getElem?
    intro j
    by_cases hj : j < i
    · exact he j hj
    · rw [List.getElem?_eq_none (by omega), List.getElem?_eq_none (by omega)]
  | succ d ih =>
    intro i x hd hi hx he
    refine Pl.succ ?_
    simp only [laws_toStringS.l0]
    refine Pl.pos (by omega) (Pl.pos (by omega) (Pl.pos (by omega) ?_))
    rw [Pl.w64 (by omega) (by omega), Int.toNat_natCast, Pl.rdS_nat _ _ (by omega)]
    refine ih (i + 1) _ (by omega) (by omega) (by simpa using hx) ?_
    intro j hj
    rw [List.getElem?_set]
    by_cases e : i = j
    · subst e
      rw [if_pos rfl, if_pos (by omega), List.getElem?_eq_getElem (by omega)]
    · rw [if_neg e]
      exact he j (by omega)
theorem toStringS (l : List ByteArray) (hl : l.length ≤ 1048576) : Ev (fun k => laws_toStringS.f k l) l := by
  unfold laws_toStringS.f
  refine Pl.pos (by omega) (Pl.pos (by omega) ?_)
  exact toStringS_l l hl l.length 0 _ (by omega) (by omega) (by simp) (fun j hj => absurd hj (Nat.not_lt_zero _))
theorem szStringS_l (l : List ByteArray) (hl : l.length ≤ 1048576) (hs : ∀ s ∈ l, s.size ≤ 9223372036854775807) (d : Nat) : ∀ (i : Nat) (left : Int), l.length - i = d → i ≤ l.length → 0 ≤ left → left ≤ 1048576 →
    ∃ r, Ev (fun k => laws_szStringS.l0 k l left (i : Int)) r ∧ (0 ≤ r → r ≤ left ∧ ∀ j (h : j < l.length), i ≤ j → (l[j].size : Int) ≤ left) := by
  induction d with
  | zero =>
    intro i left hd hi h0 hb
    refine ⟨left, Pl.succ ?_, fun _ => ⟨Int.le_refl _, fun j h hj => by omega⟩⟩
    simp only [laws_szStringS.l0]
    exact Pl.neg (by omega) (Pl.ret rfl)
  | succ d ih =>
    intro i left hd hi h0 hb
    have hil : i < l.length := by omega
    have hsz := hs l[i] (List.getElem_mem hil)
    by_cases hc : left - (l[i].size : Int) < 0
    · refine ⟨-1, Pl.succ ?_, fun h => by omega⟩
      simp only [laws_szStringS.l0]
      rw [Pl.rdS_nat _ i hil, Pl.w64 (n := left - (l[i].size : Int)) (by omega) (by omega)]
      exact Pl.pos (by omega) (Pl.pos (by omega) (Pl.pos hc (Pl.ret rfl)))
    · obtain ⟨r, hr, hq⟩ := ih (i + 1) (left - (l[i].size : Int)) (by omega) (by omega) (by omega) (by omega)
      refine ⟨r, Pl.succ ?_, fun h => ⟨by have := (hq h).1; omega, fun j hj hij => ?_⟩⟩
      · simp only [laws_szStringS.l0]
        rw [Pl.rdS_nat _ i hil, Pl.w64 (n := left - (l[i].size : Int)) (by omega) (by omega), Pl.w64 (n := (i : Int) + 1) (by omega) (by omega)]
        exact Pl.pos (by omega) (Pl.pos (by omega) (Pl.neg hc hr))
      · by_cases e : j = i
        · subst e; omega
        · have := (hq h).2 j hj (by omega); omega
/-- What the size tells: all is small, or the law has nothing to say. -/
theorem szStringS (l : List ByteArray) (hl : l.length * 16 ≤ 140737488351232) (hs : ∀ s ∈ l, s.size ≤ maxLen) (left : Int) (h0 : 0 ≤ left) (hb : left ≤ 1048576) :
    ∃ r, Ev (fun k => laws_szStringS.f k l left) r ∧ (0 ≤ r → r ≤ left ∧ l.length ≤ 1048576 ∧ ∀ s ∈ l, s.size ≤ 1048576) := by
  unfold laws_szStringS.f
  by_cases hc : left - (l.length : Int) < 0
  · refine ⟨-1, ?_, fun h => by omega⟩
    rw [Pl.w64 (by omega) (by omega)]
    exact Pl.pos hc (Pl.ret rfl)
  · have hm : ∀ s ∈ l, s.size ≤ 9223372036854775807 := fun s h => by have := hs s h; unfold maxLen at this; exact this
    obtain ⟨r, hr, hq⟩ := szStringS_l l (by omega) hm l.length 0 (left - (l.length : Int)) (by omega) (by omega) (by omega) (by omega)
    refine ⟨r, ?_, fun h => ⟨by have := (hq h).1; omega, by omega, fun s hs' => ?_⟩⟩
    · rw [Pl.w64 (by omega) (by omega)]
      exact Pl.neg hc hr
    · obtain ⟨j, hj, rfl⟩ := List.getElem_of_mem hs'
      have := (hq h).2 j hj (Nat.zero_le _)
      omega

end Go.Proofs.YtidjjcgfdkmefaaGreatDoor.X
namespace Go.Proofs.YtidjjcgfdkmefaaGreatDoor.X
open Go.RowKit Go.Proofs.YtidjjcgfdkmefaaGreatDoorW.PrintWords Go.Proofs.YtidjjcgfdkmefaaGreatDoorW.PrintLast Go.Proofs.YtidjjcgfdkmefaaGreatDoorW.PrintMore Go.Proofs.YtidjjcgfdkmefaaGreatDoor

theorem eqStringS_l (l : List ByteArray) (hl : l.length ≤ 4611686018427387904) (d : Nat) : ∀ (i : Nat), l.length - i = d → i ≤ l.length → Ev (fun k => laws_eqStringS.l0 k l l (i : Int)) true := by
  induction d with
  | zero =>
    intro i hd hi
    refine Pl.succ ?_
    simp only [laws_eqStringS.l0]
    exact Pl.neg (by omega) (Pl.ret rfl)
  | succ d ih =>
    intro i hd hi
    refine Pl.succ ?_
    simp only [laws_eqStringS.l0]
    refine Pl.pos (by omega) (Pl.pos (by omega) (Pl.pos (by omega) (Pl.pos (by first | rfl | trivial) ?_)))
    rw [Pl.w64 (by omega) (by omega)]
    exact ih (i + 1) (by omega) (by omega)
theorem eqStringS (l : List ByteArray) (hl : l.length ≤ 4611686018427387904) : Ev (fun k => laws_eqStringS.f k l l) true := by
  unfold laws_eqStringS.f
  exact Pl.pos rfl (eqStringS_l l hl l.length 0 (by omega) (by omega))


end Go.Proofs.YtidjjcgfdkmefaaGreatDoor.X
namespace Go.Proofs.YtidjjcgfdkmefaaGreatDoor.X
open Go.RowKit Go.Proofs.YtidjjcgfdkmefaaGreatDoorW.PrintWords Go.Proofs.YtidjjcgfdkmefaaGreatDoorW.PrintLast Go.Proofs.YtidjjcgfdkmefaaGreatDoorW.PrintMore Go.Proofs.YtidjjcgfdkmefaaGreatDoor

theorem rdSS (l : List (List ByteArray)) (i : Nat) (h : i < l.length) : rd_L2 l (i : Int) = l[i] := by
  simp [rd_L2, List.getD_eq_getElem?_getD, h]
theorem eqStringSS_l (l : List (List ByteArray)) (hl : l.length ≤ 500000000000) (hr : ∀ r ∈ l, r.length ≤ 100) (d : Nat) : ∀ (i : Nat), l.length - i = d → i ≤ l.length → Ev (fun k => laws_eqStringSS.l0 k l l (i : Int)) true := by
  induction d with
  | zero =>
    intro i hd hi
    refine Pl.succ ?_
    simp only [laws_eqStringSS.l0]
    exact Pl.neg (by omega) (Pl.ret rfl)
  | succ d ih =>
    intro i hd hi
    have hil : i < l.length := by omega
    refine Pl.succ ?_
    simp only [laws_eqStringSS.l0]
    rw [rdSS l i hil]
    refine Pl.pos (by omega) (Pl.pos (by omega) (Pl.pos (by omega) (Ev.bind (eqStringS _ (by have := hr _ (List.getElem_mem hil); omega)) (Pl.pos rfl ?_))))
    rw [Pl.w64 (by omega) (by omega)]
    exact ih (i + 1) (by omega) (by omega)
theorem eqStringSS (l : List (List ByteArray)) (hl : l.length ≤ 500000000000) (hr : ∀ r ∈ l, r.length ≤ 100) : Ev (fun k => laws_eqStringSS.f k l l) true := by
  unfold laws_eqStringSS.f
  exact Pl.pos rfl (eqStringSS_l l hl hr l.length 0 (by omega) (by omega))
theorem markTextB_l (d : Nat) : ∀ (n : Nat) (acc : ByteArray), n < 10 ^ d → n ≤ 1000000000000000 → acc.size + d ≤ 1000 → ∃ t, Ev (fun k => laws_markText.l0 k (n : Int) acc) t := by
  induction d with
  | zero =>
    intro n acc hn hq hs
    refine ⟨(⟨#[109]⟩ : ByteArray) ++ acc, Pl.succ ?_⟩
    simp only [laws_markText.l0]
    exact Pl.neg (by omega) (Pl.pos (by omega) (Pl.ret rfl))
  | succ d ih =>
    intro n acc hn hq hs
    by_cases h0 : n = 0
    · refine ⟨(⟨#[109]⟩ : ByteArray) ++ acc, Pl.succ ?_⟩
      simp only [laws_markText.l0]
      exact Pl.neg (by omega) (Pl.pos (by omega) (Pl.ret rfl))
    · have hsz : ∀ y : Int, (strOfNums [y]).size = 1 := fun y => by rw [strOfNums_size]; rfl
      obtain ⟨t, ht⟩ := ih (n / 10) (strOfNums [(wrap64 (48 + (Int.tmod (n : Int) 10))) % 256] ++ acc) (by rw [Nat.pow_succ] at hn; omega) (by omega) (by rw [ByteArray.size_append, hsz]; omega)
      refine ⟨t, Pl.succ ?_⟩
      simp only [laws_markText.l0, Option.bind_some]
      refine Pl.pos (by omega) (Pl.pos (by rw [hsz]; omega) ?_)
      have e : Int.tdiv (n : Int) 10 = ((n / 10 : Nat) : Int) := (Int.ofNat_tdiv n 10).symm
      rw [e, Pl.w64 (by omega) (by omega)]
      exact ht
theorem markTextB (n : Nat) (h1 : 1 ≤ n) (hn : n ≤ 1000000000000000) : ∃ t, Ev (fun k => laws_markText.f k (n : Int)) t := by
  obtain ⟨t, ht⟩ := markTextB_l 17 n ⟨#[]⟩ (by omega) hn (by decide)
  refine ⟨t, ?_⟩
  unfold laws_markText.f
  exact Pl.neg (by omega) ht
theorem markStringS_a (a : Nat) (ha1 : 1 ≤ a) (ha : a ≤ 100000000000000) (n : Nat) (hn : n ≤ 1048576) (d : Nat) : ∀ (i : Nat) (x : List ByteArray), n - i = d → i ≤ n → x.length = n → (∀ j, j < i → ∃ t, x[j]? = some t ∧ Ev (fun k => laws_markText.f k ((a + j : Nat) : Int)) t) →
    ∃ l', l'.length = n ∧ (∀ j, j < n → ∃ t, l'[j]? = some t ∧ Ev (fun k => laws_markText.f k ((a + j : Nat) : Int)) t) ∧ Ev (fun k => laws_markStringS.l0 k x ((a + i : Nat) : Int) (i : Int)) (((a + n : Nat) : Int), l') := by
  induction d with
  | zero =>
    intro i x hd hi hx he
    refine ⟨x, hx, fun j hj => he j (by omega), ?_⟩
    refine Pl.succ ?_
    simp only [laws_markStringS.l0]
    obtain rfl : i = n := by omega
    exact Pl.neg (by omega) (Pl.ret rfl)
  | succ d ih =>
    intro i x hd hi hx he
    obtain ⟨t, ht⟩ := markTextB (a + i) (by omega) (by omega)
    obtain ⟨l', h1, h2, h3⟩ := ih (i + 1) (x.set i t) (by omega) (by omega) (by simpa using hx) (by
      intro j hj
      rw [List.getElem?_set]
      by_cases e : i = j
      · subst e
        exact ⟨t, by rw [if_pos rfl, if_pos (by omega)], ht⟩
      · rw [if_neg e]
        exact he j (by omega))
    refine ⟨l', h1, h2, ?_⟩
    refine Pl.succ ?_
    simp only [laws_markStringS.l0]
    refine Pl.pos (by omega) (Ev.bind ht (Pl.pos (by omega) ?_))
    rw [Pl.w64 (n := ((a + i : Nat) : Int) + 1) (by omega) (by omega), Pl.w64 (n := (i : Int) + 1) (by omega) (by omega), Int.toNat_natCast]
    have e : (((a + i : Nat) : Int) + 1) = ((a + (i + 1) : Nat) : Int) := by omega
    rw [e]
    exact h3
theorem heldStringS_a (a : Nat) (ha : a ≤ 100000000000000) (n : Nat) (hn : n ≤ 1048576) (l' : List ByteArray) (h1 : l'.length = n) (h2 : ∀ j, j < n → ∃ t, l'[j]? = some t ∧ Ev (fun k => laws_markText.f k ((a + j : Nat) : Int)) t) (d : Nat) : ∀ (i : Nat), n - i = d → i ≤ n →
    Ev (fun k => laws_heldStringS.l0 k l' ((a + i : Nat) : Int) (i : Int)) ((a + n : Nat) : Int) := by
  induction d with
  | zero =>
    intro i hd hi
    refine Pl.succ ?_
    simp only [laws_heldStringS.l0]
    obtain rfl : i = n := by omega
    exact Pl.neg (by omega) (Pl.ret rfl)
  | succ d ih =>
    intro i hd hi
    obtain ⟨t, hti, ht⟩ := h2 i (by omega)
    refine Pl.succ ?_
    simp only [laws_heldStringS.l0]
    have hr : rdOf ByteArray.empty l' (i : Int) = t := by
      rw [List.getElem?_eq_getElem (by omega)] at hti
      rw [Pl.rdS_nat _ _ (by omega)]
      exact Option.some.inj hti
    refine Pl.pos (by omega) (Pl.pos (by omega) (Ev.bind ht (Pl.pos (by rw [hr]) ?_)))
    rw [Pl.w64 (n := ((a + i : Nat) : Int) + 1) (by omega) (by omega), Pl.w64 (n := (i : Int) + 1) (by omega) (by omega)]
    have e : (((a + i : Nat) : Int) + 1) = ((a + (i + 1) : Nat) : Int) := by omega
    rw [e]
    exact ih (i + 1) (by omega) (by omega)
theorem markSa (l : List ByteArray) (a : Nat) (ha1 : 1 ≤ a) (ha : a ≤ 100000000000000) (hn : l.length ≤ 1048576) : ∃ l', Ev (fun k => laws_markStringS.f k l (a : Int)) (((a + l.length : Nat) : Int), l') ∧ Ev (fun k => laws_heldStringS.f k l' (a : Int)) ((a + l.length : Nat) : Int) := by
  obtain ⟨l', h1, h2, h3⟩ := markStringS_a a ha1 ha l.length hn l.length 0 l (by omega) (by omega) rfl (fun j hj => absurd hj (Nat.not_lt_zero _))
  exact ⟨l', h3, heldStringS_a a ha l.length hn l' h1 h2 l.length 0 (by omega) (by omega)⟩
/-- The rows hold the marks from a on; e: what is next. -/
def HeldS : List (List ByteArray) → Nat → Nat → Prop
  | [], a, e => e = a
  | x :: xs, a, e => ∃ b : Nat, Ev (fun k => laws_heldStringS.f k x (a : Int)) (b : Int) ∧ HeldS xs b e
theorem marksSS_l : ∀ (l : List (List ByteArray)) (a : Nat), 1 ≤ a → a + l.length * 100 ≤ 100000000000000 → (∀ r ∈ l, r.length ≤ 100) → ∃ (l' : List (List ByteArray)) (e : Nat), l'.length = l.length ∧ Ev (fun k => mSSS k l (a : Int)) ((e : Int), l') ∧ HeldS l' a e
  | [], a, _, _, _ => ⟨[], a, rfl, Ev.now _, rfl⟩
  | x :: xs, a, h0, h1, h2 => by
    have hx := h2 x List.mem_cons_self
    rw [List.length_cons] at h1
    obtain ⟨x', q1, q2⟩ := markSa x a h0 (by omega) (by omega)
    obtain ⟨l', e, e1, e2, e3⟩ := marksSS_l xs (a + x.length) (by omega) (by omega) (fun r hr => h2 r (List.mem_cons_of_mem _ hr))
    refine ⟨x' :: l', e, by rw [List.length_cons, List.length_cons, e1], ?_, ⟨_, q2, e3⟩⟩
    unfold mSSS
    exact Ev.bind q1 (Ev.bind e2 (Ev.now _))
theorem heldStringSS_l (l : List (List ByteArray)) (hl : l.length ≤ 500000000000) : ∀ (suf pre : List (List ByteArray)) (a e : Nat), l = pre ++ suf → HeldS suf a e → Ev (fun k => laws_heldStringSS.l0 k l (a : Int) (pre.length : Int)) (e : Int)
  | [], pre, a, e, hp, h => by
    refine Pl.succ ?_
    simp only [laws_heldStringSS.l0]
    have : l.length = pre.length := by rw [hp]; simp
    have h' : e = a := h
    exact Pl.neg (by omega) (Pl.ret (by rw [h']))
  | x :: xs, pre, a, e, hp, h => by
    obtain ⟨b, h1, h2⟩ := h
    have hlen : l.length = pre.length + (xs.length + 1) := by rw [hp]; simp
    have hx : rd_L2 l (pre.length : Int) = x := by rw [rdSS l pre.length (by omega)]; simp [hp]
    refine Pl.succ ?_
    simp only [laws_heldStringSS.l0]
    rw [hx, Pl.w64 (n := (pre.length : Int) + 1) (by omega) (by omega)]
    refine Pl.pos (by omega) (Pl.pos (by omega) (Ev.bind h1 (Pl.neg (by omega) ?_)))
    have := heldStringSS_l l hl xs (pre ++ [x]) b e (by rw [hp]; simp) h2
    rw [List.length_append, List.length_singleton] at this
    exact this
/-- Marked, and held: the marks stand. -/
theorem marksSS (l : List (List ByteArray)) (hl : l.length ≤ 500000000000) (hr : ∀ r ∈ l, r.length ≤ 100) : ∃ (l' : List (List ByteArray)) (e : Nat), Ev (fun k => laws_markStringSS.f k l 1) ((e : Int), l') ∧ Ev (fun k => laws_heldStringSS.f k l' 1) (e : Int) := by
  obtain ⟨l', e, e1, e2, e3⟩ := marksSS_l l 1 (by omega) (by omega) hr
  exact ⟨l', e, e2, heldStringSS_l l' (by omega) l' [] 1 e rfl e3⟩

end Go.Proofs.YtidjjcgfdkmefaaGreatDoor.X
namespace Go.Proofs.YtidjjcgfdkmefaaGreatDoor.Pure
open Go.RowKit Go.Proofs.YtidjjcgfdkmefaaGreatDoor.X Go.Proofs.YtidjjcgfdkmefaaGreatDoorW.PrintWords Go.Proofs.YtidjjcgfdkmefaaGreatDoorW.PrintLast Go.Proofs.YtidjjcgfdkmefaaGreatDoor

theorem both (l : List ByteArray) (hl : l.length ≤ 1048576) : ∃ v : List (List ByteArray) × Bool, v.1.length ≤ 500000000000 ∧ (∀ r ∈ v.1, r.length ≤ 100) ∧ Ev (fun k => spec_DanglingOf.f k l) v ∧ Ev (fun k => impl_DanglingOf.f k l) v := by
  unfold spec_DanglingOf.f impl_DanglingOf.f
  by_cases h : wset l
  · have hd := (dgn_spec h).1
    refine ⟨(dgl l, true), ?_, fun r hr => ?_, Ev.bind (wdSet l) (Pl.pos (decide_eq_true h) (Ev.bind (dcLists h) (Pl.ret rfl))), Ev.bind (isSet l (by omega)) (Pl.pos (decide_eq_true h) (Ev.bind (dangling_ev h) (Pl.ret rfl)))⟩
    · show (dgl l).length ≤ _
      unfold dgl
      rw [List.length_map, List.length_range]
      omega
    · have hr' : r ∈ dgl l := hr
      unfold dgl at hr'
      obtain ⟨i, _, rfl⟩ := List.mem_map.1 hr'
      have := dgs_len h i
      omega
  · exact ⟨([], false), by simp, by simp, Ev.bind (wdSet l) (Pl.neg (by simp [h]) (Pl.ret rfl)), Ev.bind (isSet l (by omega)) (Pl.neg (by simp [h]) (Pl.ret rfl))⟩
theorem FnExactDanglingOf (l : List ByteArray) (hb : l.length * 16 ≤ 140737488351232) (hs : ∀ s ∈ l, s.size ≤ maxLen) : ∃ k, laws_FnExactDanglingOf.f k l = some true := by
  refine Ev.rounds ?_
  unfold laws_FnExactDanglingOf.f
  obtain ⟨r, hr, hq⟩ := szStringS l hb hs 1048576 (by omega) (by omega)
  refine Ev.bind hr ?_
  by_cases hc : r < 0
  · exact Pl.pos hc (Pl.ret rfl)
  obtain ⟨_, hl, _⟩ := hq (by omega)
  obtain ⟨⟨g, b⟩, hlen, hrow, h1, h2⟩ := both l hl
  simp only at hlen hrow
  obtain ⟨mg, e, hm1, hm2⟩ := marksSS g hlen hrow
  obtain ⟨ms, hs1, _⟩ := markSa l 1 (by omega) (by omega) (by omega)
  refine Pl.neg hc (Ev.bind (toStringS l hl) (Ev.bind h1 (Ev.bind h2 (Ev.bind (eqStringSS g hlen hrow) (Ev.bind (eqStringS l (by omega)) (Ev.bind hs1 (Ev.bind hm1 (Ev.bind hm2 (Pl.pos ⟨rfl, rfl, rfl, by show (0 : Int) ≤ ((1 + l.length : Nat) : Int); omega, by show (0 : Int) ≤ (e : Int); omega, rfl⟩ (Pl.ret rfl))))))))))

end Go.Proofs.YtidjjcgfdkmefaaGreatDoor.Pure

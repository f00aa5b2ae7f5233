/- ShrinkPrefix: the program's answer is the reference's, for all arguments; no condition. (All that the proof needs of plain lists stands ahead.) -/
import Derived.Test.YtgokegndboknfaaDoorPl
import Derived.Lib.Bytealg
import Derived.Lib.SlicesCompact
import Derived.Sort.Statements
import Derived.Lib.SlicesS
import Derived.Test.YtgokegndboknfaaDoorXx1
import Derived.Test.YtgokegndboknfaaDoorXx2
import Derived.Test.YtgokegndboknfaaDoorXx3
import Derived.Test.YtgokegndboknfaaDoorXx4
import Derived.Test.YtgokegndboknfaaDoorXx5
import Derived.Test.YtgokegndboknfaaDoorXx6
import Derived.Test.YtgokegndboknfaaDoorXx7
import Derived.Test.YtgokegndboknfaaDoorXx9
import Derived.Test.YtgokegndboknfaaDoorXx10
import Derived.Test.YtgokegndboknfaaDoorXx12
import Derived.Test.YtgokegndboknfaaDoorXx13
namespace Go.Proofs.YtgokegndboknfaaDoor.X
open Go.RowKit Go.Proofs.YtgokegndboknfaaDoorW.PrintWords Go.Proofs.YtgokegndboknfaaDoorW.PrintLast Go.Proofs.YtgokegndboknfaaDoorW.PrintMore Go.Proofs.YtgokegndboknfaaDoor

/-- A text's bytes. -/
abbrev bts (s : ByteArray) : List UInt8 := s.data.toList
theorem bts_len (s : ByteArray) : (bts s).length = s.size := by rw [bts, Array.length_toList]; rfl
theorem bt_nat (s : ByteArray) (i : Nat) (h : i < s.size) : bt s (i : Int) = (((bts s)[i]'(by rw [bts_len]; exact h)).toNat : Int) := by
  unfold bt
  rw [dif_pos (by simpa using h)]
  simp only [Int.toNat_natCast, bts, Array.getElem_toList]
  rfl
theorem isL_iff (b : UInt8) : isL b = true ↔ 97 ≤ b.toNat ∧ b.toNat ≤ 99 := by
  simp only [isL, Bool.or_eq_true, beq_iff_eq, ← UInt8.toNat_inj]
  show ((b.toNat = 97 ∨ b.toNat = 98) ∨ b.toNat = 99) ↔ _
  omega
theorem drop_cons' {α : Type} (l : List α) (i : Nat) (h : i < l.length) : l.drop i = l[i] :: l.drop (i + 1) := List.drop_eq_getElem_cons h
theorem wdIs_l (s : ByteArray) (hs : s.size ≤ 4611686018427387904) (d : Nat) : ∀ i : Nat, s.size - i = d → i ≤ s.size → Ev (fun k => spec_wdIs.l0 k s (i : Int)) (((bts s).drop i).all isL) := by
  induction d with
  | zero =>
    intro i hd hi
    refine Pl.succ ?_
    simp only [spec_wdIs.l0]
    exact Pl.neg (by omega) (Pl.ret (by rw [List.drop_of_length_le (by rw [bts_len]; omega)]; rfl))
  | succ d ih =>
    intro i hd hi
    have hl : i < (bts s).length := by rw [bts_len]; omega
    rw [drop_cons' _ i hl, List.all_cons]
    refine Pl.succ ?_
    simp only [spec_wdIs.l0]
    rw [bt_nat s i (by omega), Pl.w64 (by omega) (by omega)]
    have hb : ((bts s)[i]).toNat < 256 := UInt8.toNat_lt _
    have hL := isL_iff ((bts s)[i])
    refine Pl.pos (by omega) (Pl.pos (by omega) ?_)
    cases hq : isL ((bts s)[i]) with
    | true =>
      have := hL.1 hq
      exact Pl.neg (by omega) (Pl.neg (by omega) (ih (i + 1) (by omega) (by omega)))
    | false =>
      have hn : ¬ (97 ≤ ((bts s)[i]).toNat ∧ ((bts s)[i]).toNat ≤ 99) := fun h => by rw [hL.2 h] at hq; cases hq
      rw [Bool.false_and]
      by_cases h1 : (((bts s)[i]).toNat : Int) < 97
      · exact Pl.pos h1 (Pl.ret rfl)
      · exact Pl.neg h1 (Pl.pos (by omega) (Pl.ret rfl))
theorem wdIs (s : ByteArray) (hs : s.size ≤ 4611686018427387904) : Ev (fun k => spec_wdIs.f k s) ((bts s).all isL) := by
  unfold spec_wdIs.f
  exact wdIs_l s hs s.size 0 (by omega) (by omega)
/-- The text is a word. -/
def wgood (s : ByteArray) : Bool := decide (s.size ≤ 60) && (bts s).all isL
theorem isWord_eq (s : ByteArray) : impl_isWord.f s = some (wgood s) := rfl
theorem wgood_size {s : ByteArray} (h : wgood s = true) : s.size ≤ 60 := by
  simp only [wgood, Bool.and_eq_true, decide_eq_true_eq] at h
  exact h.1

end Go.Proofs.YtgokegndboknfaaDoor.X
namespace Go.Proofs.YtgokegndboknfaaDoor.X
open Go.RowKit Go.Proofs.YtgokegndboknfaaDoorW.PrintWords Go.Proofs.YtgokegndboknfaaDoorW.PrintLast Go.Proofs.YtgokegndboknfaaDoorW.PrintMore Go.Proofs.YtgokegndboknfaaDoor

/-- One word comes before another one. -/
def wless (s t : ByteArray) : Bool := decide (s.size < t.size) || (decide (s.size = t.size) && Op.bytesLess (bts s) (bts t))
/-- The comparison as a number. -/
def cmpW (s t : ByteArray) : Int := if s.size < t.size then -1 else if t.size < s.size then 1 else Lib.compareBytes (bts s) (bts t)
theorem u8_lt_iff (a b : UInt8) : a < b ↔ a.toNat < b.toNat := UInt8.lt_iff_toNat_lt
theorem cmpB_neg : ∀ x y : List UInt8, decide (Lib.compareBytes x y < 0) = Op.bytesLess x y
  | [], [] => by simp [Lib.compareBytes, Op.bytesLess]
  | [], _ :: _ => by simp [Lib.compareBytes, Op.bytesLess]
  | _ :: _, [] => by simp [Lib.compareBytes, Op.bytesLess]
  | a :: x, b :: y => by
    have ih := cmpB_neg x y
    rw [Lib.compareBytes, Op.bytesLess]
    by_cases h1 : a < b
    · simp [h1]
    · by_cases h2 : b < a
      · have h3 : ¬ a = b := by
          rintro rfl
          rw [u8_lt_iff] at h2
          omega
        simp [h1, h2, h3]
      · have h3 : a = b := by
          rw [u8_lt_iff] at h1 h2
          exact UInt8.toNat_inj.1 (by omega)
        subst h3
        simp only [h1, if_false, ih, beq_self_eq_true, Bool.true_and, decide_false, Bool.false_or]
theorem cmpW_neg (s t : ByteArray) : decide (cmpW s t < 0) = wless s t := by
  unfold cmpW wless
  by_cases h1 : s.size < t.size
  · simp [h1]
  · by_cases h2 : t.size < s.size
    · have : ¬ s.size = t.size := by omega
      simp [h1, h2, this]
    · have : s.size = t.size := by omega
      rw [if_neg h1, if_neg h2, cmpB_neg, decide_eq_false h1, decide_eq_true this]
      rfl
theorem wdLess_eq (s t : ByteArray) : spec_wdLess.f s t = some (wless s t) := by
  unfold spec_wdLess.f wless
  by_cases h1 : s.size < t.size
  · rw [if_pos (by omega), decide_eq_true h1]; rfl
  · rw [if_neg (by omega), decide_eq_false h1]
    by_cases h2 : s.size = t.size
    · rw [if_pos (by omega), decide_eq_true h2, Pl.toL, Pl.toL]; rfl
    · rw [if_neg (by omega), decide_eq_false h2]; rfl
theorem cmpInt_eq (a b : Int) : cmp_Compare_int.f a b = some (if a < b then -1 else if a > b then 1 else 0) := by
  unfold cmp_Compare_int.f cmp_isNaN_int.f
  by_cases h1 : a < b
  · simp [h1]
  · by_cases h2 : a > b
    · simp [h1, h2]
    · simp [h1, h2]
theorem cmpOr (a b : Int) : Ev (fun k => cmp_Or_int.f k [a, b]) (if a = 0 then b else a) := by
  have r0 : rd [a, b] (0 : Int) = a := rfl
  have r1 : rd [a, b] (1 : Int) = b := rfl
  unfold cmp_Or_int.f
  refine Pl.succ ?_
  simp only [cmp_Or_int.l0, List.length_cons, List.length_nil, r0]
  refine Pl.pos (by omega) (Pl.pos (by omega) (Pl.pos (by omega) ?_))
  by_cases h : a = 0
  · rw [if_pos h]
    refine Pl.pos h (Pl.succ ?_)
    rw [Pl.w64 (by omega) (by omega)]
    simp only [cmp_Or_int.l0, Int.zero_add, r1, List.length_cons, List.length_nil]
    refine Pl.pos (by omega) (Pl.pos (by omega) (Pl.pos (by omega) ?_))
    by_cases h2 : b = 0
    · refine Pl.pos h2 (Pl.succ ?_)
      rw [Pl.w64 (by omega) (by omega)]
      simp only [cmp_Or_int.l0]
      exact Pl.neg (by omega) (Pl.ret h2.symm)
    · exact Pl.neg h2 (Pl.ret rfl)
  · rw [if_neg h]
    exact Pl.neg h (Pl.ret rfl)
theorem compareWords (s t : ByteArray) : Ev (fun k => impl_compareWords.f k s t) (cmpW s t) := by
  unfold impl_compareWords.f cmpW
  simp only [cmpInt_eq, strings_Compare.f, Option.bind_some]
  refine Ev.bind (cmpOr _ _) (Pl.ret ?_)
  by_cases h1 : s.size < t.size
  · have e1 : (s.size : Int) < t.size := by omega
    simp [h1, e1]
  · have e1 : ¬ (s.size : Int) < t.size := by omega
    by_cases h2 : t.size < s.size
    · have e2 : (t.size : Int) < s.size := by omega
      simp [h1, e1, h2, e2]
    · have e2 : ¬ (t.size : Int) < s.size := by omega
      simp [h1, e1, h2, e2]

end Go.Proofs.YtgokegndboknfaaDoor.X
namespace Go.Proofs.YtgokegndboknfaaDoor.X
open Go.RowKit Go.Proofs.YtgokegndboknfaaDoorW.PrintWords Go.Proofs.YtgokegndboknfaaDoorW.PrintLast Go.Proofs.YtgokegndboknfaaDoorW.PrintMore Go.Proofs.YtgokegndboknfaaDoor

theorem l1In_eq' (a b c : Int) : spec_l1In.f a b c = some (decide (b ≤ a ∧ a ≤ c)) := by
  unfold spec_l1In.f
  by_cases h : b ≤ a
  · rw [if_pos h]; simp [h]
  · rw [if_neg h]; simp [h]
theorem in_eq' (a b c : Int) : impl_in.f a b c = some (decide (b ≤ a ∧ a ≤ c)) := by
  unfold impl_in.f
  by_cases h : b ≤ a
  · rw [if_pos h]; simp [h]
  · rw [if_neg h]; simp [h]
/-- The text may be in a set. -/
def wshort (s : ByteArray) : Bool := decide (1 ≤ s.size ∧ s.size ≤ 8) && (bts s).all isL
theorem wdShort (s : ByteArray) : Ev (fun k => spec_wdShort.f k s) (wshort s) := by
  unfold spec_wdShort.f wshort
  simp only [l1In_eq', Option.bind_some]
  by_cases h : 1 ≤ s.size ∧ s.size ≤ 8
  · rw [decide_eq_true h, Bool.true_and]
    exact Pl.pos (decide_eq_true (by omega)) (Ev.bind (wdIs s (by omega)) (Pl.ret rfl))
  · rw [decide_eq_false h, Bool.false_and]
    exact Pl.neg (by rw [decide_eq_false (by omega)]; decide) (Pl.ret rfl)
theorem isShort_eq (s : ByteArray) : impl_isShort.f s = some (wshort s) := by
  unfold impl_isShort.f wshort
  rw [isWord_eq]
  simp only [in_eq', Option.bind_some]
  unfold wgood
  cases h1 : (bts s).all isL
  · simp
  · by_cases h : 1 ≤ s.size ∧ s.size ≤ 8
    · rw [decide_eq_true h, decide_eq_true (show s.size ≤ 60 by omega)]
      rw [if_pos (by rfl), decide_eq_true (by omega)]; rfl
    · rw [decide_eq_false h]
      by_cases h60 : s.size ≤ 60
      · rw [decide_eq_true h60, if_pos (by rfl), decide_eq_false (by omega)]; rfl
      · rw [decide_eq_false h60, if_neg (by decide)]; rfl
/-- The list is a set. -/
def wset (l : List ByteArray) : Prop := l.length ≤ 12 ∧ (∀ i (h : i < l.length), wshort l[i] = true) ∧ ∀ i (h : i + 1 < l.length), wless l[i] l[i + 1] = true
noncomputable instance (l : List ByteArray) : Decidable (wset l) := Classical.propDecidable _
theorem wdSet_l (l : List ByteArray) (hl : l.length ≤ 12) (d : Nat) : ∀ i, l.length - i = d → i ≤ l.length → (∀ j (h : j < l.length), j < i → wshort l[j] = true) → (∀ j (h : j + 1 < l.length), j + 1 < i → wless l[j] l[j + 1] = true) →
    Ev (fun k => spec_wdSet.l0 k l l (l.length : Int) (i : Int)) (decide (wset l)) := by
  induction d with
  | zero =>
    intro i hd hi h1 h2
    refine Pl.succ ?_
    simp only [spec_wdSet.l0]
    exact Pl.neg (by omega) (Pl.ret (decide_eq_true ⟨hl, fun j h => h1 j h (by omega), fun j h => h2 j h (by omega)⟩).symm)
  | succ d ih =>
    intro i hd hi h1 h2
    have hil : i < l.length := by omega
    refine Pl.succ ?_
    simp only [spec_wdSet.l0, wdLess_eq, Option.bind_some]
    rw [Pl.rdS_nat _ i hil]
    refine Pl.pos (by omega) (Pl.pos (by omega) (Pl.pos (by omega) (Ev.bind (wdShort l[i]) ?_)))
    cases hs : wshort l[i] with
    | false => exact Pl.neg (by decide) (Pl.ret (decide_eq_false (fun h => by rw [h.2.1 i hil] at hs; cases hs)).symm)
    | true =>
      refine Pl.pos rfl ?_
      rw [Pl.w64 (n := (i : Int) + 1) (by omega) (by omega)]
      have hnext : (∀ j (h : j < l.length), j < i + 1 → wshort l[j] = true) := fun j h hj => by
        by_cases e : j = i
        · subst e; exact hs
        · exact h1 j h (by omega)
      cases i with
      | zero =>
        exact Pl.neg (by omega) (ih 1 (by omega) (by omega) hnext (fun j h hj => by omega))
      | succ m =>
        rw [Pl.w64 (n := ((m + 1 : Nat) : Int) - 1) (by omega) (by omega), show ((m + 1 : Nat) : Int) - 1 = (m : Int) by omega, Pl.rdS_nat _ m (by omega)]
        refine Pl.pos (by omega) (Pl.pos (by omega) (Pl.pos (by omega) ?_))
        cases hw : wless l[m] l[m + 1] with
        | false => exact Pl.neg (by decide) (Pl.ret (decide_eq_false (fun h => by rw [h.2.2 m hil] at hw; cases hw)).symm)
        | true =>
          refine Pl.pos rfl (ih (m + 1 + 1) (by omega) (by omega) hnext (fun j h hj => ?_))
          by_cases e : j = m
          · subst e; exact hw
          · exact h2 j h (by omega)
theorem wdSet (l : List ByteArray) : Ev (fun k => spec_wdSet.f k l) (decide (wset l)) := by
  unfold spec_wdSet.f
  by_cases h : l.length ≤ 12
  · exact Pl.neg (by omega) (wdSet_l l h l.length 0 (by omega) (by omega) (fun j _ hj => absurd hj (Nat.not_lt_zero _)) (fun j _ hj => absurd hj (Nat.not_lt_zero _)))
  · exact Pl.pos (by omega) (Pl.ret (decide_eq_false (fun hh => h hh.1)).symm)
theorem isSet_l (l : List ByteArray) (hl : l.length ≤ 4611686018427387904) (d : Nat) : ∀ i, l.length - i = d → i ≤ l.length → (∀ j (h : j < l.length), j < i → wshort l[j] = true) → (∀ j (h : j + 1 < l.length), j + 1 < i → wless l[j] l[j + 1] = true) →
    Ev (fun k => impl_isSet.l0 k l l (l.length : Int) (i : Int)) (decide (wset l)) := by
  induction d with
  | zero =>
    intro i hd hi h1 h2
    refine Pl.succ ?_
    simp only [impl_isSet.l0]
    refine Pl.neg (by omega) (Pl.ret ?_)
    by_cases h : l.length ≤ 12
    · rw [decide_eq_true (show (l.length : Int) ≤ 12 by omega)]
      exact (decide_eq_true ⟨h, fun j h => h1 j h (by omega), fun j h => h2 j h (by omega)⟩).symm
    · rw [decide_eq_false (show ¬ (l.length : Int) ≤ 12 by omega)]
      exact (decide_eq_false (fun hh => h hh.1)).symm
  | succ d ih =>
    intro i hd hi h1 h2
    have hil : i < l.length := by omega
    refine Pl.succ ?_
    simp only [impl_isSet.l0, isShort_eq, Option.bind_some]
    rw [Pl.rdS_nat _ i hil]
    refine Pl.pos (by omega) (Pl.pos (by omega) (Pl.pos (by omega) ?_))
    cases hs : wshort l[i] with
    | false => exact Pl.neg (by decide) (Pl.ret (decide_eq_false (fun h => by rw [h.2.1 i hil] at hs; cases hs)).symm)
    | true =>
      refine Pl.pos rfl ?_
      rw [Pl.w64 (n := (i : Int) + 1) (by omega) (by omega)]
      have hnext : (∀ j (h : j < l.length), j < i + 1 → wshort l[j] = true) := fun j h hj => by
        by_cases e : j = i
        · subst e; exact hs
        · exact h1 j h (by omega)
      cases i with
      | zero =>
        exact Pl.neg (by omega) (ih 1 (by omega) (by omega) hnext (fun j h hj => by omega))
      | succ m =>
        rw [Pl.w64 (n := ((m + 1 : Nat) : Int) - 1) (by omega) (by omega), show ((m + 1 : Nat) : Int) - 1 = (m : Int) by omega, Pl.rdS_nat _ m (by omega)]
        refine Pl.pos (by omega) (Pl.pos (by omega) (Pl.pos (by omega) (Ev.bind (compareWords _ _) ?_)))
        have hc := cmpW_neg l[m] l[m + 1]
        cases hw : wless l[m] l[m + 1] with
        | false =>
          rw [hw, decide_eq_false_iff_not] at hc
          exact Pl.pos (by omega) (Pl.ret (decide_eq_false (fun h => by rw [h.2.2 m hil] at hw; cases hw)).symm)
        | true =>
          rw [hw, decide_eq_true_eq] at hc
          refine Pl.neg (by omega) (ih (m + 1 + 1) (by omega) (by omega) hnext (fun j h hj => ?_))
          by_cases e : j = m
          · subst e; exact hw
          · exact h2 j h (by omega)
theorem isSet (l : List ByteArray) (hl : l.length ≤ 4611686018427387904) : Ev (fun k => impl_isSet.f k l) (decide (wset l)) := by
  unfold impl_isSet.f
  exact isSet_l l hl l.length 0 (by omega) (by omega) (fun j _ hj => absurd hj (Nat.not_lt_zero _)) (fun j _ hj => absurd hj (Nat.not_lt_zero _))

end Go.Proofs.YtgokegndboknfaaDoor.X
namespace Go.Proofs.YtgokegndboknfaaDoor.X
open Go.RowKit Go.Proofs.YtgokegndboknfaaDoorW.PrintWords Go.Proofs.YtgokegndboknfaaDoorW.PrintLast Go.Proofs.YtgokegndboknfaaDoorW.PrintMore Go.Proofs.YtgokegndboknfaaDoor

theorem bytesLess_irrefl : ∀ x : List UInt8, Op.bytesLess x x = false
  | [] => rfl
  | a :: x => by
    rw [Op.bytesLess, bytesLess_irrefl x]
    simp
theorem bytesLess_trans : ∀ x y z : List UInt8, Op.bytesLess x y = true → Op.bytesLess y z = true → Op.bytesLess x z = true
  | [], [], _, h, _ => by cases h
  | [], _ :: _, [], _, h => by cases h
  | [], _ :: _, _ :: _, _, _ => rfl
  | _ :: _, [], _, h, _ => by cases h
  | _ :: _, _ :: _, [], _, h => by cases h
  | a :: x, b :: y, c :: z, h1, h2 => by
    rw [Op.bytesLess] at h1 h2 ⊢
    simp only [Bool.or_eq_true, Bool.and_eq_true, decide_eq_true_eq, beq_iff_eq] at h1 h2 ⊢
    rcases h1 with h1 | ⟨rfl, h1⟩
    · rcases h2 with h2 | ⟨rfl, h2⟩
      · left
        rw [u8_lt_iff] at h1 h2 ⊢
        omega
      · exact .inl h1
    · rcases h2 with h2 | ⟨rfl, h2⟩
      · exact .inl h2
      · exact .inr ⟨rfl, bytesLess_trans x y z h1 h2⟩
theorem wless_irrefl (s : ByteArray) : wless s s = false := by
  unfold wless
  rw [bytesLess_irrefl]
  simp
theorem wless_trans {s t u : ByteArray} (h1 : wless s t = true) (h2 : wless t u = true) : wless s u = true := by
  unfold wless at *
  simp only [Bool.or_eq_true, Bool.and_eq_true, decide_eq_true_eq] at *
  rcases h1 with h1 | ⟨e1, h1⟩ <;> rcases h2 with h2 | ⟨e2, h2⟩
  · left; omega
  · left; omega
  · left; omega
  · right; exact ⟨by omega, bytesLess_trans _ _ _ h1 h2⟩
theorem wless_size {s t : ByteArray} (h : wless s t = true) : s.size ≤ t.size := by
  unfold wless at h
  simp only [Bool.or_eq_true, Bool.and_eq_true, decide_eq_true_eq] at h
  omega
theorem wset_less {l : List ByteArray} (h : wset l) (d : Nat) : ∀ i (hi : i + d + 1 < l.length), wless (l[i]'(by omega)) l[i + d + 1] = true := by
  induction d with
  | zero => intro i hi; exact h.2.2 i hi
  | succ d ih =>
    intro i hi
    exact wless_trans (ih i (by omega)) (h.2.2 (i + d + 1) hi)
theorem wset_lt {l : List ByteArray} (h : wset l) {i k : Nat} (hik : i < k) (hk : k < l.length) : wless (l[i]'(by omega)) l[k] = true := by
  have := wset_less h (k - i - 1) i (by omega)
  simpa only [show i + (k - i - 1) + 1 = k by omega] using this

end Go.Proofs.YtgokegndboknfaaDoor.X
namespace Go.Proofs.YtgokegndboknfaaDoor.X
open Go.RowKit Go.Proofs.YtgokegndboknfaaDoorW.PrintWords Go.Proofs.YtgokegndboknfaaDoorW.PrintLast Go.Proofs.YtgokegndboknfaaDoorW.PrintMore Go.Proofs.YtgokegndboknfaaDoor

theorem wdBegins_eq (s t : ByteArray) : spec_wdBegins.f s t = some (begB s t) := by
  unfold spec_wdBegins.f begB
  by_cases h : t.size ≤ s.size
  · rw [if_pos (by omega), if_pos (by omega), decide_eq_true h]; rfl
  · rw [if_neg (by omega), decide_eq_false h]; rfl
theorem begB_eq {s t : ByteArray} (h : begB s t = true) (hs : s.size = t.size) : s = t := by
  unfold begB at h
  simp only [Bool.and_eq_true, decide_eq_true_eq, beq_iff_eq] at h
  have e : s.extract 0 t.size = s := by rw [← hs]; exact ByteArray.extract_zero_size
  rw [e] at h
  exact Pl.ba_ext h.2
theorem begB_size {s t : ByteArray} (h : begB s t = true) : t.size ≤ s.size := by
  unfold begB at h
  simp only [Bool.and_eq_true, decide_eq_true_eq] at h
  exact h.1
/-- Of a set it's enough that no later word begins with an earlier one. -/
theorem noTwo_iff {l : List ByteArray} (h : wset l) : noTwo begB l ↔ ∀ i k (hik : i < k) (hk : k < l.length), begB l[k] (l[i]'(by omega)) = false := by
  constructor
  · intro hn i k hik hk
    exact hn k hk i (by omega) (by omega)
  · intro hn i hi k hk hne
    by_cases hlt : k < i
    · exact hn k i hlt hi
    · have hik : i < k := by omega
      have hw := wset_lt h hik hk
      cases hb : begB l[i] l[k] with
      | false => rfl
      | true =>
        have h1 := begB_size hb
        have h2 := wless_size hw
        have e := begB_eq hb (by omega)
        rw [e, wless_irrefl] at hw
        cases hw
theorem krPrefix_l1 (l : List ByteArray) (hl : l.length ≤ 12) (i : Nat) (hi : i < l.length) (r : Bool)
    (hrest : (∀ j (hj : j < l.length), i < j → begB l[j] l[i] = false) → Ev (fun k => spec_krPrefix.l0 k l l (l.length : Int) (((i + 1 : Nat)) : Int)) r)
    (hno : (∃ j, ∃ hj : j < l.length, i < j ∧ begB l[j] l[i] = true) → r = false)
    (d : Nat) : ∀ j, i + 1 + j + d = l.length → (∀ q (hq : q < l.length), i < q → q < i + 1 + j → begB l[q] l[i] = false) →
    Ev (fun k => spec_krPrefix.l1 k l l[i] l (l.length : Int) (i : Int) (l.drop (i + 1)) ((l.drop (i + 1)).length : Int) (j : Int)) r := by
  have hdl : (l.drop (i + 1)).length = l.length - (i + 1) := List.length_drop
  induction d with
  | zero =>
    intro j hj hq
    refine Pl.succ ?_
    simp only [spec_krPrefix.l1]
    refine Pl.neg (by omega) ?_
    rw [Pl.w64 (by omega) (by omega)]
    exact hrest (fun q hq' hiq => hq q hq' hiq (by omega))
  | succ d ih =>
    intro j hj hq
    have hjl : i + 1 + j < l.length := by omega
    have hrd : rdOf ByteArray.empty (l.drop (i + 1)) (j : Int) = l[i + 1 + j] := by
      rw [Pl.rdS_nat _ j (by omega)]; simp
    refine Pl.succ ?_
    simp only [spec_krPrefix.l1, wdBegins_eq, Option.bind_some]
    rw [hrd]
    refine Pl.pos (by omega) (Pl.pos (by omega) (Pl.pos (by omega) ?_))
    cases hb : begB l[i + 1 + j] l[i] with
    | true =>
      rw [hno ⟨i + 1 + j, hjl, by omega, hb⟩]
      exact Pl.pos rfl (Pl.ret rfl)
    | false =>
      refine Pl.neg (by decide) ?_
      rw [Pl.w64 (by omega) (by omega)]
      refine ih (j + 1) (by omega) (fun q hq' hiq hlt => ?_)
      by_cases e : q = i + 1 + j
      · subst e; exact hb
      · exact hq q hq' hiq (by omega)
theorem krPrefix_l (l : List ByteArray) (hl : l.length ≤ 12) (r : Bool) (hr : r = true ↔ ∀ i k (hik : i < k) (hk : k < l.length), begB l[k] (l[i]'(by omega)) = false) (d : Nat) : ∀ i, i + d = l.length → (∀ q k (hqk : q < k) (hk : k < l.length), q < i → begB l[k] (l[q]'(by omega)) = false) →
    Ev (fun k => spec_krPrefix.l0 k l l (l.length : Int) (i : Int)) r := by
  induction d with
  | zero =>
    intro i hi hq
    refine Pl.succ ?_
    simp only [spec_krPrefix.l0]
    exact Pl.neg (by omega) (Pl.ret (hr.2 (fun q k hqk hk => hq q k hqk hk (by omega))).symm)
  | succ d ih =>
    intro i hi hq
    have hil : i < l.length := by omega
    refine Pl.succ ?_
    simp only [spec_krPrefix.l0]
    rw [Pl.rdS_nat _ i hil, Pl.w64 (n := (i : Int) + 1) (by omega) (by omega), show ((i : Int) + 1).toNat = i + 1 by omega]
    refine Pl.pos (by omega) (Pl.pos (by omega) (Pl.pos (by omega) (Pl.pos (by omega) (Pl.pos (by omega) ?_))))
    refine krPrefix_l1 l hl i hil r (fun hall => ih (i + 1) (by omega) (fun q k hqk hk hlt => ?_)) (fun ⟨j, hj, hij, hb⟩ => ?_) (l.length - (i + 1)) 0 (by omega) (fun q hq' h1 h2 => by omega)
    · by_cases e : q = i
      · subst e; exact hall k hk hqk
      · exact hq q k hqk hk (by omega)
    · cases r with
      | false => rfl
      | true =>
        have := hr.1 rfl i j hij hj
        rw [hb] at this
        cases this
theorem krPrefix (l : List ByteArray) (h : wset l) : Ev (fun k => spec_krPrefix.f k l) (decide (noTwo begB l)) := by
  unfold spec_krPrefix.f
  exact krPrefix_l l h.1 _ (by rw [decide_eq_true_eq]; exact noTwo_iff h) l.length 0 (by omega) (fun q k _ _ hlt => absurd hlt (Nat.not_lt_zero _))

end Go.Proofs.YtgokegndboknfaaDoor.X
namespace Go.Proofs.YtgokegndboknfaaDoor.X
open Go.RowKit Go.Proofs.YtgokegndboknfaaDoorW.PrintWords Go.Proofs.YtgokegndboknfaaDoorW.PrintLast Go.Proofs.YtgokegndboknfaaDoorW.PrintMore Go.Proofs.YtgokegndboknfaaDoor

theorem toL_ex (s : ByteArray) (a b : Nat) : (s.extract a b).toList = ((bts s).drop a).take (b - a) := by
  rw [Pl.toL, ByteArray.data_extract, Array.toList_extract]
/-- A word put into an ordered list. -/
def put : List ByteArray → ByteArray → List ByteArray
  | [], x => [x]
  | y :: l, x => if wless y x = true then y :: put l x else if y.toList = x.toList then y :: l else x :: y :: l
theorem wdPut_l (l : List ByteArray) (x : ByteArray) (hl : l.length ≤ 1048576) (d : Nat) : ∀ i : Nat, i + d = l.length → Ev (fun k => spec_wdPut.l0 k l x (i : Int)) (l.take i ++ put (l.drop i) x) := by
  induction d with
  | zero =>
    intro i hd
    obtain rfl : i = l.length := by omega
    refine Pl.succ ?_
    simp only [spec_wdPut.l0, Option.bind_some]
    rw [Int.toNat_natCast]
    refine Pl.neg (by omega) (Pl.pos (by omega) (Pl.pos (by omega) (Pl.pos ?_ (Pl.pos ?_ (Pl.pos ?_ (Pl.ret ?_))))))
    · simp only [List.length_nil, List.length_take]; omega
    · simp only [List.nil_append, List.length_take]; omega
    · simp only [List.nil_append, List.length_append, List.length_take, List.length_drop, List.length_cons, List.length_nil]; omega
    · simp [put]
  | succ d ih =>
    intro i hd
    have hil : i < l.length := by omega
    have hdr : l.drop i = l[i] :: l.drop (i + 1) := List.drop_eq_getElem_cons hil
    refine Pl.succ ?_
    simp only [spec_wdPut.l0, wdLess_eq, Option.bind_some]
    rw [Pl.rdS_nat _ i hil, Int.toNat_natCast, Pl.w64 (by omega) (by omega)]
    refine Pl.pos (by omega) (Pl.pos (by omega) ?_)
    by_cases h1 : wless l[i] x = true
    · have hp : put (l.drop i) x = l[i] :: put (l.drop (i + 1)) x := by rw [hdr, put, if_pos h1]
      rw [hp]
      refine Pl.pos h1 (Pl.via (ih (i + 1) (by omega)) ?_)
      rw [List.take_succ_eq_append_getElem hil, List.append_assoc]
      rfl
    · refine Pl.neg h1 ?_
      by_cases h2 : l[i].toList = x.toList
      · have hp : put (l.drop i) x = l.drop i := by rw [hdr, put, if_neg h1, if_pos h2]
        rw [hp, List.take_append_drop]
        exact Pl.pos h2 (Pl.ret rfl)
      · have hp : put (l.drop i) x = x :: l.drop i := by rw [hdr, put, if_neg h1, if_neg h2]
        rw [hp]
        refine Pl.neg h2 (Pl.pos (by omega) (Pl.pos ?_ (Pl.pos ?_ (Pl.pos ?_ (Pl.ret ?_)))))
        · simp only [List.length_nil, List.length_take]; omega
        · simp only [List.nil_append, List.length_take]; omega
        · simp only [List.nil_append, List.length_append, List.length_take, List.length_drop, List.length_cons, List.length_nil]; omega
        · simp
theorem wdPut (l : List ByteArray) (x : ByteArray) (hl : l.length ≤ 1048576) : Ev (fun k => spec_wdPut.f k l x) (put l x) :=
  Pl.via (wdPut_l l x hl l.length 0 (by omega)) (by simp)
theorem bytesLess_total : ∀ x y : List UInt8, x ≠ y → Op.bytesLess x y = false → Op.bytesLess y x = true
  | [], [], h, _ => absurd rfl h
  | [], _ :: _, _, h => by cases h
  | _ :: _, [], _, _ => rfl
  | a :: x, b :: y, h, h1 => by
    rw [Op.bytesLess] at h1 ⊢
    simp only [Bool.or_eq_false_iff, Bool.and_eq_false_iff, decide_eq_false_iff_not, beq_eq_false_iff_ne, Bool.or_eq_true, Bool.and_eq_true, decide_eq_true_eq, beq_iff_eq] at h1 ⊢
    by_cases e : a = b
    · subst e
      refine .inr ⟨rfl, bytesLess_total x y (fun e => h (by rw [e])) ?_⟩
      rcases h1.2 with h2 | h2
      · exact absurd rfl h2
      · exact h2
    · left
      have hn : a.toNat ≠ b.toNat := fun h => e (UInt8.toNat_inj.1 h)
      have h2 := h1.1
      rw [u8_lt_iff] at h2 ⊢
      omega
theorem wless_total {s t : ByteArray} (h1 : ¬ wless s t = true) (h2 : s.toList ≠ t.toList) : wless t s = true := by
  rw [Bool.not_eq_true] at h1
  unfold wless at h1 ⊢
  simp only [Bool.or_eq_false_iff, Bool.and_eq_false_iff, decide_eq_false_iff_not, Bool.or_eq_true, Bool.and_eq_true, decide_eq_true_eq] at h1 ⊢
  rcases h1.2 with h3 | h3
  · left; omega
  · by_cases e : s.size = t.size
    · right
      refine ⟨e.symm, bytesLess_total _ _ ?_ h3⟩
      rw [Pl.toL, Pl.toL] at h2
      exact h2
    · left; omega
theorem put_mem (l : List ByteArray) (x z : ByteArray) : z ∈ put l x ↔ z = x ∨ z ∈ l := by
  induction l with
  | nil => simp [put]
  | cons y l ih =>
    rw [put]
    split
    · rw [List.mem_cons, ih, List.mem_cons]
      constructor
      · rintro (h | h | h)
        · exact .inr (.inl h)
        · exact .inl h
        · exact .inr (.inr h)
      · rintro (h | h | h)
        · exact .inr (.inl h)
        · exact .inl h
        · exact .inr (.inr h)
    · split
      · rename_i h
        have e : y = x := Pl.ba_ext h
        subst e
        rw [List.mem_cons]
        constructor
        · exact .inr
        · rintro (h | h)
          · exact .inl h
          · exact h
      · rw [List.mem_cons]
theorem put_srt (l : List ByteArray) (x : ByteArray) (h : l.Pairwise (fun a b => wless a b = true)) : (put l x).Pairwise (fun a b => wless a b = true) := by
  induction l with
  | nil => exact List.pairwise_singleton _ _
  | cons y l ih =>
    rw [List.pairwise_cons] at h
    rw [put]
    split
    · rename_i h1
      refine List.pairwise_cons.2 ⟨fun z hz => ?_, ih h.2⟩
      rcases (put_mem l x z).1 hz with rfl | hz
      · exact h1
      · exact h.1 z hz
    · rename_i h1
      split
      · exact List.pairwise_cons.2 h
      · rename_i h2
        have hxy := wless_total h1 h2
        refine List.pairwise_cons.2 ⟨fun z hz => ?_, List.pairwise_cons.2 h⟩
        rcases List.mem_cons.1 hz with rfl | hz
        · exact hxy
        · exact wless_trans hxy (h.1 z hz)
theorem put_len (l : List ByteArray) (x : ByteArray) : (put l x).length ≤ l.length + 1 := by
  induction l with
  | nil => simp [put]
  | cons y l ih =>
    rw [put]
    split
    · simp only [List.length_cons]; omega
    · split <;> simp
theorem wset_short {l : List ByteArray} (h : wset l) : ∀ s ∈ l, wshort s = true := fun s hs => by
  obtain ⟨i, hi, rfl⟩ := List.getElem_of_mem hs
  exact h.2.1 i hi
theorem wshort_size {s : ByteArray} (h : wshort s = true) : 1 ≤ s.size ∧ s.size ≤ 8 := by
  unfold wshort at h
  simp only [Bool.and_eq_true, decide_eq_true_eq] at h
  exact h.1
theorem wset_of {l : List ByteArray} (h1 : l.length ≤ 12) (h2 : ∀ s ∈ l, wshort s = true) (h3 : l.Pairwise (fun a b => wless a b = true)) : wset l :=
  ⟨h1, fun i hi => h2 _ (List.getElem_mem hi), fun i hi => List.pairwise_iff_getElem.1 h3 i (i + 1) (by omega) hi (by omega)⟩

end Go.Proofs.YtgokegndboknfaaDoor.X
namespace Go.Proofs.YtgokegndboknfaaDoor.X
open Go.RowKit Go.Proofs.YtgokegndboknfaaDoorW.PrintWords Go.Proofs.YtgokegndboknfaaDoorW.PrintLast Go.Proofs.YtgokegndboknfaaDoorW.PrintMore Go.Proofs.YtgokegndboknfaaDoor Go.Lib Go.Sort
section
variable {α : Type} [Inhabited α] [DecidableEq α]
theorem cu_mem (d : Array α) (m : Nat) (z : α) : z ∈ compactUpTo d m ↔ ∃ j, j < m ∧ keeps d j = true ∧ d[j]! = z := by
  unfold compactUpTo
  rw [List.mem_map]
  constructor
  · rintro ⟨j, hj, h⟩
    rw [List.mem_filter, List.mem_range] at hj
    exact ⟨j, hj.1, hj.2, h⟩
  · rintro ⟨j, h1, h2, h3⟩
    exact ⟨j, List.mem_filter.2 ⟨List.mem_range.2 h1, h2⟩, h3⟩
theorem cu_run (d : Array α) : ∀ j, ∃ i, i ≤ j ∧ keeps d i = true ∧ d[i]! = d[j]! := by
  intro j
  induction j with
  | zero => exact ⟨0, Nat.le_refl _, keeps_lt_one d 0 (by omega), rfl⟩
  | succ j ih =>
    by_cases h : d[j + 1]! = d[j]!
    · obtain ⟨i, h1, h2, h3⟩ := ih
      exact ⟨i, by omega, h2, h3.trans h.symm⟩
    · exact ⟨j + 1, Nat.le_refl _, keeps_pos (by simpa using h), rfl⟩
omit [DecidableEq α] in
theorem toA_get (zs : List α) (j : Nat) (h : j < zs.length) : zs.toArray[j]! = zs[j] := by
  rw [getElem!_pos zs.toArray j (by simpa using h), List.getElem_toArray]
theorem compact_mem (zs : List α) (z : α) : z ∈ compact zs ↔ z ∈ zs := by
  unfold compact
  rw [cu_mem]
  constructor
  · rintro ⟨j, h1, _, rfl⟩
    rw [toA_get zs j h1]
    exact List.getElem_mem h1
  · intro h
    obtain ⟨j, hj, rfl⟩ := List.getElem_of_mem h
    obtain ⟨i, h1, h2, h3⟩ := cu_run zs.toArray j
    exact ⟨i, by omega, h2, by rw [h3, toA_get zs j hj]⟩
theorem compact_len (zs : List α) : (compact zs).length ≤ zs.length := by
  unfold compact compactUpTo
  rw [List.length_map]
  exact Nat.le_trans (List.length_filter_le _ _) (by simp)
theorem compact_srt (lt : α → α → Bool) (hO : SWO lt) (hT : ∀ x y, lt x y = false → lt y x = false → x = y) (zs : List α) (hs : zs.Pairwise fun x y => lt y x = false) : (compact zs).Pairwise fun x y => lt x y = true := by
  unfold compact compactUpTo
  rw [List.pairwise_map]
  have h1 : ((List.range zs.length).filter (keeps zs.toArray)).Pairwise (· < ·) := List.pairwise_lt_range.filter _
  refine h1.imp_of_mem ?_
  intro i j hi hj hij
  rw [List.mem_filter, List.mem_range] at hi hj
  have hle : ∀ a b (_ : a < b) (hb : b < zs.length), lt zs[b] (zs[a]'(by omega)) = false := fun a b hab hb => List.pairwise_iff_getElem.1 hs a b (by omega) hb hab
  have hk := hj.2
  unfold keeps at hk
  rw [decide_eq_true_eq] at hk
  have hne : zs.toArray[j]! ≠ zs.toArray[j - 1]! := by
    rcases hk with h | h
    · omega
    · exact h
  rw [toA_get zs j hj.1, toA_get zs (j - 1) (by omega)] at hne
  rw [toA_get zs i hi.1, toA_get zs j hj.1]
  have hlt : lt (zs[j - 1]'(by omega)) zs[j] = true := by
    cases hc : lt (zs[j - 1]'(by omega)) zs[j] with
    | true => rfl
    | false => exact absurd (hT _ _ (hle (j - 1) j (by omega) hj.1) hc) hne
  by_cases e : i = j - 1
  · subst e; exact hlt
  · cases hc : lt zs[i] zs[j] with
    | true => rfl
    | false =>
      have := hO.ntrans _ _ _ (hle i (j - 1) (by omega) (by omega)) hc
      rw [hlt] at this
      cases this
omit [Inhabited α] [DecidableEq α] in
theorem srt_ext (lt : α → α → Bool) (hi : ∀ x, lt x x = false) (ht : ∀ x y, lt x y = true → lt y x = false) : ∀ l1 l2 : List α, l1.Pairwise (fun x y => lt x y = true) → l2.Pairwise (fun x y => lt x y = true) → (∀ z, z ∈ l1 ↔ z ∈ l2) → l1 = l2
  | [], [], _, _, _ => rfl
  | [], b :: l2, _, _, h => absurd ((h b).2 List.mem_cons_self) (by simp)
  | a :: l1, [], _, _, h => absurd ((h a).1 List.mem_cons_self) (by simp)
  | a :: l1, b :: l2, h1, h2, h => by
    rw [List.pairwise_cons] at h1 h2
    have hab : a = b := by
      rcases List.mem_cons.1 ((h a).1 List.mem_cons_self) with e | ha
      · exact e
      · rcases List.mem_cons.1 ((h b).2 List.mem_cons_self) with e | hb
        · exact e.symm
        · have := ht _ _ (h1.1 b hb)
          rw [h2.1 a ha] at this
          cases this
    subst hab
    congr 1
    refine srt_ext lt hi ht l1 l2 h1.2 h2.2 fun z => ?_
    constructor
    · intro hz
      rcases List.mem_cons.1 ((h z).1 (List.mem_cons_of_mem _ hz)) with e | h3
      · subst e; have := h1.1 z hz; rw [hi] at this; cases this
      · exact h3
    · intro hz
      rcases List.mem_cons.1 ((h z).2 (List.mem_cons_of_mem _ hz)) with e | h3
      · subst e; have := h2.1 z hz; rw [hi] at this; cases this
      · exact h3
omit [Inhabited α] [DecidableEq α] in
theorem msort_srt (lt : α → α → Bool) (hO : SWO lt) (zs : List α) : (zs.mergeSort fun x y => !lt y x).Pairwise fun x y => lt y x = false := by
  refine (List.pairwise_mergeSort (le := fun x y => !lt y x) ?_ ?_ zs).imp fun h => by simpa using h
  · intro a b c h1 h2
    simp only [Bool.not_eq_true'] at h1 h2 ⊢
    exact hO.ntrans _ _ _ h2 h1
  · intro a b
    cases h : lt b a with
    | false => rfl
    | true =>
      cases h2 : lt a b with
      | false => rfl
      | true => have := hO.trans _ _ _ h h2; rw [hO.irrefl] at this; cases this
omit [Inhabited α] [DecidableEq α] in
theorem msort_mem (le : α → α → Bool) (zs : List α) (z : α) : z ∈ zs.mergeSort le ↔ z ∈ zs := (List.mergeSort_perm zs le).mem_iff
end
theorem bytesLess_lt : ∀ x y : List UInt8, Op.bytesLess x y = true ↔ x < y
  | [], [] => by simp [Op.bytesLess]
  | [], _ :: _ => by simp [Op.bytesLess]
  | _ :: _, [] => by simp [Op.bytesLess]
  | a :: x, b :: y => by
    rw [Op.bytesLess, List.cons_lt_cons_iff, ← bytesLess_lt x y]
    simp
theorem wless_cf (s t : ByteArray) : wless s t = ltOf cfW s.data.toList t.data.toList := by
  unfold ltOf
  rw [Bool.eq_iff_iff, decide_eq_true_eq, cfW_lt]
  unfold wless
  simp only [Bool.or_eq_true, Bool.and_eq_true, decide_eq_true_eq]
  rw [bytesLess_lt]
  exact Iff.rfl
theorem ordB_mem (l : List ByteArray) (z : ByteArray) : z ∈ ordB l ↔ z ∈ l := by
  unfold ordB sortW
  rw [List.mem_map]
  constructor
  · rintro ⟨x, hx, rfl⟩
    rw [compact_mem, msort_mem, List.mem_map] at hx
    obtain ⟨y, hy, rfl⟩ := hx
    exact hy
  · intro hz
    refine ⟨z.data.toList, ?_, rfl⟩
    rw [compact_mem, msort_mem, List.mem_map]
    exact ⟨z, hz, rfl⟩
theorem ordB_len (l : List ByteArray) : (ordB l).length ≤ l.length := by
  unfold ordB sortW
  rw [List.length_map]
  refine Nat.le_trans (compact_len _) ?_
  rw [List.length_mergeSort, List.length_map]
  exact Nat.le_refl _
theorem ordB_srt (l : List ByteArray) : (ordB l).Pairwise (fun a b => wless a b = true) := by
  unfold ordB sortW
  rw [List.pairwise_map]
  refine (compact_srt (ltOf cfW) swoW totW _ (msort_srt (ltOf cfW) swoW _)).imp fun h => ?_
  rw [wless_cf]
  exact h
theorem wless_asymm {x y : ByteArray} (h : wless x y = true) : wless y x = false := by
  cases h2 : wless y x with
  | false => rfl
  | true => have := wless_trans h h2; rw [wless_irrefl] at this; cases this
theorem ordB_eq (l r : List ByteArray) (hr : r.Pairwise (fun a b => wless a b = true)) (hm : ∀ z, z ∈ r ↔ z ∈ l) : ordB l = r :=
  srt_ext wless wless_irrefl (fun _ _ h => wless_asymm h) _ _ (ordB_srt l) hr fun z => (ordB_mem l z).trans (hm z).symm
/-- Words put into an ordered list, one after another. -/
def puts (l out : List ByteArray) : List ByteArray := l.foldl put out
theorem puts_ok (l : List ByteArray) : ∀ out : List ByteArray, out.Pairwise (fun a b => wless a b = true) →
    (puts l out).Pairwise (fun a b => wless a b = true) ∧ (∀ z, z ∈ puts l out ↔ z ∈ out ∨ z ∈ l) ∧ (puts l out).length ≤ out.length + l.length := by
  induction l with
  | nil => intro out h; exact ⟨h, fun z => by simp [puts], by simp [puts]⟩
  | cons x l ih =>
    intro out h
    obtain ⟨h1, h2, h3⟩ := ih (put out x) (put_srt out x h)
    have e : puts (x :: l) out = puts l (put out x) := rfl
    refine ⟨h1, fun z => ?_, ?_⟩
    · rw [e, h2 z, put_mem, List.mem_cons]
      constructor
      · rintro ((h | h) | h)
        · exact .inr (.inl h)
        · exact .inl h
        · exact .inr (.inr h)
      · rintro (h | h | h)
        · exact .inl (.inr h)
        · exact .inl (.inl h)
        · exact .inr h
    · have := put_len out x
      rw [e, List.length_cons]
      omega
theorem ordB_puts (l : List ByteArray) : ordB l = puts l [] := by
  obtain ⟨h1, h2, _⟩ := puts_ok l [] List.Pairwise.nil
  exact ordB_eq l _ h1 fun z => by simpa using h2 z
theorem ordered_eq (l : List ByteArray) (hl : l.length ≤ 1048576) : impl_ordered.f l = some (puts l []) := by
  unfold impl_ordered.f
  rw [if_pos (by omega), ordB_puts]
end Go.Proofs.YtgokegndboknfaaDoor.X
namespace Go.Proofs.YtgokegndboknfaaDoor.X
open Go.RowKit Go.Proofs.YtgokegndboknfaaDoorW.PrintWords Go.Proofs.YtgokegndboknfaaDoorW.PrintLast Go.Proofs.YtgokegndboknfaaDoorW.PrintMore Go.Proofs.YtgokegndboknfaaDoor

def innerW (s : ByteArray) : List ByteArray := (List.range' 0 s.size).map fun n => s.extract 0 n
theorem puts_app (a b out : List ByteArray) : puts (a ++ b) out = puts b (puts a out) := List.foldl_append
theorem pfInner_l (l : List ByteArray) (hl : l.length ≤ 12) (hs : ∀ s ∈ l, s.size ≤ 8) (d : Nat) : ∀ (i : Nat) (out : List ByteArray), i + d = l.length → out.length ≤ 8 * i →
    Ev (fun k => spec_pfInner.l0 k out l (l.length : Int) (i : Int)) (puts ((l.drop i).flatMap innerW) out) := by
  induction d with
  | zero =>
    intro i out hd ho
    refine Pl.succ ?_
    simp only [spec_pfInner.l0]
    exact Pl.neg (by omega) (Pl.ret (by rw [List.drop_of_length_le (by omega)]; rfl))
  | succ d ih =>
    intro i out hd ho
    have hil : i < l.length := by omega
    have h8 := hs _ (List.getElem_mem hil)
    have hin : ∀ (e n : Nat) (out : List ByteArray), n + e = l[i].size → out.length ≤ 8 * i + n → Ev (fun k => spec_pfInner.l1 k out l[i] (n : Int) l (l.length : Int) (i : Int)) (puts ((l.drop (i + 1)).flatMap innerW) (puts ((List.range' n e).map fun n => l[i].extract 0 n) out)) := by
      intro e
      induction e with
      | zero =>
        intro n out hn ho
        refine Pl.succ ?_
        simp only [spec_pfInner.l1]
        rw [Pl.w64 (n := (i : Int) + 1) (by omega) (by omega)]
        exact Pl.neg (by omega) (Pl.via (ih (i + 1) out (by omega) (by omega)) rfl)
      | succ e ihe =>
        intro n out hn ho
        have hp := put_len out (l[i].extract 0 n)
        refine Pl.succ ?_
        simp only [spec_pfInner.l1]
        rw [Pl.w64 (by omega) (by omega), Int.toNat_natCast]
        refine Pl.pos (by omega) (Pl.pos (by omega) (Pl.pos (by omega) (Ev.bind (wdPut out (l[i].extract 0 n) (by omega)) ?_)))
        exact Pl.via (ihe (n + 1) _ (by omega) (by omega)) (by rw [List.range'_succ]; rfl)
    refine Pl.succ ?_
    simp only [spec_pfInner.l0]
    rw [Pl.rdS_nat _ i hil]
    refine Pl.pos (by omega) (Pl.pos (by omega) (Pl.pos (by omega) ?_))
    refine Pl.via (hin l[i].size 0 out (by omega) (by omega)) ?_
    rw [List.drop_eq_getElem_cons hil, List.flatMap_cons, puts_app]
    rfl
theorem innerWords_l (l : List ByteArray) (hl : l.length ≤ 12) (hs : ∀ s ∈ l, s.size ≤ 8) (d : Nat) : ∀ (i : Nat) (out : List ByteArray), i + d = l.length → out.length ≤ 8 * i →
    Ev (fun k => impl_innerWords.l0 k out l (l.length : Int) (i : Int)) (puts (out ++ (l.drop i).flatMap innerW) []) := by
  induction d with
  | zero =>
    intro i out hd ho
    refine Pl.succ ?_
    simp only [impl_innerWords.l0, ordered_eq out (by omega), Option.bind_some]
    exact Pl.neg (by omega) (Pl.ret (by rw [List.drop_of_length_le (by omega), List.flatMap_nil, List.append_nil]))
  | succ d ih =>
    intro i out hd ho
    have hil : i < l.length := by omega
    have h8 := hs _ (List.getElem_mem hil)
    have hin : ∀ (e n : Nat) (out : List ByteArray), n + e = l[i].size → out.length ≤ 8 * i + n → Ev (fun k => impl_innerWords.l1 k out l[i] l (l.length : Int) (i : Int) (l[i].size : Int) (n : Int)) (puts (out ++ ((List.range' n e).map fun n => l[i].extract 0 n) ++ (l.drop (i + 1)).flatMap innerW) []) := by
      intro e
      induction e with
      | zero =>
        intro n out hn ho
        refine Pl.succ ?_
        simp only [impl_innerWords.l1]
        rw [Pl.w64 (n := (i : Int) + 1) (by omega) (by omega)]
        exact Pl.neg (by omega) (Pl.via (ih (i + 1) out (by omega) (by omega)) (by simp))
      | succ e ihe =>
        intro n out hn ho
        refine Pl.succ ?_
        simp only [impl_innerWords.l1]
        rw [Pl.w64 (by omega) (by omega), Int.toNat_natCast]
        refine Pl.pos (by omega) (Pl.pos (by omega) (Pl.pos (by omega) (Pl.pos (by omega) ?_)))
        exact Pl.via (ihe (n + 1) _ (by omega) (by simp; omega)) (by rw [List.range'_succ]; simp)
    refine Pl.succ ?_
    simp only [impl_innerWords.l0]
    rw [Pl.rdS_nat _ i hil]
    refine Pl.pos (by omega) (Pl.pos (by omega) (Pl.pos (by omega) ?_))
    refine Pl.via (hin l[i].size 0 out (by omega) (by omega)) ?_
    rw [List.drop_eq_getElem_cons hil, List.flatMap_cons, List.append_assoc]
    rfl
theorem innerW_len (l : List ByteArray) (hs : ∀ s ∈ l, s.size ≤ 8) : (l.flatMap innerW).length ≤ 8 * l.length := by
  induction l with
  | nil => simp
  | cons x l ih =>
    have h1 := hs x List.mem_cons_self
    have h2 := ih fun s h => hs s (List.mem_cons_of_mem _ h)
    rw [List.flatMap_cons, List.length_append, List.length_cons]
    have : (innerW x).length = x.size := by simp [innerW]
    omega
/-- The inner words, in order. -/
def innerS (l : List ByteArray) : List ByteArray := puts (l.flatMap innerW) []
theorem pfInner (l : List ByteArray) (hl : l.length ≤ 12) (hs : ∀ s ∈ l, s.size ≤ 8) : Ev (fun k => spec_pfInner.f k l) (innerS l) := by
  have h1 := pfInner_l l hl hs l.length 0 [] (by omega) (by simp)
  rw [List.drop_zero] at h1
  exact h1
theorem innerWords (l : List ByteArray) (hl : l.length ≤ 12) (hs : ∀ s ∈ l, s.size ≤ 8) : Ev (fun k => impl_innerWords.f k l) (innerS l) := by
  have h1 := innerWords_l l hl hs l.length 0 [] (by omega) (by simp)
  rw [List.drop_zero, List.nil_append] at h1
  exact h1
theorem innerS_len (l : List ByteArray) (hl : l.length ≤ 12) (hs : ∀ s ∈ l, s.size ≤ 8) : (innerS l).length ≤ 96 := by
  have h1 := innerW_len l hs
  have h2 := (puts_ok (l.flatMap innerW) [] List.Pairwise.nil).2.2
  simp only [List.length_nil] at h2
  unfold innerS
  omega
theorem innerS_mem (l : List ByteArray) (z : ByteArray) : z ∈ innerS l ↔ ∃ s ∈ l, ∃ n, n < s.size ∧ z = s.extract 0 n := by
  have h2 := (puts_ok (l.flatMap innerW) [] List.Pairwise.nil).2.1 z
  have h3 : z ∈ innerS l ↔ z ∈ l.flatMap innerW := by
    unfold innerS
    rw [h2]
    simp
  rw [h3, List.mem_flatMap]
  unfold innerW
  constructor
  · rintro ⟨s, hs, hz⟩
    obtain ⟨n, hn, rfl⟩ := List.mem_map.1 hz
    rw [List.mem_range'_1] at hn
    exact ⟨s, hs, n, by omega, rfl⟩
  · rintro ⟨s, hs, n, hn, rfl⟩
    exact ⟨s, hs, List.mem_map.2 ⟨n, by rw [List.mem_range'_1]; omega, rfl⟩⟩

end Go.Proofs.YtgokegndboknfaaDoor.X
namespace Go.Proofs.YtgokegndboknfaaDoor.X
open Go.RowKit Go.Proofs.YtgokegndboknfaaDoorW.PrintWords Go.Proofs.YtgokegndboknfaaDoorW.PrintLast Go.Proofs.YtgokegndboknfaaDoorW.PrintMore Go.Proofs.YtgokegndboknfaaDoor

theorem wdHas_l (l : List ByteArray) (w : ByteArray) (hl : l.length ≤ 1048576) (d : Nat) : ∀ i : Nat, i + d = l.length → Ev (fun k => spec_wdHas.l0 k w l (l.length : Int) (i : Int)) (Lib.containsS (l.drop i) w) := by
  induction d with
  | zero =>
    intro i hd
    refine Pl.succ ?_
    simp only [spec_wdHas.l0]
    rw [List.drop_of_length_le (by omega)]
    exact Pl.neg (by omega) (Pl.ret (by
      cases hq : Lib.containsS ([] : List ByteArray) w with
      | false => rfl
      | true => exact absurd ((Lib.containsS_iff _ _).1 hq) (by simp)))
  | succ d ih =>
    intro i hd
    have hil : i < l.length := by omega
    refine Pl.succ ?_
    simp only [spec_wdHas.l0]
    rw [Pl.rdS_nat _ i hil, Pl.w64 (n := (i : Int) + 1) (by omega) (by omega), List.drop_eq_getElem_cons hil]
    refine Pl.pos (by omega) (Pl.pos (by omega) (Pl.pos (by omega) ?_))
    by_cases h : w.toList = l[i].toList
    · exact Pl.pos h (Pl.ret ((Lib.containsS_iff _ _).2 (Pl.ba_ext h ▸ List.mem_cons_self)).symm)
    · refine Pl.neg h (Pl.via (ih (i + 1) (by omega)) ?_)
      have hne : w ≠ l[i] := fun e => h (by rw [e])
      exact Bool.eq_iff_iff.2 ((Lib.containsS_iff _ _).trans (Iff.trans ⟨List.mem_cons_of_mem _, fun q => (List.mem_cons.1 q).resolve_left hne⟩ (Lib.containsS_iff _ _).symm))
theorem wdHas (l : List ByteArray) (w : ByteArray) (hl : l.length ≤ 1048576) : Ev (fun k => spec_wdHas.f k l w) (Lib.containsS l w) :=
  Pl.via (wdHas_l l w hl l.length 0 (by omega)) (by rw [List.drop_zero])

end Go.Proofs.YtgokegndboknfaaDoor.X
namespace Go.Proofs.YtgokegndboknfaaDoor.X
open Go.RowKit Go.Proofs.YtgokegndboknfaaDoorW.PrintWords Go.Proofs.YtgokegndboknfaaDoorW.PrintLast Go.Proofs.YtgokegndboknfaaDoorW.PrintMore Go.Proofs.YtgokegndboknfaaDoor

theorem puts_ext (a b : List ByteArray) (h : ∀ z, z ∈ a ↔ z ∈ b) : puts a [] = puts b [] := by
  rw [← ordB_puts]
  obtain ⟨h1, h2, _⟩ := puts_ok b [] List.Pairwise.nil
  exact ordB_eq a _ h1 fun z => by rw [h2 z, h z]; simp
theorem puts_cat (a b out : List ByteArray) : puts (a ++ b) out = puts b (puts a out) := List.foldl_append
theorem put_new (l : List ByteArray) (x : ByteArray) (h : x ∉ l) : (put l x).length = l.length + 1 := by
  induction l with
  | nil => rfl
  | cons y l ih =>
    rw [put]
    split
    · rw [List.length_cons, ih (fun q => h (List.mem_cons_of_mem _ q)), List.length_cons]
    · split
      · rename_i hq
        exact absurd (Pl.ba_ext hq ▸ List.mem_cons_self) h
      · rfl
theorem put_old (l : List ByteArray) (x : ByteArray) (hs : l.Pairwise (fun a b => wless a b = true)) (h : x ∈ l) : put l x = l := by
  induction l with
  | nil => cases h
  | cons y l ih =>
    rw [List.pairwise_cons] at hs
    rw [put]
    by_cases e : y = x
    · subst e
      rw [if_neg (by rw [wless_irrefl]; decide), if_pos rfl]
    · have hx : x ∈ l := by
        rcases List.mem_cons.1 h with q | q
        · exact absurd q.symm e
        · exact q
      rw [if_pos (hs.1 x hx), ih hs.2 hx]
theorem set_sizes {l : List ByteArray} (h : wset l) : ∀ s ∈ l, s.size ≤ 8 := fun s hs => (wshort_size (wset_short h s hs)).2

end Go.Proofs.YtgokegndboknfaaDoor.X
namespace Go.Proofs.YtgokegndboknfaaDoor.X
open Go.RowKit Go.Proofs.YtgokegndboknfaaDoorW.PrintWords Go.Proofs.YtgokegndboknfaaDoorW.PrintLast Go.Proofs.YtgokegndboknfaaDoorW.PrintMore Go.Proofs.YtgokegndboknfaaDoor

theorem shHasC_iff (s : ByteArray) : shHasC s = true ↔ (99 : UInt8) ∈ bts s := by
  unfold shHasC Lib.contains
  rw [decide_eq_true_eq]
  show 0 ≤ Lib.index (bts s) [99] ↔ _
  rcases Lib.index_spec (bts s) [99] with ⟨h1, h2⟩ | ⟨i, h1, h2, h3, _⟩
  · rw [h1]
    refine ⟨fun h => absurd h (by decide), fun h => ?_⟩
    obtain ⟨i, hi, e⟩ := List.getElem_of_mem h
    have := h2 i (by omega)
    unfold Lib.occAt at this
    rw [List.drop_eq_getElem_cons hi, e] at this
    simp [List.isPrefixOf] at this
  · refine ⟨fun _ => ?_, fun _ => by rw [h1]; omega⟩
    unfold Lib.occAt at h3
    rw [List.isPrefixOf_iff_prefix] at h3
    exact List.mem_of_mem_drop (h3.subset List.mem_cons_self)
theorem krWordS_l (s : ByteArray) (ha : (bts s).all isL = true) (hs : s.size ≤ 1000) (d : Nat) : ∀ i : Nat, i + d = s.size → (∀ j, j < i → (bts s)[j]? ≠ some 99) → Ev (fun k => spec_krWord.l0 k s 2 (i : Int)) (!(shHasC s)) := by
  induction d with
  | zero =>
    intro i hi hn
    refine Pl.succ ?_
    simp only [spec_krWord.l0]
    refine Pl.neg (by omega) (Pl.ret ?_)
    have : shHasC s = false := by
      rw [← Bool.not_eq_true, shHasC_iff]
      intro h
      obtain ⟨j, hj, e⟩ := List.getElem_of_mem h
      have hj' := hj
      rw [bts_len] at hj'
      exact hn j (by omega) (by rw [List.getElem?_eq_getElem hj, e])
    rw [this]; rfl
  | succ d ih =>
    intro i hi hn
    have hil : i < s.size := by omega
    have hib : i < (bts s).length := by rw [bts_len]; exact hil
    refine Pl.succ ?_
    simp only [spec_krWord.l0]
    rw [bt_nat s i hil, Pl.w64 (n := (i : Int) + 1) (by omega) (by omega)]
    have hL := List.all_eq_true.1 ha _ (List.getElem_mem hib)
    refine Pl.pos (by omega) (Pl.pos (by omega) ?_)
    by_cases h99 : (bts s)[i] = 99
    · rw [h99]
      refine Pl.pos (by decide) (Pl.ret ?_)
      have : shHasC s = true := (shHasC_iff s).2 (h99 ▸ List.getElem_mem hib)
      rw [this]; rfl
    · have hb : (bts s)[i] = 97 ∨ (bts s)[i] = 98 := by
        unfold isL at hL
        simp only [Bool.or_eq_true, beq_iff_eq] at hL
        rcases hL with (h | h) | h
        · exact .inl h
        · exact .inr h
        · exact absurd h h99
      refine Pl.neg (by rcases hb with h | h <;> rw [h] <;> decide) (ih (i + 1) (by omega) fun j hj => ?_)
      by_cases e : j = i
      · subst e
        rw [List.getElem?_eq_getElem hib]
        exact fun q => h99 (Option.some.inj q)
      · exact hn j (by omega)
theorem krWordS (s : ByteArray) (ha : (bts s).all isL = true) (hs : s.size ≤ 1000) : Ev (fun k => spec_krWord.f k s 2) (!(shHasC s)) := by
  unfold spec_krWord.f
  exact krWordS_l s ha hs s.size 0 (by omega) (fun j hj => absurd hj (Nat.not_lt_zero _))
/-- The letter of a number, as a text. -/
def shAbc (j : Nat) : ByteArray := (⟨#[97, 98, 99]⟩ : ByteArray).extract j (j + 1)
theorem shAbc_size (j : Nat) : (shAbc j).size ≤ 1 := by
  unfold shAbc
  rw [ByteArray.size_extract]
  show min (j + 1) 3 - j ≤ 1
  omega
theorem sh_bts_app (s t : ByteArray) : bts (s ++ t) = bts s ++ bts t := by
  unfold bts; rw [ByteArray.data_append, Array.toList_append]
theorem sh_inj {a b : ByteArray} (h : bts a = bts b) : a = b := Pl.ba_ext (by rw [Pl.toL, Pl.toL]; exact h)
theorem begB_pre (s t : ByteArray) : begB s t = true ↔ bts t <+: bts s := by
  unfold begB
  rw [Bool.and_eq_true, decide_eq_true_eq, beq_iff_eq, toL_ex, Pl.toL, Nat.sub_zero, List.drop_zero]
  constructor
  · rintro ⟨_, h⟩
    exact ⟨(bts s).drop t.size, by rw [← show (bts s).take t.size = bts t from h, List.take_append_drop]⟩
  · rintro ⟨r, h⟩
    have h1 := bts_len s
    have h2 := bts_len t
    rw [← h, List.length_append] at h1
    exact ⟨by omega, by rw [← h, ← h2, List.take_left]⟩
/-- What is x and one letter. -/
theorem shP_iff (x s : ByteArray) : shP x s = true ↔ ∃ c, bts s = bts x ++ [c] := by
  unfold shP
  rw [Bool.and_eq_true, decide_eq_true_eq, begB_pre]
  constructor
  · rintro ⟨h1, r, h2⟩
    have e1 := bts_len s
    have e2 := bts_len x
    rw [← h2, List.length_append] at e1
    obtain ⟨c, rfl⟩ := List.length_eq_one_iff.1 (show r.length = 1 by omega)
    exact ⟨c, h2.symm⟩
  · rintro ⟨c, h⟩
    have e1 := bts_len s
    have e2 := bts_len x
    rw [h, List.length_append, List.length_singleton] at e1
    exact ⟨by omega, ⟨[c], h.symm⟩⟩
theorem shAbc0 : bts (shAbc 0) = [97] := by decide +kernel
theorem shAbc1 : bts (shAbc 1) = [98] := by decide +kernel
theorem shAbc2 : bts (shAbc 2) = [99] := by decide +kernel
theorem set_nodup {l : List ByteArray} (h : wset l) : l.Nodup := by
  rw [List.nodup_iff_pairwise_ne, List.pairwise_iff_getElem]
  intro i k hi hk hik e
  have h1 := wset_lt h hik hk
  rw [e, wless_irrefl] at h1
  cases h1
def shN (set : List ByteArray) (x : ByteArray) (j : Nat) : Nat := if Lib.containsS set (x ++ shAbc j) = true then 1 else 0
theorem sh_count {set : List ByteArray} (h : wset set) (x : ByteArray) : set.length = (shOut set x).length + (shN set x 0 + shN set x 1 + shN set x 2) := by
  have hp : (set.filter (shP x)).Perm (([x ++ shAbc 0, x ++ shAbc 1, x ++ shAbc 2] : List ByteArray).filter (Lib.containsS set)) := by
    rw [List.perm_ext_iff_of_nodup (List.Pairwise.filter _ (set_nodup h))]
    · intro z
      rw [List.mem_filter, List.mem_filter, Lib.containsS_iff]
      constructor
      · rintro ⟨hz, hp⟩
        refine ⟨?_, hz⟩
        obtain ⟨c, hc⟩ := (shP_iff x z).1 hp
        obtain ⟨i, hi, rfl⟩ := List.getElem_of_mem hz
        have hsh := h.2.1 i hi
        unfold wshort at hsh
        rw [Bool.and_eq_true] at hsh
        have hL := List.all_eq_true.1 hsh.2 c (by rw [hc]; simp)
        unfold isL at hL
        simp only [Bool.or_eq_true, beq_iff_eq] at hL
        rcases hL with (rfl | rfl) | rfl
        · exact List.mem_cons.2 (.inl (sh_inj (by rw [hc, sh_bts_app, shAbc0])))
        · exact List.mem_cons_of_mem _ (List.mem_cons.2 (.inl (sh_inj (by rw [hc, sh_bts_app, shAbc1]))))
        · exact List.mem_cons_of_mem _ (List.mem_cons_of_mem _ (List.mem_cons.2 (.inl (sh_inj (by rw [hc, sh_bts_app, shAbc2])))))
      · rintro ⟨hz, hm⟩
        refine ⟨hm, (shP_iff x z).2 ?_⟩
        simp only [List.mem_cons, List.not_mem_nil, or_false] at hz
        rcases hz with rfl | rfl | rfl
        · exact ⟨97, by rw [sh_bts_app, shAbc0]⟩
        · exact ⟨98, by rw [sh_bts_app, shAbc1]⟩
        · exact ⟨99, by rw [sh_bts_app, shAbc2]⟩
    · refine List.Pairwise.filter _ ?_
      have hne : ∀ i j : Nat, bts (shAbc i) ≠ bts (shAbc j) → x ++ shAbc i ≠ x ++ shAbc j := fun i j hij e => hij (by
        have h_ := congrArg bts e
        rw [sh_bts_app, sh_bts_app] at h_
        exact List.append_cancel_left h_)
      have h01 := hne 0 1 (by rw [shAbc0, shAbc1]; decide)
      have h02 := hne 0 2 (by rw [shAbc0, shAbc2]; decide)
      have h12 := hne 1 2 (by rw [shAbc1, shAbc2]; decide)
      simp [h01, h02, h12]
  have h1 : set.length = (shOut set x).length + (set.filter (shP x)).length := by
    unfold shOut
    clear hp h
    induction set with
    | nil => rfl
    | cons a l ih =>
      rw [List.filter_cons, List.filter_cons]
      cases shP x a <;> simp only [Bool.not_true, Bool.not_false, Bool.false_eq_true, if_true, if_false, List.length_cons] <;> omega
  rw [h1, hp.length_eq]
  congr 1
  unfold shN
  simp only [List.filter_cons, List.filter_nil]
  cases Lib.containsS set (x ++ shAbc 0) <;> cases Lib.containsS set (x ++ shAbc 1) <;> cases Lib.containsS set (x ++ shAbc 2) <;> rfl
/-- How many letters the set has, by its words. -/
def shM (set : List ByteArray) : Nat := if set.any shHasC = true then 3 else 2
theorem shM_le (set : List ByteArray) : shM set ≤ 3 := by unfold shM; split <;> omega
def shAll (set : List ByteArray) (x : ByteArray) (j : Nat) : Bool := (List.range' j (shM set - j)).all fun i => Lib.containsS set (x ++ shAbc i)
set_option linter.unusedSimpArgs false in
theorem shSkip_eq {set : List ByteArray} (h : wset set) (x : ByteArray) : shSkip set (shM set : Int) x = !(shAll set x 0) := by
  have hc := sh_count h x
  unfold shSkip shAll
  by_cases hm : set.any shHasC = true
  · have e : shM set = 3 := by unfold shM; rw [if_pos hm]
    rw [e]
    show _ = !((List.range' 0 3).all _)
    simp only [List.range', List.all_cons, List.all_nil, Bool.and_true, Nat.zero_add]
    unfold shN at hc
    cases a0 : Lib.containsS set (x ++ shAbc 0) <;> cases a1 : Lib.containsS set (x ++ shAbc 1) <;> cases a2 : Lib.containsS set (x ++ shAbc (1 + 1)) <;> simp only [a0, a1, a2, if_true, if_false, Bool.false_eq_true, Bool.and_true, Bool.true_and, Bool.and_false, Bool.false_and, Bool.not_true, Bool.not_false, decide_eq_true_eq, decide_eq_false_iff_not] at hc ⊢ <;> omega
  · have e : shM set = 2 := by unfold shM; rw [if_neg hm]
    have a2 : ¬ (Lib.containsS set (x ++ shAbc 2) = true) := fun hx => hm (List.any_eq_true.2 ⟨_, (Lib.containsS_iff _ _).1 hx, (shHasC_iff _).2 (by rw [sh_bts_app, shAbc2]; simp)⟩)
    rw [e]
    show _ = !((List.range' 0 2).all _)
    simp only [List.range', List.all_cons, List.all_nil, Bool.and_true, Nat.zero_add]
    unfold shN at hc
    rw [if_neg a2] at hc
    cases a0 : Lib.containsS set (x ++ shAbc 0) <;> cases a1 : Lib.containsS set (x ++ shAbc 1) <;> simp only [a0, a1, if_true, if_false, Bool.false_eq_true, Bool.and_true, Bool.true_and, Bool.and_false, Bool.false_and, Bool.not_true, Bool.not_false, decide_eq_true_eq, decide_eq_false_iff_not] at hc ⊢ <;> omega
/-- The answer over the inner words that are left. -/
def shV (set : List ByteArray) : List ByteArray → List ByteArray × Bool
  | [] => ([], false)
  | x :: xs => if shAll set x 0 = true then (if x.size = 0 then ([], false) else (puts (shOut set x ++ [x]) [], true)) else shV set xs
theorem shOut_len (set : List ByteArray) (x : ByteArray) : (shOut set x).length ≤ set.length := List.length_filter_le _ _
theorem sh_nil (x : ByteArray) : x.toList = [] ↔ x.size = 0 := by
  rw [Pl.toL, ← bts_len]
  exact List.length_eq_zero_iff.symm
theorem shF_eq {set : List ByteArray} (h : wset set) : ∀ xs : List ByteArray, shF set (shM set : Int) xs = some (shV set xs)
  | [] => rfl
  | x :: xs => by
    rw [shF, shV, shSkip_eq h]
    cases shAll set x 0 with
    | false => exact shF_eq h xs
    | true =>
      have h12 := h.1
      have hl := shOut_len set x
      rw [if_neg (by decide), if_pos rfl]
      unfold shT
      by_cases hx : x.size = 0
      · rw [if_pos ((sh_nil x).2 hx), if_pos hx]
      · rw [if_neg (fun e => hx ((sh_nil x).1 e)), if_neg hx, ordered_eq _ (by rw [List.length_append, List.length_singleton]; omega)]
        rfl
theorem shV_len (set : List ByteArray) (h12 : set.length ≤ 12) : ∀ xs : List ByteArray, (shV set xs).1.length ≤ 20
  | [] => by simp [shV]
  | x :: xs => by
    rw [shV]
    split
    · split
      · simp
      · have h1 := (puts_ok (shOut set x ++ [x]) [] List.Pairwise.nil).2.2
        have h2 := shOut_len set x
        simp only [List.length_append, List.length_singleton, List.length_nil] at h1
        show (puts _ _).length ≤ 20
        omega
    · exact shV_len set h12 xs
theorem shL0 {set : List ByteArray} (h : wset set) (R : List ByteArray × Bool) (hn : Ev (fun k => (spec_pfInner.f k set).bind fun t => spec_ShrinkPrefix.l1 k set (shM set : Int) t (wrap64 ((t.length : Int) - 1))) R) (d : Nat) : ∀ i : Nat, i + d = set.length → Ev (fun k => spec_ShrinkPrefix.l0 k set (shM (set.take i) : Int) set (set.length : Int) (i : Int)) R := by
  have h12 := h.1
  induction d with
  | zero =>
    intro i hi
    refine Pl.succ ?_
    simp only [spec_ShrinkPrefix.l0]
    rw [List.take_of_length_le (by omega)]
    exact Pl.neg (by omega) hn
  | succ d ih =>
    intro i hi
    have hil : i < set.length := by omega
    have hsh := h.2.1 i hil
    unfold wshort at hsh
    rw [Bool.and_eq_true, decide_eq_true_eq] at hsh
    have h1 := ih (i + 1) (by omega)
    rw [List.take_succ_eq_append_getElem hil] at h1
    refine Pl.succ ?_
    simp only [spec_ShrinkPrefix.l0]
    rw [Pl.rdS_nat _ i hil, Pl.w64 (n := (i : Int) + 1) (by omega) (by omega)]
    refine Pl.pos (by omega) (Pl.pos (by omega) (Pl.pos (by omega) (Ev.bind (krWordS _ hsh.2 (by omega)) ?_)))
    have e : shM (set.take i ++ [set[i]]) = if shHasC set[i] = true then 3 else shM (set.take i) := by
      unfold shM
      rw [List.any_append, List.any_cons, List.any_nil, Bool.or_false]
      cases (set.take i).any shHasC <;> cases shHasC set[i] <;> rfl
    rw [e] at h1
    cases hc : shHasC set[i] with
    | true =>
      rw [hc, if_pos rfl] at h1
      exact Pl.neg (by decide) h1
    | false =>
      rw [hc, if_neg (by decide)] at h1
      exact Pl.pos rfl h1
theorem shL3 {set : List ByteArray} (h : wset set) (inn : List ByteArray) (kk : Nat) (hk : kk < inn.length) (hs : inn[kk].size ≤ 1000) (d : Nat) : ∀ (i : Nat) (out : List ByteArray), i + d = set.length → out.length ≤ i →
    Ev (fun k => spec_ShrinkPrefix.l3 k inn (kk : Int) out set (set.length : Int) (i : Int)) (puts (shOut (set.drop i) inn[kk] ++ [inn[kk]]) out, true) := by
  have h12 := h.1
  induction d with
  | zero =>
    intro i out hi ho
    refine Pl.succ ?_
    simp only [spec_ShrinkPrefix.l3]
    rw [Pl.rdS_nat _ kk hk]
    refine Pl.neg (by omega) (Pl.pos (by omega) (Pl.pos (by omega) (Ev.bind (wdPut out inn[kk] (by omega)) (Pl.ret ?_))))
    rw [List.drop_of_length_le (by omega)]
    rfl
  | succ d ih =>
    intro i out hi ho
    have hil : i < set.length := by omega
    have hsh := wshort_size (h.2.1 i hil)
    have hpl := put_len out set[i]
    refine Pl.succ ?_
    simp only [spec_ShrinkPrefix.l3, wdBegins_eq, Option.bind_some]
    rw [Pl.rdS_nat _ kk hk, Pl.rdS_nat _ i hil, Pl.w64 (n := (i : Int) + 1) (by omega) (by omega), Pl.w64 (n := (inn[kk].size : Int) + 1) (by omega) (by omega)]
    refine Pl.pos (by omega) (Pl.pos (by omega) (Pl.pos (by omega) (Pl.pos (by omega) (Pl.pos (by omega) ?_))))
    have hstep : ∀ b : Bool, shP inn[kk] set[i] = b → shOut (set.drop i) inn[kk] = if b = true then shOut (set.drop (i + 1)) inn[kk] else set[i] :: shOut (set.drop (i + 1)) inn[kk] := fun b hb => by
      unfold shOut
      rw [List.drop_eq_getElem_cons hil, List.filter_cons, hb]
      cases b <;> rfl
    have hput : shP inn[kk] set[i] = false → Ev (fun k => (spec_wdPut.f k out set[i]).bind fun t => spec_ShrinkPrefix.l3 k inn (kk : Int) t set (set.length : Int) ((i : Int) + 1)) (puts (shOut (set.drop i) inn[kk] ++ [inn[kk]]) out, true) := fun hb => by
      rw [hstep false hb, if_neg (by decide)]
      exact Ev.bind (wdPut out set[i] (by omega)) (ih (i + 1) (put out set[i]) (by omega) (by omega))
    by_cases he : set[i].size = inn[kk].size + 1
    · refine Pl.pos (by omega) ?_
      have hq : shP inn[kk] set[i] = begB set[i] inn[kk] := by unfold shP; rw [decide_eq_true he, Bool.true_and]
      cases hb : begB set[i] inn[kk] with
      | true =>
        rw [hb] at hq
        rw [hstep true hq, if_pos rfl]
        exact Pl.pos rfl (ih (i + 1) out (by omega) (by omega))
      | false =>
        rw [hb] at hq
        exact Pl.neg (by decide) (hput hq)
    · have hq : shP inn[kk] set[i] = false := by unfold shP; rw [decide_eq_false he, Bool.false_and]
      exact Pl.neg (by omega) (hput hq)
theorem shL2f {set : List ByteArray} (inn : List ByteArray) (kk : Nat) (hk : kk ≤ 1000) (R : List ByteArray × Bool) (h1 : Ev (fun k => spec_ShrinkPrefix.l1 k set (shM set : Int) inn ((kk : Int) - 1)) R) (d : Nat) : ∀ j : Nat, j + d = shM set → Ev (fun k => spec_ShrinkPrefix.l2 k set (shM set : Int) inn (kk : Int) false (j : Int)) R := by
  have hm := shM_le set
  induction d with
  | zero =>
    intro j hj
    refine Pl.succ ?_
    simp only [spec_ShrinkPrefix.l2]
    rw [Pl.w64 (n := (kk : Int) - 1) (by omega) (by omega)]
    exact Pl.neg (by omega) (Pl.neg (by decide) h1)
  | succ d ih =>
    intro j hj
    refine Pl.succ ?_
    simp only [spec_ShrinkPrefix.l2]
    rw [Pl.w64 (n := (j : Int) + 1) (by omega) (by omega)]
    exact Pl.pos (by omega) (Pl.neg (by decide) (ih (j + 1) (by omega)))
theorem shL2 {set : List ByteArray} (h : wset set) (inn : List ByteArray) (kk : Nat) (hk : kk < inn.length) (hk2 : kk ≤ 1000) (hs : inn[kk].size ≤ 1000) (R : List ByteArray × Bool) (h1 : Ev (fun k => spec_ShrinkPrefix.l1 k set (shM set : Int) inn ((kk : Int) - 1)) R) (d : Nat) : ∀ j : Nat, j + d = shM set →
    Ev (fun k => spec_ShrinkPrefix.l2 k set (shM set : Int) inn (kk : Int) true (j : Int)) (if shAll set inn[kk] j = true then (puts (shOut set inn[kk] ++ [inn[kk]]) [], true) else R) := by
  have hm := shM_le set
  have h12 := h.1
  induction d with
  | zero =>
    intro j hj
    refine Pl.succ ?_
    simp only [spec_ShrinkPrefix.l2]
    have e : shAll set inn[kk] j = true := by unfold shAll; rw [show shM set - j = 0 by omega]; rfl
    rw [e, if_pos rfl]
    exact Pl.neg (by omega) (Pl.pos (by trivial) (shL3 h inn kk hk hs set.length 0 [] (by omega) (by simp)))
  | succ d ih =>
    intro j hj
    have hsz := shAbc_size j
    have hn := ih (j + 1) (by omega)
    have hA : shAll set inn[kk] j = (Lib.containsS set (inn[kk] ++ shAbc j) && shAll set inn[kk] (j + 1)) := by
      unfold shAll
      rw [show shM set - j = (shM set - (j + 1)) + 1 by omega, List.range'_succ, List.all_cons]
    refine Pl.succ ?_
    simp only [spec_ShrinkPrefix.l2]
    rw [Pl.rdS_nat _ kk hk, Pl.w64 (n := (j : Int) + 1) (by omega) (by omega), Int.toNat_natCast, show (((j : Int) + 1).toNat) = j + 1 by omega]
    refine Pl.pos (by omega) (Pl.pos (by trivial) (Pl.pos (by omega) (Pl.pos (by omega) (Pl.pos (by omega) (Pl.pos (by omega) (Pl.pos (by omega) (Pl.pos (show inn[kk].size + (shAbc j).size ≤ _ by omega) (Ev.bind (wdHas set (inn[kk] ++ shAbc j) (by omega)) ?_))))))))
    rw [hA]
    cases hc : Lib.containsS set (inn[kk] ++ shAbc j) with
    | true => rw [Bool.true_and]; exact hn
    | false =>
      rw [Bool.false_and, if_neg (by decide)]
      exact shL2f inn kk hk2 R h1 d (j + 1) (by omega)
theorem shL1 {set : List ByteArray} (h : wset set) (inn : List ByteArray) (hi : inn.length ≤ 1000) (hs : ∀ s ∈ inn, s.size ≤ 1000) (h0 : ∀ (hp : 0 < inn.length), inn[0].size = 0) (hne : ∀ k (hk : k < inn.length), 0 < k → inn[k].size ≠ 0) : ∀ kk : Nat, kk < inn.length →
    Ev (fun k => spec_ShrinkPrefix.l1 k set (shM set : Int) inn (kk : Int)) (shV set (inn.take (kk + 1)).reverse) := by
  intro kk
  induction kk with
  | zero =>
    intro hk
    refine Pl.succ ?_
    simp only [spec_ShrinkPrefix.l1]
    refine Pl.neg (by omega) (Pl.ret ?_)
    rw [List.take_succ_eq_append_getElem hk, List.take_zero, List.nil_append, List.reverse_singleton, shV, if_pos (h0 hk)]
    split <;> rfl
  | succ kk ih =>
    intro hk
    have h1 := ih (by omega)
    refine Pl.succ ?_
    simp only [spec_ShrinkPrefix.l1]
    refine Pl.pos (by omega) ?_
    refine Pl.via (shL2 h inn (kk + 1) hk (by omega) (hs _ (List.getElem_mem hk)) _ (by rw [show (((kk + 1 : Nat) : Int) - 1) = (kk : Int) by omega]; exact h1) (shM set) 0 (by omega)) ?_
    rw [List.take_succ_eq_append_getElem hk, List.reverse_append, List.reverse_singleton, List.singleton_append, shV, if_neg (hne _ hk (by omega))]
/-- The inner words of a set: the empty one is the first, and no other is empty. -/
theorem innerS_first (l : List ByteArray) : (∀ hp : 0 < (innerS l).length, ((innerS l)[0]).size = 0) ∧ (∀ k (hk : k < (innerS l).length), 0 < k → (innerS l)[k].size ≠ 0) := by
  have hsrt := (puts_ok (l.flatMap innerW) [] List.Pairwise.nil).1
  have hp := List.pairwise_iff_getElem.1 hsrt
  have hem : 0 < (innerS l).length → (⟨#[]⟩ : ByteArray) ∈ innerS l := fun h0 => by
    obtain ⟨s, hs, n, hn, e⟩ := (innerS_mem l _).1 (List.getElem_mem h0)
    refine (innerS_mem l _).2 ⟨s, hs, 0, by omega, sh_inj ?_⟩
    exact ((Pl.toL _).symm.trans (toL_ex s 0 0)).symm
  have h0 : ∀ hp0 : 0 < (innerS l).length, ((innerS l)[0]).size = 0 := fun h0 => by
    obtain ⟨j, hj, e⟩ := List.getElem_of_mem (hem h0)
    rcases Nat.eq_zero_or_pos j with rfl | hj0
    · rw [e]; rfl
    · have h1 := wless_size (hp 0 j h0 hj hj0)
      have e2 : (innerS l)[j].size = 0 := by rw [e]; rfl
      have e3 : (puts (l.flatMap innerW) [])[j].size = 0 := e2
      rw [e3] at h1
      exact Nat.le_zero.1 h1
  refine ⟨h0, fun k hk hk0 e => ?_⟩
  have h1 := hp 0 k (by unfold innerS at hk; omega) hk hk0
  have e0 := h0 (by omega)
  have ez : ∀ s : ByteArray, s.size = 0 → s = ⟨#[]⟩ := fun s hs => sh_inj (List.eq_nil_of_length_eq_zero (by rw [bts_len, hs]))
  have q0 : (puts (l.flatMap innerW) [])[0]'(by unfold innerS at hk; omega) = ⟨#[]⟩ := ez _ e0
  have q1 : (puts (l.flatMap innerW) [])[k]'hk = ⟨#[]⟩ := ez _ e
  rw [q0, q1, wless_irrefl] at h1
  cases h1
theorem innerS_sizes {l : List ByteArray} (h : wset l) : ∀ s ∈ innerS l, s.size ≤ 8 := fun z hz => by
  obtain ⟨s, hs, n, hn, rfl⟩ := (innerS_mem l z).1 hz
  have := set_sizes h s hs
  rw [ByteArray.size_extract]
  omega
theorem shrink_both (l : List ByteArray) (hl : l.length ≤ 1048576) : ∃ v : List ByteArray × Bool, v.1.length ≤ 20 ∧ Ev (fun k => spec_ShrinkPrefix.f k l) v ∧ Ev (fun k => impl_ShrinkPrefix.f k l) v := by
  unfold spec_ShrinkPrefix.f impl_ShrinkPrefix.f
  have hno : Ev (fun k => spec_ShrinkPrefix.j0 k l true) (([] : List ByteArray), false) := by
    refine Pl.succ ?_
    simp only [spec_ShrinkPrefix.j0]
    exact Pl.pos (by trivial) (Pl.ret rfl)
  by_cases h : wset l
  · by_cases hp : noTwo begB l
    · have h12 := h.1
      have hsz := set_sizes h
      have hin := innerS_len l h12 hsz
      have hiz := innerS_sizes h
      refine ⟨shV l (innerS l).reverse, shV_len l h12 _, Ev.bind (wdSet l) ?_, Ev.bind (isSet l (by omega)) ?_⟩
      · rw [decide_eq_true h]
        refine Pl.pos rfl (Ev.bind (krPrefix l h) ?_)
        rw [decide_eq_true hp]
        refine Pl.succ ?_
        simp only [spec_ShrinkPrefix.j0]
        refine Pl.neg (by decide) ?_
        refine shL0 h _ ?_ l.length 0 (by omega)
        refine Ev.bind (pfInner l h12 hsz) ?_
        rw [Pl.w64 (by omega) (by omega)]
        rcases Nat.eq_zero_or_pos (innerS l).length with h0 | h0
        · rw [List.length_eq_zero_iff.1 h0]
          refine Pl.succ ?_
          simp only [spec_ShrinkPrefix.l1]
          exact Pl.neg (by decide) (Pl.ret rfl)
        · have hf := innerS_first l
          have h1 := shL1 h (innerS l) (by omega) (fun s hs => by have := hiz s hs; omega) hf.1 hf.2 ((innerS l).length - 1) (by omega)
          rw [show (innerS l).length - 1 + 1 = (innerS l).length by omega, List.take_length, show (((innerS l).length - 1 : Nat) : Int) = ((innerS l).length : Int) - 1 by omega] at h1
          exact h1
      · rw [decide_eq_true h]
        refine Pl.pos rfl ?_
        show Ev (fun k => (some (decide (noTwo begB l))).bind _) _
        rw [decide_eq_true hp]
        refine Ev.bind (Ev.now true) (Pl.pos rfl (Pl.pos ⟨List.all_eq_true.2 fun s hs => decide_eq_true (by have := hsz s hs; omega), by omega⟩ (Ev.bind (innerWords l h12 hsz) (Pl.pos ⟨List.all_eq_true.2 fun s hs => decide_eq_true (by have := hiz s hs; omega), by omega, fun h0 => ?_⟩ ?_))))
        · rw [List.length_eq_zero_iff.1 h0]; rfl
        · have e := shF_eq h (innerS l).reverse
          have em : ((shM l : Nat) : Int) = if l.any shHasC = true then 3 else 2 := by unfold shM; split <;> rfl
          rw [em] at e
          rw [e]
          exact Pl.ret rfl
    · refine ⟨([], false), by simp, Ev.bind (wdSet l) ?_, Ev.bind (isSet l (by omega)) ?_⟩
      · rw [decide_eq_true h]
        refine Pl.pos rfl (Ev.bind (krPrefix l h) ?_)
        rw [decide_eq_false hp]
        exact hno
      · rw [decide_eq_true h]
        refine Pl.pos rfl ?_
        show Ev (fun k => (some (decide (noTwo begB l))).bind _) _
        rw [decide_eq_false hp]
        exact Ev.bind (Ev.now false) (Pl.neg (by decide) (Pl.ret rfl))
  · refine ⟨([], false), by simp, Ev.bind (wdSet l) ?_, Ev.bind (isSet l (by omega)) ?_⟩
    · rw [decide_eq_false h]; exact Pl.neg (by decide) hno
    · rw [decide_eq_false h]; exact Pl.neg (by decide) (Pl.ret rfl)

end Go.Proofs.YtgokegndboknfaaDoor.X
namespace Go.Proofs.YtgokegndboknfaaDoor.X
open Go.RowKit Go.Proofs.YtgokegndboknfaaDoorW.PrintWords Go.Proofs.YtgokegndboknfaaDoorW.PrintLast Go.Proofs.YtgokegndboknfaaDoorW.PrintMore Go.Proofs.YtgokegndboknfaaDoor

theorem toStringS_l (l : List ByteArray) (hl : l.length ≤ 1048576) (d : Nat) : ∀ (i : Nat) (x : List ByteArray), l.length - i = d → i ≤ l.length → x.length = l.length → (∀ j, j < i → x[j]? = l[j]?) →
    Ev (fun k => laws_toStringS.l0 k l x (i : Int)) l := by
  induction d with
  | zero =>
    intro i x hd hi hx he
    refine Pl.succ ?_
    simp only [laws_toStringS.l0]
    refine Pl.neg (by omega) (Pl.ret ?_)
    apply List.ext_getElem?
    intro j
    by_cases hj : j < i
    · exact he j hj
    · rw [List.getElem?_eq_none (by omega), List.getElem?_eq_none (by omega)]
  | succ d ih =>
    intro i x hd hi hx he
    refine Pl.succ ?_
    simp only [laws_toStringS.l0]
    refine Pl.pos (by omega) (Pl.pos (by omega) (Pl.pos (by omega) ?_))
    rw [Pl.w64 (by omega) (by omega), Int.toNat_natCast, Pl.rdS_nat _ _ (by omega)]
    refine ih (i + 1) _ (by omega) (by omega) (by simpa using hx) ?_
    intro j hj
    rw [List.getElem?_set]
    by_cases e : i = j
    · subst e
      rw [if_pos rfl, if_pos (by omega), List.getElem?_eq_getElem (by omega)]
    · rw [if_neg e]
      exact he j (by omega)
theorem toStringS (l : List ByteArray) (hl : l.length ≤ 1048576) : Ev (fun k => laws_toStringS.f k l) l := by
  unfold laws_toStringS.f
  refine Pl.pos (by omega) (Pl.pos (by omega) ?_)
  exact toStringS_l l hl l.length 0 _ (by omega) (by omega) (by simp) (fun j hj => absurd hj (Nat.not_lt_zero _))
theorem szStringS_l (l : List ByteArray) (hl : l.length ≤ 1048576) (hs : ∀ s ∈ l, s.size ≤ 9223372036854775807) (d : Nat) : ∀ (i : Nat) (left : Int), l.length - i = d → i ≤ l.length → 0 ≤ left → left ≤ 1048576 →
    ∃ r, Ev (fun k => laws_szStringS.l0 k l left (i : Int)) r ∧ (0 ≤ r → r ≤ left ∧ ∀ j (h : j < l.length), i ≤ j → (l[j].size : Int) ≤ left) := by
  induction d with
  | zero =>
    intro i left hd hi h0 hb
    refine ⟨left, Pl.succ ?_, fun _ => ⟨Int.le_refl _, fun j h hj => by omega⟩⟩
    simp only [laws_szStringS.l0]
    exact Pl.neg (by omega) (Pl.ret rfl)
  | succ d ih =>
    intro i left hd hi h0 hb
    have hil : i < l.length := by omega
    have hsz := hs l[i] (List.getElem_mem hil)
    by_cases hc : left - (l[i].size : Int) < 0
    · refine ⟨-1, Pl.succ ?_, fun h => by omega⟩
      simp only [laws_szStringS.l0]
      rw [Pl.rdS_nat _ i hil, Pl.w64 (n := left - (l[i].size : Int)) (by omega) (by omega)]
      exact Pl.pos (by omega) (Pl.pos (by omega) (Pl.pos hc (Pl.ret rfl)))
    · obtain ⟨r, hr, hq⟩ := ih (i + 1) (left - (l[i].size : Int)) (by omega) (by omega) (by omega) (by omega)
      refine ⟨r, Pl.succ ?_, fun h => ⟨by have := (hq h).1; omega, fun j hj hij => ?_⟩⟩
      · simp only [laws_szStringS.l0]
        rw [Pl.rdS_nat _ i hil, Pl.w64 (n := left - (l[i].size : Int)) (by omega) (by omega), Pl.w64 (n := (i : Int) + 1) (by omega) (by omega)]
        exact Pl.pos (by omega) (Pl.pos (by omega) (Pl.neg hc hr))
      · by_cases e : j = i
        · subst e; omega
        · have := (hq h).2 j hj (by omega); omega
/-- What the size tells: all is small, or the law has nothing to say. -/
theorem szStringS (l : List ByteArray) (hl : l.length * 16 ≤ 140737488351232) (hs : ∀ s ∈ l, s.size ≤ maxLen) (left : Int) (h0 : 0 ≤ left) (hb : left ≤ 1048576) :
    ∃ r, Ev (fun k => laws_szStringS.f k l left) r ∧ (0 ≤ r → r ≤ left ∧ l.length ≤ 1048576 ∧ ∀ s ∈ l, s.size ≤ 1048576) := by
  unfold laws_szStringS.f
  by_cases hc : left - (l.length : Int) < 0
  · refine ⟨-1, ?_, fun h => by omega⟩
    rw [Pl.w64 (by omega) (by omega)]
    exact Pl.pos hc (Pl.ret rfl)
  · have hm : ∀ s ∈ l, s.size ≤ 9223372036854775807 := fun s h => by have := hs s h; unfold maxLen at this; exact this
    obtain ⟨r, hr, hq⟩ := szStringS_l l (by omega) hm l.length 0 (left - (l.length : Int)) (by omega) (by omega) (by omega) (by omega)
    refine ⟨r, ?_, fun h => ⟨by have := (hq h).1; omega, by omega, fun s hs' => ?_⟩⟩
    · rw [Pl.w64 (by omega) (by omega)]
      exact Pl.neg hc hr
    · obtain ⟨j, hj, rfl⟩ := List.getElem_of_mem hs'
      have := (hq h).2 j hj (Nat.zero_le _)
      omega

end Go.Proofs.YtgokegndboknfaaDoor.X
namespace Go.Proofs.YtgokegndboknfaaDoor.X
open Go.RowKit Go.Proofs.YtgokegndboknfaaDoorW.PrintWords Go.Proofs.YtgokegndboknfaaDoorW.PrintLast Go.Proofs.YtgokegndboknfaaDoorW.PrintMore Go.Proofs.YtgokegndboknfaaDoor

theorem eqStringS_l (l : List ByteArray) (hl : l.length ≤ 4611686018427387904) (d : Nat) : ∀ (i : Nat), l.length - i = d → i ≤ l.length → Ev (fun k => laws_eqStringS.l0 k l l (i : Int)) true := by
  induction d with
  | zero =>
    intro i hd hi
    refine Pl.succ ?_
    simp only [laws_eqStringS.l0]
    exact Pl.neg (by omega) (Pl.ret rfl)
  | succ d ih =>
    intro i hd hi
    refine Pl.succ ?_
    simp only [laws_eqStringS.l0]
    refine Pl.pos (by omega) (Pl.pos (by omega) (Pl.pos (by omega) (Pl.pos (by first | rfl | trivial) ?_)))
    rw [Pl.w64 (by omega) (by omega)]
    exact ih (i + 1) (by omega) (by omega)
theorem eqStringS (l : List ByteArray) (hl : l.length ≤ 4611686018427387904) : Ev (fun k => laws_eqStringS.f k l l) true := by
  unfold laws_eqStringS.f
  exact Pl.pos rfl (eqStringS_l l hl l.length 0 (by omega) (by omega))


end Go.Proofs.YtgokegndboknfaaDoor.X
namespace Go.Proofs.YtgokegndboknfaaDoor.X
open Go.RowKit Go.Proofs.YtgokegndboknfaaDoorW.PrintWords Go.Proofs.YtgokegndboknfaaDoorW.PrintLast Go.Proofs.YtgokegndboknfaaDoorW.PrintMore Go.Proofs.YtgokegndboknfaaDoor

theorem markText_l (d : Nat) : ∀ (n : Nat) (acc : ByteArray), n < 10 ^ d → n ≤ 1099511627776 → acc.size + d ≤ 1000 → ∃ t, Ev (fun k => laws_markText.l0 k (n : Int) acc) t := by
  induction d with
  | zero =>
    intro n acc hn hq hs
    refine ⟨(⟨#[109]⟩ : ByteArray) ++ acc, Pl.succ ?_⟩
    simp only [laws_markText.l0]
    exact Pl.neg (by omega) (Pl.pos (by omega) (Pl.ret rfl))
  | succ d ih =>
    intro n acc hn hq hs
    by_cases h0 : n = 0
    · refine ⟨(⟨#[109]⟩ : ByteArray) ++ acc, Pl.succ ?_⟩
      simp only [laws_markText.l0]
      exact Pl.neg (by omega) (Pl.pos (by omega) (Pl.ret rfl))
    · have hsz : ∀ y : Int, (strOfNums [y]).size = 1 := fun y => by rw [strOfNums_size]; rfl
      obtain ⟨t, ht⟩ := ih (n / 10) (strOfNums [(wrap64 (48 + (Int.tmod (n : Int) 10))) % 256] ++ acc) (by rw [Nat.pow_succ] at hn; omega) (by omega) (by rw [ByteArray.size_append, hsz]; omega)
      refine ⟨t, Pl.succ ?_⟩
      simp only [laws_markText.l0, Option.bind_some]
      refine Pl.pos (by omega) (Pl.pos (by rw [hsz]; omega) ?_)
      have e : Int.tdiv (n : Int) 10 = ((n / 10 : Nat) : Int) := (Int.ofNat_tdiv n 10).symm
      rw [e, Pl.w64 (by omega) (by omega)]
      exact ht
theorem markText (n : Nat) (h1 : 1 ≤ n) (hn : n ≤ 1099511627776) : ∃ t, Ev (fun k => laws_markText.f k (n : Int)) t := by
  obtain ⟨t, ht⟩ := markText_l 13 n ⟨#[]⟩ (by omega) hn (by decide)
  refine ⟨t, ?_⟩
  unfold laws_markText.f
  exact Pl.neg (by omega) ht

theorem markStringS_l (n : Nat) (hn : n ≤ 1073741824) (d : Nat) : ∀ (i : Nat) (x : List ByteArray), n - i = d → i ≤ n → x.length = n → (∀ j, j < i → ∃ t, x[j]? = some t ∧ Ev (fun k => laws_markText.f k (1 + (j : Int))) t) →
    ∃ l', l'.length = n ∧ (∀ j, j < n → ∃ t, l'[j]? = some t ∧ Ev (fun k => laws_markText.f k (1 + (j : Int))) t) ∧ Ev (fun k => laws_markStringS.l0 k x (1 + (i : Int)) (i : Int)) (1 + (n : Int), l') := by
  induction d with
  | zero =>
    intro i x hd hi hx he
    refine ⟨x, hx, fun j hj => he j (by omega), ?_⟩
    refine Pl.succ ?_
    simp only [laws_markStringS.l0]
    obtain rfl : i = n := by omega
    exact Pl.neg (by omega) (Pl.ret rfl)
  | succ d ih =>
    intro i x hd hi hx he
    obtain ⟨t, ht⟩ := markText (1 + i) (by omega) (by omega)
    have e1 : ((1 + i : Nat) : Int) = 1 + (i : Int) := by omega
    rw [e1] at ht
    obtain ⟨l', h1, h2, h3⟩ := ih (i + 1) (x.set i t) (by omega) (by omega) (by simpa using hx) (by
      intro j hj
      rw [List.getElem?_set]
      by_cases e : i = j
      · subst e
        exact ⟨t, by rw [if_pos rfl, if_pos (by omega)], ht⟩
      · rw [if_neg e]
        exact he j (by omega))
    refine ⟨l', h1, h2, ?_⟩
    refine Pl.succ ?_
    simp only [laws_markStringS.l0]
    refine Pl.pos (by omega) (Ev.bind ht (Pl.pos (by omega) ?_))
    rw [Pl.w64 (by omega) (by omega), Pl.w64 (by omega) (by omega), Int.toNat_natCast]
    have e : (1 + (i : Int) + 1) = 1 + ((i + 1 : Nat) : Int) := by omega
    rw [e]
    exact h3
theorem marksO (l : List ByteArray) (hn : l.length ≤ 1073741824) : ∃ l', Ev (fun k => laws_markStringS.f k l 1) (1 + (l.length : Int), l') := by
  obtain ⟨l', h1, h2, h3⟩ := markStringS_l l.length hn l.length 0 l (by omega) (by omega) rfl (fun j hj => absurd hj (Nat.not_lt_zero _))
  exact ⟨l', h3⟩

end Go.Proofs.YtgokegndboknfaaDoor.X
namespace Go.Proofs.YtgokegndboknfaaDoor.X
open Go.RowKit Go.Proofs.YtgokegndboknfaaDoorW.PrintWords Go.Proofs.YtgokegndboknfaaDoorW.PrintLast Go.Proofs.YtgokegndboknfaaDoorW.PrintMore Go.Proofs.YtgokegndboknfaaDoor

theorem heldStringS_l (n : Nat) (hn : n ≤ 1073741824) (l' : List ByteArray) (h1 : l'.length = n) (h2 : ∀ j, j < n → ∃ t, l'[j]? = some t ∧ Ev (fun k => laws_markText.f k (1 + (j : Int))) t) (d : Nat) : ∀ (i : Nat), n - i = d → i ≤ n →
    Ev (fun k => laws_heldStringS.l0 k l' (1 + (i : Int)) (i : Int)) (1 + (n : Int)) := by
  induction d with
  | zero =>
    intro i hd hi
    refine Pl.succ ?_
    simp only [laws_heldStringS.l0]
    obtain rfl : i = n := by omega
    exact Pl.neg (by omega) (Pl.ret rfl)
  | succ d ih =>
    intro i hd hi
    obtain ⟨t, hti, ht⟩ := h2 i (by omega)
    refine Pl.succ ?_
    simp only [laws_heldStringS.l0]
    have hr : rdOf ByteArray.empty l' (i : Int) = t := by
      rw [List.getElem?_eq_getElem (by omega)] at hti
      rw [Pl.rdS_nat _ _ (by omega)]
      exact Option.some.inj hti
    refine Pl.pos (by omega) (Pl.pos (by omega) (Ev.bind ht (Pl.pos (by rw [hr]) ?_)))
    rw [Pl.w64 (by omega) (by omega), Pl.w64 (by omega) (by omega)]
    have e : (1 + (i : Int) + 1) = 1 + ((i + 1 : Nat) : Int) := by omega
    rw [e]
    exact ih (i + 1) (by omega) (by omega)
/-- Marked, and held: the marks stand. -/
theorem marksS (l : List ByteArray) (hn : l.length ≤ 1073741824) : ∃ l', Ev (fun k => laws_markStringS.f k l 1) (1 + (l.length : Int), l') ∧ Ev (fun k => laws_heldStringS.f k l' 1) (1 + (l.length : Int)) := by
  obtain ⟨l', h1, h2, h3⟩ := markStringS_l l.length hn l.length 0 l (by omega) (by omega) rfl (fun j hj => absurd hj (Nat.not_lt_zero _))
  exact ⟨l', h3, heldStringS_l l.length hn l' h1 h2 l.length 0 (by omega) (by omega)⟩

end Go.Proofs.YtgokegndboknfaaDoor.X
namespace Go.Proofs.YtgokegndboknfaaDoor.Pure
open Go.RowKit Go.Proofs.YtgokegndboknfaaDoor.X Go.Proofs.YtgokegndboknfaaDoorW.PrintWords Go.Proofs.YtgokegndboknfaaDoorW.PrintLast Go.Proofs.YtgokegndboknfaaDoor

theorem FnExactShrinkPrefix (l : List ByteArray) (hb : l.length * 16 ≤ 140737488351232) (hs : ∀ s ∈ l, s.size ≤ maxLen) : ∃ k, laws_FnExactShrinkPrefix.f k l = some true := by
  refine Ev.rounds ?_
  unfold laws_FnExactShrinkPrefix.f
  obtain ⟨r, hr, hq⟩ := szStringS l hb hs 1048576 (by omega) (by omega)
  refine Ev.bind hr ?_
  by_cases hc : r < 0
  · exact Pl.pos hc (Pl.ret rfl)
  obtain ⟨_, hl, _⟩ := hq (by omega)
  obtain ⟨⟨g, b⟩, hlen, h1, h2⟩ := shrink_both l hl
  simp only at hlen
  obtain ⟨mg, hm1, hm2⟩ := marksS g (by omega)
  obtain ⟨ms, hs1, hs2⟩ := marksS l (by omega)
  refine Pl.neg hc (Ev.bind (toStringS l hl) (Ev.bind h1 (Ev.bind (toStringS l hl) (Ev.bind h2 (Ev.bind (eqStringS g (by omega)) (Pl.pos rfl (Pl.succ ?_)))))))
  simp only [laws_FnExactShrinkPrefix.j0]
  refine Pl.neg (by simp) (Ev.bind (toStringS l hl) (Ev.bind (eqStringS l (by omega)) (Pl.pos rfl (Ev.bind hs1 (Pl.neg (by show ¬ (1 + (l.length : Int)) < 0; omega) (Ev.bind (eqStringS g (by omega)) (Pl.pos rfl (Pl.succ ?_))))))))
  simp only [laws_FnExactShrinkPrefix.j1]
  refine Pl.neg (by simp) (Ev.bind hm1 (Ev.bind hm2 (Pl.neg (by omega) (Pl.pos rfl (Ev.bind (toStringS l hl) (Ev.bind h2 (Ev.bind (eqStringS g (by omega)) (Pl.pos rfl (Pl.succ ?_)))))))))
  simp only [laws_FnExactShrinkPrefix.j2]
  exact Pl.neg (by simp) (Ev.bind hm2 (Pl.neg (by omega) (Pl.pos rfl (Pl.ret rfl))))

end Go.Proofs.YtgokegndboknfaaDoor.Pure

/- TwoReadings: the program's answer is the reference's, for all arguments; no condition. (All that the proof needs of plain lists stands ahead.) -/
import Derived.Test.YtgokegndboknfaaDoorPl
import Derived.Lib.Bytealg
import Derived.Lib.SlicesS
import Derived.Test.YtgokegndboknfaaDoorXx0
import Derived.Test.YtgokegndboknfaaDoorXx1
import Derived.Test.YtgokegndboknfaaDoorXx2
import Derived.Test.YtgokegndboknfaaDoorXx3
import Derived.Test.YtgokegndboknfaaDoorXx4
import Derived.Test.YtgokegndboknfaaDoorXx5
import Derived.Test.YtgokegndboknfaaDoorXx7
import Derived.Test.YtgokegndboknfaaDoorXx8
import Derived.Test.YtgokegndboknfaaDoorXx9
import Derived.Test.YtgokegndboknfaaDoorXx10
import Derived.Test.YtgokegndboknfaaDoorXx11
import Derived.Test.YtgokegndboknfaaDoorXx12
import Derived.Test.YtgokegndboknfaaDoorXx13
import Derived.Test.YtgokegndboknfaaDoorXx14
import Derived.Test.YtgokegndboknfaaDoorXx15
namespace Go.Proofs.YtgokegndboknfaaDoor.X
open Go.RowKit Go.Proofs.YtgokegndboknfaaDoorW.PrintWords Go.Proofs.YtgokegndboknfaaDoorW.PrintLast Go.Proofs.YtgokegndboknfaaDoorW.PrintMore Go.Proofs.YtgokegndboknfaaDoor

/-- A text's bytes. -/
abbrev bts (s : ByteArray) : List UInt8 := s.data.toList
theorem bts_len (s : ByteArray) : (bts s).length = s.size := by rw [bts, Array.length_toList]; rfl
theorem bt_nat (s : ByteArray) (i : Nat) (h : i < s.size) : bt s (i : Int) = (((bts s)[i]'(by rw [bts_len]; exact h)).toNat : Int) := by
  unfold bt
  rw [dif_pos (by simpa using h)]
  simp only [Int.toNat_natCast, bts, Array.getElem_toList]
  rfl
theorem isL_iff (b : UInt8) : isL b = true ↔ 97 ≤ b.toNat ∧ b.toNat ≤ 99 := by
  simp only [isL, Bool.or_eq_true, beq_iff_eq, ← UInt8.toNat_inj]
  show ((b.toNat = 97 ∨ b.toNat = 98) ∨ b.toNat = 99) ↔ _
  omega
theorem drop_cons' {α : Type} (l : List α) (i : Nat) (h : i < l.length) : l.drop i = l[i] :: l.drop (i + 1) := List.drop_eq_getElem_cons h
theorem wdIs_l (s : ByteArray) (hs : s.size ≤ 4611686018427387904) (d : Nat) : ∀ i : Nat, s.size - i = d → i ≤ s.size → Ev (fun k => spec_wdIs.l0 k s (i : Int)) (((bts s).drop i).all isL) := by
  induction d with
  | zero =>
    intro i hd hi
    refine Pl.succ ?_
    simp only [spec_wdIs.l0]
    exact Pl.neg (by omega) (Pl.ret (by rw [List.drop_of_length_le (by rw [bts_len]; omega)]; rfl))
  | succ d ih =>
    intro i hd hi
    have hl : i < (bts s).length := by rw [bts_len]; omega
    rw [drop_cons' _ i hl, List.all_cons]
    refine Pl.succ ?_
    simp only [spec_wdIs.l0]
    rw [bt_nat s i (by omega), Pl.w64 (by omega) (by omega)]
    have hb : ((bts s)[i]).toNat < 256 := UInt8.toNat_lt _
    have hL := isL_iff ((bts s)[i])
    refine Pl.pos (by omega) (Pl.pos (by omega) ?_)
    cases hq : isL ((bts s)[i]) with
    | true =>
      have := hL.1 hq
      exact Pl.neg (by omega) (Pl.neg (by omega) (ih (i + 1) (by omega) (by omega)))
    | false =>
      have hn : ¬ (97 ≤ ((bts s)[i]).toNat ∧ ((bts s)[i]).toNat ≤ 99) := fun h => by rw [hL.2 h] at hq; cases hq
      rw [Bool.false_and]
      by_cases h1 : (((bts s)[i]).toNat : Int) < 97
      · exact Pl.pos h1 (Pl.ret rfl)
      · exact Pl.neg h1 (Pl.pos (by omega) (Pl.ret rfl))
theorem wdIs (s : ByteArray) (hs : s.size ≤ 4611686018427387904) : Ev (fun k => spec_wdIs.f k s) ((bts s).all isL) := by
  unfold spec_wdIs.f
  exact wdIs_l s hs s.size 0 (by omega) (by omega)
/-- The text is a word. -/
def wgood (s : ByteArray) : Bool := decide (s.size ≤ 60) && (bts s).all isL
theorem isWord_eq (s : ByteArray) : impl_isWord.f s = some (wgood s) := rfl
theorem wgood_size {s : ByteArray} (h : wgood s = true) : s.size ≤ 60 := by
  simp only [wgood, Bool.and_eq_true, decide_eq_true_eq] at h
  exact h.1

end Go.Proofs.YtgokegndboknfaaDoor.X
namespace Go.Proofs.YtgokegndboknfaaDoor.X
open Go.RowKit Go.Proofs.YtgokegndboknfaaDoorW.PrintWords Go.Proofs.YtgokegndboknfaaDoorW.PrintLast Go.Proofs.YtgokegndboknfaaDoorW.PrintMore Go.Proofs.YtgokegndboknfaaDoor

/-- One word comes before another one. -/
def wless (s t : ByteArray) : Bool := decide (s.size < t.size) || (decide (s.size = t.size) && Op.bytesLess (bts s) (bts t))
/-- The comparison as a number. -/
def cmpW (s t : ByteArray) : Int := if s.size < t.size then -1 else if t.size < s.size then 1 else Lib.compareBytes (bts s) (bts t)
theorem u8_lt_iff (a b : UInt8) : a < b ↔ a.toNat < b.toNat := UInt8.lt_iff_toNat_lt
theorem cmpB_neg : ∀ x y : List UInt8, decide (Lib.compareBytes x y < 0) = Op.bytesLess x y
  | [], [] => by simp [Lib.compareBytes, Op.bytesLess]
  | [], _ :: _ => by simp [Lib.compareBytes, Op.bytesLess]
  | _ :: _, [] => by simp [Lib.compareBytes, Op.bytesLess]
  | a :: x, b :: y => by
    have ih := cmpB_neg x y
    rw [Lib.compareBytes, Op.bytesLess]
    by_cases h1 : a < b
    · simp [h1]
    · by_cases h2 : b < a
      · have h3 : ¬ a = b := by
          rintro rfl
          rw [u8_lt_iff] at h2
          omega
        simp [h1, h2, h3]
      · have h3 : a = b := by
          rw [u8_lt_iff] at h1 h2
          exact UInt8.toNat_inj.1 (by omega)
        subst h3
        simp only [h1, if_false, ih, beq_self_eq_true, Bool.true_and, decide_false, Bool.false_or]
theorem cmpW_neg (s t : ByteArray) : decide (cmpW s t < 0) = wless s t := by
  unfold cmpW wless
  by_cases h1 : s.size < t.size
  · simp [h1]
  · by_cases h2 : t.size < s.size
    · have : ¬ s.size = t.size := by omega
      simp [h1, h2, this]
    · have : s.size = t.size := by omega
      rw [if_neg h1, if_neg h2, cmpB_neg, decide_eq_false h1, decide_eq_true this]
      rfl
theorem wdLess_eq (s t : ByteArray) : spec_wdLess.f s t = some (wless s t) := by
  unfold spec_wdLess.f wless
  by_cases h1 : s.size < t.size
  · rw [if_pos (by omega), decide_eq_true h1]; rfl
  · rw [if_neg (by omega), decide_eq_false h1]
    by_cases h2 : s.size = t.size
    · rw [if_pos (by omega), decide_eq_true h2, Pl.toL, Pl.toL]; rfl
    · rw [if_neg (by omega), decide_eq_false h2]; rfl
theorem cmpInt_eq (a b : Int) : cmp_Compare_int.f a b = some (if a < b then -1 else if a > b then 1 else 0) := by
  unfold cmp_Compare_int.f cmp_isNaN_int.f
  by_cases h1 : a < b
  · simp [h1]
  · by_cases h2 : a > b
    · simp [h1, h2]
    · simp [h1, h2]
theorem cmpOr (a b : Int) : Ev (fun k => cmp_Or_int.f k [a, b]) (if a = 0 then b else a) := by
  have r0 : rd [a, b] (0 : Int) = a := rfl
  have r1 : rd [a, b] (1 : Int) = b := rfl
  unfold cmp_Or_int.f
  refine Pl.succ ?_
  simp only [cmp_Or_int.l0, List.length_cons, List.length_nil, r0]
  refine Pl.pos (by omega) (Pl.pos (by omega) (Pl.pos (by omega) ?_))
  by_cases h : a = 0
  · rw [if_pos h]
    refine Pl.pos h (Pl.succ ?_)
    rw [Pl.w64 (by omega) (by omega)]
    simp only [cmp_Or_int.l0, Int.zero_add, r1, List.length_cons, List.length_nil]
    refine Pl.pos (by omega) (Pl.pos (by omega) (Pl.pos (by omega) ?_))
    by_cases h2 : b = 0
    · refine Pl.pos h2 (Pl.succ ?_)
      rw [Pl.w64 (by omega) (by omega)]
      simp only [cmp_Or_int.l0]
      exact Pl.neg (by omega) (Pl.ret h2.symm)
    · exact Pl.neg h2 (Pl.ret rfl)
  · rw [if_neg h]
    exact Pl.neg h (Pl.ret rfl)
theorem compareWords (s t : ByteArray) : Ev (fun k => impl_compareWords.f k s t) (cmpW s t) := by
  unfold impl_compareWords.f cmpW
  simp only [cmpInt_eq, strings_Compare.f, Option.bind_some]
  refine Ev.bind (cmpOr _ _) (Pl.ret ?_)
  by_cases h1 : s.size < t.size
  · have e1 : (s.size : Int) < t.size := by omega
    simp [h1, e1]
  · have e1 : ¬ (s.size : Int) < t.size := by omega
    by_cases h2 : t.size < s.size
    · have e2 : (t.size : Int) < s.size := by omega
      simp [h1, e1, h2, e2]
    · have e2 : ¬ (t.size : Int) < s.size := by omega
      simp [h1, e1, h2, e2]

end Go.Proofs.YtgokegndboknfaaDoor.X
namespace Go.Proofs.YtgokegndboknfaaDoor.X
open Go.RowKit Go.Proofs.YtgokegndboknfaaDoorW.PrintWords Go.Proofs.YtgokegndboknfaaDoorW.PrintLast Go.Proofs.YtgokegndboknfaaDoorW.PrintMore Go.Proofs.YtgokegndboknfaaDoor

theorem l1In_eq' (a b c : Int) : spec_l1In.f a b c = some (decide (b ≤ a ∧ a ≤ c)) := by
  unfold spec_l1In.f
  by_cases h : b ≤ a
  · rw [if_pos h]; simp [h]
  · rw [if_neg h]; simp [h]
theorem in_eq' (a b c : Int) : impl_in.f a b c = some (decide (b ≤ a ∧ a ≤ c)) := by
  unfold impl_in.f
  by_cases h : b ≤ a
  · rw [if_pos h]; simp [h]
  · rw [if_neg h]; simp [h]
/-- The text may be in a set. -/
def wshort (s : ByteArray) : Bool := decide (1 ≤ s.size ∧ s.size ≤ 8) && (bts s).all isL
theorem wdShort (s : ByteArray) : Ev (fun k => spec_wdShort.f k s) (wshort s) := by
  unfold spec_wdShort.f wshort
  simp only [l1In_eq', Option.bind_some]
  by_cases h : 1 ≤ s.size ∧ s.size ≤ 8
  · rw [decide_eq_true h, Bool.true_and]
    exact Pl.pos (decide_eq_true (by omega)) (Ev.bind (wdIs s (by omega)) (Pl.ret rfl))
  · rw [decide_eq_false h, Bool.false_and]
    exact Pl.neg (by rw [decide_eq_false (by omega)]; decide) (Pl.ret rfl)
theorem isShort_eq (s : ByteArray) : impl_isShort.f s = some (wshort s) := by
  unfold impl_isShort.f wshort
  rw [isWord_eq]
  simp only [in_eq', Option.bind_some]
  unfold wgood
  cases h1 : (bts s).all isL
  · simp
  · by_cases h : 1 ≤ s.size ∧ s.size ≤ 8
    · rw [decide_eq_true h, decide_eq_true (show s.size ≤ 60 by omega)]
      rw [if_pos (by rfl), decide_eq_true (by omega)]; rfl
    · rw [decide_eq_false h]
      by_cases h60 : s.size ≤ 60
      · rw [decide_eq_true h60, if_pos (by rfl), decide_eq_false (by omega)]; rfl
      · rw [decide_eq_false h60, if_neg (by decide)]; rfl
/-- The list is a set. -/
def wset (l : List ByteArray) : Prop := l.length ≤ 12 ∧ (∀ i (h : i < l.length), wshort l[i] = true) ∧ ∀ i (h : i + 1 < l.length), wless l[i] l[i + 1] = true
noncomputable instance (l : List ByteArray) : Decidable (wset l) := Classical.propDecidable _
theorem wdSet_l (l : List ByteArray) (hl : l.length ≤ 12) (d : Nat) : ∀ i, l.length - i = d → i ≤ l.length → (∀ j (h : j < l.length), j < i → wshort l[j] = true) → (∀ j (h : j + 1 < l.length), j + 1 < i → wless l[j] l[j + 1] = true) →
    Ev (fun k => spec_wdSet.l0 k l l (l.length : Int) (i : Int)) (decide (wset l)) := by
  induction d with
  | zero =>
    intro i hd hi h1 h2
    refine Pl.succ ?_
    simp only [spec_wdSet.l0]
    exact Pl.neg (by omega) (Pl.ret (decide_eq_true ⟨hl, fun j h => h1 j h (by omega), fun j h => h2 j h (by omega)⟩).symm)
  | succ d ih =>
    intro i hd hi h1 h2
    have hil : i < l.length := by omega
    refine Pl.succ ?_
    simp only [spec_wdSet.l0, wdLess_eq, Option.bind_some]
    rw [Pl.rdS_nat _ i hil]
    refine Pl.pos (by omega) (Pl.pos (by omega) (Pl.pos (by omega) (Ev.bind (wdShort l[i]) ?_)))
    cases hs : wshort l[i] with
    | false => exact Pl.neg (by decide) (Pl.ret (decide_eq_false (fun h => by rw [h.2.1 i hil] at hs; cases hs)).symm)
    | true =>
      refine Pl.pos rfl ?_
      rw [Pl.w64 (n := (i : Int) + 1) (by omega) (by omega)]
      have hnext : (∀ j (h : j < l.length), j < i + 1 → wshort l[j] = true) := fun j h hj => by
        by_cases e : j = i
        · subst e; exact hs
        · exact h1 j h (by omega)
      cases i with
      | zero =>
        exact Pl.neg (by omega) (ih 1 (by omega) (by omega) hnext (fun j h hj => by omega))
      | succ m =>
        rw [Pl.w64 (n := ((m + 1 : Nat) : Int) - 1) (by omega) (by omega), show ((m + 1 : Nat) : Int) - 1 = (m : Int) by omega, Pl.rdS_nat _ m (by omega)]
        refine Pl.pos (by omega) (Pl.pos (by omega) (Pl.pos (by omega) ?_))
        cases hw : wless l[m] l[m + 1] with
        | false => exact Pl.neg (by decide) (Pl.ret (decide_eq_false (fun h => by rw [h.2.2 m hil] at hw; cases hw)).symm)
        | true =>
          refine Pl.pos rfl (ih (m + 1 + 1) (by omega) (by omega) hnext (fun j h hj => ?_))
          by_cases e : j = m
          · subst e; exact hw
          · exact h2 j h (by omega)
theorem wdSet (l : List ByteArray) : Ev (fun k => spec_wdSet.f k l) (decide (wset l)) := by
  unfold spec_wdSet.f
  by_cases h : l.length ≤ 12
  · exact Pl.neg (by omega) (wdSet_l l h l.length 0 (by omega) (by omega) (fun j _ hj => absurd hj (Nat.not_lt_zero _)) (fun j _ hj => absurd hj (Nat.not_lt_zero _)))
  · exact Pl.pos (by omega) (Pl.ret (decide_eq_false (fun hh => h hh.1)).symm)
theorem isSet_l (l : List ByteArray) (hl : l.length ≤ 4611686018427387904) (d : Nat) : ∀ i, l.length - i = d → i ≤ l.length → (∀ j (h : j < l.length), j < i → wshort l[j] = true) → (∀ j (h : j + 1 < l.length), j + 1 < i → wless l[j] l[j + 1] = true) →
    Ev (fun k => impl_isSet.l0 k l l (l.length : Int) (i : Int)) (decide (wset l)) := by
  induction d with
  | zero =>
    intro i hd hi h1 h2
    refine Pl.succ ?_
    simp only [impl_isSet.l0]
    refine Pl.neg (by omega) (Pl.ret ?_)
    by_cases h : l.length ≤ 12
    · rw [decide_eq_true (show (l.length : Int) ≤ 12 by omega)]
      exact (decide_eq_true ⟨h, fun j h => h1 j h (by omega), fun j h => h2 j h (by omega)⟩).symm
    · rw [decide_eq_false (show ¬ (l.length : Int) ≤ 12 by omega)]
      exact (decide_eq_false (fun hh => h hh.1)).symm
  | succ d ih =>
    intro i hd hi h1 h2
    have hil : i < l.length := by omega
    refine Pl.succ ?_
    simp only [impl_isSet.l0, isShort_eq, Option.bind_some]
    rw [Pl.rdS_nat _ i hil]
    refine Pl.pos (by omega) (Pl.pos (by omega) (Pl.pos (by omega) ?_))
    cases hs : wshort l[i] with
    | false => exact Pl.neg (by decide) (Pl.ret (decide_eq_false (fun h => by rw [h.2.1 i hil] at hs; cases hs)).symm)
    | true =>
      refine Pl.pos rfl ?_
      rw [Pl.w64 (n := (i : Int) + 1) (by omega) (by omega)]
      have hnext : (∀ j (h : j < l.length), j < i + 1 → wshort l[j] = true) := fun j h hj => by
        by_cases e : j = i
        · subst e; exact hs
        · exact h1 j h (by omega)
      cases i with
      | zero =>
        exact Pl.neg (by omega) (ih 1 (by omega) (by omega) hnext (fun j h hj => by omega))
      | succ m =>
        rw [Pl.w64 (n := ((m + 1 : Nat) : Int) - 1) (by omega) (by omega), show ((m + 1 : Nat) : Int) - 1 = (m : Int) by omega, Pl.rdS_nat _ m (by omega)]
        refine Pl.pos (by omega) (Pl.pos (by omega) (Pl.pos (by omega) (Ev.bind (compareWords _ _) ?_)))
        have hc := cmpW_neg l[m] l[m + 1]
        cases hw : wless l[m] l[m + 1] with
        | false =>
          rw [hw, decide_eq_false_iff_not] at hc
          exact Pl.pos (by omega) (Pl.ret (decide_eq_false (fun h => by rw [h.2.2 m hil] at hw; cases hw)).symm)
        | true =>
          rw [hw, decide_eq_true_eq] at hc
          refine Pl.neg (by omega) (ih (m + 1 + 1) (by omega) (by omega) hnext (fun j h hj => ?_))
          by_cases e : j = m
          · subst e; exact hw
          · exact h2 j h (by omega)
theorem isSet (l : List ByteArray) (hl : l.length ≤ 4611686018427387904) : Ev (fun k => impl_isSet.f k l) (decide (wset l)) := by
  unfold impl_isSet.f
  exact isSet_l l hl l.length 0 (by omega) (by omega) (fun j _ hj => absurd hj (Nat.not_lt_zero _)) (fun j _ hj => absurd hj (Nat.not_lt_zero _))

end Go.Proofs.YtgokegndboknfaaDoor.X
namespace Go.Proofs.YtgokegndboknfaaDoor.X
open Go.RowKit Go.Proofs.YtgokegndboknfaaDoorW.PrintWords Go.Proofs.YtgokegndboknfaaDoorW.PrintLast Go.Proofs.YtgokegndboknfaaDoorW.PrintMore Go.Proofs.YtgokegndboknfaaDoor

theorem bytesLess_irrefl : ∀ x : List UInt8, Op.bytesLess x x = false
  | [] => rfl
  | a :: x => by
    rw [Op.bytesLess, bytesLess_irrefl x]
    simp
theorem bytesLess_trans : ∀ x y z : List UInt8, Op.bytesLess x y = true → Op.bytesLess y z = true → Op.bytesLess x z = true
  | [], [], _, h, _ => by cases h
  | [], _ :: _, [], _, h => by cases h
  | [], _ :: _, _ :: _, _, _ => rfl
  | _ :: _, [], _, h, _ => by cases h
  | _ :: _, _ :: _, [], _, h => by cases h
  | a :: x, b :: y, c :: z, h1, h2 => by
    rw [Op.bytesLess] at h1 h2 ⊢
    simp only [Bool.or_eq_true, Bool.and_eq_true, decide_eq_true_eq, beq_iff_eq] at h1 h2 ⊢
    rcases h1 with h1 | ⟨rfl, h1⟩
    · rcases h2 with h2 | ⟨rfl, h2⟩
      · left
        rw [u8_lt_iff] at h1 h2 ⊢
        omega
      · exact .inl h1
    · rcases h2 with h2 | ⟨rfl, h2⟩
      · exact .inl h2
      · exact .inr ⟨rfl, bytesLess_trans x y z h1 h2⟩
theorem wless_irrefl (s : ByteArray) : wless s s = false := by
  unfold wless
  rw [bytesLess_irrefl]
  simp
theorem wless_trans {s t u : ByteArray} (h1 : wless s t = true) (h2 : wless t u = true) : wless s u = true := by
  unfold wless at *
  simp only [Bool.or_eq_true, Bool.and_eq_true, decide_eq_true_eq] at *
  rcases h1 with h1 | ⟨e1, h1⟩ <;> rcases h2 with h2 | ⟨e2, h2⟩
  · left; omega
  · left; omega
  · left; omega
  · right; exact ⟨by omega, bytesLess_trans _ _ _ h1 h2⟩
theorem wless_size {s t : ByteArray} (h : wless s t = true) : s.size ≤ t.size := by
  unfold wless at h
  simp only [Bool.or_eq_true, Bool.and_eq_true, decide_eq_true_eq] at h
  omega
theorem wset_less {l : List ByteArray} (h : wset l) (d : Nat) : ∀ i (hi : i + d + 1 < l.length), wless (l[i]'(by omega)) l[i + d + 1] = true := by
  induction d with
  | zero => intro i hi; exact h.2.2 i hi
  | succ d ih =>
    intro i hi
    exact wless_trans (ih i (by omega)) (h.2.2 (i + d + 1) hi)
theorem wset_lt {l : List ByteArray} (h : wset l) {i k : Nat} (hik : i < k) (hk : k < l.length) : wless (l[i]'(by omega)) l[k] = true := by
  have := wset_less h (k - i - 1) i (by omega)
  simpa only [show i + (k - i - 1) + 1 = k by omega] using this

end Go.Proofs.YtgokegndboknfaaDoor.X
namespace Go.Proofs.YtgokegndboknfaaDoor.X
open Go.RowKit Go.Proofs.YtgokegndboknfaaDoorW.PrintWords Go.Proofs.YtgokegndboknfaaDoorW.PrintLast Go.Proofs.YtgokegndboknfaaDoorW.PrintMore Go.Proofs.YtgokegndboknfaaDoor

theorem wdHas_l (l : List ByteArray) (w : ByteArray) (hl : l.length ≤ 1048576) (d : Nat) : ∀ i : Nat, i + d = l.length → Ev (fun k => spec_wdHas.l0 k w l (l.length : Int) (i : Int)) (Lib.containsS (l.drop i) w) := by
  induction d with
  | zero =>
    intro i hd
    refine Pl.succ ?_
    simp only [spec_wdHas.l0]
    rw [List.drop_of_length_le (by omega)]
    exact Pl.neg (by omega) (Pl.ret (by
      cases hq : Lib.containsS ([] : List ByteArray) w with
      | false => rfl
      | true => exact absurd ((Lib.containsS_iff _ _).1 hq) (by simp)))
  | succ d ih =>
    intro i hd
    have hil : i < l.length := by omega
    refine Pl.succ ?_
    simp only [spec_wdHas.l0]
    rw [Pl.rdS_nat _ i hil, Pl.w64 (n := (i : Int) + 1) (by omega) (by omega), List.drop_eq_getElem_cons hil]
    refine Pl.pos (by omega) (Pl.pos (by omega) (Pl.pos (by omega) ?_))
    by_cases h : w.toList = l[i].toList
    · exact Pl.pos h (Pl.ret ((Lib.containsS_iff _ _).2 (Pl.ba_ext h ▸ List.mem_cons_self)).symm)
    · refine Pl.neg h (Pl.via (ih (i + 1) (by omega)) ?_)
      have hne : w ≠ l[i] := fun e => h (by rw [e])
      exact Bool.eq_iff_iff.2 ((Lib.containsS_iff _ _).trans (Iff.trans ⟨List.mem_cons_of_mem _, fun q => (List.mem_cons.1 q).resolve_left hne⟩ (Lib.containsS_iff _ _).symm))
theorem wdHas (l : List ByteArray) (w : ByteArray) (hl : l.length ≤ 1048576) : Ev (fun k => spec_wdHas.f k l w) (Lib.containsS l w) :=
  Pl.via (wdHas_l l w hl l.length 0 (by omega)) (by rw [List.drop_zero])

end Go.Proofs.YtgokegndboknfaaDoor.X
namespace Go.Proofs.YtgokegndboknfaaDoor.X
open Go.RowKit Go.Proofs.YtgokegndboknfaaDoorW.PrintWords Go.Proofs.YtgokegndboknfaaDoorW.PrintLast Go.Proofs.YtgokegndboknfaaDoorW.PrintMore Go.Proofs.YtgokegndboknfaaDoor


structure WOrd (lt : ByteArray → ByteArray → Bool) : Prop where
  irr : ∀ x, lt x x = false
  trans : ∀ {x y z}, lt x y = true → lt y z = true → lt x z = true
  tot : ∀ {x y}, lt x y = false → lt y x = false → x = y
  app : ∀ {x y} (r), lt x y = true → lt (x ++ r) (y ++ r) = true
  ext : ∀ (x) {r : ByteArray}, r.size ≠ 0 → lt x (x ++ r) = true
  size : ∀ {x y}, lt x y = true → x.size ≤ y.size
namespace WOrd
variable {lt : ByteArray → ByteArray → Bool} (O : WOrd lt)
include O
/-- x is no later than y. -/
theorem asymm {x y : ByteArray} (h : lt x y = true) : lt y x = false := by
  cases e : lt y x with
  | false => rfl
  | true => have := O.trans h e; rw [O.irr] at this; cases this
theorem le_trans {x y z : ByteArray} (h1 : lt y x = false) (h2 : lt z y = false) : lt z x = false := by
  cases e : lt z x with
  | false => rfl
  | true =>
    cases e2 : lt y z with
    | true => have := O.trans e2 e; rw [this] at h1; cases h1
    | false => have := O.tot h2 e2; subst this; rw [h1] at e; cases e
theorem le_app {x y : ByteArray} (r : ByteArray) (h : lt y x = false) : lt (y ++ r) (x ++ r) = false := by
  cases e : lt x y with
  | true => exact O.asymm (O.app r e)
  | false => rw [O.tot e h]; exact O.irr _
theorem le_ext (x r : ByteArray) (hr : r.size ≠ 0) : lt (x ++ r) x = false := O.asymm (O.ext x hr)
theorem le_size {x y : ByteArray} (h : lt y x = false) : x.size ≤ y.size := by
  cases e : lt x y with
  | true => exact O.size e
  | false => rw [O.tot e h]; exact Nat.le_refl _
end WOrd
/-- w is read so far in one way, and with o behind it in another one. -/
inductive Rch (set : List ByteArray) : ByteArray → ByteArray → Prop
  | init {s t r : ByteArray} (hs : s ∈ set) (ht : t ∈ set) (e : t = s ++ r) (hr : r.size ≠ 0) : Rch set t r
  | pop {w o t r : ByteArray} (h : Rch set w o) (ho : o.size ≠ 0) (ht : t ∈ set) (e : o = t ++ r) : Rch set w r
  | push {w o t r : ByteArray} (h : Rch set w o) (ho : o.size ≠ 0) (ht : t ∈ set) (e : t = o ++ r) (hr : r.size ≠ 0) : Rch set (w ++ r) r
/-- The next states of a state. -/
def Nxt (set : List ByteArray) (w o w' o' : ByteArray) : Prop := ∃ t ∈ set, (o = t ++ o' ∧ w' = w) ∨ (t = o ++ o' ∧ o'.size ≠ 0 ∧ w' = w ++ o')
theorem Rch.nxt {set : List ByteArray} {w o w' o' : ByteArray} (h : Rch set w o) (ho : o.size ≠ 0) (hn : Nxt set w o w' o') : Rch set w' o' := by
  obtain ⟨t, ht, ⟨e, rfl⟩ | ⟨e, hr, rfl⟩⟩ := hn
  · exact h.pop ho ht e
  · exact h.push ho ht e hr
/-- The first word with two readings. -/
def Least (set : List ByteArray) (lt : ByteArray → ByteArray → Bool) (m : ByteArray) : Prop := (∃ o : ByteArray, o.size = 0 ∧ Rch set m o) ∧ ∀ w o : ByteArray, o.size = 0 → Rch set w o → lt w m = false
/-- What holds at each state that is reached, by what holds at the beginnings and is handed on. -/
theorem Rch.all {set : List ByteArray} {lt : ByteArray → ByteArray → Bool} (O : WOrd lt) (D : List (ByteArray × ByteArray)) (G : ByteArray → Prop) (hG : ∀ {x y}, G x → lt y x = false → G y)
    (h0 : ∀ s ∈ set, ∀ t ∈ set, ∀ r : ByteArray, t = s ++ r → r.size ≠ 0 → (∃ d, (d, r) ∈ D ∧ lt t d = false) ∨ G t)
    (hs : ∀ d o, (d, o) ∈ D → ∀ w' o', Nxt set d o w' o' → (o'.size ≠ 0 → (∃ d', (d', o') ∈ D ∧ lt w' d' = false) ∨ G w') ∧ (o'.size = 0 → G w'))
    {w o : ByteArray} (h : Rch set w o) : (o.size ≠ 0 → (∃ d, (d, o) ∈ D ∧ lt w d = false) ∨ G w) ∧ (o.size = 0 → G w) := by
  induction h with
  | init hs' ht e hr => exact ⟨fun _ => h0 _ hs' _ ht _ e hr, fun h => absurd h hr⟩
  | @pop w o t r h ho ht e ih =>
    rcases ih.1 ho with ⟨d, hd, hle⟩ | g
    · obtain ⟨a, b⟩ := hs d o hd d r ⟨t, ht, .inl ⟨e, rfl⟩⟩
      refine ⟨fun hr => ?_, fun hr => hG (b hr) hle⟩
      rcases a hr with ⟨d', hd', hle'⟩ | g
      · exact .inl ⟨d', hd', O.le_trans hle' hle⟩
      · exact .inr (hG g hle)
    · exact ⟨fun _ => .inr g, fun _ => g⟩
  | @push w o t r h ho ht e hr ih =>
    rcases ih.1 ho with ⟨d, hd, hle⟩ | g
    · obtain ⟨a, b⟩ := hs d o hd (d ++ r) r ⟨t, ht, .inr ⟨e, hr, rfl⟩⟩
      refine ⟨fun hr => ?_, fun h => absurd h hr⟩
      rcases a hr with ⟨d', hd', hle'⟩ | g
      · exact .inl ⟨d', hd', O.le_trans hle' (O.le_app r hle)⟩
      · exact .inr (hG g (O.le_app r hle))
    · exact ⟨fun _ => .inr (hG g (O.le_ext w r hr)), fun h => absurd h hr⟩
/-! ### The order of words -/
theorem bytesLess_lt' : ∀ x y : List UInt8, Op.bytesLess x y = true ↔ x < y
  | [], [] => by simp [Op.bytesLess]
  | [], _ :: _ => by simp [Op.bytesLess]
  | _ :: _, [] => by simp [Op.bytesLess]
  | a :: x, b :: y => by
    rw [Op.bytesLess, List.cons_lt_cons_iff, ← bytesLess_lt' x y]
    simp
theorem wl_wless (s t : ByteArray) : wl s t = wless s t := by
  unfold wl ltOf
  rw [Bool.eq_iff_iff, decide_eq_true_eq, cfW_lt]
  unfold wless
  simp only [Bool.or_eq_true, Bool.and_eq_true, decide_eq_true_eq]
  rw [bytesLess_lt']
  exact Iff.rfl
theorem lt_app : ∀ (x y r : List UInt8), x.length = y.length → x < y → x ++ r < y ++ r
  | [], [], _, _, h => absurd h (by simp)
  | [], _ :: _, _, h, _ => by simp at h
  | _ :: _, [], _, h, _ => by simp at h
  | a :: x, b :: y, r, h, hl => by
    rw [List.cons_lt_cons_iff] at hl
    rw [List.cons_append, List.cons_append, List.cons_lt_cons_iff]
    rcases hl with hl | ⟨e, hl⟩
    · exact .inl hl
    · exact .inr ⟨e, lt_app x y r (by simpa using h) hl⟩
theorem bts_app (s t : ByteArray) : bts (s ++ t) = bts s ++ bts t := by
  unfold bts; simp
theorem wlO : WOrd wl where
  irr := wl_irr
  trans := wl_trans
  tot := wl_tot
  app := by
    intro x y r h
    unfold wl ltOf at *
    rw [decide_eq_true_eq, cfW_lt] at *
    have hx : (x ++ r).data.toList = x.data.toList ++ r.data.toList := bts_app x r
    have hy : (y ++ r).data.toList = y.data.toList ++ r.data.toList := bts_app y r
    rw [hx, hy, List.length_append, List.length_append]
    rcases h with h | ⟨e, h⟩
    · exact .inl (by omega)
    · exact .inr ⟨by omega, lt_app _ _ _ e h⟩
  ext := by
    intro x r hr
    rw [wl_wless]
    unfold wless
    have : x.size < (x ++ r).size := by rw [ByteArray.size_append]; omega
    rw [decide_eq_true this]; rfl
  size := by intro x y h; rw [wl_wless] at h; exact wless_size h
/-! ### A word's beginning -/
def bgD (s t : ByteArray) : Bool := decide (t.size ≤ s.size) && ((s.extract 0 t.size).toList == t.toList)
theorem wdBegins_d (s t : ByteArray) : spec_wdBegins.f s t = some (bgD s t) := by
  unfold spec_wdBegins.f bgD
  by_cases h : t.size ≤ s.size
  · rw [if_pos (by omega), if_pos (by omega), decide_eq_true h]; rfl
  · rw [if_neg (by omega), decide_eq_false h]; rfl
theorem cutPrefix_d (s t : ByteArray) : strings_CutPrefix.f s t = some (if bgD s t = true then (s.extract t.size s.size, true) else (s, false)) := by
  unfold strings_CutPrefix.f stringslite_CutPrefix.f stringslite_HasPrefix.f bgD
  by_cases h : t.size ≤ s.size
  · rw [if_pos (by omega), if_pos (by omega), if_pos (by omega), decide_eq_true h, Bool.true_and, Int.toNat_natCast, Option.bind_some]
    cases hq : (s.extract 0 t.size).toList == t.toList with
    | true => rw [if_pos rfl, if_pos (by omega), if_pos (by omega), if_pos rfl]; rfl
    | false => rfl
  · rw [if_neg (by omega), decide_eq_false h]; rfl
theorem bts_ext (s : ByteArray) (a b : Nat) : bts (s.extract a b) = ((bts s).drop a).take (b - a) := by
  unfold bts; rw [ByteArray.data_extract, Array.toList_extract, List.extract]
theorem bts_inj {a b : ByteArray} (h : bts a = bts b) : a = b := ba_ext0 h
theorem bgD_iff (s t : ByteArray) : bgD s t = true ↔ bts t <+: bts s := by
  unfold bgD
  simp only [Bool.and_eq_true, decide_eq_true_eq, beq_iff_eq]
  rw [ba_toL, ba_toL]
  show _ ∧ bts (s.extract 0 t.size) = bts t ↔ _
  rw [bts_ext, List.drop_zero, Nat.sub_zero]
  have hs := bts_len s
  have ht := bts_len t
  constructor
  · rintro ⟨_, h⟩
    rw [← h]; exact List.take_prefix _ _
  · intro h
    have := h.length_le
    refine ⟨by omega, ?_⟩
    rw [← ht]
    exact (List.prefix_iff_eq_take.1 h).symm
theorem bgD_app {s t : ByteArray} (h : bgD s t = true) : s = t ++ s.extract t.size s.size := by
  obtain ⟨r, hr⟩ := (bgD_iff s t).1 h
  apply bts_inj
  rw [bts_app, bts_ext, ← bts_len t, ← hr, List.drop_left, List.take_of_length_le]
  have := bts_len s
  rw [← this, ← hr]; simp
theorem app_bgD (t r : ByteArray) : bgD (t ++ r) t = true ∧ (t ++ r).extract t.size (t ++ r).size = r := by
  refine ⟨(bgD_iff _ _).2 (by rw [bts_app]; exact List.prefix_append _ _), bts_inj ?_⟩
  rw [bts_ext, bts_app, ← bts_len t, List.drop_left, List.take_of_length_le]
  rw [ByteArray.size_append, ← bts_len r, ← bts_len t]; omega
theorem ext_size' (s t : ByteArray) (h : t.size ≤ s.size) : (s.extract t.size s.size).size = s.size - t.size := by rw [ByteArray.size_extract]; omega
theorem size0 {s : ByteArray} (h : s.size = 0) : s = ⟨#[]⟩ := bts_inj (List.eq_nil_of_length_eq_zero (by rw [bts_len, h]))
theorem toL_nilD (s : ByteArray) : s.toList = [] ↔ s.size = 0 := by
  rw [ba_toL, ← List.length_eq_zero_iff]
  exact (by rw [show s.data.toList.length = s.size from bts_len s])
theorem toL_eq {a b : ByteArray} : a.toList = b.toList ↔ a = b := ⟨ba_eqL, fun h => by rw [h]⟩

end Go.Proofs.YtgokegndboknfaaDoor.X
namespace Go.Proofs.YtgokegndboknfaaDoor.X
open Go.RowKit Go.Proofs.YtgokegndboknfaaDoorW.PrintWords Go.Proofs.YtgokegndboknfaaDoorW.PrintLast Go.Proofs.YtgokegndboknfaaDoorW.PrintMore Go.Proofs.YtgokegndboknfaaDoor

theorem rd52 (l : List S52) (i : Nat) (h : i < l.length) : rd_T52 l (i : Int) = l[i] := by simp [rd_T52, List.getD_eq_getElem?_getD, h]
theorem wdLess_wl (s t : ByteArray) : spec_wdLess.f s t = some (wl s t) := by rw [wdLess_eq, wl_wless]
/-- What stands behind the beginning of a word. -/
def bhd (s t : ByteArray) : ByteArray := t.extract s.size t.size
theorem bgD_size {s t : ByteArray} (h : bgD s t = true) : t.size ≤ s.size := by
  unfold bgD at h
  simp only [Bool.and_eq_true, decide_eq_true_eq] at h
  exact h.1
/-- The pairs at the beginning: for one word. -/
def ini1 (s t : ByteArray) : List S52 := if s.size < t.size ∧ bgD t s = true then [⟨t, bhd s t⟩] else []
theorem ini_l1 (set : List ByteArray) (hl : set.length ≤ 12) (s : ByteArray) (x16 : List ByteArray) (x17 x18 : Int) (v : ByteArray) (d : Nat) : ∀ (i : Nat) (op : List S52), i + d = set.length → op.length + d ≤ 1000000 →
    Ev (fun k => spec_dcShortest.l0 k set (op ++ (set.drop i).flatMap (ini1 s)) x16 x17 (wrap64 (x18 + 1))) v → Ev (fun k => spec_dcShortest.l1 k set op s x16 x17 x18 set (set.length : Int) (i : Int)) v := by
  induction d with
  | zero =>
    intro i op hi hop h
    refine Pl.succ ?_
    simp only [spec_dcShortest.l1]
    rw [List.drop_of_length_le (by omega)] at h
    simp only [List.flatMap_nil, List.append_nil] at h
    exact Pl.neg (by omega) h
  | succ d ih =>
    intro i op hi hop h
    have hw : wrap64 ((i : Int) + 1) = ((i + 1 : Nat) : Int) := by rw [Pl.w64 (by omega) (by omega)]; omega
    refine Pl.succ ?_
    simp only [spec_dcShortest.l1, hw, Pl.rdS_nat set i (by omega), wdBegins_d, Option.bind_some]
    rw [drop_cons' set i (by omega), List.flatMap_cons, ← List.append_assoc] at h
    refine Pl.pos (by omega) (Pl.pos (by omega) (Pl.pos (by omega) ?_))
    by_cases hs : s.size < set[i].size
    · refine Pl.pos (by omega) ?_
      cases hb : bgD set[i] s with
      | true =>
        refine Pl.pos rfl (Pl.pos (by omega) (Pl.pos (by omega) (Pl.pos (by omega) ?_)))
        have e : ini1 s set[i] = [⟨set[i], set[i].extract ((s.size : Int) : Int).toNat set[i].size⟩] := by
          unfold ini1 bhd; rw [if_pos ⟨hs, hb⟩, Int.toNat_natCast]
        rw [e] at h
        exact ih (i + 1) _ (by omega) (by rw [List.length_append, List.length_singleton]; omega) h
      | false =>
        have e : ini1 s set[i] = [] := by unfold ini1; rw [if_neg (by rw [hb]; simp)]
        rw [e, List.append_nil] at h
        exact Pl.neg (by decide) (ih (i + 1) _ (by omega) (by omega) h)
    · have e : ini1 s set[i] = [] := by unfold ini1; rw [if_neg (fun q => hs q.1)]
      rw [e, List.append_nil] at h
      exact Pl.neg (by omega) (ih (i + 1) _ (by omega) (by omega) h)
theorem ini1_len (s t : ByteArray) : (ini1 s t).length ≤ 1 := by unfold ini1; split <;> simp
theorem ini_len (s : ByteArray) : ∀ l : List ByteArray, (l.flatMap (ini1 s)).length ≤ l.length
  | [] => by simp
  | t :: l => by
    have h1 := ini1_len s t
    have h2 := ini_len s l
    rw [List.flatMap_cons, List.length_append, List.length_cons]; omega
theorem ini_l0 (set : List ByteArray) (hl : set.length ≤ 12) (v : ByteArray) (d : Nat) : ∀ (i : Nat) (op : List S52), i + d = set.length → op.length + 12 * d ≤ 1000 →
    Ev (fun k => spec_dcShortest.l2 k set (op ++ (set.drop i).flatMap fun s => set.flatMap (ini1 s)) [] (⟨#[]⟩ : ByteArray)) v → Ev (fun k => spec_dcShortest.l0 k set op set (set.length : Int) (i : Int)) v := by
  induction d with
  | zero =>
    intro i op hi hop h
    refine Pl.succ ?_
    simp only [spec_dcShortest.l0]
    rw [List.drop_of_length_le (by omega)] at h
    simp only [List.flatMap_nil, List.append_nil] at h
    exact Pl.neg (by omega) h
  | succ d ih =>
    intro i op hi hop h
    have hw : wrap64 ((i : Int) + 1) = ((i + 1 : Nat) : Int) := by rw [Pl.w64 (by omega) (by omega)]; omega
    refine Pl.succ ?_
    simp only [spec_dcShortest.l0, Pl.rdS_nat set i (by omega)]
    rw [drop_cons' set i (by omega), List.flatMap_cons, ← List.append_assoc] at h
    refine Pl.pos (by omega) (Pl.pos (by omega) (Pl.pos (by omega) ?_))
    refine ini_l1 set hl set[i] set _ _ v set.length 0 op (by omega) (by omega) ?_
    rw [List.drop_zero, hw]
    have hq := ini_len set[i] set
    exact ih (i + 1) _ (by omega) (by rw [List.length_append]; omega) h
/-- What a pair that is taken gives, for one word of the set. -/
def nx1 (p : S52) (t : ByteArray) : List S52 :=
  if t = p.f1 then [] else if bgD p.f1 t = true then [⟨p.f0, bhd t p.f1⟩] else if bgD t p.f1 = true then [⟨p.f0 ++ bhd p.f1 t, bhd p.f1 t⟩] else []
def bst (p : S52) (best : ByteArray) : ByteArray := if best.size = 0 then p.f0 else if wl p.f0 best = true then p.f0 else best
def bst1 (p : S52) (t best : ByteArray) : ByteArray := if t = p.f1 then bst p best else best
theorem nx1_len (p : S52) (t : ByteArray) : (nx1 p t).length ≤ 1 := by unfold nx1; split <;> (try split) <;> (try split) <;> simp
theorem nx_len (p : S52) : ∀ l : List ByteArray, (l.flatMap (nx1 p)).length ≤ l.length
  | [] => by simp
  | t :: l => by
    have h1 := nx1_len p t
    have h2 := nx_len p l
    rw [List.flatMap_cons, List.length_append, List.length_cons]; omega
theorem nx_l4 (set : List ByteArray) (hl : set.length ≤ 12) (hz : ∀ s ∈ set, s.size ≤ 8) (p : S52) (hp : p.f0.size ≤ 100000) (done : List ByteArray) (v : ByteArray) (d : Nat) : ∀ (i : Nat) (op : List S52) (best : ByteArray), i + d = set.length → op.length + d ≤ 1000000 →
    Ev (fun k => spec_dcShortest.l2 k set (op ++ (set.drop i).flatMap (nx1 p)) done ((set.drop i).foldl (fun b t => bst1 p t b) best)) v → Ev (fun k => spec_dcShortest.l4 k set op done best set (set.length : Int) (i : Int) p.f0 p.f1) v := by
  induction d with
  | zero =>
    intro i op best hi hop h
    refine Pl.succ ?_
    simp only [spec_dcShortest.l4]
    rw [List.drop_of_length_le (by omega)] at h
    simp only [List.flatMap_nil, List.append_nil, List.foldl_nil] at h
    exact Pl.neg (by omega) h
  | succ d ih =>
    intro i op best hi hop h
    have hw : wrap64 ((i : Int) + 1) = ((i + 1 : Nat) : Int) := by rw [Pl.w64 (by omega) (by omega)]; omega
    refine Pl.succ ?_
    simp only [spec_dcShortest.l4, hw, Pl.rdS_nat set i (by omega), wdBegins_d, wdLess_wl, Option.bind_some]
    rw [drop_cons' set i (by omega), List.flatMap_cons, ← List.append_assoc, List.foldl_cons] at h
    have hti := hz set[i] (List.getElem_mem (by omega))
    generalize set[i] = t at h hti ⊢
    refine Pl.pos (by omega) (Pl.pos (by omega) (Pl.pos (by omega) ?_))
    by_cases ht : t = p.f1
    · have e : nx1 p t = [] := by unfold nx1; rw [if_pos ht]
      have e2 : bst1 p t best = bst p best := by unfold bst1; rw [if_pos ht]
      rw [e, e2, List.append_nil] at h
      refine Pl.pos (toL_eq.2 ht) ?_
      by_cases hb : best.size = 0
      · have e3 : bst p best = p.f0 := by unfold bst; rw [if_pos hb]
        rw [e3] at h
        exact Pl.pos ((toL_nilD _).2 hb) (ih (i + 1) _ _ (by omega) (by omega) h)
      · refine Pl.neg (fun q => hb ((toL_nilD _).1 q)) ?_
        cases hc : wl p.f0 best with
        | true =>
          have e3 : bst p best = p.f0 := by unfold bst; rw [if_neg hb, if_pos hc]
          rw [e3] at h
          exact Pl.pos rfl (ih (i + 1) _ _ (by omega) (by omega) h)
        | false =>
          have e3 : bst p best = best := by unfold bst; rw [if_neg hb, hc]; rfl
          rw [e3] at h
          exact Pl.neg (by decide) (ih (i + 1) _ _ (by omega) (by omega) h)
    · have e2 : bst1 p t best = best := by unfold bst1; rw [if_neg ht]
      rw [e2] at h
      refine Pl.neg (fun q => ht (toL_eq.1 q)) ?_
      cases hb : bgD p.f1 t with
      | true =>
        have hq := bgD_size hb
        have e : nx1 p t = [⟨p.f0, p.f1.extract ((t.size : Int) : Int).toNat p.f1.size⟩] := by unfold nx1 bhd; rw [if_neg ht, if_pos hb, Int.toNat_natCast]
        rw [e] at h
        exact Pl.pos rfl (Pl.pos (by omega) (Pl.pos (by omega) (Pl.pos (by omega) (ih (i + 1) _ _ (by omega) (by rw [List.length_append, List.length_singleton]; omega) h))))
      | false =>
        refine Pl.neg (by decide) ?_
        cases hc : bgD t p.f1 with
        | true =>
          have hq := bgD_size hc
          have e : nx1 p t = [⟨p.f0 ++ t.extract ((p.f1.size : Int) : Int).toNat t.size, t.extract ((p.f1.size : Int) : Int).toNat t.size⟩] := by
            unfold nx1 bhd; rw [if_neg ht, if_neg (by rw [hb]; decide), if_pos hc, Int.toNat_natCast]
          rw [e] at h
          have hsz := ext_size' t p.f1 hq
          refine Pl.pos rfl (Pl.pos (by omega) (Pl.pos (by omega) (Pl.pos ?_ (Pl.pos (by omega) (ih (i + 1) _ _ (by omega) (by rw [List.length_append, List.length_singleton]; omega) h)))))
          rw [Int.toNat_natCast, hsz]; omega
        | false =>
          have e : nx1 p t = [] := by unfold nx1; rw [if_neg ht, if_neg (by rw [hb]; decide), if_neg (by rw [hc]; decide)]
          rw [e, List.append_nil] at h
          exact Pl.neg (by decide) (ih (i + 1) _ _ (by omega) (by omega) h)

end Go.Proofs.YtgokegndboknfaaDoor.X
namespace Go.Proofs.YtgokegndboknfaaDoor.X
open Go.RowKit Go.Proofs.YtgokegndboknfaaDoorW.PrintWords Go.Proofs.YtgokegndboknfaaDoorW.PrintLast Go.Proofs.YtgokegndboknfaaDoorW.PrintMore Go.Proofs.YtgokegndboknfaaDoor

theorem containsS_iff' (l : List ByteArray) (w : ByteArray) : Lib.containsS l w = true ↔ w ∈ l := Lib.containsS_iff l w
theorem l3_step (k : Nat) (set : List ByteArray) (op : List S52) (done : List ByteArray) (best : ByteArray) (hop : op.length ≤ 1000000) (i kk : Nat) (hi : i < op.length) (hk : kk < op.length) :
    spec_dcShortest.l3 (k + 1) set op done best (kk : Int) op (op.length : Int) (i : Int) = if wl op[i].f0 op[kk].f0 = true then spec_dcShortest.l3 k set op done best (i : Int) op (op.length : Int) ((i + 1 : Nat) : Int) else spec_dcShortest.l3 k set op done best (kk : Int) op (op.length : Int) ((i + 1 : Nat) : Int) := by
  have hw : wrap64 ((i : Int) + 1) = ((i + 1 : Nat) : Int) := by rw [Pl.w64 (by omega) (by omega)]; omega
  rw [spec_dcShortest.l3, if_pos (by omega), if_pos (by omega), if_pos (by omega), if_pos (by omega), if_pos (by omega), rd52 op i hi, rd52 op kk hk, wdLess_wl, Option.bind_some, hw]
theorem sel_l3 (set : List ByteArray) (op : List S52) (done : List ByteArray) (best : ByteArray) (hop : op.length ≤ 1000000) (d : Nat) : ∀ (i kk : Nat) (hk : kk < op.length), i + d = op.length → (∀ j (hj : j < op.length), j < i → wl op[j].f0 op[kk].f0 = false) →
    ∃ (k2 : Nat) (h2 : k2 < op.length), (∀ j (hj : j < op.length), wl op[j].f0 op[k2].f0 = false) ∧ ∀ v, Ev (fun k => spec_dcShortest.l3 k set op done best (k2 : Int) op (op.length : Int) (op.length : Int)) v →
    Ev (fun k => spec_dcShortest.l3 k set op done best (kk : Int) op (op.length : Int) (i : Int)) v := by
  induction d with
  | zero =>
    intro i kk hk hi hm
    obtain rfl : i = op.length := by omega
    exact ⟨kk, hk, fun j hj => hm j hj hj, fun v h => h⟩
  | succ d ih =>
    intro i kk hk hi hm
    have hst := fun k => l3_step k set op done best hop i kk (by omega) hk
    cases hc : wl (op[i]'(by omega)).f0 op[kk].f0 with
    | true =>
      obtain ⟨k2, h2, h3, h4⟩ := ih (i + 1) i (by omega) (by omega) (fun j hj hji => by
        by_cases e : j = i
        · subst e; exact wl_irr _
        · have h1 := hm j hj (by omega)
          rw [Bool.eq_false_iff]
          intro q
          rw [wl_trans q hc] at h1; cases h1)
      refine ⟨k2, h2, h3, fun v h => Pl.succ ?_⟩
      simp only [hst]
      exact Pl.pos hc (h4 v h)
    | false =>
      obtain ⟨k2, h2, h3, h4⟩ := ih (i + 1) kk hk (by omega) (fun j hj hji => by
        by_cases e : j = i
        · subst e; exact hc
        · exact hm j hj (by omega))
      refine ⟨k2, h2, h3, fun v h => Pl.succ ?_⟩
      simp only [hst]
      exact Pl.neg (by rw [hc]; decide) (h4 v h)
/-- Behind the selection. -/
theorem end_l3 (set : List ByteArray) (op : List S52) (done : List ByteArray) (best : ByteArray) (hop : op.length ≤ 1000000) (hdn : done.length ≤ 1000000) (v : ByteArray) (kk : Nat) (hk : kk < op.length)
    (h1 : op[kk].f1 ∈ done → Ev (fun k => spec_dcShortest.l2 k set (op.take kk ++ op.drop (kk + 1)) done best) v)
    (h2 : op[kk].f1 ∉ done → best.size ≠ 0 → wl op[kk].f0 best = false → Ev (fun k => spec_dcShortest.l2 k set (op.take kk ++ op.drop (kk + 1)) done best) v)
    (h3 : op[kk].f1 ∉ done → (best.size = 0 ∨ wl op[kk].f0 best = true) → Ev (fun k => spec_dcShortest.l4 k set (op.take kk ++ op.drop (kk + 1)) (done ++ [op[kk].f1]) best set (set.length : Int) 0 op[kk].f0 op[kk].f1) v) :
    Ev (fun k => spec_dcShortest.l3 k set op done best (kk : Int) op (op.length : Int) (op.length : Int)) v := by
  have hw : wrap64 ((kk : Int) + 1) = ((kk + 1 : Nat) : Int) := by rw [Pl.w64 (by omega) (by omega)]; omega
  have hl : (op.take kk ++ op.drop (kk + 1)).length ≤ op.length := by rw [List.length_append, List.length_take, List.length_drop]; omega
  refine Pl.succ ?_
  simp only [spec_dcShortest.l3, hw, rd52 op kk hk, wdLess_wl, Option.bind_some, Int.toNat_natCast, List.nil_append]
  refine Pl.neg (by omega) (Pl.pos (by omega) (Pl.pos (by omega) (Pl.pos (by omega) (Pl.pos (by simp only [List.length_nil, List.length_take]; omega) (Pl.pos (by omega) (Pl.pos (by omega) (Pl.pos (by rw [List.length_append] at hl; omega) (Ev.bind (wdHas done op[kk].f1 (by omega)) ?_))))))))
  have hskip : ∀ b : Bool, b = true → (Ev (fun k => spec_dcShortest.l2 k set (op.take kk ++ op.drop (kk + 1)) done best) v) → Ev (fun k => spec_dcShortest.j4 k set (op.take kk ++ op.drop (kk + 1)) done best b op[kk].f0 op[kk].f1) v := fun b hb h => by
    refine Pl.succ ?_
    simp only [spec_dcShortest.j4]
    exact Pl.pos hb h
  have hgo : ∀ b : Bool, b = false → (Ev (fun k => spec_dcShortest.l4 k set (op.take kk ++ op.drop (kk + 1)) (done ++ [op[kk].f1]) best set (set.length : Int) 0 op[kk].f0 op[kk].f1) v) → Ev (fun k => spec_dcShortest.j4 k set (op.take kk ++ op.drop (kk + 1)) done best b op[kk].f0 op[kk].f1) v := fun b hb h => by
    refine Pl.succ ?_
    simp only [spec_dcShortest.j4]
    exact Pl.neg (by rw [hb]; decide) (Pl.pos (by omega) h)
  cases hc : Lib.containsS done op[kk].f1 with
  | true => exact Pl.pos rfl (hskip true rfl (h1 ((containsS_iff' _ _).1 hc)))
  | false =>
    have hn : op[kk].f1 ∉ done := fun q => by rw [(containsS_iff' _ _).2 q] at hc; cases hc
    refine Pl.neg (by decide) ?_
    by_cases hb : best.size = 0
    · exact Pl.pos ((toL_nilD _).2 hb) (hgo false rfl (h3 hn (.inl hb)))
    · refine Pl.neg (fun q => hb ((toL_nilD _).1 q)) ?_
      cases hq : wl op[kk].f0 best with
      | true => exact hgo (!true) rfl (h3 hn (.inr hq))
      | false => exact hskip (!false) rfl (h2 hn hb hq)
/-! ### The ends of the words of a set -/
def Suf (set : List ByteArray) (o : ByteArray) : Prop := ∃ s ∈ set, bts o <:+ bts s
def sufs (set : List ByteArray) : List ByteArray := set.flatMap fun s => (List.range 9).map fun i => s.extract i s.size
theorem sufs_len (set : List ByteArray) : (sufs set).length = 9 * set.length := by
  unfold sufs
  induction set with
  | nil => rfl
  | cons s l ih => rw [List.flatMap_cons, List.length_append, ih, List.length_map, List.length_range, List.length_cons]; omega
theorem suf_mem {set : List ByteArray} (hz : ∀ s ∈ set, s.size ≤ 8) {o : ByteArray} (h : Suf set o) : o ∈ sufs set := by
  obtain ⟨s, hs, r, hr⟩ := h
  refine List.mem_flatMap.2 ⟨s, hs, List.mem_map.2 ⟨r.length, List.mem_range.2 ?_, bts_inj ?_⟩⟩
  · have h1 := hz s hs
    rw [← bts_len s, ← hr, List.length_append] at h1; omega
  · rw [bts_ext, ← hr, List.drop_left, List.take_of_length_le]
    rw [← bts_len s, ← hr, List.length_append]; omega
theorem suf_behind {set : List ByteArray} {t r o : ByteArray} (h : Suf set o) (e : o = t ++ r) : Suf set r := by
  obtain ⟨s, hs, hq⟩ := h
  refine ⟨s, hs, List.IsSuffix.trans ?_ hq⟩
  rw [e, bts_app]; exact List.suffix_append _ _
theorem suf_word {set : List ByteArray} {t r s : ByteArray} (h : t ∈ set) (e : t = s ++ r) : Suf set r := ⟨t, h, by rw [e, bts_app]; exact List.suffix_append _ _⟩
theorem Rch.word {set : List ByteArray} {w o : ByteArray} (h : Rch set w o) : w.size ≠ 0 := by
  induction h with
  | init _ _ e hr => rw [e, ByteArray.size_append]; omega
  | pop _ _ _ _ ih => exact ih
  | push _ _ _ _ _ ih => rw [ByteArray.size_append]; omega
theorem bhd_app {s t : ByteArray} (h : bgD t s = true) : t = s ++ bhd s t := bgD_app h
theorem app_bhd (s r : ByteArray) : bgD (s ++ r) s = true ∧ bhd s (s ++ r) = r := app_bgD s r
theorem app_inj {t r : ByteArray} (h : t = t ++ r) : r.size = 0 := by
  have := congrArg ByteArray.size h
  rw [ByteArray.size_append] at this; omega

end Go.Proofs.YtgokegndboknfaaDoor.X
namespace Go.Proofs.YtgokegndboknfaaDoor.X
open Go.RowKit Go.Proofs.YtgokegndboknfaaDoorW.PrintWords Go.Proofs.YtgokegndboknfaaDoorW.PrintLast Go.Proofs.YtgokegndboknfaaDoorW.PrintMore Go.Proofs.YtgokegndboknfaaDoor

def Gb (best w : ByteArray) : Prop := best.size ≠ 0 ∧ wl w best = false
theorem Gb.up {best x y : ByteArray} (h : Gb best x) (hy : wl y x = false) : Gb best y := ⟨h.1, wlO.le_trans h.2 hy⟩
def Cov (op : List S52) (D : List (ByteArray × ByteArray)) (best w o : ByteArray) : Prop := (∃ p ∈ op, p.f1 = o ∧ wl w p.f0 = false) ∨ (∃ d, (d, o) ∈ D ∧ wl w d = false) ∨ Gb best w
structure SInv (set : List ByteArray) (op : List S52) (D : List (ByteArray × ByteArray)) (best : ByteArray) : Prop where
  s1 : ∀ p ∈ op, Rch set p.f0 p.f1 ∧ p.f1.size ≠ 0 ∧ Suf set p.f1 ∧ p.f0.size ≤ 8 * (D.length + 1)
  s2 : best.size ≠ 0 → Rch set best ⟨#[]⟩
  d1 : (D.map Prod.snd).Nodup ∧ ∀ q ∈ D, Suf set q.2
  m : ∀ q ∈ D, ∀ p ∈ op, wl p.f0 q.1 = false
  c0 : ∀ s ∈ set, ∀ t ∈ set, ∀ r : ByteArray, t = s ++ r → r.size ≠ 0 → Cov op D best t r
  c : ∀ d o, (d, o) ∈ D → ∀ w' o', Nxt set d o w' o' → (o'.size ≠ 0 → Cov op D best w' o') ∧ (o'.size = 0 → Gb best w')
def SPost (set : List ByteArray) (v : ByteArray) : Prop := (v.size = 0 ∧ ∀ w o : ByteArray, o.size = 0 → ¬ Rch set w o) ∨ (v.size ≠ 0 ∧ Least set wl v)
theorem SInv.post {set : List ByteArray} {D : List (ByteArray × ByteArray)} {best : ByteArray} (h : SInv set [] D best) : SPost set best := by
  have hcov : ∀ {w o}, Cov [] D best w o → (∃ d, (d, o) ∈ D ∧ wl w d = false) ∨ Gb best w := by
    rintro w o (⟨p, hp, _⟩ | h | h)
    · cases hp
    · exact .inl h
    · exact .inr h
  have hall : ∀ w o, o.size = 0 → Rch set w o → Gb best w := fun w o ho hr =>
    (Rch.all wlO D (Gb best) Gb.up (fun s hs t ht r e hr => hcov (h.c0 s hs t ht r e hr)) (fun d o hd w' o' hn => ⟨fun ho => hcov ((h.c d o hd w' o' hn).1 ho), (h.c d o hd w' o' hn).2⟩) hr).2 ho
  by_cases hb : best.size = 0
  · exact .inl ⟨hb, fun w o ho hr => (hall w o ho hr).1 hb⟩
  · exact .inr ⟨hb, ⟨⟨#[]⟩, rfl, h.s2 hb⟩, fun w o ho hr => (hall w o ho hr).2⟩
theorem bst_le (p : S52) (best : ByteArray) (hp : p.f0.size ≠ 0) : (bst p best).size ≠ 0 ∧ wl p.f0 (bst p best) = false ∧ (best.size ≠ 0 → wl best (bst p best) = false) ∧ (bst p best = p.f0 ∨ bst p best = best) := by
  unfold bst
  by_cases hb : best.size = 0
  · rw [if_pos hb]; exact ⟨hp, wl_irr _, fun h => absurd hb h, .inl rfl⟩
  · rw [if_neg hb]
    cases hc : wl p.f0 best with
    | true => rw [if_pos rfl]; exact ⟨hp, wl_irr _, fun _ => wl_asymm hc, .inl rfl⟩
    | false => exact ⟨hb, hc, fun _ => wl_irr _, .inr rfl⟩
/-- What the words of the set make of the best one. -/
theorem bst_fold (p : S52) (hp : p.f0.size ≠ 0) : ∀ (l : List ByteArray) (best : ByteArray), (best.size ≠ 0 → (l.foldl (fun b t => bst1 p t b) best).size ≠ 0 ∧ wl best (l.foldl (fun b t => bst1 p t b) best) = false) ∧ (p.f1 ∈ l → (l.foldl (fun b t => bst1 p t b) best).size ≠ 0 ∧ wl p.f0 (l.foldl (fun b t => bst1 p t b) best) = false) ∧
    (l.foldl (fun b t => bst1 p t b) best = best ∨ (p.f1 ∈ l ∧ l.foldl (fun b t => bst1 p t b) best = p.f0))
  | [], best => ⟨fun h => ⟨h, wl_irr _⟩, (fun h => by cases h), .inl rfl⟩
  | t :: l, best => by
    obtain ⟨h1, h2, h3⟩ := bst_fold p hp l (bst1 p t best)
    rw [List.foldl_cons]
    by_cases ht : t = p.f1
    · have e : bst1 p t best = bst p best := by unfold bst1; rw [if_pos ht]
      rw [e] at h1 h2 h3 ⊢
      obtain ⟨b1, b2, b3, b4⟩ := bst_le p best hp
      obtain ⟨c1, c2⟩ := h1 b1
      refine ⟨fun hb => ⟨c1, wlO.le_trans c2 (b3 hb)⟩, fun _ => ⟨c1, wlO.le_trans c2 b2⟩, ?_⟩
      have hm : p.f1 ∈ t :: l := ht ▸ List.mem_cons_self
      rcases h3 with h3 | ⟨_, h3⟩
      · rcases b4 with b4 | b4
        · exact .inr ⟨hm, h3.trans b4⟩
        · exact .inl (h3.trans b4)
      · exact .inr ⟨hm, h3⟩
    · have e : bst1 p t best = best := by unfold bst1; rw [if_neg ht]
      rw [e] at h1 h2 h3 ⊢
      refine ⟨h1, fun hm => h2 ((List.mem_cons.1 hm).resolve_left (fun q => ht q.symm)), ?_⟩
      rcases h3 with h3 | ⟨h4, h3⟩
      · exact .inl h3
      · exact .inr ⟨List.mem_cons_of_mem _ h4, h3⟩
theorem nx1_ok {set : List ByteArray} {p : S52} (hr : Rch set p.f0 p.f1) (ho : p.f1.size ≠ 0) (hs : Suf set p.f1) {t : ByteArray} (ht : t ∈ set) {q : S52} (hq : q ∈ nx1 p t) : Rch set q.f0 q.f1 ∧ q.f1.size ≠ 0 ∧ Suf set q.f1 ∧ q.f0.size ≤ p.f0.size + t.size ∧ wl q.f0 p.f0 = false := by
  unfold nx1 at hq
  by_cases h1 : t = p.f1
  · rw [if_pos h1] at hq; cases hq
  rw [if_neg h1] at hq
  by_cases h2 : bgD p.f1 t = true
  · rw [if_pos h2] at hq
    obtain rfl := List.mem_singleton.1 hq
    have e := bhd_app h2
    refine ⟨hr.pop ho ht e, fun z => h1 ?_, suf_behind hs e, by show p.f0.size ≤ _; omega, wl_irr _⟩
    show t = p.f1
    have h5 : bhd t p.f1 = ⟨#[]⟩ := size0 z
    rw [h5] at e
    rw [e]
    exact bts_inj (by rw [bts_app]; simp [bts])
  · rw [if_neg h2] at hq
    by_cases h3 : bgD t p.f1 = true
    · rw [if_pos h3] at hq
      obtain rfl := List.mem_singleton.1 hq
      have e := bhd_app h3
      have hne : (bhd p.f1 t).size ≠ 0 := fun z => h1 (by
        have h5 : bhd p.f1 t = ⟨#[]⟩ := size0 z
        rw [h5] at e
        rw [e]
        exact bts_inj (by rw [bts_app]; simp [bts]))
      refine ⟨hr.push ho ht e hne, hne, suf_word ht e, ?_, wlO.le_ext _ _ hne⟩
      show (p.f0 ++ bhd p.f1 t).size ≤ _
      have := congrArg ByteArray.size e
      rw [ByteArray.size_append] at this ⊢; omega
    · rw [if_neg h3] at hq; cases hq
theorem nx1_cov {set : List ByteArray} {p : S52} {w' o' : ByteArray} (hn : Nxt set p.f0 p.f1 w' o') : (o'.size ≠ 0 → ∃ q ∈ set.flatMap (nx1 p), q.f1 = o' ∧ q.f0 = w') ∧ (o'.size = 0 → p.f1 ∈ set ∧ w' = p.f0) := by
  obtain ⟨t, ht, ⟨e, rfl⟩ | ⟨e, hr, rfl⟩⟩ := hn
  · refine ⟨fun ho => ?_, fun ho => ⟨?_, rfl⟩⟩
    · have hne : t ≠ p.f1 := fun q => ho (by rw [← q] at e; exact app_inj e)
      obtain ⟨h1, h2⟩ := app_bhd t o'
      rw [← e] at h1 h2
      exact ⟨⟨p.f0, o'⟩, List.mem_flatMap.2 ⟨t, ht, by unfold nx1; rw [if_neg hne, if_pos h1, h2]; exact List.mem_singleton.2 rfl⟩, rfl, rfl⟩
    · have : p.f1 = t := by
        rw [e, size0 ho]
        exact bts_inj (by rw [bts_app]; simp [bts])
      rw [this]; exact ht
  · refine ⟨fun ho => ?_, fun ho => absurd ho hr⟩
    have hne : t ≠ p.f1 := fun q => ho (by rw [← q] at e; exact app_inj e)
    obtain ⟨h1, h2⟩ := app_bhd p.f1 o'
    rw [← e] at h1 h2
    have h3 : ¬ bgD p.f1 t = true := fun q => by
      have := bgD_size q
      have h4 := congrArg ByteArray.size e
      rw [ByteArray.size_append] at h4; omega
    exact ⟨⟨p.f0 ++ o', o'⟩, List.mem_flatMap.2 ⟨t, ht, by unfold nx1; rw [if_neg hne, if_neg h3, if_pos h1, h2]; exact List.mem_singleton.2 rfl⟩, rfl, rfl⟩
theorem pick_mem {α : Type} (l : List α) (i : Nat) (hi : i < l.length) (x : α) : x ∈ l ↔ x = l[i] ∨ x ∈ l.take i ++ l.drop (i + 1) := by
  conv => lhs; rw [← List.take_append_drop i l, List.drop_eq_getElem_cons hi]
  simp only [List.mem_append, List.mem_cons]
  exact ⟨fun q => q.elim (fun q => .inr (.inl q)) (fun q => q.elim .inl (fun q => .inr (.inr q))), fun q => q.elim (fun q => .inr (.inl q)) (fun q => q.elim .inl (fun q => .inr (.inr q)))⟩
/-- A pair that is passed over. -/
theorem SInv.skip {set : List ByteArray} {op op' : List S52} {D : List (ByteArray × ByteArray)} {best : ByteArray} (h : SInv set op D best) {p : S52} (hm : ∀ x, x ∈ op ↔ x = p ∨ x ∈ op') (hp : (∃ d, (d, p.f1) ∈ D) ∨ Gb best p.f0) : SInv set op' D best := by
  have hc : ∀ {w o}, Cov op D best w o → Cov op' D best w o := by
    rintro w o (⟨q, hq, hq1, hq2⟩ | q | q)
    · rcases (hm q).1 hq with rfl | hq
      · rcases hp with ⟨d, hd⟩ | hg
        · exact .inr (.inl ⟨d, hq1 ▸ hd, wlO.le_trans (h.m _ hd _ ((hm _).2 (.inl rfl))) hq2⟩)
        · exact .inr (.inr (hg.up hq2))
      · exact .inl ⟨q, hq, hq1, hq2⟩
    · exact .inr (.inl q)
    · exact .inr (.inr q)
  exact ⟨fun q hq => h.s1 q ((hm q).2 (.inr hq)), h.s2, h.d1, fun q hq x hx => h.m q hq x ((hm x).2 (.inr hx)), fun s hs t ht r e hr => hc (h.c0 s hs t ht r e hr), fun d o hd w' o' hn => ⟨fun ho => hc ((h.c d o hd w' o' hn).1 ho), (h.c d o hd w' o' hn).2⟩⟩
/-- A pair that is taken. -/
theorem SInv.take {set : List ByteArray} (hz : ∀ s ∈ set, s.size ≤ 8) {op op' : List S52} {D : List (ByteArray × ByteArray)} {best : ByteArray} (h : SInv set op D best) {p : S52} (hm : ∀ x, x ∈ op ↔ x = p ∨ x ∈ op') (hmin : ∀ q ∈ op, wl q.f0 p.f0 = false) (hnew : p.f1 ∉ D.map Prod.snd) :
    SInv set (op' ++ set.flatMap (nx1 p)) (D ++ [(p.f0, p.f1)]) (set.foldl (fun b t => bst1 p t b) best) := by
  obtain ⟨p1, p2, p3, p4⟩ := h.s1 p ((hm p).2 (.inl rfl))
  obtain ⟨f1, f2, f3⟩ := bst_fold p p1.word set best
  generalize set.foldl (fun b t => bst1 p t b) best = best2 at f1 f2 f3 ⊢
  have hg : ∀ {w}, Gb best w → Gb best2 w := fun {w} q => ⟨(f1 q.1).1, wlO.le_trans (f1 q.1).2 q.2⟩
  have hc : ∀ {w o}, Cov op D best w o → Cov (op' ++ set.flatMap (nx1 p)) (D ++ [(p.f0, p.f1)]) best2 w o := by
    rintro w o (⟨q, hq, hq1, hq2⟩ | ⟨d, hd, hd2⟩ | q)
    · rcases (hm q).1 hq with rfl | hq
      · exact .inr (.inl ⟨q.f0, List.mem_append_right _ (List.mem_singleton.2 (by rw [hq1])), hq2⟩)
      · exact .inl ⟨q, List.mem_append_left _ hq, hq1, hq2⟩
    · exact .inr (.inl ⟨d, List.mem_append_left _ hd, hd2⟩)
    · exact .inr (.inr (hg q))
  have hnx : ∀ q ∈ set.flatMap (nx1 p), Rch set q.f0 q.f1 ∧ q.f1.size ≠ 0 ∧ Suf set q.f1 ∧ q.f0.size ≤ p.f0.size + 8 ∧ wl q.f0 p.f0 = false := fun q hq => by
    obtain ⟨t, ht, hq⟩ := List.mem_flatMap.1 hq
    obtain ⟨a1, a2, a3, a4, a5⟩ := nx1_ok p1 p2 p3 ht hq
    have := hz t ht
    exact ⟨a1, a2, a3, by omega, a5⟩
  have hl : (D ++ [(p.f0, p.f1)]).length = D.length + 1 := by rw [List.length_append]; rfl
  refine ⟨fun q hq => ?_, fun hb => ?_, ⟨?_, ?_⟩, ?_, fun s hs t ht r e hr => hc (h.c0 s hs t ht r e hr), ?_⟩
  · rw [hl]
    rcases List.mem_append.1 hq with hq | hq
    · obtain ⟨a1, a2, a3, a4⟩ := h.s1 q ((hm q).2 (.inr hq))
      exact ⟨a1, a2, a3, by omega⟩
    · obtain ⟨a1, a2, a3, a4, _⟩ := hnx q hq
      exact ⟨a1, a2, a3, by omega⟩
  · rcases f3 with f3 | ⟨f4, f3⟩
    · rw [f3] at hb ⊢; exact h.s2 hb
    · rw [f3]
      exact p1.pop p2 f4 (bts_inj (by rw [bts_app]; simp [bts]))
  · rw [List.map_append, List.nodup_append]
    refine ⟨h.d1.1, by simp, ?_⟩
    intro a ha b hb q
    rw [List.map_cons, List.map_nil, List.mem_singleton] at hb
    have e2 : a = p.f1 := q.trans hb
    exact hnew (e2 ▸ ha)
  · intro q hq
    rcases List.mem_append.1 hq with hq | hq
    · exact h.d1.2 q hq
    · rw [List.mem_singleton.1 hq]; exact p3
  · intro q hq x hx
    rcases List.mem_append.1 hq with hq | hq
    · have h1 := h.m q hq p ((hm p).2 (.inl rfl))
      rcases List.mem_append.1 hx with hx | hx
      · exact h.m q hq x ((hm x).2 (.inr hx))
      · exact wlO.le_trans h1 (hnx x hx).2.2.2.2
    · rw [List.mem_singleton.1 hq]
      rcases List.mem_append.1 hx with hx | hx
      · exact hmin x ((hm x).2 (.inr hx))
      · exact (hnx x hx).2.2.2.2
  · intro d o hd w' o' hn
    rcases List.mem_append.1 hd with hd | hd
    · exact ⟨fun ho => hc ((h.c d o hd w' o' hn).1 ho), fun ho => hg ((h.c d o hd w' o' hn).2 ho)⟩
    · have e := List.mem_singleton.1 hd
      have e1 : d = p.f0 := congrArg Prod.fst e
      have e2 : o = p.f1 := congrArg Prod.snd e
      rw [e1, e2] at hn
      obtain ⟨c1, c2⟩ := nx1_cov hn
      refine ⟨fun ho => ?_, fun ho => ?_⟩
      · obtain ⟨q, hq, hq1, hq2⟩ := c1 ho
        exact .inl ⟨q, List.mem_append_right _ hq, hq1, by rw [hq2]; exact wl_irr _⟩
      · obtain ⟨c3, rfl⟩ := c2 ho
        exact f2 c3
theorem SInv.dlen {set : List ByteArray} (hz : ∀ s ∈ set, s.size ≤ 8) {op : List S52} {D : List (ByteArray × ByteArray)} {best : ByteArray} (h : SInv set op D best) : D.length ≤ 9 * set.length := by
  have h1 := mp_nodup_len (D.map Prod.snd) (sufs set) h.d1.1 (fun o ho => by
    obtain ⟨q, hq, rfl⟩ := List.mem_map.1 ho
    exact suf_mem hz (h.d1.2 q hq))
  rwa [List.length_map, sufs_len] at h1
theorem spec_main (set : List ByteArray) (hl : set.length ≤ 12) (hz : ∀ s ∈ set, s.size ≤ 8) : ∀ (u : Nat) (op : List S52) (D : List (ByteArray × ByteArray)) (best : ByteArray), 13 * (9 * set.length - D.length) + op.length ≤ u → op.length ≤ 144 + 12 * D.length → SInv set op D best →
    ∃ v, Ev (fun k => spec_dcShortest.l2 k set op (D.map Prod.snd) best) v ∧ SPost set v := by
  intro u
  induction u with
  | zero =>
    intro op D best hu hop h
    obtain rfl : op = [] := List.eq_nil_of_length_eq_zero (by omega)
    refine ⟨best, Pl.succ ?_, h.post⟩
    simp only [spec_dcShortest.l2]
    exact Pl.neg (by simp) (Pl.ret rfl)
  | succ u ih =>
    intro op D best hu hop h
    have hD := h.dlen hz
    by_cases hne : op = []
    · subst hne
      refine ⟨best, Pl.succ ?_, h.post⟩
      simp only [spec_dcShortest.l2]
      exact Pl.neg (by simp) (Pl.ret rfl)
    have hpos : 0 < op.length := List.length_pos_iff.2 hne
    obtain ⟨kk, hk, hmin, hsel⟩ := sel_l3 set op (D.map Prod.snd) best (by omega) op.length 0 0 hpos (by omega) (fun j _ hj => absurd hj (by omega))
    have hm := pick_mem op kk hk
    have hlen2 : (op.take kk).length + (op.drop (kk + 1)).length = op.length - 1 := by rw [List.length_take, List.length_drop]; omega
    have hlen : (op.take kk ++ op.drop (kk + 1)).length = op.length - 1 := by rw [List.length_append, List.length_take, List.length_drop]; omega
    have hmin' : ∀ q ∈ op, wl q.f0 op[kk].f0 = false := fun q hq => by
      obtain ⟨j, hj, rfl⟩ := List.getElem_of_mem hq
      exact hmin j hj
    have hsz := (h.s1 op[kk] (List.getElem_mem hk)).2.2.2
    have hstart : ∀ v, Ev (fun k => spec_dcShortest.l3 k set op (D.map Prod.snd) best (kk : Int) op (op.length : Int) (op.length : Int)) v → Ev (fun k => spec_dcShortest.l2 k set op (D.map Prod.snd) best) v := fun v hv => by
      refine Pl.succ ?_
      simp only [spec_dcShortest.l2]
      exact Pl.pos (by omega) (hsel v hv)
    have hend := fun v => end_l3 set op (D.map Prod.snd) best (by omega) (by rw [List.length_map]; omega) v kk hk
    by_cases hin : op[kk].f1 ∈ D.map Prod.snd
    · obtain ⟨v, hv, hpost⟩ := ih (op.take kk ++ op.drop (kk + 1)) D best (by omega) (by omega) (h.skip hm (.inl (by
        obtain ⟨q, hq, e⟩ := List.mem_map.1 hin
        exact ⟨q.1, by rw [← e]; exact hq⟩)))
      exact ⟨v, hstart v (hend v (fun _ => hv) (fun q => absurd hin q) (fun q => absurd hin q)), hpost⟩
    · by_cases hb : best.size ≠ 0 ∧ wl op[kk].f0 best = false
      · obtain ⟨v, hv, hpost⟩ := ih (op.take kk ++ op.drop (kk + 1)) D best (by omega) (by omega) (h.skip hm (.inr hb))
        exact ⟨v, hstart v (hend v (fun q => absurd q hin) (fun _ _ _ => hv) (fun _ q => absurd hb (by
          rintro ⟨q1, q2⟩
          rcases q with q | q
          · exact q1 q
          · rw [q] at q2; cases q2))), hpost⟩
      · have hD1 : D.length + 1 ≤ 9 * set.length := by
          have := (h.take hz hm hmin' hin).dlen hz
          rwa [List.length_append] at this
        have hnl := nx_len op[kk] set
        obtain ⟨v, hv, hpost⟩ := ih _ _ _ (by simp only [List.length_append, List.length_cons, List.length_nil]; omega) (by simp only [List.length_append, List.length_cons, List.length_nil]; omega) (h.take hz hm hmin' hin)
        refine ⟨v, hstart v (hend v (fun q => absurd q hin) (fun _ q1 q2 => absurd ⟨q1, q2⟩ hb) (fun _ _ => ?_)), hpost⟩
        rw [List.map_append] at hv
        exact nx_l4 set hl hz op[kk] (by omega) _ v set.length 0 _ best (by omega) (by omega) (by rw [List.drop_zero]; exact hv)
theorem ini1_ok {set : List ByteArray} {s t : ByteArray} (hs : s ∈ set) (ht : t ∈ set) {q : S52} (hq : q ∈ ini1 s t) : Rch set q.f0 q.f1 ∧ q.f1.size ≠ 0 ∧ Suf set q.f1 ∧ q.f0 ∈ set := by
  unfold ini1 at hq
  split at hq
  · rename_i h
    obtain rfl := List.mem_singleton.1 hq
    have e := bhd_app h.2
    have hne : (bhd s t).size ≠ 0 := fun z => by
      have := congrArg ByteArray.size e
      rw [ByteArray.size_append, z] at this; omega
    exact ⟨Rch.init hs ht e hne, hne, suf_word ht e, ht⟩
  · cases hq
theorem spec_all (set : List ByteArray) (hl : set.length ≤ 12) (hz : ∀ s ∈ set, s.size ≤ 8) : ∃ v, Ev (fun k => spec_dcShortest.f k set) v ∧ SPost set v := by
  have hlen : (set.flatMap fun s => set.flatMap (ini1 s)).length ≤ 144 := by
    have : ∀ l : List ByteArray, (l.flatMap fun s => set.flatMap (ini1 s)).length ≤ 12 * l.length := fun l => by
      induction l with
      | nil => simp
      | cons s l ih =>
        have := ini_len s set
        rw [List.flatMap_cons, List.length_append, List.length_cons]; omega
    have := this set; omega
  have hinv : SInv set (set.flatMap fun s => set.flatMap (ini1 s)) [] ⟨#[]⟩ := by
    refine ⟨fun p hp => ?_, fun h => absurd rfl h, ⟨by simp, by simp⟩, by simp, fun s hs t ht r e hr => ?_, by simp⟩
    · obtain ⟨s, hs, hp⟩ := List.mem_flatMap.1 hp
      obtain ⟨t, ht, hp⟩ := List.mem_flatMap.1 hp
      obtain ⟨a1, a2, a3, a4⟩ := ini1_ok hs ht hp
      have := hz _ a4
      exact ⟨a1, a2, a3, by simp; omega⟩
    · obtain ⟨h1, h2⟩ := app_bhd s r
      rw [← e] at h1 h2
      have hlt : s.size < t.size := by
        have := congrArg ByteArray.size e
        rw [ByteArray.size_append] at this; omega
      exact .inl ⟨⟨t, r⟩, List.mem_flatMap.2 ⟨s, hs, List.mem_flatMap.2 ⟨t, ht, by unfold ini1; rw [if_pos ⟨hlt, h1⟩, h2]; exact List.mem_singleton.2 rfl⟩⟩, rfl, wl_irr _⟩
  obtain ⟨v, hv, hp⟩ := spec_main set hl hz _ _ [] ⟨#[]⟩ (Nat.le_refl _) (by simpa using hlen) hinv
  refine ⟨v, ?_, hp⟩
  unfold spec_dcShortest.f
  exact ini_l0 set hl v set.length 0 [] (by omega) (by simp; omega) (by rw [List.drop_zero, List.nil_append]; exact hv)

end Go.Proofs.YtgokegndboknfaaDoor.X
namespace Go.Proofs.YtgokegndboknfaaDoor.X
open Go.RowKit Go.Proofs.YtgokegndboknfaaDoorW.PrintWords Go.Proofs.YtgokegndboknfaaDoorW.PrintLast Go.Proofs.YtgokegndboknfaaDoorW.PrintMore Go.Proofs.YtgokegndboknfaaDoor

/-! ### Maps -/
section
variable {β : Type}
theorem mget_cons (p : ByteArray × β) (M : List (ByteArray × β)) (k : ByteArray) : mget (p :: M) k = if p.1 = k then some p.2 else mget M k := by
  unfold mget
  by_cases h : p.1 = k
  · rw [List.find?_cons_of_pos (by simpa using h), if_pos h]; rfl
  · rw [List.find?_cons_of_neg (by simpa using h), if_neg h]
theorem mget_keys (M : List (ByteArray × β)) (k : ByteArray) : mget M k = none ↔ k ∉ M.map Prod.fst := by
  induction M with
  | nil => simp [mget]
  | cons p M ih =>
    rw [mget_cons, List.map_cons, List.mem_cons, not_or, ← ih]
    by_cases h : p.1 = k
    · rw [if_pos h]; simp [h]
    · rw [if_neg h]; exact ⟨fun q => ⟨fun e => h e.symm, q⟩, fun q => q.2⟩
theorem mget_map (M : List (ByteArray × β)) (k : ByteArray) (v : β) (k' : ByteArray) : mget (M.map (fun p => if p.1 = k then (p.1, v) else p)) k' = (mget M k').map fun x => if k' = k then v else x := by
  induction M with
  | nil => rfl
  | cons p M ih =>
    have e : (if p.1 = k then (p.1, v) else p).1 = p.1 := by split <;> rfl
    rw [List.map_cons, mget_cons, mget_cons, ih, e]
    by_cases h : p.1 = k'
    · rw [if_pos h, if_pos h, Option.map_some, ← h]
      split <;> rfl
    · rw [if_neg h, if_neg h]
theorem mget_app (M : List (ByteArray × β)) (k : ByteArray) (v : β) (k' : ByteArray) (h : mget M k = none) : mget (M ++ [(k, v)]) k' = if k' = k then some v else mget M k' := by
  induction M with
  | nil =>
    rw [List.nil_append, mget_cons]
    by_cases e : k = k'
    · rw [if_pos e, if_pos e.symm]
    · rw [if_neg e, if_neg (fun q => e q.symm)]
  | cons p M ih =>
    rw [mget_cons] at h
    by_cases h1 : p.1 = k
    · rw [if_pos h1] at h; cases h
    · rw [if_neg h1] at h
      rw [List.cons_append, mget_cons, mget_cons, ih h]
      by_cases h2 : p.1 = k'
      · rw [if_pos h2, if_pos h2, if_neg (fun e => h1 (h2.trans e))]
      · rw [if_neg h2, if_neg h2]
theorem mget_put (M : List (ByteArray × β)) (k : ByteArray) (v : β) (k' : ByteArray) : mget (mput M k v) k' = if k' = k then some v else mget M k' := by
  cases h : mget M k with
  | none => rw [mput_new h, mget_app M k v k' h]
  | some u =>
    rw [mput_old h, mget_map]
    by_cases e : k' = k
    · rw [if_pos e, e, h]; simp
    · rw [if_neg e]; cases mget M k' <;> simp [e]
theorem mput_nodup {M : List (ByteArray × β)} (hn : (M.map Prod.fst).Nodup) (k : ByteArray) (v : β) : ((mput M k v).map Prod.fst).Nodup := by
  cases h : mget M k with
  | none =>
    rw [mput_new h, List.map_append, List.nodup_append]
    refine ⟨hn, by simp, fun a ha b hb e => (mget_keys M k).1 h ?_⟩
    have hb' : b = k := by simpa using hb
    rw [← hb', ← e]; exact ha
  | some u =>
    rw [mput_old h, List.map_map]
    have : (Prod.fst ∘ fun p : ByteArray × β => if p.1 = k then (p.1, v) else p) = Prod.fst := by
      funext p; simp only [Function.comp_apply]; split <;> rfl
    rwa [this]
end
def Cv (M : List (ByteArray × ByteArray)) (o w : ByteArray) : Prop := ∃ v, mget M o = some v ∧ wl w v = false
/-- What becomes of the words that are read so far: each stays or becomes less; what is new is told. -/
structure Evo (P : ByteArray → ByteArray → Prop) (M M' : List (ByteArray × ByteArray)) : Prop where
  nd : (M.map Prod.fst).Nodup → (M'.map Prod.fst).Nodup
  mo : ∀ k v, mget M k = some v → ∃ v', mget M' k = some v' ∧ wl v v' = false
  og : ∀ k v, mget M' k = some v → mget M k = some v ∨ (P k v ∧ v.size ≤ 60)
  kp : ∀ k v, mget M k = some v → (∀ o w, P o w → wl w v = false) → mget M' k = some v
theorem Evo.refl (P : ByteArray → ByteArray → Prop) (M : List (ByteArray × ByteArray)) : Evo P M M := ⟨fun h => h, fun _ v h => ⟨v, h, wl_irr _⟩, fun _ _ h => .inl h, fun _ _ h _ => h⟩
theorem Evo.trans {P : ByteArray → ByteArray → Prop} {A B C : List (ByteArray × ByteArray)} (h : Evo P A B) (h' : Evo P B C) : Evo P A C := by
  refine ⟨fun q => h'.nd (h.nd q), fun k v hv => ?_, fun k v hv => ?_, fun k v hv hp => h'.kp k v (h.kp k v hv hp) hp⟩
  · obtain ⟨v1, h1, h2⟩ := h.mo k v hv
    obtain ⟨v2, h3, h4⟩ := h'.mo k v1 h1
    exact ⟨v2, h3, wlO.le_trans h4 h2⟩
  · rcases h'.og k v hv with q | q
    · exact h.og k v q
    · exact .inr q
theorem Cv.evo {P : ByteArray → ByteArray → Prop} {M M' : List (ByteArray × ByteArray)} (h : Evo P M M') {o w : ByteArray} (hc : Cv M o w) : Cv M' o w := by
  obtain ⟨v, h1, h2⟩ := hc
  obtain ⟨v', h3, h4⟩ := h.mo o v h1
  exact ⟨v', h3, wlO.le_trans h4 h2⟩
theorem rch_evo {P : ByteArray → ByteArray → Prop} (M : List (ByteArray × ByteArray)) (o w : ByteArray) (hP : P o w) : Evo P M (rch M o w) ∧ (w.size ≤ 60 → Cv (rch M o w) o w) := by
  unfold rch
  by_cases h60 : w.size ≤ 60
  case neg => rw [if_neg h60]; exact ⟨Evo.refl P M, fun h => absurd h h60⟩
  rw [if_pos h60]
  have hput : (∀ v, mget M o = some v → wl v w = false ∧ wl w v = true) → Evo P M (mput M o w) ∧ (w.size ≤ 60 → Cv (mput M o w) o w) := fun hold => by
    refine ⟨⟨fun q => mput_nodup q o w, fun k v hv => ?_, fun k v hv => ?_, fun k v hv hp => ?_⟩, fun _ => ⟨w, by rw [mget_put, if_pos rfl], wl_irr _⟩⟩
    · by_cases e : k = o
      · subst e; exact ⟨w, by rw [mget_put, if_pos rfl], (hold v hv).1⟩
      · exact ⟨v, by rw [mget_put, if_neg e]; exact hv, wl_irr _⟩
    · rw [mget_put] at hv
      by_cases e : k = o
      · rw [if_pos e] at hv
        cases hv
        exact .inr ⟨e ▸ hP, h60⟩
      · rw [if_neg e] at hv; exact .inl hv
    · by_cases e : k = o
      · subst e
        have := (hold v hv).2
        rw [hp k w hP] at this; cases this
      · rw [mget_put, if_neg e]; exact hv
  cases hg : mget M o with
  | none => exact hput (fun v hv => by rw [hg] at hv; cases hv)
  | some old =>
    cases hc : wl w old with
    | true =>
      simp only [hc, if_true]
      exact hput (fun v hv => by rw [hg] at hv; cases hv; exact ⟨wl_asymm hc, hc⟩)
    | false =>
      simp only [hc, Bool.false_eq_true, if_false]
      exact ⟨Evo.refl P M, fun _ => ⟨old, hg, hc⟩⟩
theorem sdB_ok {P : ByteArray → ByteArray → Prop} (i : Nat) (s : ByteArray) : ∀ (ts : List ByteArray) (j : Nat) (M : List (ByteArray × ByteArray)), (∀ n t, ts[n]? = some t → bgD t s = true → i ≠ j + n → P (bhd s t) t) →
    ∃ M', sdB i s ts j M = some M' ∧ Evo P M M' ∧ ∀ n t, ts[n]? = some t → bgD t s = true → i ≠ j + n → t.size ≤ 60 → Cv M' (bhd s t) t
  | [], j, M, _ => ⟨M, rfl, Evo.refl P M, fun n t h => by simp at h⟩
  | t :: ts, j, M, hP => by
    have e : strings_CutPrefix.f t s = some (if bgD t s = true then (bhd s t, true) else (t, false)) := cutPrefix_d t s
    have hP' : ∀ n t', ts[n]? = some t' → bgD t' s = true → i ≠ j + 1 + n → P (bhd s t') t' := fun n t' h1 h2 h3 => hP (n + 1) t' (by simpa using h1) h2 (by omega)
    by_cases hb : bgD t s = true ∧ i ≠ j
    · obtain ⟨E1, C1⟩ := rch_evo M (bhd s t) t (hP 0 t rfl hb.1 (by omega))
      obtain ⟨M', h1, h2, h3⟩ := sdB_ok i s ts (j + 1) (rch M (bhd s t) t) hP'
      refine ⟨M', ?_, E1.trans h2, fun n t' hn hb' hi hz => ?_⟩
      · unfold sdB
        rw [e, if_pos hb.1, Option.bind_some, if_pos ⟨rfl, hb.2⟩]
        exact h1
      · cases n with
        | zero =>
          have : t = t' := by simpa using hn
          subst this
          exact (C1 hz).evo h2
        | succ n => exact h3 n t' (by simpa using hn) hb' (by omega) hz
    · obtain ⟨M', h1, h2, h3⟩ := sdB_ok i s ts (j + 1) M hP'
      refine ⟨M', ?_, h2, fun n t' hn hb' hi hz => ?_⟩
      · unfold sdB
        rw [e, Option.bind_some, if_neg (by
          rintro ⟨q1, q2⟩
          refine hb ⟨?_, q2⟩
          cases hq : bgD t s with
          | true => rfl
          | false => rw [hq] at q1; cases q1)]
        exact h1
      · cases n with
        | zero =>
          have : t = t' := by simpa using hn
          subst this
          exact absurd ⟨hb', by omega⟩ hb
        | succ n => exact h3 n t' (by simpa using hn) hb' (by omega) hz
theorem sdA_ok {P : ByteArray → ByteArray → Prop} (set : List ByteArray) : ∀ (ss : List ByteArray) (i : Nat) (M : List (ByteArray × ByteArray)), (∀ m s n t, ss[m]? = some s → set[n]? = some t → bgD t s = true → i + m ≠ n → P (bhd s t) t) →
    ∃ M', sdA set ss i M = some M' ∧ Evo P M M' ∧ ∀ m s n t, ss[m]? = some s → set[n]? = some t → bgD t s = true → i + m ≠ n → t.size ≤ 60 → Cv M' (bhd s t) t
  | [], i, M, _ => ⟨M, rfl, Evo.refl P M, fun m s n t h => by simp at h⟩
  | s :: ss, i, M, hP => by
    obtain ⟨M1, h1, h2, h3⟩ := sdB_ok (P := P) i s set 0 M (fun n t hn hb hi => hP 0 s n t rfl hn hb (by omega))
    obtain ⟨M2, k1, k2, k3⟩ := sdA_ok set ss (i + 1) M1 (fun m s' n t hm hn hb hi => hP (m + 1) s' n t (by simpa using hm) hn hb (by omega))
    refine ⟨M2, ?_, h2.trans k2, fun m s' n t hm hn hb hi hz => ?_⟩
    · unfold sdA; rw [h1, Option.bind_some]; exact k1
    · cases m with
      | zero =>
        have : s = s' := by simpa using hm
        subst this
        exact (h3 n t hn hb (by omega) hz).evo k2
      | succ m => exact k3 m s' n t (by simpa using hm) hn hb (by omega) hz
theorem sdN_ok {P : ByteArray → ByteArray → Prop} (rest word : ByteArray) (hw : word.size ≤ 60) : ∀ (ss : List ByteArray) (M : List (ByteArray × ByteArray)), (∀ t ∈ ss, t.size ≤ 8) → (∀ t ∈ ss, bgD rest t = true → P (bhd t rest) word) → (∀ t ∈ ss, bgD rest t = false → bgD t rest = true → P (bhd rest t) (word ++ bhd rest t)) →
    ∃ M', sdN rest word ss M = some M' ∧ Evo P M M' ∧ (∀ t ∈ ss, bgD rest t = true → Cv M' (bhd t rest) word) ∧ (∀ t ∈ ss, bgD rest t = false → bgD t rest = true → (word ++ bhd rest t).size ≤ 60 → Cv M' (bhd rest t) (word ++ bhd rest t))
  | [], M, _, _, _ => ⟨M, rfl, Evo.refl P M, by simp, by simp⟩
  | t :: ss, M, hz, h1, h2 => by
    have e1 : strings_CutPrefix.f rest t = some (if bgD rest t = true then (bhd t rest, true) else (rest, false)) := cutPrefix_d rest t
    have e2 : strings_CutPrefix.f t rest = some (if bgD t rest = true then (bhd rest t, true) else (t, false)) := cutPrefix_d t rest
    have hz' : ∀ t ∈ ss, t.size ≤ 8 := fun x hx => hz x (List.mem_cons_of_mem _ hx)
    have h1' : ∀ t ∈ ss, bgD rest t = true → P (bhd t rest) word := fun x hx => h1 x (List.mem_cons_of_mem _ hx)
    have h2' : ∀ t ∈ ss, bgD rest t = false → bgD t rest = true → P (bhd rest t) (word ++ bhd rest t) := fun x hx => h2 x (List.mem_cons_of_mem _ hx)
    cases hb : bgD rest t with
    | true =>
      obtain ⟨E1, C1⟩ := rch_evo M (bhd t rest) word (h1 t List.mem_cons_self hb)
      obtain ⟨M', k1, k2, k3, k4⟩ := sdN_ok rest word hw ss (rch M (bhd t rest) word) hz' h1' h2'
      refine ⟨M', ?_, E1.trans k2, fun x hx q => ?_, fun x hx q1 q2 q3 => ?_⟩
      · unfold sdN; rw [e1, hb, if_pos rfl, Option.bind_some, if_pos rfl]; exact k1
      · rcases List.mem_cons.1 hx with rfl | hx
        · exact (C1 hw).evo k2
        · exact k3 x hx q
      · rcases List.mem_cons.1 hx with rfl | hx
        · rw [hb] at q1; cases q1
        · exact k4 x hx q1 q2 q3
    | false =>
      cases hc : bgD t rest with
      | true =>
        obtain ⟨E1, C1⟩ := rch_evo M (bhd rest t) (word ++ bhd rest t) (h2 t List.mem_cons_self hb hc)
        obtain ⟨M', k1, k2, k3, k4⟩ := sdN_ok rest word hw ss (rch M (bhd rest t) (word ++ bhd rest t)) hz' h1' h2'
        refine ⟨M', ?_, E1.trans k2, fun x hx q => ?_, fun x hx q1 q2 q3 => ?_⟩
        · have hsz := hz t List.mem_cons_self
          have hsz2 : (bhd rest t).size ≤ t.size := by unfold bhd; rw [ByteArray.size_extract]; omega
          unfold sdN; rw [e1, hb, if_neg (by decide), Option.bind_some, if_neg (by simp), e2, hc, if_pos rfl, Option.bind_some, if_pos rfl, if_pos (by show word.size + (bhd rest t).size ≤ _; omega)]; exact k1
        · rcases List.mem_cons.1 hx with rfl | hx
          · rw [hb] at q; cases q
          · exact k3 x hx q
        · rcases List.mem_cons.1 hx with rfl | hx
          · exact (C1 q3).evo k2
          · exact k4 x hx q1 q2 q3
      | false =>
        obtain ⟨M', k1, k2, k3, k4⟩ := sdN_ok rest word hw ss M hz' h1' h2'
        refine ⟨M', ?_, k2, fun x hx q => ?_, fun x hx q1 q2 q3 => ?_⟩
        · unfold sdN; rw [e1, hb, if_neg (by decide), Option.bind_some, if_neg (by simp), e2, hc, if_neg (by decide), Option.bind_some, if_neg (by simp)]; exact k1
        · rcases List.mem_cons.1 hx with rfl | hx
          · rw [hb] at q; cases q
          · exact k3 x hx q
        · rcases List.mem_cons.1 hx with rfl | hx
          · rw [hc] at q2; cases q2
          · exact k4 x hx q1 q2 q3
theorem pk_none {M : List (ByteArray × ByteArray)} {D : List (ByteArray × Bool)} (h : pk M D = none) : ∀ e ∈ M, isDone D e.1 = true := by
  obtain ⟨S', h3, h4⟩ := pk_I D M [] none (PkI.nil D)
  intro e he
  cases hd : isDone D e.1 with
  | true => rfl
  | false =>
    obtain ⟨c, hc, _⟩ := h4.1 e ((h3 e).2 (.inl he)) hd
    have h5 : M.foldl (pkS D) none = none := h
    rw [h5] at hc; cases hc
theorem pk_some {M : List (ByteArray × ByteArray)} {D : List (ByteArray × Bool)} {b : ByteArray × ByteArray} (h : pk M D = some b) : b ∈ M ∧ isDone D b.1 = false ∧ ∀ e ∈ M, isDone D e.1 = false → wl e.2 b.2 = false := by
  obtain ⟨S', h3, h4⟩ := pk_I D M [] none (PkI.nil D)
  have h5 : M.foldl (pkS D) none = some b := h
  rw [h5] at h4
  obtain ⟨m, n⟩ := h4.2 b rfl
  refine ⟨((h3 b).1 m).elim id (fun q => by cases q), n, fun e he hd => ?_⟩
  obtain ⟨c, hc, hb⟩ := h4.1 e ((h3 e).2 (.inl he)) hd
  cases hc
  rw [Bool.eq_false_iff]
  intro q
  rw [(bfr_iff _ _).2 (.inl q)] at hb; cases hb
def trues (ks : List ByteArray) : List (ByteArray × Bool) := ks.map fun k => (k, true)
theorem mget_trues (ks : List ByteArray) (k : ByteArray) : (k ∈ ks → mget (trues ks) k = some true) ∧ (k ∉ ks → mget (trues ks) k = none) := by
  unfold trues
  induction ks with
  | nil => exact ⟨(fun h => by cases h), fun _ => rfl⟩
  | cons x ks ih =>
    rw [List.map_cons, mget_cons]
    by_cases h : x = k
    · rw [if_pos h]
      exact ⟨fun _ => rfl, fun q => absurd (h ▸ List.mem_cons_self) q⟩
    · rw [if_neg h]
      exact ⟨fun q => ih.1 ((List.mem_cons.1 q).resolve_left (fun e => h e.symm)), fun q => ih.2 (fun e => q (List.mem_cons_of_mem _ e))⟩
theorem done_trues (ks : List ByteArray) (k : ByteArray) : isDone (trues ks) k = true ↔ k ∈ ks := by
  unfold isDone
  by_cases h : k ∈ ks
  · rw [(mget_trues ks k).1 h]; simp [h]
  · rw [(mget_trues ks k).2 h]; simp [h]
theorem put_trues {ks : List ByteArray} {k : ByteArray} (h : k ∉ ks) : mput (trues ks) k true = trues (ks ++ [k]) := by
  rw [mput_new ((mget_trues ks k).2 h)]
  unfold trues; rw [List.map_append]; rfl

end Go.Proofs.YtgokegndboknfaaDoor.X
namespace Go.Proofs.YtgokegndboknfaaDoor.X
open Go.RowKit Go.Proofs.YtgokegndboknfaaDoorW.PrintWords Go.Proofs.YtgokegndboknfaaDoorW.PrintLast Go.Proofs.YtgokegndboknfaaDoorW.PrintMore Go.Proofs.YtgokegndboknfaaDoor

structure IInv (set : List ByteArray) (M : List (ByteArray × ByteArray)) (ks : List ByteArray) : Prop where
  nd : (M.map Prod.fst).Nodup
  s1 : ∀ o w, mget M o = some w → Rch set w o ∧ w.size ≤ 60 ∧ Suf set o
  kd : ks.Nodup ∧ ∀ k ∈ ks, k.size ≠ 0 ∧ ∃ d, mget M k = some d
  c0 : ∀ s ∈ set, ∀ t ∈ set, ∀ r : ByteArray, t = s ++ r → r.size ≠ 0 → t.size ≤ 60 → Cv M r t
  c : ∀ o ∈ ks, ∀ d, mget M o = some d → ∀ w' o', Nxt set d o w' o' → w'.size ≤ 60 → Cv M o' w'
  mo : ∀ o ∈ ks, ∀ o', o' ∉ ks → ∀ d d', mget M o = some d → mget M o' = some d' → wl d' d = false
def IPost (set : List ByteArray) (r : ByteArray × Bool) : Prop := (r = (⟨#[]⟩, false) ∧ ∀ w o : ByteArray, o.size = 0 → Rch set w o → 60 < w.size) ∨ (r.2 = true ∧ Least set wl r.1 ∧ r.1.size ≤ 60 ∧ r.1.size ≠ 0)
theorem IInv.klen {set : List ByteArray} (hz : ∀ s ∈ set, s.size ≤ 8) {M : List (ByteArray × ByteArray)} {ks : List ByteArray} (h : IInv set M ks) : ks.length ≤ 9 * set.length := by
  have h1 := mp_nodup_len ks (sufs set) h.kd.1 (fun o ho => by
    obtain ⟨_, d, hd⟩ := h.kd.2 o ho
    exact suf_mem hz (h.s1 o d hd).2.2)
  rwa [sufs_len] at h1
theorem ext_nil0 (t : ByteArray) {o : ByteArray} (h : o.size = 0) : t ++ o = t := by
  rw [size0 h]; exact bts_inj (by rw [bts_app]; simp [bts])
/-- Nothing is left: there is no word that is not too long. -/
theorem IInv.none {set : List ByteArray} {M : List (ByteArray × ByteArray)} {ks : List ByteArray} (h : IInv set M ks) (hp : pk M (trues ks) = none) : IPost set (⟨#[]⟩, false) := by
  have hall := pk_none hp
  have hk : ∀ {o d}, mget M o = some d → o ∈ ks := fun {o d} q => (done_trues ks o).1 (hall (o, d) (mget_some q))
  refine .inl ⟨rfl, fun w o ho hr => ?_⟩
  refine (Rch.all wlO ((M.map fun p => (p.2, p.1))) (fun w => 60 < w.size) (fun {x y} g q => Nat.lt_of_lt_of_le g (wlO.le_size q)) (fun s hs t ht r e hr => ?_) (fun d o hd w' o' hn => ?_) hr).2 ho
  · by_cases h60 : t.size ≤ 60
    · obtain ⟨v, hv, hle⟩ := h.c0 s hs t ht r e hr h60
      exact .inl ⟨v, List.mem_map.2 ⟨(r, v), mget_some hv, rfl⟩, hle⟩
    · exact .inr (by omega)
  · obtain ⟨q, hq, e⟩ := List.mem_map.1 hd
    have hd' : mget M o = some d := mget_mem h.nd (by rw [← show q = (o, d) from Prod.ext (congrArg Prod.snd e) (congrArg Prod.fst e)]; exact hq)
    by_cases h60 : w'.size ≤ 60
    · obtain ⟨v, hv, hle⟩ := h.c o (hk hd') d hd' w' o' hn h60
      exact ⟨fun _ => .inl ⟨v, List.mem_map.2 ⟨(o', v), mget_some hv, rfl⟩, hle⟩, fun q => absurd q (h.kd.2 o' (hk hv)).1⟩
    · exact ⟨fun _ => .inr (by omega), fun _ => by omega⟩
/-- A word with two readings is the first entry. -/
theorem IInv.found {set : List ByteArray} {M : List (ByteArray × ByteArray)} {ks : List ByteArray} (h : IInv set M ks) {b : ByteArray × ByteArray} (hp : pk M (trues ks) = some b) (hb : b.1.size = 0) : IPost set (b.2, true) := by
  obtain ⟨hm, hn, hmin⟩ := pk_some hp
  have hbM : mget M b.1 = some b.2 := mget_mem h.nd hm
  obtain ⟨r1, r2, _⟩ := h.s1 b.1 b.2 hbM
  have hge : ∀ {o v}, mget M o = some v → o ∉ ks → wl v b.2 = false := fun {o v} q q2 => hmin (o, v) (mget_some q) (by
    cases e : isDone (trues ks) o with
    | false => rfl
    | true => exact absurd ((done_trues ks o).1 e) q2)
  have hbig : ∀ w : ByteArray, ¬ w.size ≤ 60 → wl w b.2 = false := fun w q => by
    rw [Bool.eq_false_iff]; intro q2
    have := wlO.size q2; omega
  refine .inr ⟨rfl, ⟨⟨b.1, hb, r1⟩, fun w o ho hr => ?_⟩, r2, r1.word⟩
  refine (Rch.all wlO ((M.filter fun p => isDone (trues ks) p.1).map fun p => (p.2, p.1)) (fun w => wl w b.2 = false) (fun {x y} g q => wlO.le_trans g q) (fun s hs t ht r e hr => ?_) (fun d o hd w' o' hn => ?_) hr).2 ho
  · by_cases h60 : t.size ≤ 60
    · obtain ⟨v, hv, hle⟩ := h.c0 s hs t ht r e hr h60
      by_cases hk : r ∈ ks
      · exact .inl ⟨v, List.mem_map.2 ⟨(r, v), List.mem_filter.2 ⟨mget_some hv, (done_trues ks _).2 hk⟩, rfl⟩, hle⟩
      · exact .inr (wlO.le_trans (hge hv hk) hle)
    · exact .inr (hbig t h60)
  · obtain ⟨q, hq, e⟩ := List.mem_map.1 hd
    obtain ⟨hq1, hq2⟩ := List.mem_filter.1 hq
    have eq : q = (o, d) := Prod.ext (congrArg Prod.snd e) (congrArg Prod.fst e)
    rw [eq] at hq1 hq2
    have hok : o ∈ ks := (done_trues ks o).1 hq2
    have hd' : mget M o = some d := mget_mem h.nd hq1
    by_cases h60 : w'.size ≤ 60
    · obtain ⟨v, hv, hle⟩ := h.c o hok d hd' w' o' hn h60
      by_cases hk : o' ∈ ks
      · exact ⟨fun _ => .inl ⟨v, List.mem_map.2 ⟨(o', v), List.mem_filter.2 ⟨mget_some hv, (done_trues ks _).2 hk⟩, rfl⟩, hle⟩, fun q => absurd q (h.kd.2 o' hk).1⟩
      · exact ⟨fun _ => .inr (wlO.le_trans (hge hv hk) hle), fun _ => wlO.le_trans (hge hv hk) hle⟩
    · exact ⟨fun _ => .inr (hbig w' h60), fun _ => hbig w' h60⟩
/-- An entry is taken. -/
theorem IInv.take {set : List ByteArray} (hz : ∀ s ∈ set, s.size ≤ 8) {M : List (ByteArray × ByteArray)} {ks : List ByteArray} (h : IInv set M ks) {b : ByteArray × ByteArray} (hp : pk M (trues ks) = some b) (hb : b.1.size ≠ 0) :
    b.1 ∉ ks ∧ ∃ M', sdN b.1 b.2 set M = some M' ∧ IInv set M' (ks ++ [b.1]) := by
  obtain ⟨hm, hn, hmin⟩ := pk_some hp
  have hbM : mget M b.1 = some b.2 := mget_mem h.nd hm
  have hnk : b.1 ∉ ks := fun q => by rw [(done_trues ks b.1).2 q] at hn; cases hn
  refine ⟨hnk, ?_⟩
  obtain ⟨r1, r2, r3⟩ := h.s1 b.1 b.2 hbM
  have hge : ∀ {o v}, mget M o = some v → o ∉ ks → wl v b.2 = false := fun {o v} q q2 => hmin (o, v) (mget_some q) (by
    cases e : isDone (trues ks) o with
    | false => rfl
    | true => exact absurd ((done_trues ks o).1 e) q2)
  let P : ByteArray → ByteArray → Prop := fun o w => Rch set w o ∧ Suf set o ∧ wl w b.2 = false
  have hP1 : ∀ t ∈ set, bgD b.1 t = true → P (bhd t b.1) b.2 := fun t ht q => by
    have e := bhd_app q
    exact ⟨r1.pop hb ht e, suf_behind r3 e, wl_irr _⟩
  have hP2 : ∀ t ∈ set, bgD b.1 t = false → bgD t b.1 = true → P (bhd b.1 t) (b.2 ++ bhd b.1 t) := fun t ht q0 q => by
    have e := bhd_app q
    have hne : (bhd b.1 t).size ≠ 0 := fun z => by
      rw [ext_nil0 b.1 z] at e
      rw [e] at q0
      have h1 := (app_bgD b.1 ⟨#[]⟩).1
      rw [ext_nil0 b.1 rfl] at h1
      rw [h1] at q0; cases q0
    exact ⟨r1.push hb ht e hne, suf_word ht e, wlO.le_ext _ _ hne⟩
  obtain ⟨M', k1, E, k3, k4⟩ := sdN_ok (P := P) b.1 b.2 r2 set M hz hP1 hP2
  refine ⟨M', k1, ?_⟩
  have hle : ∀ o d, mget M o = some d → o ∈ ks ++ [b.1] → wl b.2 d = false ∧ mget M' o = some d := fun o d q q2 => by
    have h1 : wl b.2 d = false := by
      rcases List.mem_append.1 q2 with q2 | q2
      · exact h.mo o q2 b.1 hnk d b.2 q hbM
      · have e := List.mem_singleton.1 q2
        rw [e, hbM] at q; cases q; exact wl_irr _
    exact ⟨h1, E.kp o d q fun o' w hPw => wlO.le_trans h1 hPw.2.2⟩
  have hin : ∀ o ∈ ks ++ [b.1], ∃ d, mget M o = some d := fun o q => by
    rcases List.mem_append.1 q with q | q
    · exact (h.kd.2 o q).2
    · rw [List.mem_singleton.1 q]; exact ⟨b.2, hbM⟩
  have hof : ∀ o d, mget M' o = some d → o ∈ ks ++ [b.1] → mget M o = some d := fun o d q q2 => by
    obtain ⟨d0, h0⟩ := hin o q2
    have := (hle o d0 h0 q2).2
    rw [this] at q; cases q; exact h0
  refine ⟨E.nd h.nd, fun o w hw => ?_, ⟨?_, fun k hk => ?_⟩, fun s hs t ht r e hr h60 => (h.c0 s hs t ht r e hr h60).evo E, fun o ho d hd w' o' hn2 h60 => ?_, fun o ho o' ho' d d' hd hd' => ?_⟩
  · rcases E.og o w hw with q | ⟨q, q2⟩
    · exact h.s1 o w q
    · exact ⟨q.1, q2, q.2.1⟩
  · rw [List.nodup_append]
    refine ⟨h.kd.1, by simp, fun a ha c hc q => ?_⟩
    rw [List.mem_singleton.1 hc] at q
    exact hnk (q ▸ ha)
  · refine ⟨?_, ?_⟩
    · rcases List.mem_append.1 hk with q | q
      · exact (h.kd.2 k q).1
      · rw [List.mem_singleton.1 q]; exact hb
    · obtain ⟨d, hd⟩ := hin k hk
      exact ⟨d, (hle k d hd hk).2⟩
  · have hdM := hof o d hd ho
    rcases List.mem_append.1 ho with q | q
    · exact (h.c o q d hdM w' o' hn2 h60).evo E
    · have e := List.mem_singleton.1 q
      rw [e] at hn2 hdM
      rw [hbM] at hdM
      cases hdM
      obtain ⟨t, ht, ⟨e1, rfl⟩ | ⟨e1, hr, rfl⟩⟩ := hn2
      · obtain ⟨a1, a2⟩ := app_bhd t o'
        rw [← e1] at a1 a2
        have := k3 t ht a1
        rw [a2] at this; exact this
      · obtain ⟨a1, a2⟩ := app_bhd b.1 o'
        rw [← e1] at a1 a2
        have h3 : bgD b.1 t = false := by
          rw [Bool.eq_false_iff]; intro q
          have := bgD_size q
          have h4 := congrArg ByteArray.size e1
          rw [ByteArray.size_append] at h4; omega
        have := k4 t ht h3 a1 (by rw [a2]; exact h60)
        rw [a2] at this; exact this
  · have hdM := hof o d hd ho
    have h1 := (hle o d hdM ho).1
    have ho1 : o' ∉ ks := fun q => ho' (List.mem_append_left _ q)
    rcases E.og o' d' hd' with q | ⟨q, _⟩
    · exact wlO.le_trans h1 (hge q ho1)
    · exact wlO.le_trans h1 q.2.2
theorem impl_main (set : List ByteArray) (hz : ∀ s ∈ set, s.size ≤ 8) : ∀ (u : Nat) (ks : List ByteArray) (M : List (ByteArray × ByteArray)), 9 * set.length - ks.length ≤ u → IInv set M ks → ∃ r, sdL set (u + 1) M (trues ks) = some r ∧ IPost set r := by
  intro u
  induction u with
  | zero =>
    intro ks M hu h
    cases hp : pk M (trues ks) with
    | none => exact ⟨_, by unfold sdL; rw [hp], h.none hp⟩
    | some b =>
      by_cases hb : b.1.size = 0
      · exact ⟨_, by unfold sdL; rw [hp]; exact if_pos ((toL_nilD _).2 hb), h.found hp hb⟩
      · obtain ⟨hnk, M', h1, h2⟩ := h.take hz hp hb
        have := h2.klen hz
        rw [List.length_append, List.length_singleton] at this
        omega
  | succ u ih =>
    intro ks M hu h
    cases hp : pk M (trues ks) with
    | none => exact ⟨_, by unfold sdL; rw [hp], h.none hp⟩
    | some b =>
      by_cases hb : b.1.size = 0
      · exact ⟨_, by unfold sdL; rw [hp]; exact if_pos ((toL_nilD _).2 hb), h.found hp hb⟩
      · obtain ⟨hnk, M', h1, h2⟩ := h.take hz hp hb
        obtain ⟨r, h3, h4⟩ := ih (ks ++ [b.1]) M' (by rw [List.length_append, List.length_singleton]; omega) h2
        refine ⟨r, ?_, h4⟩
        unfold sdL
        rw [hp]
        show (if b.1.toList = [] then _ else _) = _
        rw [if_neg (fun q => hb ((toL_nilD _).1 q)), h1, Option.bind_some, put_trues hnk]
        exact h3
theorem impl_all {set : List ByteArray} (hw : wset set) : ∃ r, Ev (fun k => impl_shortestDouble.f k set) r ∧ IPost set r := by
  have hz : ∀ s ∈ set, s.size ≤ 8 := fun s hs => by
    obtain ⟨i, hi, rfl⟩ := List.getElem_of_mem hs
    have := hw.2.1 i hi
    unfold wshort at this
    simp only [Bool.and_eq_true, decide_eq_true_eq] at this
    exact this.1.2
  have hdist : ∀ (i j : Nat) (hi : i < set.length) (hj : j < set.length), i ≠ j → set[i] ≠ set[j] := fun i j hi hj hij e => by
    rcases Nat.lt_or_ge i j with q | q
    · have := wset_lt hw q hj
      rw [e, wless_irrefl] at this; cases this
    · have := wset_lt hw (show j < i by omega) hi
      rw [e, wless_irrefl] at this; cases this
  have hne : ∀ {s t : ByteArray}, bgD t s = true → t ≠ s → (bhd s t).size ≠ 0 := fun {s t} h q z => q (by
    have e := bhd_app h
    rw [ext_nil0 s z] at e; exact e)
  obtain ⟨M, h1, E, h3⟩ := sdA_ok (P := fun o w => Rch set w o ∧ Suf set o) set set 0 [] (fun m s n t hm hn hb hi => by
    obtain ⟨hml, hme⟩ := List.getElem?_eq_some_iff.1 hm
    obtain ⟨hnl, hne'⟩ := List.getElem?_eq_some_iff.1 hn
    have hts : t ≠ s := by rw [← hme, ← hne']; exact hdist n m hnl hml (by omega)
    have hsm : s ∈ set := List.mem_of_getElem? hm
    have htm : t ∈ set := List.mem_of_getElem? hn
    exact ⟨Rch.init hsm htm (bhd_app hb) (hne hb hts), suf_word htm (bhd_app hb)⟩)
  have hinv : IInv set M [] := by
    refine ⟨E.nd (by simp), fun o w h => ?_, ⟨by simp, by simp⟩, fun s hs t ht r e hr h60 => ?_, by simp, by simp⟩
    · rcases E.og o w h with q | ⟨q, q2⟩
      · simp [mget] at q
      · exact ⟨q.1, q2, q.2⟩
    · obtain ⟨m, hm⟩ := List.mem_iff_getElem?.1 hs
      obtain ⟨n, hn⟩ := List.mem_iff_getElem?.1 ht
      obtain ⟨a1, a2⟩ := app_bhd s r
      rw [← e] at a1 a2
      have hmn : 0 + m ≠ n := fun q => by
        rw [Nat.zero_add] at q
        rw [q, hn] at hm
        have : t = s := by simpa using hm
        rw [this] at e
        exact hr (app_inj e)
      have := h3 m s n t hm hn a1 hmn h60
      rw [a2] at this; exact this
  obtain ⟨r, h4, h5⟩ := impl_main set hz (9 * set.length) [] M (by omega) hinv
  refine ⟨r, ⟨9 * set.length + 1, fun k hk => ?_⟩, h5⟩
  show impl_shortestDouble.f k set = some r
  unfold impl_shortestDouble.f
  rw [h1, Option.bind_some]
  exact at_rounds (g := fun k => sdL set k M (trues [])) (fun k => sdL.mono set k M (trues [])) hk h4

end Go.Proofs.YtgokegndboknfaaDoor.X
namespace Go.Proofs.YtgokegndboknfaaDoor.X
open Go.RowKit Go.Proofs.YtgokegndboknfaaDoorW.PrintWords Go.Proofs.YtgokegndboknfaaDoorW.PrintLast Go.Proofs.YtgokegndboknfaaDoorW.PrintMore Go.Proofs.YtgokegndboknfaaDoor

theorem rdT1 (T R : List Int) (a : Int) : rd (T ++ a :: R) (T.length : Int) = a := by
  rw [Pl.rd_nat _ _ (by simp)]
  simp
theorem rdT2 (T R : List Int) (j : Nat) (h : j < T.length) : rd (T ++ R) (j : Int) = rd T (j : Int) := by
  rw [Pl.rd_nat _ _ (by simp; omega), Pl.rd_nat _ _ h, List.getElem_append_left]
theorem setT (T R : List Int) (a b : Int) : (T ++ a :: R).set T.length b = T ++ b :: R := by
  simp
theorem rdR2 (i : Nat) (T : List Int) (a : Int) (c : Nat) (h1 : 1 ≤ c) (h2 : c ≤ T.length) : rd (List.replicate i 0 ++ a :: T.reverse) ((i + c : Nat) : Int) = rd T ((T.length - c : Nat) : Int) := by
  rw [Pl.rd_nat _ _ (by simp; omega), Pl.rd_nat _ _ (by omega), List.getElem_append_right (by simp)]
  simp only [List.length_replicate, show i + c - i = (c - 1) + 1 by omega, List.getElem_cons_succ, List.getElem_reverse]
  congr 1
  omega
/-- The sum over words, one after another, of what the table holds. -/
def stepA (cond : Nat → ByteArray → Bool) (T : List Int) (acc : Int) (ws : List ByteArray) : Int := ws.foldl (fun a t => if cond T.length t = true then wrap64 (a + rd T ((T.length - t.size : Nat) : Int)) else a) acc
def table (cond : Nat → ByteArray → Bool) (l : List ByteArray) : Nat → List Int
  | 0 => [1]
  | n + 1 => table cond l n ++ [stepA cond (table cond l n) 0 l]
theorem table_len (cond : Nat → ByteArray → Bool) (l : List ByteArray) (n : Nat) : (table cond l n).length = n + 1 := by
  induction n with
  | zero => rfl
  | succ n ih => rw [table, List.length_append, ih]; rfl
theorem stepA_take (cond : Nat → ByteArray → Bool) (T : List Int) (acc : Int) (l : List ByteArray) (i : Nat) (h : i < l.length) :
    stepA cond T acc (l.take (i + 1)) = if cond T.length l[i] = true then wrap64 (stepA cond T acc (l.take i) + rd T ((T.length - l[i].size : Nat) : Int)) else stepA cond T acc (l.take i) := by
  rw [List.take_succ_eq_append_getElem h]
  unfold stepA
  rw [List.foldl_append]
  rfl

end Go.Proofs.YtgokegndboknfaaDoor.X
namespace Go.Proofs.YtgokegndboknfaaDoor.X
open Go.RowKit Go.Proofs.YtgokegndboknfaaDoorW.PrintWords Go.Proofs.YtgokegndboknfaaDoorW.PrintLast Go.Proofs.YtgokegndboknfaaDoorW.PrintMore Go.Proofs.YtgokegndboknfaaDoor

def bgB (s t : ByteArray) : Bool := decide (t.size ≤ s.size) && ((s.extract 0 t.size).toList == t.toList)
theorem hasPrefix_bg (s t : ByteArray) : strings_HasPrefix.f s t = some (bgB s t) := by
  unfold strings_HasPrefix.f stringslite_HasPrefix.f bgB
  by_cases h : t.size ≤ s.size
  · rw [if_pos (by omega), if_pos (by omega), if_pos (by omega), decide_eq_true h]; rfl
  · rw [if_neg (by omega), decide_eq_false h]; rfl
theorem wdBegins_bg (s t : ByteArray) : spec_wdBegins.f s t = some (bgB s t) := by
  unfold spec_wdBegins.f bgB
  by_cases h : t.size ≤ s.size
  · rw [if_pos (by omega), if_pos (by omega), decide_eq_true h]; rfl
  · rw [if_neg (by omega), decide_eq_false h]; rfl
theorem bgB_size {s t : ByteArray} (h : bgB s t = true) : t.size ≤ s.size := by
  unfold bgB at h
  simp only [Bool.and_eq_true, decide_eq_true_eq] at h
  exact h.1
/-- The word t stands at the beginning of the last n letters of s. -/
def sufC (s : ByteArray) (n : Nat) (t : ByteArray) : Bool := bgB (s.extract (s.size - n) s.size) t
theorem sufC_size {s t : ByteArray} {n : Nat} (h : sufC s n t = true) (hn : n ≤ s.size) : t.size ≤ n := by
  have := bgB_size h
  rw [ByteArray.size_extract] at this
  omega
theorem readings_l (s : ByteArray) (l : List ByteArray) (hs : s.size ≤ 60) (hl : l.length ≤ 1048576) (h1 : ∀ t ∈ l, 1 ≤ t.size) (d : Nat) : ∀ n : Nat, n + 1 + d = s.size + 1 →
    Ev (fun k => impl_readings.l0 k l s (table (sufC s) l n ++ List.replicate (s.size - n) 0) ((n + 1 : Nat) : Int)) (table (sufC s) l s.size) := by
  induction d with
  | zero =>
    intro n hd
    obtain rfl : n = s.size := by omega
    refine Pl.succ ?_
    simp only [impl_readings.l0]
    exact Pl.neg (by omega) (Pl.ret (by simp))
  | succ d ih =>
    intro n hd
    obtain ⟨T, hT⟩ : ∃ T, table (sufC s) l n = T := ⟨_, rfl⟩
    have hTl : T.length = n + 1 := by rw [← hT, table_len]
    have hin : ∀ (e i : Nat), i + e = l.length → Ev (fun k => impl_readings.l1 k l s (T ++ stepA (sufC s) T 0 (l.take i) :: List.replicate (s.size - (n + 1)) 0) ((n + 1 : Nat) : Int) (s.extract (s.size - (n + 1)) s.size) l (l.length : Int) (i : Int)) (table (sufC s) l s.size) := by
      intro e
      induction e with
      | zero =>
        intro i hi
        obtain rfl : i = l.length := by omega
        refine Pl.succ ?_
        simp only [impl_readings.l1]
        rw [Pl.w64 (n := ((n + 1 : Nat) : Int) + 1) (by omega) (by omega)]
        refine Pl.neg (by omega) ?_
        have := ih (n + 1) (by omega)
        rw [table, hT, List.append_assoc] at this
        rw [List.take_length]
        exact this
      | succ e ihe =>
        intro i hi
        have hil : i < l.length := by omega
        have hi' := ihe (i + 1) (by omega)
        rw [stepA_take _ _ _ _ _ hil, hTl] at hi'
        refine Pl.succ ?_
        simp only [impl_readings.l1, hasPrefix_bg, Option.bind_some]
        rw [Pl.rdS_nat _ i hil, Pl.w64 (n := (i : Int) + 1) (by omega) (by omega)]
        refine Pl.pos (by omega) (Pl.pos (by omega) (Pl.pos (by omega) ?_))
        by_cases hc : sufC s (n + 1) l[i] = true
        · rw [if_pos hc] at hi'
          have hz := sufC_size hc (by omega)
          have hz1 := h1 _ (List.getElem_mem hil)
          rw [Pl.w64 (n := ((n + 1 : Nat) : Int) - (l[i].size : Int)) (by omega) (by omega), show ((n + 1 : Nat) : Int) - (l[i].size : Int) = ((n + 1 - l[i].size : Nat) : Int) by omega, Int.toNat_natCast]
          refine Pl.pos hc (Pl.pos (by omega) (Pl.pos (by simp; omega) (Pl.pos (by omega) (Pl.pos (by simp; omega) ?_))))
          rw [← hTl, rdT1, setT, rdT2 _ _ _ (by omega)]
          rw [hTl]
          exact hi'
        · rw [if_neg hc] at hi'
          exact Pl.neg hc hi'
    refine Pl.succ ?_
    simp only [impl_readings.l0]
    rw [Pl.w64 (n := (s.size : Int) - ((n + 1 : Nat) : Int)) (by omega) (by omega), show (s.size : Int) - ((n + 1 : Nat) : Int) = ((s.size - (n + 1) : Nat) : Int) by omega, Int.toNat_natCast]
    refine Pl.pos (by omega) (Pl.pos (by omega) (Pl.pos (by omega) ?_))
    have := hin l.length 0 (by omega)
    rw [hT, show s.size - n = (s.size - (n + 1)) + 1 by omega, List.replicate_succ]
    exact this
theorem readings (s : ByteArray) (l : List ByteArray) (hs : s.size ≤ 60) (hl : l.length ≤ 1048576) (h1 : ∀ t ∈ l, 1 ≤ t.size) : Ev (fun k => impl_readings.f k l s) (table (sufC s) l s.size) := by
  unfold impl_readings.f
  rw [Pl.w64 (by omega) (by omega), show ((s.size : Int) + 1) = ((s.size + 1 : Nat) : Int) by omega, Int.toNat_natCast]
  refine Pl.pos (by omega) (Pl.pos (by omega) (Ev.bind (Ev.now _) (Pl.pos (by simp) ?_)))
  have := readings_l s l hs hl h1 s.size 0 (by omega)
  rw [List.replicate_succ]
  exact this
theorem dc_l (s : ByteArray) (l : List ByteArray) (hs : s.size ≤ 60) (hl : l.length ≤ 1048576) (h1 : ∀ t ∈ l, 1 ≤ t.size) (d : Nat) : ∀ n : Nat, n + 1 + d = s.size + 1 →
    Ev (fun k => spec_dcCount.l0 k l s (List.replicate (s.size - n) 0 ++ (table (sufC s) l n).reverse) ((s.size : Int) - ((n + 1 : Nat) : Int))) (rd (table (sufC s) l s.size) (s.size : Int)) := by
  induction d with
  | zero =>
    intro n hd
    obtain rfl : n = s.size := by omega
    have hlen := table_len (sufC s) l s.size
    refine Pl.succ ?_
    simp only [spec_dcCount.l0]
    rw [Nat.sub_self, List.replicate_zero, List.nil_append]
    refine Pl.neg (by omega) (Pl.pos (by rw [List.length_reverse, hlen]; omega) (Pl.ret ?_))
    rw [show (0 : Int) = ((0 : Nat) : Int) from rfl, Pl.rd_nat _ _ (by rw [List.length_reverse, hlen]; omega), Pl.rd_nat _ _ (by omega), List.getElem_reverse]
    congr 1
    omega
  | succ d ih =>
    intro n hd
    obtain ⟨T, hT⟩ : ∃ T, table (sufC s) l n = T := ⟨_, rfl⟩
    have hTl : T.length = n + 1 := by rw [← hT, table_len]
    obtain ⟨q, hq⟩ : ∃ q, s.size - (n + 1) = q := ⟨_, rfl⟩
    have hin : ∀ (e i : Nat), i + e = l.length → Ev (fun k => spec_dcCount.l1 k l s (List.replicate q 0 ++ stepA (sufC s) T 0 (l.take i) :: T.reverse) (q : Int) l (l.length : Int) (i : Int)) (rd (table (sufC s) l s.size) (s.size : Int)) := by
      intro e
      induction e with
      | zero =>
        intro i hi
        obtain rfl : i = l.length := by omega
        refine Pl.succ ?_
        simp only [spec_dcCount.l1]
        rw [Pl.w64 (n := (q : Int) - 1) (by omega) (by omega)]
        refine Pl.neg (by omega) ?_
        have := ih (n + 1) (by omega)
        rw [table, hT, List.reverse_append, hq, show (s.size : Int) - ((n + 1 + 1 : Nat) : Int) = (q : Int) - 1 by omega] at this
        rw [List.take_length]
        exact this
      | succ e ihe =>
        intro i hi
        have hil : i < l.length := by omega
        have hi' := ihe (i + 1) (by omega)
        rw [stepA_take _ _ _ _ _ hil, hTl] at hi'
        refine Pl.succ ?_
        simp only [spec_dcCount.l1, wdBegins_bg, Option.bind_some]
        rw [Pl.rdS_nat _ i hil, Pl.w64 (n := (i : Int) + 1) (by omega) (by omega), Int.toNat_natCast]
        refine Pl.pos (by omega) (Pl.pos (by omega) (Pl.pos (by omega) (Pl.pos (by omega) (Pl.pos (by omega) ?_))))
        by_cases hc : sufC s (n + 1) l[i] = true
        · rw [if_pos hc] at hi'
          have hz := sufC_size hc (by omega)
          have hz1 := h1 _ (List.getElem_mem hil)
          rw [Pl.w64 (n := (q : Int) + (l[i].size : Int)) (by omega) (by omega), show (q : Int) + (l[i].size : Int) = ((q + l[i].size : Nat) : Int) by omega]
          refine Pl.pos (by rw [← hq]; exact hc) (Pl.pos (by simp; omega) (Pl.pos (by omega) (Pl.pos (by simp; omega) ?_)))
          have e1 : rd (List.replicate q 0 ++ stepA (sufC s) T 0 (l.take i) :: T.reverse) (q : Int) = stepA (sufC s) T 0 (l.take i) := by
            have := rdT1 (List.replicate q 0) T.reverse (stepA (sufC s) T 0 (l.take i))
            rwa [List.length_replicate] at this
          have e2 : ∀ b, (List.replicate q 0 ++ stepA (sufC s) T 0 (l.take i) :: T.reverse).set q b = List.replicate q 0 ++ b :: T.reverse := fun b => by
            have := setT (List.replicate q 0) T.reverse (stepA (sufC s) T 0 (l.take i)) b
            rwa [List.length_replicate] at this
          rw [e1, e2, rdR2 _ _ _ _ hz1 (by omega), hTl]
          exact hi'
        · rw [if_neg hc] at hi'
          exact Pl.neg (by rw [← hq]; exact hc) hi'
    refine Pl.succ ?_
    simp only [spec_dcCount.l0]
    rw [show (s.size : Int) - ((n + 1 : Nat) : Int) = (q : Int) by omega]
    refine Pl.pos (by omega) ?_
    have := hin l.length 0 (by omega)
    rw [hT, show s.size - n = q + 1 by omega, List.replicate_succ', List.append_assoc]
    exact this
theorem dcCount (s : ByteArray) (l : List ByteArray) (hs : s.size ≤ 60) (hl : l.length ≤ 1048576) (h1 : ∀ t ∈ l, 1 ≤ t.size) : Ev (fun k => spec_dcCount.f k l s) (rd (table (sufC s) l s.size) (s.size : Int)) := by
  unfold spec_dcCount.f
  rw [Pl.w64 (n := (s.size : Int) + 1) (by omega) (by omega), show ((s.size : Int) + 1) = ((s.size + 1 : Nat) : Int) by omega, Int.toNat_natCast, Int.toNat_natCast]
  rw [Pl.w64 (n := (s.size : Int) - 1) (by omega) (by omega)]
  refine Pl.pos (by omega) (Pl.pos (by omega) (Ev.bind (Ev.now _) (Pl.pos (by omega) (Pl.pos (by simp; omega) ?_))))
  have := dc_l s l hs hl h1 s.size 0 (by omega)
  have e : (List.replicate (s.size + 1) (0 : Int)).set s.size 1 = List.replicate s.size 0 ++ [1] := by
    rw [List.replicate_succ']
    have := setT (List.replicate s.size 0) [] 0 1
    rwa [List.length_replicate] at this
  rw [e]
  exact this
theorem set_pos {l : List ByteArray} (h : wset l) : ∀ t ∈ l, 1 ≤ t.size := fun t ht => by
  obtain ⟨i, hi, rfl⟩ := List.getElem_of_mem ht
  have := h.2.1 i hi
  unfold wshort at this
  simp only [Bool.and_eq_true, decide_eq_true_eq] at this
  exact this.1.1

end Go.Proofs.YtgokegndboknfaaDoor.X
namespace Go.Proofs.YtgokegndboknfaaDoor.X
open Go.RowKit Go.Proofs.YtgokegndboknfaaDoorW.PrintWords Go.Proofs.YtgokegndboknfaaDoorW.PrintLast Go.Proofs.YtgokegndboknfaaDoorW.PrintMore Go.Proofs.YtgokegndboknfaaDoor

/-- What is left behind a word. -/
def rst (s t : ByteArray) : ByteArray := s.extract t.size s.size
theorem rst_size (s t : ByteArray) : (rst s t).size = s.size - t.size := by unfold rst; rw [ByteArray.size_extract]; omega
def aR (g : ByteArray → List (List Int)) (s : ByteArray) : List ByteArray → Nat → List (List Int)
  | [], _ => []
  | t :: ws, i => (if bgB s t = true then (g (rst s t)).map (fun r => (i : Int) :: r) else []) ++ aR g s ws (i + 1)
def allR (set : List ByteArray) : Nat → ByteArray → List (List Int)
  | 0, _ => []
  | n + 1, s => if s.size = 0 then [[]] else aR (allR set n) s set 0
theorem aR_congr {g g' : ByteArray → List (List Int)} (s : ByteArray) : ∀ (ws : List ByteArray) (i : Nat), (∀ t ∈ ws, bgB s t = true → g (rst s t) = g' (rst s t)) → aR g s ws i = aR g' s ws i
  | [], _, _ => rfl
  | t :: ws, i, h => by
    rw [aR, aR, aR_congr s ws (i + 1) (fun u hu => h u (List.mem_cons_of_mem _ hu))]
    by_cases hb : bgB s t = true
    · rw [if_pos hb, if_pos hb, h t List.mem_cons_self hb]
    · rw [if_neg hb, if_neg hb]
theorem allR_stable (set : List ByteArray) (h1 : ∀ t ∈ set, 1 ≤ t.size) : ∀ (n m : Nat) (s : ByteArray), s.size < n → s.size < m → allR set n s = allR set m s
  | 0, _, _, h, _ => absurd h (Nat.not_lt_zero _)
  | _ + 1, 0, _, _, h => absurd h (Nat.not_lt_zero _)
  | n + 1, m + 1, s, hn, hm => by
    rw [allR, allR]
    by_cases hz : s.size = 0
    · rw [if_pos hz, if_pos hz]
    · rw [if_neg hz, if_neg hz]
      refine aR_congr s set 0 fun t ht hb => ?_
      have h2 := bgB_size hb
      have h3 := h1 t ht
      have e := rst_size s t
      exact allR_stable set h1 n m _ (by omega) (by omega)
/-- All readings of a word, in order. -/
def rds (set : List ByteArray) (s : ByteArray) : List (List Int) := allR set (s.size + 1) s
theorem rds_nil (set : List ByteArray) {s : ByteArray} (h : s.size = 0) : rds set s = [[]] := by unfold rds; rw [allR, if_pos h]
theorem rds_eq {set : List ByteArray} (h1 : ∀ t ∈ set, 1 ≤ t.size) {s : ByteArray} (h : s.size ≠ 0) : rds set s = aR (rds set) s set 0 := by
  have e : rds set s = aR (allR set s.size) s set 0 := by unfold rds; rw [allR, if_neg h]
  rw [e]
  refine aR_congr s set 0 fun t ht hb => ?_
  have h2 := bgB_size hb
  have h3 := h1 t ht
  have e := rst_size s t
  exact allR_stable set h1 _ _ _ (by omega) (by omega)
theorem aR_mem {g : ByteArray → List (List Int)} {s : ByteArray} {r : List Int} : ∀ {ws : List ByteArray} {i : Nat}, r ∈ aR g s ws i → ∃ (k : Nat) (hk : k < ws.length) (q : List Int), bgB s ws[k] = true ∧ q ∈ g (rst s ws[k]) ∧ r = ((i + k : Nat) : Int) :: q
  | [], _, h => by cases h
  | t :: ws, i, h => by
    rw [aR] at h
    rcases List.mem_append.1 h with h | h
    · by_cases hb : bgB s t = true
      · rw [if_pos hb] at h
        obtain ⟨q, hq, rfl⟩ := List.mem_map.1 h
        exact ⟨0, by simp, q, hb, hq, rfl⟩
      · rw [if_neg hb] at h; cases h
    · obtain ⟨k, hk, q, h1, h2, h3⟩ := aR_mem h
      exact ⟨k + 1, by simp; omega, q, h1, h2, by rw [h3]; congr 2; omega⟩
theorem rds_row {set : List ByteArray} (h1 : ∀ t ∈ set, 1 ≤ t.size) : ∀ (n : Nat) (s : ByteArray), s.size ≤ n → ∀ r ∈ rds set s, r.length ≤ s.size ∧ ∀ x ∈ r, 0 ≤ x ∧ x < (set.length : Int) := by
  intro n
  induction n with
  | zero =>
    intro s hs r hr
    rw [rds_nil set (by omega), List.mem_singleton] at hr
    subst hr
    exact ⟨by simp, fun x hx => by cases hx⟩
  | succ n ih =>
    intro s hs r hr
    by_cases hz : s.size = 0
    · rw [rds_nil set hz, List.mem_singleton] at hr
      subst hr
      exact ⟨by simp, fun x hx => by cases hx⟩
    · rw [rds_eq h1 hz] at hr
      obtain ⟨k, hk, q, hb, hq, rfl⟩ := aR_mem hr
      have h2 := bgB_size hb
      have h3 := h1 _ (List.getElem_mem hk)
      have e := rst_size s set[k]
      obtain ⟨h4, h5⟩ := ih _ (by omega) q hq
      refine ⟨by rw [List.length_cons]; omega, fun x hx => ?_⟩
      rcases List.mem_cons.1 hx with e | hx
      · subst e; exact ⟨by omega, by omega⟩
      · exact h5 x hx
/-- The last letters of a word. -/
def suf (s : ByteArray) (j : Nat) : ByteArray := s.extract (s.size - j) s.size
theorem suf_size (s : ByteArray) (j : Nat) (h : j ≤ s.size) : (suf s j).size = j := by unfold suf; rw [ByteArray.size_extract]; omega
theorem suf_all (s : ByteArray) : suf s s.size = s := by unfold suf; rw [Nat.sub_self]; exact ByteArray.extract_zero_size
theorem bts_extract (s : ByteArray) (i : Nat) : bts (s.extract i s.size) = (bts s).drop i := by
  show (s.extract i s.size).data.toList = _
  rw [ByteArray.data_extract, Array.toList_extract, List.extract_eq_take_drop]
  refine List.take_of_length_le ?_
  rw [List.length_drop]
  show (bts s).length - i ≤ _
  rw [bts_len]
  omega
theorem bts_injR {a b : ByteArray} (h : bts a = bts b) : a = b := ByteArray.ext (Array.toList_inj.1 h)
theorem rst_suf (s t : ByteArray) (j : Nat) (hj : j ≤ s.size) (ht : t.size ≤ j) : rst (suf s j) t = suf s (j - t.size) := by
  refine bts_injR ?_
  unfold rst
  rw [bts_extract]
  unfold suf
  rw [bts_extract, bts_extract, List.drop_drop]
  congr 1
  omega
theorem bgB_same {s t u : ByteArray} (h1 : bgB s t = true) (h2 : bgB s u = true) (h : t.size = u.size) : t = u := by
  unfold bgB at h1 h2
  simp only [Bool.and_eq_true, beq_iff_eq] at h1 h2
  refine Pl.ba_ext ?_
  rw [← h1.2, ← h2.2, h]
theorem wset_pw {set : List ByteArray} (h : wset set) : set.Pairwise (fun t u => wless t u = true) := by
  rw [List.pairwise_iff_getElem]
  intro i j hi hj hij
  exact wset_lt h hij hj
theorem stepR (set : List ByteArray) (s : ByteArray) (n : Nat) (T : List Int) (hT : T.length = n + 1) (hI : ∀ j : Nat, j ≤ n → rd T (j : Int) = ((rds set (suf s j)).length : Int) ∧ (rds set (suf s j)).length ≤ 2 ^ j) (hn : n + 1 ≤ s.size) (h60 : s.size ≤ 60) :
    ∀ (ws : List ByteArray) (i m acc : Nat), (∀ t ∈ ws, 1 ≤ t.size) → ws.Pairwise (fun t u => wless t u = true) → (∀ t ∈ ws, sufC s (n + 1) t = true → m < t.size) → m ≤ n + 1 → acc + 2 ^ (n + 1 - m) ≤ 2305843009213693952 →
    stepA (sufC s) T (acc : Int) ws = ((acc + (aR (rds set) (suf s (n + 1)) ws i).length : Nat) : Int) ∧ (aR (rds set) (suf s (n + 1)) ws i).length + 1 ≤ 2 ^ (n + 1 - m)
  | [], i, m, acc, _, _, _, _, _ => by
    refine ⟨by simp [stepA, aR], ?_⟩
    have := Nat.one_le_two_pow (n := n + 1 - m)
    simpa [aR] using this
  | t :: ws, i, m, acc, h1, hp, hm, hmn, hacc => by
    rw [List.pairwise_cons] at hp
    have e : stepA (sufC s) T (acc : Int) (t :: ws) = stepA (sufC s) T (if sufC s T.length t = true then wrap64 ((acc : Int) + rd T ((T.length - t.size : Nat) : Int)) else (acc : Int)) ws := rfl
    rw [e, hT, aR]
    have hsc : bgB (suf s (n + 1)) t = sufC s (n + 1) t := rfl
    rw [hsc]
    by_cases hc : sufC s (n + 1) t = true
    · rw [if_pos hc, if_pos hc]
      have hq := sufC_size hc hn
      have hmq := hm t List.mem_cons_self hc
      have ht1 := h1 t List.mem_cons_self
      obtain ⟨hr, hb⟩ := hI (n + 1 - t.size) (by omega)
      rw [hr, rst_suf s t (n + 1) hn hq]
      obtain ⟨Lq, hLq⟩ : ∃ Lq, rds set (suf s (n + 1 - t.size)) = Lq := ⟨_, rfl⟩
      rw [hLq] at hb ⊢
      have hpw : 2 * 2 ^ (n + 1 - t.size) ≤ 2 ^ (n + 1 - m) := by
        rw [Nat.mul_comm, ← Nat.pow_succ]
        exact Nat.pow_le_pow_right (by decide) (by omega)
      obtain ⟨P, hP⟩ : ∃ P, 2 ^ (n + 1 - t.size) = P := ⟨_, rfl⟩
      rw [hP] at hb hpw
      obtain ⟨q1, q2⟩ := stepR set s n T hT hI hn h60 ws (i + 1) t.size (acc + Lq.length) (fun u hu => h1 u (List.mem_cons_of_mem _ hu)) hp.2 (fun u hu hcu => by
        have h2 := wless_size (hp.1 u hu)
        rcases Nat.lt_or_ge t.size u.size with h3 | h3
        · exact h3
        · have := bgB_same hc hcu (by omega)
          subst this
          have h4 := hp.1 t hu
          rw [wless_irrefl] at h4
          cases h4) hq (by rw [hP]; omega)
      rw [Pl.w64 (by omega) (by omega), show ((acc : Int) + (Lq.length : Int)) = ((acc + Lq.length : Nat) : Int) by omega, q1]
      rw [hP] at q2
      refine ⟨?_, ?_⟩
      · rw [List.length_append, List.length_map]; congr 1; omega
      · rw [List.length_append, List.length_map]; omega
    · rw [if_neg hc, if_neg hc, List.nil_append]
      exact stepR set s n T hT hI hn h60 ws (i + 1) m acc (fun u hu => h1 u (List.mem_cons_of_mem _ hu)) hp.2 (fun u hu => hm u (List.mem_cons_of_mem _ hu)) hmn hacc
theorem cnt_ok {set : List ByteArray} (h : wset set) (s : ByteArray) (h60 : s.size ≤ 60) : ∀ n : Nat, n ≤ s.size → ∀ j : Nat, j ≤ n → rd (table (sufC s) set n) (j : Int) = ((rds set (suf s j)).length : Int) ∧ (rds set (suf s j)).length ≤ 2 ^ j
  | 0, _, j, hj => by
    obtain rfl : j = 0 := by omega
    rw [rds_nil set (suf_size s 0 (by omega))]
    exact ⟨rfl, by simp⟩
  | n + 1, hn, j, hj => by
    have ih := cnt_ok h s h60 n (by omega)
    have hT := table_len (sufC s) set n
    obtain ⟨T, hTe⟩ : ∃ T, table (sufC s) set n = T := ⟨_, rfl⟩
    have hcons : table (sufC s) set (n + 1) = T ++ stepA (sufC s) T 0 set :: [] := by rw [table, hTe]
    rw [hTe] at ih hT
    rw [hcons]
    by_cases hjn : j ≤ n
    · rw [rdT2 _ _ j (by omega)]
      exact ih j hjn
    · obtain rfl : j = n + 1 := by omega
      have e := rdT1 T [] (stepA (sufC s) T 0 set)
      rw [hT] at e
      rw [e]
      have h1 := set_pos h
      have hp2 : 2 ^ (n + 1) ≤ 2 ^ 60 := Nat.pow_le_pow_right (by decide) (by omega)
      obtain ⟨q1, q2⟩ := stepR set s n T hT ih hn h60 set 0 0 0 h1 (wset_pw h) (fun t ht _ => h1 t ht) (by omega) (by rw [Nat.sub_zero]; omega)
      rw [Nat.sub_zero] at q2
      have hz := suf_size s (n + 1) hn
      rw [rds_eq h1 (s := suf s (n + 1)) (by omega)]
      refine ⟨?_, by omega⟩
      rw [Nat.zero_add] at q1
      exact q1
theorem cnt_all {set : List ByteArray} (h : wset set) (s : ByteArray) (h60 : s.size ≤ 60) : rd (table (sufC s) set s.size) (s.size : Int) = ((rds set s).length : Int) := by
  have := (cnt_ok h s h60 s.size (by omega) s.size (by omega)).1
  rwa [suf_all] at this
theorem take_take_app {α : Type} (n : Nat) (a b : List α) : (a.take n ++ b).take n = (a ++ b).take n := by
  rw [List.take_append, List.take_append, List.take_take, Nat.min_self, List.length_take]
  congr 2
  omega
theorem rdL_nat (l : List (List Int)) (i : Nat) (h : i < l.length) : rd_L3 l (i : Int) = l[i] := by
  simp [rd_L3, List.getD_eq_getElem?_getD, h]
theorem toL_nil {s : ByteArray} : s.toList = [] ↔ s.size = 0 := by
  have e : s.toList = bts s := Pl.toL s
  rw [e, ← List.length_eq_zero_iff, bts_len]
theorem dcReadings {set : List ByteArray} (h : wset set) : ∀ (d : Nat) (s : ByteArray) (most : Nat), s.size ≤ d → s.size ≤ 60 → 1 ≤ most → most ≤ 1000 → Ev (fun k => spec_dcReadings.f k set s (most : Int)) ((rds set s).take most) := by
  have h1 := set_pos h
  have hl12 := h.1
  intro d
  induction d with
  | zero =>
    intro s most hd h60 hm1 hm2
    refine Pl.succ ?_
    simp only [spec_dcReadings.f]
    refine Pl.pos (toL_nil.2 (by omega)) (Pl.ret ?_)
    rw [rds_nil set (by omega), List.take_of_length_le (by simpa using hm1)]
  | succ d ih =>
    intro s most hd h60 hm1 hm2
    refine Pl.succ ?_
    simp only [spec_dcReadings.f]
    by_cases hz : s.size = 0
    · refine Pl.pos (toL_nil.2 hz) (Pl.ret ?_)
      rw [rds_nil set hz, List.take_of_length_le (by simpa using hm1)]
    refine Pl.neg (fun q => hz (toL_nil.1 q)) ?_
    rw [rds_eq h1 hz]
    have hin : ∀ (e i : Nat), i + e = set.length → ∀ L : List (List Int), L.length < most → Ev (fun k => spec_dcReadings.l0 k set s (most : Int) L set (set.length : Int) (i : Int)) ((L ++ aR (rds set) s (set.drop i) i).take most) := by
      intro e
      induction e with
      | zero =>
        intro i hi L hL
        refine Pl.succ ?_
        simp only [spec_dcReadings.l0]
        refine Pl.neg (by omega) (Pl.ret ?_)
        rw [List.drop_of_length_le (by omega), aR, List.append_nil, List.take_of_length_le (by omega)]
      | succ e ihe =>
        intro i hi L hL
        have hil : i < set.length := by omega
        have hi' := ihe (i + 1) (by omega)
        rw [List.drop_eq_getElem_cons hil, aR]
        refine Pl.succ ?_
        simp only [spec_dcReadings.l0, wdBegins_bg, Option.bind_some]
        rw [Pl.rdS_nat _ i hil]
        refine Pl.pos (by omega) (Pl.pos (by omega) (Pl.pos (by omega) ?_))
        have hnext : ∀ M : List (List Int), M.length < most → Ev (fun k => spec_dcReadings.l0 k set s (most : Int) M set (set.length : Int) (wrap64 ((i : Int) + 1))) ((M ++ aR (rds set) s (set.drop (i + 1)) (i + 1)).take most) := by
          intro M hM
          rw [Pl.w64 (n := (i : Int) + 1) (by omega) (by omega)]
          exact hi' M hM
        generalize hx : set[i] = x at *
        have hx1 : 1 ≤ x.size := by rw [← hx]; exact h1 _ (List.getElem_mem hil)
        by_cases hb : bgB s x = true
        · have hbz := bgB_size hb
          have hrz := rst_size s x
          rw [if_pos hb]
          refine Pl.pos hb (Pl.pos (by omega) (Pl.pos (by omega) ?_))
          rw [Int.toNat_natCast]
          have hdc := dcCount (rst s x) set (by omega) (by omega) h1
          rw [cnt_all h (rst s x) (by omega)] at hdc
          refine Ev.bind hdc (Pl.succ ?_)
          simp only [spec_dcReadings.j1]
          by_cases hz0 : (rds set (rst s x)).length = 0
          · rw [hz0]
            have : rds set (rst s x) = [] := List.length_eq_zero_iff.1 hz0
            rw [this, List.map_nil, List.nil_append]
            exact Pl.pos rfl (hnext L hL)
          · refine Pl.neg (fun q => hz0 (by have := beq_iff_eq.1 q; omega)) (Pl.pos (by omega) (Pl.pos (by omega) ?_))
            rw [Int.toNat_natCast, Pl.w64 (n := (most : Int) - (L.length : Int)) (by omega) (by omega), show (most : Int) - (L.length : Int) = ((most - L.length : Nat) : Int) by omega]
            have hrec := ih (rst s x) (most - L.length) (by omega) (by omega) (by omega) (by omega)
            refine Ev.bind hrec ?_
            obtain ⟨Y, hY⟩ : ∃ Y, (rds set (rst s x)).take (most - L.length) = Y := ⟨_, rfl⟩
            have hYl : L.length + Y.length ≤ most := by rw [← hY, List.length_take]; omega
            have hYr : ∀ r ∈ Y, r.length ≤ 60 := fun r hr => by
              rw [← hY] at hr
              have := (rds_row h1 (rst s x).size (rst s x) (by omega) r (List.mem_of_mem_take hr)).1
              omega
            have hYe : (L ++ ((rds set (rst s x)).map (fun r => (i : Int) :: r) ++ aR (rds set) s (set.drop (i + 1)) (i + 1))).take most = ((L ++ Y.map (fun r => (i : Int) :: r)) ++ aR (rds set) s (set.drop (i + 1)) (i + 1)).take most := by
              rw [← List.append_assoc, ← take_take_app most (L ++ (rds set (rst s x)).map (fun r => (i : Int) :: r)), ← take_take_app most (L ++ Y.map (fun r => (i : Int) :: r))]
              congr 2
              rw [List.take_append, List.take_append, ← List.map_take, ← List.map_take, ← hY, List.take_take, Nat.min_self]
            rw [hY, hYe]
            have hj : ∀ (e m : Nat), m + e = Y.length → Ev (fun k => spec_dcReadings.l1 k set s (most : Int) (L ++ (Y.take m).map (fun r => (i : Int) :: r)) (i : Int) set (set.length : Int) (i : Int) Y (Y.length : Int) (m : Int)) (((L ++ Y.map (fun r => (i : Int) :: r)) ++ aR (rds set) s (set.drop (i + 1)) (i + 1)).take most) := by
              intro e
              induction e with
              | zero =>
                intro m hm
                obtain rfl : m = Y.length := by omega
                rw [List.take_length]
                refine Pl.succ ?_
                simp only [spec_dcReadings.l1]
                refine Pl.neg (by omega) ?_
                have hll : (L ++ Y.map (fun r => (i : Int) :: r)).length = L.length + Y.length := by simp
                by_cases hfull : L.length + Y.length = most
                · refine Pl.pos (by rw [hll]; omega) (Pl.ret ?_)
                  rw [List.take_append_of_le_length (by omega), List.take_of_length_le (by omega)]
                · exact Pl.neg (by rw [hll]; omega) (hnext _ (by omega))
              | succ e ihm =>
                intro m hm
                have hml : m < Y.length := by omega
                refine Pl.succ ?_
                simp only [spec_dcReadings.l1]
                have hll : (L ++ (Y.take m).map (fun r => (i : Int) :: r)).length = L.length + m := by simp; omega
                rw [rdL_nat Y m hml, hll]
                refine Pl.pos (by omega) (Pl.pos (by omega) (Pl.pos (by omega) (Pl.pos (by omega) (Ev.bind (Ev.now [(i : Int)]) (Pl.pos ?_ (Pl.pos (by omega) ?_))))))
                · have := hYr _ (List.getElem_mem hml)
                  simp only [List.length_cons, List.length_nil]
                  omega
                · rw [Pl.w64 (n := (m : Int) + 1) (by omega) (by omega)]
                  have := ihm (m + 1) (by omega)
                  rw [List.take_succ_eq_append_getElem hml, List.map_append, List.map_singleton, ← List.append_assoc] at this
                  exact this
            have := hj Y.length 0 (by omega)
            rw [List.take_zero, List.map_nil, List.append_nil] at this
            exact this
        · rw [if_neg hb, List.nil_append]
          refine Pl.neg hb (Pl.succ ?_)
          simp only [spec_dcReadings.j1]
          exact Pl.pos (by first | rfl | trivial) (hnext L hL)
    have := hin set.length 0 (by omega) [] (by simp; omega)
    rw [List.nil_append, List.drop_zero] at this
    exact this
theorem frW_ok {set : List ByteArray} (h : wset set) (s0 : ByteArray) (h60 : s0.size ≤ 60) (most : Nat) (g : List Int → ByteArray → List (List Int) → Option (List (List Int))) (done : List Int) (j : Nat) (hj : j ≤ s0.size)
    (hg : ∀ (t : ByteArray) (i : Nat) (L : List (List Int)), 1 ≤ t.size → t.size ≤ j → L.length < most → g (done ++ [(i : Int)]) (suf s0 (j - t.size)) L = some ((L ++ (rds set (suf s0 (j - t.size))).map (fun r => (done ++ [(i : Int)]) ++ r)).take most)) :
    ∀ (ws : List ByteArray) (i : Nat) (L : List (List Int)), (∀ t ∈ ws, 1 ≤ t.size) → L.length ≤ most →
    frW g (table (sufC s0) set s0.size) (most : Int) done (suf s0 j) ws i L = some ((L ++ (aR (rds set) (suf s0 j) ws i).map (fun r => done ++ r)).take most)
  | [], i, L, _, hL => by
    rw [frW, aR, List.map_nil, List.append_nil, List.take_of_length_le hL]
  | x :: ws, i, L, h1, hL => by
    have ih := fun L' => frW_ok h s0 h60 most g done j hj hg ws (i + 1) L' (fun t ht => h1 t (List.mem_cons_of_mem _ ht))
    have hx1 := h1 x List.mem_cons_self
    have hz := suf_size s0 j hj
    have hbb : begB (suf s0 j) x = bgB (suf s0 j) x := rfl
    rw [frW, aR, List.map_append, hbb]
    by_cases hb : bgB (suf s0 j) x = true
    · have hbz := bgB_size hb
      rw [if_pos hb]
      have hrd : rd (table (sufC s0) set s0.size) (((suf s0 j).size : Int) - (x.size : Int)) = ((rds set (suf s0 (j - x.size))).length : Int) := by
        rw [hz, show (j : Int) - (x.size : Int) = ((j - x.size : Nat) : Int) by omega]
        exact (cnt_ok h s0 h60 s0.size (Nat.le_refl _) (j - x.size) (by omega)).1
      have hre : (suf s0 j).extract x.size (suf s0 j).size = suf s0 (j - x.size) := rst_suf s0 x j hj (by omega)
      have hre2 : rst (suf s0 j) x = suf s0 (j - x.size) := hre
      rw [hrd, hre, hre2]
      by_cases hlt : L.length < most
      · by_cases hpos : 0 < (rds set (suf s0 (j - x.size))).length
        · have hmap : ((rds set (suf s0 (j - x.size))).map (fun r => (i : Int) :: r)).map (fun r => done ++ r) = (rds set (suf s0 (j - x.size))).map (fun r => (done ++ [(i : Int)]) ++ r) := by
            rw [List.map_map]
            exact List.map_congr_left fun r _ => by simp
          have hlt' : (L.length : Int) < (most : Int) := by omega
          have hpos' : (0 : Int) < ((rds set (suf s0 (j - x.size))).length : Int) := by omega
          have hg' := hg x i L hx1 (by omega) hlt
          have hi' := ih (((L ++ (rds set (suf s0 (j - x.size))).map (fun r => (done ++ [(i : Int)]) ++ r)).take most)) (by rw [List.length_take]; omega)
          rw [take_take_app, List.append_assoc] at hi'
          rw [if_pos ⟨hlt', hb, hpos'⟩, hg', Option.bind_some, hi', hmap]
        · have : rds set (suf s0 (j - x.size)) = [] := List.length_eq_zero_iff.1 (by omega)
          rw [if_neg (by intro q; have := q.2.2; omega), ih L hL, this]
          rfl
      · rw [if_neg (by intro q; have := q.1; omega), ih L hL]
        congr 1
        rw [List.take_append_of_le_length (by omega), List.take_append_of_le_length (by omega)]
    · rw [if_neg (fun q => hb q.2.1), if_neg hb, ih L hL, List.map_nil, List.nil_append]
theorem frL_ok {set : List ByteArray} (h : wset set) (s0 : ByteArray) (h60 : s0.size ≤ 60) (most : Nat) (hm : most ≤ 1000) : ∀ (n : Nat) (done : List Int) (j : Nat) (L : List (List Int)), j < n → j ≤ s0.size → done.length + j ≤ 1000 → L.length < most →
    frL set (table (sufC s0) set s0.size) (most : Int) n done (suf s0 j) L = some ((L ++ (rds set (suf s0 j)).map (fun r => done ++ r)).take most)
  | 0, _, _, _, h, _, _, _ => absurd h (Nat.not_lt_zero _)
  | n + 1, done, j, L, hjn, hj, hd, hL => by
    have hz := suf_size s0 j hj
    rw [frL, if_pos ⟨by omega, by omega, by rw [table_len]; omega⟩]
    by_cases h0 : j = 0
    · subst h0
      rw [if_pos (toL_nil.2 hz), rds_nil set hz, List.map_singleton, List.append_nil, List.take_of_length_le (by simp; omega)]
    · rw [if_neg (fun q => by have := toL_nil.1 q; omega), rds_eq (set_pos h) (s := suf s0 j) (by omega)]
      refine frW_ok h s0 h60 most _ done j hj (fun t i L' h1 h2 h3 => ?_) set 0 L (set_pos h) (by omega)
      exact frL_ok h s0 h60 most hm n _ _ L' (by omega) (by omega) (by rw [List.length_append, List.length_singleton]; omega) h3
theorem firstReadings {set : List ByteArray} (h : wset set) (s : ByteArray) (h60 : s.size ≤ 60) (most : Nat) (hm1 : 1 ≤ most) (hm : most ≤ 1000) : Ev (fun k => impl_firstReadings.f k set s (most : Int)) ((rds set s).take most) := by
  unfold impl_firstReadings.f
  refine Ev.bind (readings s set h60 (by have := h.1; omega) (set_pos h)) (Pl.pos (by omega) ⟨s.size + 1, fun k hk => ?_⟩)
  have := frL_ok h s h60 most hm k [] s.size [] (by omega) (Nat.le_refl _) (by simp; omega) (by simp; omega)
  rw [suf_all, List.nil_append] at this
  simp only [List.nil_append, List.map_id'] at this
  exact this

end Go.Proofs.YtgokegndboknfaaDoor.X
namespace Go.Proofs.YtgokegndboknfaaDoor.X
open Go.RowKit Go.Proofs.YtgokegndboknfaaDoorW.PrintWords Go.Proofs.YtgokegndboknfaaDoorW.PrintLast Go.Proofs.YtgokegndboknfaaDoorW.PrintMore Go.Proofs.YtgokegndboknfaaDoor

theorem set_small {l : List ByteArray} (h : wset l) : ∀ s ∈ l, 1 ≤ s.size ∧ s.size ≤ 8 := fun s hs => by
  obtain ⟨i, hi, rfl⟩ := List.getElem_of_mem hs
  have := h.2.1 i hi
  unfold wshort at this
  simp only [Bool.and_eq_true, decide_eq_true_eq] at this
  exact this.1
theorem shortest_both (l : List ByteArray) (hl : l.length ≤ 1048576) : ∃ v : ByteArray × Bool, Ev (fun k => spec_ShortestDouble.f k l) v ∧ Ev (fun k => impl_ShortestDouble.f k l) v ∧ (v.2 = true → wset l ∧ v.1.size ≤ 60 ∧ v.1.size ≠ 0 ∧ ∃ o : ByteArray, o.size = 0 ∧ Rch l v.1 o) := by
  unfold spec_ShortestDouble.f impl_ShortestDouble.f
  by_cases h : wset l
  · have hz : ∀ s ∈ l, s.size ≤ 8 := fun s hs => (set_small h s hs).2
    obtain ⟨v, h1, hv⟩ := spec_all l h.1 hz
    obtain ⟨⟨r1, r2⟩, h2, hr⟩ := impl_all h
    refine ⟨(r1, r2), Ev.bind (wdSet l) (Pl.pos (decide_eq_true h) (Ev.bind h1 ?_)), Ev.bind (isSet l (by omega)) (Pl.pos (decide_eq_true h) (Ev.bind h2 (Pl.ret rfl))), fun ht => ?_⟩
    · rcases hv with ⟨v0, hno⟩ | ⟨v0, ⟨o, ho, hro⟩, hmin⟩
      · refine Pl.pos ((toL_nilD _).2 v0) (Pl.ret ?_)
        rcases hr with ⟨e, _⟩ | ⟨_, ⟨⟨o, ho, hro⟩, _⟩, _⟩
        · exact e.symm
        · exact absurd hro (hno _ o ho)
      · refine Pl.neg (fun q => v0 ((toL_nilD _).1 q)) ?_
        rcases hr with ⟨e, hbig⟩ | ⟨e, ⟨⟨o2, ho2, hro2⟩, hmin2⟩, h60, _⟩
        · have := hbig v o ho hro
          exact Pl.pos (by omega) (Pl.ret e.symm)
        · simp only at e hro2 hmin2 h60
          have hv : v = r1 := wl_tot (hmin2 v o ho hro) (hmin r1 o2 ho2 hro2)
          subst hv
          exact Pl.neg (by omega) (Pl.ret (by rw [e]))
    · rcases hr with ⟨e, _⟩ | ⟨_, ⟨hrr, _⟩, h60, hne⟩
      · have e2 : r2 = false := congrArg Prod.snd e
        rw [e2] at ht; cases ht
      · exact ⟨h, h60, hne, hrr⟩
  · exact ⟨(⟨#[]⟩, false), Ev.bind (wdSet l) (Pl.neg (by simp [h]) (Pl.ret rfl)), Ev.bind (isSet l (by omega)) (Pl.neg (by simp [h]) (Pl.ret rfl)), fun q => by cases q⟩
/-! ### Two readings -/
/-- What the words with these numbers are, one behind the other. -/
inductive Cat (set : List ByteArray) : List Nat → List UInt8 → Prop
  | nil : Cat set [] []
  | cons {k : Nat} (hk : k < set.length) {A : List Nat} {b : List UInt8} (h : Cat set A b) : Cat set (k :: A) (bts set[k] ++ b)
theorem Cat.snoc {set : List ByteArray} {A : List Nat} {b : List UInt8} (h : Cat set A b) {k : Nat} (hk : k < set.length) : Cat set (A ++ [k]) (b ++ bts set[k]) := by
  induction h with
  | nil => have := Cat.cons hk (Cat.nil (set := set)); simpa using this
  | cons hk' h ih => rw [List.cons_append, List.append_assoc]; exact Cat.cons hk' ih
theorem Rch.two {set : List ByteArray} {w o : ByteArray} (h : Rch set w o) : ∃ (a b : Nat) (A B : List Nat) (bb : List UInt8), a ≠ b ∧ Cat set (a :: A) (bts w) ∧ Cat set (b :: B) bb ∧ bb ++ bts o = bts w := by
  induction h with
  | @init s t r hs ht e hr =>
    obtain ⟨i, hi, rfl⟩ := List.getElem_of_mem hs
    obtain ⟨j, hj, rfl⟩ := List.getElem_of_mem ht
    refine ⟨j, i, [], [], bts set[i], fun q => ?_, by have := Cat.cons hj (Cat.nil (set := set)); simpa using this, by have := Cat.cons hi (Cat.nil (set := set)); simpa using this, by rw [← bts_app, ← e]⟩
    subst q
    exact hr (app_inj e)
  | @pop w o t r h ho ht e ih =>
    obtain ⟨a, b, A, B, bb, h1, h2, h3, h4⟩ := ih
    obtain ⟨j, hj, rfl⟩ := List.getElem_of_mem ht
    exact ⟨a, b, A, B ++ [j], bb ++ bts set[j], h1, h2, h3.snoc hj, by rw [← h4, e, bts_app, List.append_assoc]⟩
  | @push w o t r h ho ht e hr ih =>
    obtain ⟨a, b, A, B, bb, h1, h2, h3, h4⟩ := ih
    obtain ⟨j, hj, rfl⟩ := List.getElem_of_mem ht
    refine ⟨b, a, B ++ [j], A, bts w, Ne.symm h1, ?_, h2, by rw [bts_app]⟩
    have := h3.snoc hj
    rw [e, bts_app, ← List.append_assoc, h4, ← bts_app] at this
    exact this
theorem bgB_D (s t : ByteArray) : bgB s t = bgD s t := Option.some.inj ((wdBegins_bg s t).symm.trans (wdBegins_d s t))
theorem aR_in {g : ByteArray → List (List Int)} {s : ByteArray} : ∀ (ws : List ByteArray) (i k : Nat) (hk : k < ws.length) (q : List Int), bgB s ws[k] = true → q ∈ g (rst s ws[k]) → ((i + k : Nat) : Int) :: q ∈ aR g s ws i
  | [], _, _, hk, _, _, _ => absurd hk (by simp)
  | t :: ws, i, 0, hk, q, hb, hq => by
    rw [aR]
    refine List.mem_append_left _ ?_
    have hb' : bgB s t = true := hb
    rw [if_pos hb']
    exact List.mem_map.2 ⟨q, hq, rfl⟩
  | t :: ws, i, k + 1, hk, q, hb, hq => by
    rw [aR]
    refine List.mem_append_right _ ?_
    have := aR_in (g := g) (s := s) ws (i + 1) k (by simpa using hk) q hb hq
    rwa [show i + 1 + k = i + (k + 1) by omega] at this
theorem cat_rds {set : List ByteArray} (h1 : ∀ t ∈ set, 1 ≤ t.size) : ∀ (A : List Nat) (s : ByteArray), Cat set A (bts s) → (A.map Int.ofNat) ∈ rds set s
  | [], s, h => by
    have hs : s.size = 0 := by
      have e : bts s = [] := by generalize bts s = x at h; cases h; rfl
      rw [← bts_len s, e]; rfl
    rw [rds_nil set hs]; exact List.mem_singleton.2 rfl
  | k :: A, s, h => by
    obtain ⟨b, hb, hk, hA⟩ : ∃ (b : List UInt8) (_ : bts s = (if hk : k < set.length then bts set[k] else []) ++ b) (hk : k < set.length), Cat set A b := by
      generalize hx : bts s = x at h
      cases h with
      | cons hk hA => exact ⟨_, by rw [dif_pos hk], hk, hA⟩
    rw [dif_pos hk] at hb
    have hsz : 1 ≤ (set[k]).size := h1 _ (List.getElem_mem hk)
    have hpre : bgD s set[k] = true := (bgD_iff _ _).2 (by rw [hb]; exact List.prefix_append _ _)
    have hs : s.size ≠ 0 := by have := bgD_size hpre; omega
    have hr : bts (rst s set[k]) = b := by
      have e := bgD_app hpre
      have e2 : bts s = bts set[k] ++ bts (rst s set[k]) := by
        have := congrArg bts e
        rwa [bts_app] at this
      rw [hb] at e2
      exact (List.append_cancel_left e2).symm
    rw [rds_eq h1 hs]
    have := aR_in (g := rds set) (s := s) set 0 k hk (A.map Int.ofNat) (by rw [bgB_D]; exact hpre) (cat_rds h1 A _ (by rw [hr]; exact hA))
    rwa [Nat.zero_add] at this
theorem two_rds {set : List ByteArray} (h1 : ∀ t ∈ set, 1 ≤ t.size) {w o : ByteArray} (h : Rch set w o) (ho : o.size = 0) : ∃ (x y : List Int) (L : List (List Int)), rds set w = x :: y :: L := by
  obtain ⟨a, b, A, B, bb, hab, c1, c2, e⟩ := h.two
  have eo : bts o = [] := List.eq_nil_of_length_eq_zero (by rw [bts_len, ho])
  rw [eo, List.append_nil] at e
  rw [e] at c2
  have m1 := cat_rds h1 _ w c1
  have m2 := cat_rds h1 _ w c2
  match hl : rds set w with
  | [] => rw [hl] at m1; cases m1
  | [x] =>
    rw [hl] at m1 m2
    have e1 := List.mem_singleton.1 m1
    have e2 := List.mem_singleton.1 m2
    rw [← e2, List.map_cons, List.map_cons] at e1
    have h9 : (a : Int) = (b : Int) := (List.cons.inj e1).1
    omega
  | x :: y :: L => exact ⟨x, y, L, rfl⟩

end Go.Proofs.YtgokegndboknfaaDoor.X
namespace Go.Proofs.YtgokegndboknfaaDoor.X
open Go.RowKit Go.Proofs.YtgokegndboknfaaDoorW.PrintWords Go.Proofs.YtgokegndboknfaaDoorW.PrintLast Go.Proofs.YtgokegndboknfaaDoorW.PrintMore Go.Proofs.YtgokegndboknfaaDoor

theorem eqStringS_l (l : List ByteArray) (hl : l.length ≤ 4611686018427387904) (d : Nat) : ∀ (i : Nat), l.length - i = d → i ≤ l.length → Ev (fun k => laws_eqStringS.l0 k l l (i : Int)) true := by
  induction d with
  | zero =>
    intro i hd hi
    refine Pl.succ ?_
    simp only [laws_eqStringS.l0]
    exact Pl.neg (by omega) (Pl.ret rfl)
  | succ d ih =>
    intro i hd hi
    refine Pl.succ ?_
    simp only [laws_eqStringS.l0]
    refine Pl.pos (by omega) (Pl.pos (by omega) (Pl.pos (by omega) (Pl.pos (by first | rfl | trivial) ?_)))
    rw [Pl.w64 (by omega) (by omega)]
    exact ih (i + 1) (by omega) (by omega)
theorem eqStringS (l : List ByteArray) (hl : l.length ≤ 4611686018427387904) : Ev (fun k => laws_eqStringS.f k l l) true := by
  unfold laws_eqStringS.f
  exact Pl.pos rfl (eqStringS_l l hl l.length 0 (by omega) (by omega))


end Go.Proofs.YtgokegndboknfaaDoor.X
namespace Go.Proofs.YtgokegndboknfaaDoor.X
open Go.RowKit Go.Proofs.YtgokegndboknfaaDoorW.PrintWords Go.Proofs.YtgokegndboknfaaDoorW.PrintLast Go.Proofs.YtgokegndboknfaaDoorW.PrintMore Go.Proofs.YtgokegndboknfaaDoor

theorem toStringS_l (l : List ByteArray) (hl : l.length ≤ 1048576) (d : Nat) : ∀ (i : Nat) (x : List ByteArray), l.length - i = d → i ≤ l.length → x.length = l.length → (∀ j, j < i → x[j]? = l[j]?) →
    Ev (fun k => laws_toStringS.l0 k l x (i : Int)) l := by
  induction d with
  | zero =>
    intro i x hd hi hx he
    refine Pl.succ ?_
    simp only [laws_toStringS.l0]
    refine Pl.neg (by omega) (Pl.ret ?_)
    apply List.ext_getElem?
    intro j
    by_cases hj : j < i
    · exact he j hj
    · rw [List.getElem?_eq_none (by omega), List.getElem?_eq_none (by omega)]
  | succ d ih =>
    intro i x hd hi hx he
    refine Pl.succ ?_
    simp only [laws_toStringS.l0]
    refine Pl.pos (by omega) (Pl.pos (by omega) (Pl.pos (by omega) ?_))
    rw [Pl.w64 (by omega) (by omega), Int.toNat_natCast, Pl.rdS_nat _ _ (by omega)]
    refine ih (i + 1) _ (by omega) (by omega) (by simpa using hx) ?_
    intro j hj
    rw [List.getElem?_set]
    by_cases e : i = j
    · subst e
      rw [if_pos rfl, if_pos (by omega), List.getElem?_eq_getElem (by omega)]
    · rw [if_neg e]
      exact he j (by omega)
theorem toStringS (l : List ByteArray) (hl : l.length ≤ 1048576) : Ev (fun k => laws_toStringS.f k l) l := by
  unfold laws_toStringS.f
  refine Pl.pos (by omega) (Pl.pos (by omega) ?_)
  exact toStringS_l l hl l.length 0 _ (by omega) (by omega) (by simp) (fun j hj => absurd hj (Nat.not_lt_zero _))
theorem szStringS_l (l : List ByteArray) (hl : l.length ≤ 1048576) (hs : ∀ s ∈ l, s.size ≤ 9223372036854775807) (d : Nat) : ∀ (i : Nat) (left : Int), l.length - i = d → i ≤ l.length → 0 ≤ left → left ≤ 1048576 →
    ∃ r, Ev (fun k => laws_szStringS.l0 k l left (i : Int)) r ∧ (0 ≤ r → r ≤ left ∧ ∀ j (h : j < l.length), i ≤ j → (l[j].size : Int) ≤ left) := by
  induction d with
  | zero =>
    intro i left hd hi h0 hb
    refine ⟨left, Pl.succ ?_, fun _ => ⟨Int.le_refl _, fun j h hj => by omega⟩⟩
    simp only [laws_szStringS.l0]
    exact Pl.neg (by omega) (Pl.ret rfl)
  | succ d ih =>
    intro i left hd hi h0 hb
    have hil : i < l.length := by omega
    have hsz := hs l[i] (List.getElem_mem hil)
    by_cases hc : left - (l[i].size : Int) < 0
    · refine ⟨-1, Pl.succ ?_, fun h => by omega⟩
      simp only [laws_szStringS.l0]
      rw [Pl.rdS_nat _ i hil, Pl.w64 (n := left - (l[i].size : Int)) (by omega) (by omega)]
      exact Pl.pos (by omega) (Pl.pos (by omega) (Pl.pos hc (Pl.ret rfl)))
    · obtain ⟨r, hr, hq⟩ := ih (i + 1) (left - (l[i].size : Int)) (by omega) (by omega) (by omega) (by omega)
      refine ⟨r, Pl.succ ?_, fun h => ⟨by have := (hq h).1; omega, fun j hj hij => ?_⟩⟩
      · simp only [laws_szStringS.l0]
        rw [Pl.rdS_nat _ i hil, Pl.w64 (n := left - (l[i].size : Int)) (by omega) (by omega), Pl.w64 (n := (i : Int) + 1) (by omega) (by omega)]
        exact Pl.pos (by omega) (Pl.pos (by omega) (Pl.neg hc hr))
      · by_cases e : j = i
        · subst e; omega
        · have := (hq h).2 j hj (by omega); omega
/-- What the size tells: all is small, or the law has nothing to say. -/
theorem szStringS (l : List ByteArray) (hl : l.length * 16 ≤ 140737488351232) (hs : ∀ s ∈ l, s.size ≤ maxLen) (left : Int) (h0 : 0 ≤ left) (hb : left ≤ 1048576) :
    ∃ r, Ev (fun k => laws_szStringS.f k l left) r ∧ (0 ≤ r → r ≤ left ∧ l.length ≤ 1048576 ∧ ∀ s ∈ l, s.size ≤ 1048576) := by
  unfold laws_szStringS.f
  by_cases hc : left - (l.length : Int) < 0
  · refine ⟨-1, ?_, fun h => by omega⟩
    rw [Pl.w64 (by omega) (by omega)]
    exact Pl.pos hc (Pl.ret rfl)
  · have hm : ∀ s ∈ l, s.size ≤ 9223372036854775807 := fun s h => by have := hs s h; unfold maxLen at this; exact this
    obtain ⟨r, hr, hq⟩ := szStringS_l l (by omega) hm l.length 0 (left - (l.length : Int)) (by omega) (by omega) (by omega) (by omega)
    refine ⟨r, ?_, fun h => ⟨by have := (hq h).1; omega, by omega, fun s hs' => ?_⟩⟩
    · rw [Pl.w64 (by omega) (by omega)]
      exact Pl.neg hc hr
    · obtain ⟨j, hj, rfl⟩ := List.getElem_of_mem hs'
      have := (hq h).2 j hj (Nat.zero_le _)
      omega

end Go.Proofs.YtgokegndboknfaaDoor.X
namespace Go.Proofs.YtgokegndboknfaaDoor.X
open Go.RowKit Go.Proofs.YtgokegndboknfaaDoorW.PrintWords Go.Proofs.YtgokegndboknfaaDoorW.PrintLast Go.Proofs.YtgokegndboknfaaDoorW.PrintMore Go.Proofs.YtgokegndboknfaaDoor

theorem markText_l (d : Nat) : ∀ (n : Nat) (acc : ByteArray), n < 10 ^ d → n ≤ 1099511627776 → acc.size + d ≤ 1000 → ∃ t, Ev (fun k => laws_markText.l0 k (n : Int) acc) t := by
  induction d with
  | zero =>
    intro n acc hn hq hs
    refine ⟨(⟨#[109]⟩ : ByteArray) ++ acc, Pl.succ ?_⟩
    simp only [laws_markText.l0]
    exact Pl.neg (by omega) (Pl.pos (by omega) (Pl.ret rfl))
  | succ d ih =>
    intro n acc hn hq hs
    by_cases h0 : n = 0
    · refine ⟨(⟨#[109]⟩ : ByteArray) ++ acc, Pl.succ ?_⟩
      simp only [laws_markText.l0]
      exact Pl.neg (by omega) (Pl.pos (by omega) (Pl.ret rfl))
    · have hsz : ∀ y : Int, (strOfNums [y]).size = 1 := fun y => by rw [strOfNums_size]; rfl
      obtain ⟨t, ht⟩ := ih (n / 10) (strOfNums [(wrap64 (48 + (Int.tmod (n : Int) 10))) % 256] ++ acc) (by rw [Nat.pow_succ] at hn; omega) (by omega) (by rw [ByteArray.size_append, hsz]; omega)
      refine ⟨t, Pl.succ ?_⟩
      simp only [laws_markText.l0, Option.bind_some]
      refine Pl.pos (by omega) (Pl.pos (by rw [hsz]; omega) ?_)
      have e : Int.tdiv (n : Int) 10 = ((n / 10 : Nat) : Int) := (Int.ofNat_tdiv n 10).symm
      rw [e, Pl.w64 (by omega) (by omega)]
      exact ht
theorem markText (n : Nat) (h1 : 1 ≤ n) (hn : n ≤ 1099511627776) : ∃ t, Ev (fun k => laws_markText.f k (n : Int)) t := by
  obtain ⟨t, ht⟩ := markText_l 13 n ⟨#[]⟩ (by omega) hn (by decide)
  refine ⟨t, ?_⟩
  unfold laws_markText.f
  exact Pl.neg (by omega) ht

theorem markStringS_l (n : Nat) (hn : n ≤ 1073741824) (d : Nat) : ∀ (i : Nat) (x : List ByteArray), n - i = d → i ≤ n → x.length = n → (∀ j, j < i → ∃ t, x[j]? = some t ∧ Ev (fun k => laws_markText.f k (1 + (j : Int))) t) →
    ∃ l', l'.length = n ∧ (∀ j, j < n → ∃ t, l'[j]? = some t ∧ Ev (fun k => laws_markText.f k (1 + (j : Int))) t) ∧ Ev (fun k => laws_markStringS.l0 k x (1 + (i : Int)) (i : Int)) (1 + (n : Int), l') := by
  induction d with
  | zero =>
    intro i x hd hi hx he
    refine ⟨x, hx, fun j hj => he j (by omega), ?_⟩
    refine Pl.succ ?_
    simp only [laws_markStringS.l0]
    obtain rfl : i = n := by omega
    exact Pl.neg (by omega) (Pl.ret rfl)
  | succ d ih =>
    intro i x hd hi hx he
    obtain ⟨t, ht⟩ := markText (1 + i) (by omega) (by omega)
    have e1 : ((1 + i : Nat) : Int) = 1 + (i : Int) := by omega
    rw [e1] at ht
    obtain ⟨l', h1, h2, h3⟩ := ih (i + 1) (x.set i t) (by omega) (by omega) (by simpa using hx) (by
      intro j hj
      rw [List.getElem?_set]
      by_cases e : i = j
      · subst e
        exact ⟨t, by rw [if_pos rfl, if_pos (by omega)], ht⟩
      · rw [if_neg e]
        exact he j (by omega))
    refine ⟨l', h1, h2, ?_⟩
    refine Pl.succ ?_
    simp only [laws_markStringS.l0]
    refine Pl.pos (by omega) (Ev.bind ht (Pl.pos (by omega) ?_))
    rw [Pl.w64 (by omega) (by omega), Pl.w64 (by omega) (by omega), Int.toNat_natCast]
    have e : (1 + (i : Int) + 1) = 1 + ((i + 1 : Nat) : Int) := by omega
    rw [e]
    exact h3
theorem marksO (l : List ByteArray) (hn : l.length ≤ 1073741824) : ∃ l', Ev (fun k => laws_markStringS.f k l 1) (1 + (l.length : Int), l') := by
  obtain ⟨l', h1, h2, h3⟩ := markStringS_l l.length hn l.length 0 l (by omega) (by omega) rfl (fun j hj => absurd hj (Nat.not_lt_zero _))
  exact ⟨l', h3⟩

end Go.Proofs.YtgokegndboknfaaDoor.X
namespace Go.Proofs.YtgokegndboknfaaDoor.X
open Go.RowKit Go.Proofs.YtgokegndboknfaaDoorW.PrintWords Go.Proofs.YtgokegndboknfaaDoorW.PrintLast Go.Proofs.YtgokegndboknfaaDoorW.PrintMore Go.Proofs.YtgokegndboknfaaDoor

theorem eqIntS_l (l : List Int) (hl : l.length ≤ 4611686018427387904) (d : Nat) : ∀ (i : Nat), l.length - i = d → i ≤ l.length → Ev (fun k => laws_eqIntS.l0 k l l (i : Int)) true := by
  induction d with
  | zero =>
    intro i hd hi
    refine Pl.succ ?_
    simp only [laws_eqIntS.l0]
    exact Pl.neg (by omega) (Pl.ret rfl)
  | succ d ih =>
    intro i hd hi
    refine Pl.succ ?_
    simp only [laws_eqIntS.l0]
    refine Pl.pos (by omega) (Pl.pos (by omega) (Pl.pos (by omega) (Pl.pos trivial ?_)))
    rw [Pl.w64 (by omega) (by omega)]
    exact ih (i + 1) (by omega) (by omega)
theorem eqIntS (l : List Int) (hl : l.length ≤ 4611686018427387904) : Ev (fun k => laws_eqIntS.f k l l) true := by
  unfold laws_eqIntS.f
  exact Pl.pos rfl (eqIntS_l l hl l.length 0 (by omega) (by omega))


end Go.Proofs.YtgokegndboknfaaDoor.X
namespace Go.Proofs.YtgokegndboknfaaDoor.X
open Go.RowKit Go.Proofs.YtgokegndboknfaaDoorW.PrintWords Go.Proofs.YtgokegndboknfaaDoorW.PrintLast Go.Proofs.YtgokegndboknfaaDoorW.PrintMore Go.Proofs.YtgokegndboknfaaDoor

theorem markIntS_a (a : Int) (ha : 0 ≤ a ∧ a ≤ 1000000000000000) (n : Nat) (hn : n ≤ 1000000) (d : Nat) : ∀ (i : Nat) (x : List Int), n - i = d → i ≤ n → x.length = n → (∀ j, j < i → x[j]? = some (a + (j : Int))) →
    ∃ l', l'.length = n ∧ (∀ j, j < n → l'[j]? = some (a + (j : Int))) ∧ Ev (fun k => laws_markIntS.l0 k x (a + (i : Int)) (i : Int)) (a + (n : Int), l') := by
  induction d with
  | zero =>
    intro i x hd hi hx he
    refine ⟨x, hx, fun j hj => he j (by omega), ?_⟩
    refine Pl.succ ?_
    simp only [laws_markIntS.l0]
    obtain rfl : i = n := by omega
    exact Pl.neg (by omega) (Pl.ret rfl)
  | succ d ih =>
    intro i x hd hi hx he
    obtain ⟨l', h1, h2, h3⟩ := ih (i + 1) (x.set i (a + (i : Int))) (by omega) (by omega) (by simpa using hx) (by
      intro j hj
      rw [List.getElem?_set]
      by_cases e : i = j
      · subst e
        rw [if_pos rfl, if_pos (by omega)]
      · rw [if_neg e]
        exact he j (by omega))
    refine ⟨l', h1, h2, ?_⟩
    refine Pl.succ ?_
    simp only [laws_markIntS.l0]
    refine Pl.pos (by omega) (Pl.pos (by omega) ?_)
    rw [Pl.w64 (n := (i : Int) + 1) (by omega) (by omega), Pl.w64 (n := a + (i : Int) + 1) (by omega) (by omega), Int.toNat_natCast]
    have e : (a + (i : Int) + 1) = a + ((i + 1 : Nat) : Int) := by omega
    rw [e]
    exact h3
theorem heldIntS_a (a : Int) (ha : 0 ≤ a ∧ a ≤ 1000000000000000) (n : Nat) (hn : n ≤ 1000000) (l' : List Int) (h1 : l'.length = n) (h2 : ∀ j, j < n → l'[j]? = some (a + (j : Int))) (d : Nat) : ∀ (i : Nat), n - i = d → i ≤ n →
    Ev (fun k => laws_heldIntS.l0 k l' (a + (i : Int)) (i : Int)) (a + (n : Int)) := by
  induction d with
  | zero =>
    intro i hd hi
    refine Pl.succ ?_
    simp only [laws_heldIntS.l0]
    obtain rfl : i = n := by omega
    exact Pl.neg (by omega) (Pl.ret rfl)
  | succ d ih =>
    intro i hd hi
    refine Pl.succ ?_
    simp only [laws_heldIntS.l0]
    have hr : rd l' (i : Int) = a + (i : Int) := by
      have := h2 i (by omega)
      rw [List.getElem?_eq_getElem (by omega)] at this
      rw [Pl.rd_nat _ _ (by omega)]
      exact Option.some.inj this
    refine Pl.pos (by omega) (Pl.pos (by omega) (Pl.pos hr ?_))
    rw [Pl.w64 (n := a + (i : Int) + 1) (by omega) (by omega), Pl.w64 (n := (i : Int) + 1) (by omega) (by omega)]
    have e : (a + (i : Int) + 1) = a + ((i + 1 : Nat) : Int) := by omega
    rw [e]
    exact ih (i + 1) (by omega) (by omega)
theorem markIa (l : List Int) (a : Int) (ha : 0 ≤ a ∧ a ≤ 1000000000000000) (hn : l.length ≤ 1000000) : ∃ l', Ev (fun k => laws_markIntS.f k l a) (a + (l.length : Int), l') ∧ Ev (fun k => laws_heldIntS.f k l' a) (a + (l.length : Int)) := by
  obtain ⟨l', h1, h2, h3⟩ := markIntS_a a ha l.length hn l.length 0 l (by omega) (by omega) rfl (fun j hj => absurd hj (Nat.not_lt_zero _))
  refine ⟨l', ?_, ?_⟩
  · have : a + ((0 : Nat) : Int) = a := by omega
    rw [this] at h3
    exact h3
  · have := heldIntS_a a ha l.length hn l' h1 h2 l.length 0 (by omega) (by omega)
    have e : a + ((0 : Nat) : Int) = a := by omega
    rw [e] at this
    exact this

end Go.Proofs.YtgokegndboknfaaDoor.X
namespace Go.Proofs.YtgokegndboknfaaDoor.Pure
open Go.RowKit Go.Proofs.YtgokegndboknfaaDoor.X Go.Proofs.YtgokegndboknfaaDoorW.PrintWords Go.Proofs.YtgokegndboknfaaDoorW.PrintLast Go.Proofs.YtgokegndboknfaaDoor

theorem both (l : List ByteArray) (hl : l.length ≤ 1048576) : ∃ (x y : List Int) (b : Bool), x.length ≤ 60 ∧ y.length ≤ 60 ∧ Ev (fun k => spec_TwoReadings.f k l) (x, y, b) ∧ Ev (fun k => impl_TwoReadings.f k l) (x, y, b) := by
  unfold spec_TwoReadings.f impl_TwoReadings.f
  obtain ⟨⟨m, b⟩, h1, h2, h3⟩ := shortest_both l hl
  cases b with
  | false => exact ⟨[], [], false, by simp, by simp, Ev.bind h1 (Pl.neg (by simp) (Pl.ret rfl)), Ev.bind h2 (Pl.neg (by simp) (Pl.ret rfl))⟩
  | true =>
    obtain ⟨hw, h60, hne, o, ho, hr⟩ := h3 rfl
    simp only at h60 hne hr
    have hpos : ∀ t ∈ l, 1 ≤ t.size := fun t ht => (set_small hw t ht).1
    obtain ⟨x, y, L, e⟩ := two_rds hpos hr ho
    have hf1 := dcReadings hw m.size m 2 (Nat.le_refl _) h60 (by omega) (by omega)
    have hf2 := X.firstReadings hw m h60 2 (by omega) (by omega)
    have hrow := rds_row hpos m.size m (Nat.le_refl _)
    rw [e] at hf1 hf2 hrow
    have hx := (hrow x (by simp)).1
    have hy := (hrow y (by simp)).1
    exact ⟨x, y, true, by omega, by omega, Ev.bind h1 (Pl.pos rfl (Ev.bind hf1 (Pl.ret rfl))), Ev.bind h2 (Pl.pos rfl (Ev.bind hf2 (Pl.ret rfl)))⟩
theorem FnExactTwoReadings (l : List ByteArray) (hb : l.length * 16 ≤ 140737488351232) (hs : ∀ s ∈ l, s.size ≤ maxLen) : ∃ k, laws_FnExactTwoReadings.f k l = some true := by
  refine Ev.rounds ?_
  unfold laws_FnExactTwoReadings.f
  obtain ⟨r, hr, hq⟩ := szStringS l hb hs 1048576 (by omega) (by omega)
  refine Ev.bind hr ?_
  by_cases hc : r < 0
  · exact Pl.pos hc (Pl.ret rfl)
  obtain ⟨_, hl, _⟩ := hq (by omega)
  obtain ⟨x, y, b, hx, hy, h1, h2⟩ := both l hl
  have ex := eqIntS x (by omega)
  have ey := eqIntS y (by omega)
  obtain ⟨mx, hm1, hm2⟩ := markIa x 1 (by omega) (by omega)
  obtain ⟨my, hm3, hm4⟩ := markIa y (1 + (x.length : Int)) (by omega) (by omega)
  obtain ⟨ms, hs1⟩ := marksO l (by omega)
  refine Pl.neg hc (Ev.bind (toStringS l hl) (Ev.bind h1 (Ev.bind (toStringS l hl) (Ev.bind h2 (Ev.bind ex (Pl.pos rfl (Ev.bind ey (Pl.pos rfl (Pl.succ ?_)))))))))
  simp only [laws_FnExactTwoReadings.j0]
  refine Pl.neg (by simp) (Ev.bind (toStringS l hl) (Ev.bind (eqStringS l (by omega)) (Pl.pos rfl (Ev.bind hs1 (Pl.neg (by show ¬ (1 + (l.length : Int)) < 0; omega) (Ev.bind ex (Pl.pos rfl (Ev.bind ey (Pl.pos rfl (Pl.succ ?_))))))))))
  simp only [laws_FnExactTwoReadings.j1]
  refine Pl.neg (by simp) (Ev.bind hm1 (Ev.bind hm3 (Ev.bind hm2 (Pl.neg (by omega) (Ev.bind hm4 (Pl.neg (by omega) (Pl.pos rfl (Ev.bind (toStringS l hl) (Ev.bind h2 (Ev.bind ex (Pl.pos rfl (Ev.bind ey (Pl.pos rfl (Pl.succ ?_))))))))))))))
  simp only [laws_FnExactTwoReadings.j2]
  exact Pl.neg (by simp) (Ev.bind hm2 (Pl.neg (by omega) (Ev.bind hm4 (Pl.neg (by omega) (Pl.pos rfl (Pl.ret rfl))))))

end Go.Proofs.YtgokegndboknfaaDoor.Pure

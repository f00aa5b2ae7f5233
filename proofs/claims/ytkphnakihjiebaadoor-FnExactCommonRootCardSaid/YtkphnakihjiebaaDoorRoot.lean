/- The root of a word: program and reference. -/
import Derived.Test.YtkphnakihjiebaaDoorWd
import Derived.Lib.Repeat
import Derived.Test.YtkphnakihjiebaaDoorXx1
import Derived.Test.YtkphnakihjiebaaDoorXx3
import Derived.Test.YtkphnakihjiebaaDoorXx5
namespace Go.Proofs.YtkphnakihjiebaaDoor.X
open Go.RowKit Go.Proofs.YtkphnakihjiebaaDoorW.PrintWords Go.Proofs.YtkphnakihjiebaaDoorW.PrintLast Go.Proofs.YtkphnakihjiebaaDoorW.PrintMore Go.Proofs.YtkphnakihjiebaaDoor

theorem toL_extract (s : ByteArray) (a b : Nat) : (s.extract a b).toList = ((bts s).drop a).take (b - a) := by
  rw [Pl.toL, ByteArray.data_extract, Array.toList_extract]
theorem rep_iff (n : Nat) (_ : 1 ≤ n) (k : Nat) : ∀ l : List UInt8, l.length = n * (k + 1) → (Lib.repeatL (l.take n) (k + 1) = l ↔ l.drop n = l.take (l.length - n)) := by
  induction k with
  | zero =>
    intro l hl
    rw [Lib.repeatL_one, List.take_of_length_le (by omega), List.drop_of_length_le (by omega), show l.length - n = 0 by omega]
    simp
  | succ k ih =>
    intro l hl
    have hm : n * (k + 1 + 1) = n * (k + 1) + n := by rw [Nat.mul_succ]
    have hm2 : n * (k + 1) = n * k + n := by rw [Nat.mul_succ]
    have hdl : (l.drop n).length = n * (k + 1) := by rw [List.length_drop]; omega
    have htl : (l.take n).length = n := by rw [List.length_take]; omega
    constructor
    · intro h
      have h1 : l = l.take n ++ Lib.repeatL (l.take n) (k + 1) := by
        conv => lhs; rw [← h]
        rfl
      have h2 : l = Lib.repeatL (l.take n) (k + 1) ++ l.take n := by
        conv => lhs; rw [← h]
        rw [Lib.repeatL_add _ (k + 1) 1, Lib.repeatL_one]
      have hr : (Lib.repeatL (l.take n) (k + 1)).length = l.length - n := by
        rw [Lib.repeatL_length, htl, Nat.mul_comm]
        omega
      have e1 : l.drop n = Lib.repeatL (l.take n) (k + 1) := by
        conv => lhs; rw [h1]
        rw [List.drop_append_of_le_length (by omega), List.drop_of_length_le (by omega), List.nil_append]
      have e2 : l.take (l.length - n) = Lib.repeatL (l.take n) (k + 1) := by
        conv => lhs; arg 2; rw [h2]
        rw [List.take_append_of_le_length (by omega), List.take_of_length_le (by omega)]
      rw [e1, e2]
    · intro h
      have ht : (l.drop n).take n = l.take n := by
        rw [h, List.take_take, Nat.min_eq_left (by omega)]
      have hd : (l.drop n).drop n = (l.drop n).take ((l.drop n).length - n) := by
        conv => lhs; arg 2; rw [h]
        rw [List.drop_take, hdl, show l.length - n - n = n * (k + 1) - n by omega]
      have := (ih (l.drop n) hdl).2 hd
      rw [ht] at this
      show l.take n ++ Lib.repeatL (l.take n) (k + 1) = l
      rw [this, List.take_append_drop]
theorem rootAt_eq (s : ByteArray) (n : Nat) (hn : 1 ≤ n) (hle : n ≤ s.size) (hm : s.size % n = 0) :
    rootAt s n = decide ((s.extract n s.size).toList = (s.extract 0 (s.size - n)).toList) := by
  have hlen : (bts s).length = s.size := bts_len s
  obtain ⟨k, hk⟩ : ∃ k, s.size = n * (k + 1) := by
    obtain ⟨c, hc⟩ := Nat.dvd_of_mod_eq_zero hm
    cases c with
    | zero => omega
    | succ c => exact ⟨c, hc⟩
  have hq : s.size / n = k + 1 := by rw [hk]; exact Nat.mul_div_cancel_left _ (by omega)
  have hrep := rep_iff n hn k (bts s) (by rw [hlen]; exact hk)
  have hx : (s.extract 0 n).data.toList = (bts s).take n := by
    rw [← Pl.toL, toL_extract]; rfl
  have hy : (⟨(Lib.repeatL ((bts s).take n) (k + 1)).toArray⟩ : ByteArray).toList = Lib.repeatL ((bts s).take n) (k + 1) := Pl.toL _
  have hz : s.toList = bts s := Pl.toL _
  have hd : ((bts s).drop n).take (s.size - n) = (bts s).drop n := List.take_of_length_le (by rw [List.length_drop]; omega)
  unfold rootAt
  rw [hm, hq, hx, hy, hz, toL_extract, toL_extract, List.drop_zero, Nat.sub_zero, hd]
  rw [show (0 == 0) = true from rfl, Bool.true_and]
  rw [hlen] at hrep
  by_cases h : Lib.repeatL ((bts s).take n) (k + 1) = bts s
  · rw [decide_eq_true (hrep.1 h), beq_iff_eq.2 h]
  · rw [decide_eq_false (fun e => h (hrep.2 e)), beq_eq_false_iff_ne.2 h]
/-- The root from a length on, and which power. -/
def rootV (s : ByteArray) : Nat → Nat → ByteArray × Int
  | 0, _ => (s, 1)
  | d + 1, n => if rootAt s n = true then (s.extract 0 n, ((s.size / n : Nat) : Int)) else rootV s d (n + 1)
theorem rootAt_last (s : ByteArray) (h : 1 ≤ s.size) : rootAt s s.size = true := by
  rw [rootAt_eq s s.size h (Nat.le_refl _) (Nat.mod_self _), toL_extract, toL_extract]
  simp
theorem impl_l (s : ByteArray) (d : Nat) : ∀ n, 1 ≤ n → n + d = s.size → impl_rootOf.l0 s (d + 1) n = some (rootV s (d + 1) n) := by
  induction d with
  | zero =>
    intro n h1 h2
    obtain rfl : n = s.size := by omega
    rw [impl_rootOf.l0, rootV, if_pos (rootAt_last s h1), if_pos (rootAt_last s h1)]
  | succ d ih =>
    intro n h1 h2
    rw [impl_rootOf.l0, rootV]
    split
    · rfl
    · exact ih (n + 1) (by omega) (by omega)
theorem rootV_ok (s : ByteArray) (d : Nat) : ∀ n, 1 ≤ n → n + d = s.size → ∃ m, 1 ≤ m ∧ m ≤ s.size ∧ s.size % m = 0 ∧ rootV s (d + 1) n = (s.extract 0 m, ((s.size / m : Nat) : Int)) := by
  induction d with
  | zero =>
    intro n h1 h2
    obtain rfl : n = s.size := by omega
    exact ⟨_, h1, Nat.le_refl _, Nat.mod_self _, by rw [rootV, if_pos (rootAt_last s h1)]⟩
  | succ d ih =>
    intro n h1 h2
    rw [rootV]
    split
    · rename_i h
      unfold rootAt at h
      rw [Bool.and_eq_true, beq_iff_eq] at h
      exact ⟨n, h1, by omega, h.1, rfl⟩
    · exact ih (n + 1) (by omega) (by omega)
theorem spec_l (s : ByteArray) (hs : s.size ≤ 60) (d : Nat) : ∀ n : Nat, 1 ≤ n → n + d = s.size → Ev (fun k => spec_bsRoot.l0 k s (n : Int)) (rootV s (d + 1) n).1 := by
  induction d with
  | zero =>
    intro n h1 h2
    obtain rfl : n = s.size := by omega
    refine Pl.succ ?_
    simp only [spec_bsRoot.l0]
    refine Pl.neg (by omega) (Pl.ret ?_)
    rw [rootV, if_pos (rootAt_last s h1)]
    exact ByteArray.extract_zero_size.symm
  | succ d ih =>
    intro n h1 h2
    have e : (s.size : Int) % (n : Int) = ((s.size % n : Nat) : Int) := (Int.natCast_emod _ _).symm
    refine Pl.succ ?_
    simp only [spec_bsRoot.l0]
    rw [e, Pl.w64 (n := (s.size : Int) - n) (by omega) (by omega), Pl.w64 (n := (n : Int) + 1) (by omega) (by omega)]
    refine Pl.pos (by omega) (Pl.neg (by omega) ?_)
    by_cases hm : s.size % n = 0
    · refine Pl.pos (by omega) (Pl.pos (by omega) (Pl.pos (by omega) (Pl.pos (by omega) (Pl.pos (by omega) ?_))))
      rw [Int.toNat_natCast, show ((s.size : Int) - n).toNat = s.size - n by omega, rootV, rootAt_eq s n h1 (by omega) hm]
      by_cases hc : (s.extract n s.size).toList = (s.extract 0 (s.size - n)).toList
      · rw [if_pos (decide_eq_true hc)]
        exact Pl.pos hc (Pl.ret rfl)
      · rw [if_neg (by rw [decide_eq_false hc]; decide)]
        exact Pl.neg hc (ih (n + 1) (by omega) (by omega))
    · have hr : rootAt s n = false := by
        unfold rootAt
        rw [beq_eq_false_iff_ne.2 hm, Bool.false_and]
      rw [rootV, hr, if_neg (by decide)]
      exact Pl.neg (by omega) (ih (n + 1) (by omega) (by omega))
/-- The root of a word with letters: its length divides the word's. -/
theorem roots (s : ByteArray) (h1 : 1 ≤ s.size) (hs : s.size ≤ 60) : ∃ m, 1 ≤ m ∧ m ≤ s.size ∧ s.size % m = 0 ∧ Ev (fun k => spec_bsRoot.f k s) (s.extract 0 m) ∧ impl_rootOf.f s = some (s.extract 0 m, ((s.size / m : Nat) : Int)) := by
  obtain ⟨m, hm1, hm2, hm3, hv⟩ := rootV_ok s (s.size - 1) 1 (by omega) (by omega)
  have hi := impl_l s (s.size - 1) 1 (by omega) (by omega)
  have hp := spec_l s hs (s.size - 1) 1 (by omega) (by omega)
  rw [hv] at hi hp
  refine ⟨m, hm1, hm2, hm3, hp, ?_⟩
  unfold impl_rootOf.f
  rw [if_pos (by omega), show s.size = s.size - 1 + 1 by omega]
  rw [show s.size - 1 + 1 = s.size by omega] at hi ⊢
  exact hi
theorem extract_size (s : ByteArray) (m : Nat) (h : m ≤ s.size) : (s.extract 0 m).size = m := by rw [ByteArray.size_extract]; omega
/-- A word with letters. -/
def wfull (s : ByteArray) : Bool := wgood s && (s.toList != [])
theorem bsAsked (s : ByteArray) : Ev (fun k => spec_bsAsked.f k s) (wfull s) := by
  unfold spec_bsAsked.f
  refine Ev.bind (wdGood s) ?_
  unfold wfull
  cases wgood s with
  | true => exact Pl.pos rfl (Pl.ret rfl)
  | false => exact Pl.neg (by decide) (Pl.ret rfl)
theorem isFull (s : ByteArray) : impl_isFull.f s = some (wfull s) := by
  unfold impl_isFull.f
  rw [isWord_eq, Option.bind_some]
  unfold wfull
  cases wgood s <;> rfl
theorem wfull_size {s : ByteArray} (h : wfull s = true) : 1 ≤ s.size ∧ s.size ≤ 60 := by
  unfold wfull at h
  rw [Bool.and_eq_true] at h
  refine ⟨?_, wgood_size h.1⟩
  have h2 := h.2
  have hl := bts_len s
  rw [Pl.toL] at h2
  rw [bts] at hl
  cases hb : s.data.toList with
  | nil => rw [hb] at h2; cases h2
  | cons a l => rw [hb] at hl; simp at hl; omega

end Go.Proofs.YtkphnakihjiebaaDoor.X

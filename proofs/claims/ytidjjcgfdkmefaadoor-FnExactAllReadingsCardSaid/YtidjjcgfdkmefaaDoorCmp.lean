/- The order of words: program and reference; no condition beyond sizes. -/
import Derived.Test.YtidjjcgfdkmefaaDoorWc
import Derived.Lib.Bytealg
import Derived.Test.YtidjjcgfdkmefaaDoorXx1
import Derived.Test.YtidjjcgfdkmefaaDoorXx5
import Derived.Test.YtidjjcgfdkmefaaDoorXx6
import Derived.Test.YtidjjcgfdkmefaaDoorXx7
namespace Go.Proofs.YtidjjcgfdkmefaaDoor.X
open Go.RowKit Go.Proofs.YtidjjcgfdkmefaaDoorW.PrintWords Go.Proofs.YtidjjcgfdkmefaaDoorW.PrintLast Go.Proofs.YtidjjcgfdkmefaaDoorW.PrintMore Go.Proofs.YtidjjcgfdkmefaaDoor

/-- One word comes before another one. -/
def wless (s t : ByteArray) : Bool := decide (s.size < t.size) || (decide (s.size = t.size) && Op.bytesLess (bts s) (bts t))
/-- The comparison as a number. -/
def cmpW (s t : ByteArray) : Int := if s.size < t.size then -1 else if t.size < s.size then 1 else Lib.compareBytes (bts s) (bts t)
theorem u8_lt_iff (a b : UInt8) : a < b ↔ a.toNat < b.toNat := UInt8.lt_iff_toNat_lt
theorem cmpB_neg : ∀ x y : List UInt8, decide (Lib.compareBytes x y < 0) = Op.bytesLess x y
  | [], [] => by simp [Lib.compareBytes, Op.bytesLess]
  | [], _ :: _ => by simp [Lib.compareBytes, Op.bytesLess]
  | _ :: _, [] => by simp [Lib.compareBytes, Op.bytesLess]
  | a :: x, b :: y => by
    have ih := cmpB_neg x y
    rw [Lib.compareBytes, Op.bytesLess]
    by_cases h1 : a < b
    · simp [h1]
    · by_cases h2 : b < a
      · have h3 : ¬ a = b := by
          rintro rfl
          rw [u8_lt_iff] at h2
          omega
        simp [h1, h2, h3]
      · have h3 : a = b := by
          rw [u8_lt_iff] at h1 h2
          exact UInt8.toNat_inj.1 (by omega)
        subst h3
        simp only [h1, if_false, ih, beq_self_eq_true, Bool.true_and, decide_false, Bool.false_or]
theorem cmpW_neg (s t : ByteArray) : decide (cmpW s t < 0) = wless s t := by
  unfold cmpW wless
  by_cases h1 : s.size < t.size
  · simp [h1]
  · by_cases h2 : t.size < s.size
    · have : ¬ s.size = t.size := by omega
      simp [h1, h2, this]
    · have : s.size = t.size := by omega
      rw [if_neg h1, if_neg h2, cmpB_neg, decide_eq_false h1, decide_eq_true this]
      rfl
theorem wdLess_eq (s t : ByteArray) : spec_wdLess.f s t = some (wless s t) := by
  unfold spec_wdLess.f wless
  by_cases h1 : s.size < t.size
  · rw [if_pos (by omega), decide_eq_true h1]; rfl
  · rw [if_neg (by omega), decide_eq_false h1]
    by_cases h2 : s.size = t.size
    · rw [if_pos (by omega), decide_eq_true h2, Pl.toL, Pl.toL]; rfl
    · rw [if_neg (by omega), decide_eq_false h2]; rfl
theorem cmpInt_eq (a b : Int) : cmp_Compare_int.f a b = some (if a < b then -1 else if a > b then 1 else 0) := by
  unfold cmp_Compare_int.f cmp_isNaN_int.f
  by_cases h1 : a < b
  · simp [h1]
  · by_cases h2 : a > b
    · simp [h1, h2]
    · simp [h1, h2]
theorem cmpOr (a b : Int) : Ev (fun k => cmp_Or_int.f k [a, b]) (if a = 0 then b else a) := by
  have r0 : rd [a, b] (0 : Int) = a := rfl
  have r1 : rd [a, b] (1 : Int) = b := rfl
  unfold cmp_Or_int.f
  refine Pl.succ ?_
  simp only [cmp_Or_int.l0, List.length_cons, List.length_nil, r0]
  refine Pl.pos (by omega) (Pl.pos (by omega) (Pl.pos (by omega) ?_))
  by_cases h : a = 0
  · rw [if_pos h]
    refine Pl.pos h (Pl.succ ?_)
    rw [Pl.w64 (by omega) (by omega)]
    simp only [cmp_Or_int.l0, Int.zero_add, r1, List.length_cons, List.length_nil]
    refine Pl.pos (by omega) (Pl.pos (by omega) (Pl.pos (by omega) ?_))
    by_cases h2 : b = 0
    · refine Pl.pos h2 (Pl.succ ?_)
      rw [Pl.w64 (by omega) (by omega)]
      simp only [cmp_Or_int.l0]
      exact Pl.neg (by omega) (Pl.ret h2.symm)
    · exact Pl.neg h2 (Pl.ret rfl)
  · rw [if_neg h]
    exact Pl.neg h (Pl.ret rfl)
theorem compareWords (s t : ByteArray) : Ev (fun k => impl_compareWords.f k s t) (cmpW s t) := by
  unfold impl_compareWords.f cmpW
  simp only [cmpInt_eq, strings_Compare.f, Option.bind_some]
  refine Ev.bind (cmpOr _ _) (Pl.ret ?_)
  by_cases h1 : s.size < t.size
  · have e1 : (s.size : Int) < t.size := by omega
    simp [h1, e1]
  · have e1 : ¬ (s.size : Int) < t.size := by omega
    by_cases h2 : t.size < s.size
    · have e2 : (t.size : Int) < s.size := by omega
      simp [h1, e1, h2, e2]
    · have e2 : ¬ (t.size : Int) < s.size := by omega
      simp [h1, e1, h2, e2]

end Go.Proofs.YtidjjcgfdkmefaaDoor.X

/- Words: program and reference tell the same texts; no condition beyond sizes. -/
import Derived.Test.YtidjjcgfdkmefaaDoorPl
import Derived.Test.YtidjjcgfdkmefaaDoorXx1
import Derived.Test.YtidjjcgfdkmefaaDoorXx4
namespace Go.Proofs.YtidjjcgfdkmefaaDoor.X
open Go.RowKit Go.Proofs.YtidjjcgfdkmefaaDoorW.PrintWords Go.Proofs.YtidjjcgfdkmefaaDoorW.PrintLast Go.Proofs.YtidjjcgfdkmefaaDoorW.PrintMore Go.Proofs.YtidjjcgfdkmefaaDoor

/-- A text's bytes. -/
abbrev bts (s : ByteArray) : List UInt8 := s.data.toList
theorem bts_len (s : ByteArray) : (bts s).length = s.size := by rw [bts, Array.length_toList]; rfl
theorem bt_nat (s : ByteArray) (i : Nat) (h : i < s.size) : bt s (i : Int) = (((bts s)[i]'(by rw [bts_len]; exact h)).toNat : Int) := by
  unfold bt
  rw [dif_pos (by simpa using h)]
  simp only [Int.toNat_natCast, bts, Array.getElem_toList]
  rfl
theorem isL_iff (b : UInt8) : isL b = true ↔ 97 ≤ b.toNat ∧ b.toNat ≤ 99 := by
  simp only [isL, Bool.or_eq_true, beq_iff_eq, ← UInt8.toNat_inj]
  show ((b.toNat = 97 ∨ b.toNat = 98) ∨ b.toNat = 99) ↔ _
  omega
theorem drop_cons' {α : Type} (l : List α) (i : Nat) (h : i < l.length) : l.drop i = l[i] :: l.drop (i + 1) := List.drop_eq_getElem_cons h
theorem wdIs_l (s : ByteArray) (hs : s.size ≤ 4611686018427387904) (d : Nat) : ∀ i : Nat, s.size - i = d → i ≤ s.size → Ev (fun k => spec_wdIs.l0 k s (i : Int)) (((bts s).drop i).all isL) := by
  induction d with
  | zero =>
    intro i hd hi
    refine Pl.succ ?_
    simp only [spec_wdIs.l0]
    exact Pl.neg (by omega) (Pl.ret (by rw [List.drop_of_length_le (by rw [bts_len]; omega)]; rfl))
  | succ d ih =>
    intro i hd hi
    have hl : i < (bts s).length := by rw [bts_len]; omega
    rw [drop_cons' _ i hl, List.all_cons]
    refine Pl.succ ?_
    simp only [spec_wdIs.l0]
    rw [bt_nat s i (by omega), Pl.w64 (by omega) (by omega)]
    have hb : ((bts s)[i]).toNat < 256 := UInt8.toNat_lt _
    have hL := isL_iff ((bts s)[i])
    refine Pl.pos (by omega) (Pl.pos (by omega) ?_)
    cases hq : isL ((bts s)[i]) with
    | true =>
      have := hL.1 hq
      exact Pl.neg (by omega) (Pl.neg (by omega) (ih (i + 1) (by omega) (by omega)))
    | false =>
      have hn : ¬ (97 ≤ ((bts s)[i]).toNat ∧ ((bts s)[i]).toNat ≤ 99) := fun h => by rw [hL.2 h] at hq; cases hq
      rw [Bool.false_and]
      by_cases h1 : (((bts s)[i]).toNat : Int) < 97
      · exact Pl.pos h1 (Pl.ret rfl)
      · exact Pl.neg h1 (Pl.pos (by omega) (Pl.ret rfl))
theorem wdIs (s : ByteArray) (hs : s.size ≤ 4611686018427387904) : Ev (fun k => spec_wdIs.f k s) ((bts s).all isL) := by
  unfold spec_wdIs.f
  exact wdIs_l s hs s.size 0 (by omega) (by omega)
/-- The text is a word. -/
def wgood (s : ByteArray) : Bool := decide (s.size ≤ 60) && (bts s).all isL
theorem isWord_eq (s : ByteArray) : impl_isWord.f s = some (wgood s) := rfl
theorem wgood_size {s : ByteArray} (h : wgood s = true) : s.size ≤ 60 := by
  simp only [wgood, Bool.and_eq_true, decide_eq_true_eq] at h
  exact h.1

end Go.Proofs.YtidjjcgfdkmefaaDoor.X

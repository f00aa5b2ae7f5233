/- A table that is filled from its beginning: each place the sum of places before it, words taken one after another; no condition. -/
import Derived.Test.YtidjjcgfdkmefaaDoorSt
namespace Go.Proofs.YtidjjcgfdkmefaaDoor.X
open Go.RowKit Go.Proofs.YtidjjcgfdkmefaaDoorW.PrintWords Go.Proofs.YtidjjcgfdkmefaaDoorW.PrintLast Go.Proofs.YtidjjcgfdkmefaaDoorW.PrintMore Go.Proofs.YtidjjcgfdkmefaaDoor

theorem rdT1 (T R : List Int) (a : Int) : rd (T ++ a :: R) (T.length : Int) = a := by
  rw [Pl.rd_nat _ _ (by simp)]
  simp
theorem rdT2 (T R : List Int) (j : Nat) (h : j < T.length) : rd (T ++ R) (j : Int) = rd T (j : Int) := by
  rw [Pl.rd_nat _ _ (by simp; omega), Pl.rd_nat _ _ h, List.getElem_append_left]
theorem setT (T R : List Int) (a b : Int) : (T ++ a :: R).set T.length b = T ++ b :: R := by
  simp
theorem rdR2 (i : Nat) (T : List Int) (a : Int) (c : Nat) (h1 : 1 ≤ c) (h2 : c ≤ T.length) : rd (List.replicate i 0 ++ a :: T.reverse) ((i + c : Nat) : Int) = rd T ((T.length - c : Nat) : Int) := by
  rw [Pl.rd_nat _ _ (by simp; omega), Pl.rd_nat _ _ (by omega), List.getElem_append_right (by simp)]
  simp only [List.length_replicate, show i + c - i = (c - 1) + 1 by omega, List.getElem_cons_succ, List.getElem_reverse]
  congr 1
  omega
/-- The sum over words, one after another, of what the table holds. -/
def stepA (cond : Nat → ByteArray → Bool) (T : List Int) (acc : Int) (ws : List ByteArray) : Int := ws.foldl (fun a t => if cond T.length t = true then wrap64 (a + rd T ((T.length - t.size : Nat) : Int)) else a) acc
def table (cond : Nat → ByteArray → Bool) (l : List ByteArray) : Nat → List Int
  | 0 => [1]
  | n + 1 => table cond l n ++ [stepA cond (table cond l n) 0 l]
theorem table_len (cond : Nat → ByteArray → Bool) (l : List ByteArray) (n : Nat) : (table cond l n).length = n + 1 := by
  induction n with
  | zero => rfl
  | succ n ih => rw [table, List.length_append, ih]; rfl
theorem stepA_take (cond : Nat → ByteArray → Bool) (T : List Int) (acc : Int) (l : List ByteArray) (i : Nat) (h : i < l.length) :
    stepA cond T acc (l.take (i + 1)) = if cond T.length l[i] = true then wrap64 (stepA cond T acc (l.take i) + rd T ((T.length - l[i].size : Nat) : Int)) else stepA cond T acc (l.take i) := by
  rw [List.take_succ_eq_append_getElem h]
  unfold stepA
  rw [List.foldl_append]
  rfl

end Go.Proofs.YtidjjcgfdkmefaaDoor.X

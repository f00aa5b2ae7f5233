/- The word whose letters are the digits of a number: program and reference; no condition beyond sizes. -/
import Derived.Test.YtnfpcgjdpcmkcaaKr
import Derived.Test.YtnfpcgjdpcmkcaaXx9
import Derived.Test.YtnfpcgjdpcmkcaaXx17
namespace Go.Proofs.Ytnfpcgjdpcmkcaa.X
open Go.RowKit Go.Proofs.YtnfpcgjdpcmkcaaW.PrintWords Go.Proofs.YtnfpcgjdpcmkcaaW.PrintLast Go.Proofs.YtnfpcgjdpcmkcaaW.PrintMore Go.Proofs.Ytnfpcgjdpcmkcaa

/-- Its letters as numbers, m more ahead of acc. -/
def txt (x : Int) : Nat → Int → List Int → List Int
  | 0, _, acc => acc
  | m + 1, n, acc => txt x m (n / x) ((97 + n % x) :: acc)
theorem txt_length (x : Int) (m : Nat) : ∀ (n : Int) (acc : List Int), (txt x m n acc).length = m + acc.length := by
  induction m with
  | zero => intro n acc; simp [txt]
  | succ m ih => intro n acc; rw [txt, ih]; simp; omega
theorem abc_at (d : Int) (h0 : 0 ≤ d) (h : d < 3) : (⟨#[97, 98, 99]⟩ : ByteArray).extract d.toNat (d + 1).toNat = strOfNums [97 + d] := by
  have : d = 0 ∨ d = 1 ∨ d = 2 := by omega
  rcases this with rfl | rfl | rfl <;> decide
theorem abc_bt (d : Int) (h0 : 0 ≤ d) (h : d < 3) : bt (⟨#[97, 98, 99]⟩ : ByteArray) d = 97 + d := by
  have : d = 0 ∨ d = 1 ∨ d = 2 := by omega
  rcases this with rfl | rfl | rfl <;> decide
theorem strOfNums_cons (a : Int) (l : List Int) : strOfNums (a :: l) = strOfNums [a] ++ strOfNums l := by
  apply Pl.ba_ext
  rw [Pl.toL, Pl.toL, ByteArray.data_append, Array.toList_append, strOfNums_data, strOfNums_data, strOfNums_data]
  rfl
theorem krText_l {x : Int} (h2 : 2 ≤ x) (h3 : x ≤ 3) (len : Nat) (hlen : len ≤ 1000) (m : Nat) : ∀ (i : Nat) (n : Int) (acc : List Int), i + m = len → 0 ≤ n → n ≤ 1099511627776 → acc.length = i →
    Ev (fun k => spec_krText.l0 k n (len : Int) x (strOfNums acc) (i : Int)) (strOfNums (txt x m n acc)) := by
  induction m with
  | zero =>
    intro i n acc hi h0 hn ha
    refine Pl.succ ?_
    simp only [spec_krText.l0]
    exact Pl.neg (by omega) (Pl.ret rfl)
  | succ m ih =>
    intro i n acc hi h0 hn ha
    have e1 : Int.tmod n x = n % x := Int.tmod_eq_emod_of_nonneg h0
    have e2 : Int.tdiv n x = n / x := Int.tdiv_eq_ediv_of_nonneg h0
    have d0 : 0 ≤ n % x := Int.emod_nonneg _ (by omega)
    have d1 : n % x < x := Int.emod_lt_of_pos _ (by omega)
    have q0 : 0 ≤ n / x := Int.ediv_nonneg h0 (by omega)
    have q1 : n / x ≤ n := Int.ediv_le_self _ h0
    refine Pl.succ ?_
    simp only [spec_krText.l0, e1, e2]
    rw [Pl.w64 (n := n % x + 1) (by omega) (by omega), Pl.w64 (n := n / x) (by omega) (by omega), Pl.w64 (n := (i : Int) + 1) (by omega) (by omega)]
    rw [abc_at _ d0 (by omega)]
    refine Pl.pos (by omega) (Pl.neg (by omega) (Pl.pos (by omega) (Pl.pos (by omega) (Pl.pos (by omega) (Pl.pos ?_ ?_)))))
    · rw [strOfNums_size, strOfNums_size, ha]; simp; omega
    · rw [← strOfNums_cons]
      exact ih (i + 1) _ _ (by omega) q0 (by omega) (by simp [ha])
theorem krText {x : Int} (h2 : 2 ≤ x) (h3 : x ≤ 3) (len : Nat) (hlen : len ≤ 1000) (n : Int) (h0 : 0 ≤ n) (hn : n ≤ 1099511627776) :
    Ev (fun k => spec_krText.f k n (len : Int) x) (strOfNums (txt x len n [])) := by
  unfold spec_krText.f
  exact krText_l h2 h3 len hlen len 0 n [] (by omega) h0 hn rfl
theorem wordAt_l {x : Int} (h2 : 2 ≤ x) (h3 : x ≤ 3) (len : Nat) (hlen : len ≤ 1000) (m : Nat) : ∀ (n : Int) (buf acc : List Int), m ≤ len → 0 ≤ n → n ≤ 1099511627776 → buf.length = len → buf.drop m = acc →
    Ev (fun k => impl_wordAt.l0 k n x buf ((m : Int) - 1)) (strOfNums (txt x m n acc)) := by
  induction m with
  | zero =>
    intro n buf acc hi h0 hn hb ha
    refine Pl.succ ?_
    simp only [impl_wordAt.l0]
    exact Pl.neg (by omega) (Pl.ret (by rw [txt, ← ha]; rfl))
  | succ m ih =>
    intro n buf acc hi h0 hn hb ha
    have e1 : Int.tmod n x = n % x := Int.tmod_eq_emod_of_nonneg h0
    have e2 : Int.tdiv n x = n / x := Int.tdiv_eq_ediv_of_nonneg h0
    have d0 : 0 ≤ n % x := Int.emod_nonneg _ (by omega)
    have d1 : n % x < x := Int.emod_lt_of_pos _ (by omega)
    have q0 : 0 ≤ n / x := Int.ediv_nonneg h0 (by omega)
    have q1 : n / x ≤ n := Int.ediv_le_self _ h0
    refine Pl.succ ?_
    simp only [impl_wordAt.l0, e1, e2]
    rw [show (((m + 1 : Nat) : Int) - 1) = (m : Int) by omega, Pl.w64 (n := n / x) (by omega) (by omega), Pl.w64 (n := (m : Int) - 1) (by omega) (by omega), abc_bt _ d0 (by omega), Int.toNat_natCast]
    refine Pl.pos (by omega) (Pl.neg (by omega) (Pl.pos (by omega) (Pl.pos (by omega) (Pl.pos (by omega) (Pl.pos (by omega) ?_)))))
    refine ih (n / x) _ _ (by omega) q0 (by omega) (by simpa using hb) ?_
    rw [drop_cons _ m (by simp; omega), List.getElem_set_self, List.drop_set_of_lt (by omega), ha]
theorem wordAt {x : Int} (h2 : 2 ≤ x) (h3 : x ≤ 3) (len : Nat) (hlen : len ≤ 1000) (n : Int) (h0 : 0 ≤ n) (hn : n ≤ 1099511627776) :
    Ev (fun k => impl_wordAt.f k n (len : Int) x) (strOfNums (txt x len n [])) := by
  unfold impl_wordAt.f
  refine Pl.pos (by omega) (Pl.pos (by omega) ?_)
  rw [Pl.w64 (by omega) (by omega)]
  exact wordAt_l h2 h3 len hlen len n _ [] (by omega) h0 hn (by simp) (by simp)

end Go.Proofs.Ytnfpcgjdpcmkcaa.X

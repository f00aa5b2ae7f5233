/- FirstPrefixCode: the program's answer is the reference's, for all arguments; no condition. -/
import Derived.Test.YtnfpcgjdpcmkcaaTxt
import Derived.Test.YtnfpcgjdpcmkcaaLwI
import Derived.Test.YtnfpcgjdpcmkcaaLwS
import Derived.Test.YtnfpcgjdpcmkcaaXx16
import Derived.Test.YtnfpcgjdpcmkcaaXx17
import Derived.Test.YtnfpcgjdpcmkcaaXx18
namespace Go.Proofs.Ytnfpcgjdpcmkcaa.Pure
open Go.RowKit Go.Proofs.Ytnfpcgjdpcmkcaa.X Go.Proofs.YtnfpcgjdpcmkcaaW.PrintWords Go.Proofs.YtnfpcgjdpcmkcaaW.PrintLast Go.Proofs.Ytnfpcgjdpcmkcaa

/-- The words: each the one at the sum of the shares before it, told in words of its own length. -/
def words (x : Int) : List Int → Int → List ByteArray
  | [], _ => []
  | n :: l, s => strOfNums (txt x n.toNat (s / x ^ (8 - n).toNat) []) :: words x l (s + x ^ (8 - n).toNat)
theorem words_length (x : Int) (l : List Int) : ∀ s, (words x l s).length = l.length := by
  induction l with
  | nil => intro s; rfl
  | cons a l ih => intro s; simp [words, ih]
theorem impl_l {x : Int} (h2 : 2 ≤ x) (h3 : x ≤ 3) (l : List Int) (hl : okLen l) (d : Nat) : ∀ (i : Nat) (out : List ByteArray) (s : Int), l.length - i = d → i ≤ l.length → 0 ≤ s → s ≤ 6561 * i → out.length = i →
    Ev (fun k => impl_FirstPrefixCode.l0 k x out s l (l.length : Int) (i : Int)) (out ++ words x (l.drop i) s, true) := by
  have hl1 := hl.1
  induction d with
  | zero =>
    intro i out s hd hi h0 hs ho
    refine Pl.succ ?_
    simp only [impl_FirstPrefixCode.l0]
    exact Pl.neg (by omega) (Pl.ret (by rw [List.drop_of_length_le (by omega)]; simp [words]))
  | succ d ih =>
    intro i out s hd hi h0 hs ho
    have hm := hl.2 l[i] (List.getElem_mem (by omega))
    have hp := pow8 h2 h3 (n := (8 - l[i]).toNat) (by omega)
    have e2 : Int.tdiv s (x ^ (8 - l[i]).toNat) = s / (x ^ (8 - l[i]).toNat) := Int.tdiv_eq_ediv_of_nonneg h0
    have q0 : 0 ≤ s / x ^ (8 - l[i]).toNat := Int.ediv_nonneg h0 (by omega)
    have q1 : s / x ^ (8 - l[i]).toNat ≤ s := Int.ediv_le_self _ h0
    refine Pl.succ ?_
    simp only [impl_FirstPrefixCode.l0]
    refine Pl.pos (by omega) (Pl.pos (by omega) (Pl.pos (by omega) ?_))
    rw [Pl.rd_nat _ _ (by omega), Pl.w64 (n := 8 - l[i]) (by omega) (by omega), Pl.w64 (n := (i : Int) + 1) (by omega) (by omega)]
    refine Ev.bind (ipow h2 h3 (by omega) (by omega)) (Pl.neg (by omega) ?_)
    have hw := wordAt h2 h3 l[i].toNat (by omega) (s / x ^ (8 - l[i]).toNat) q0 (by omega)
    rw [show ((l[i].toNat : Nat) : Int) = l[i] by omega] at hw
    rw [e2, Pl.w64 (n := s / x ^ (8 - l[i]).toNat) (by omega) (by omega)]
    refine Ev.bind hw (Pl.pos (by omega) (Ev.bind (ipow h2 h3 (by omega) (by omega)) ?_))
    rw [Pl.w64 (by omega) (by omega)]
    refine Pl.via (ih (i + 1) _ _ (by omega) (by omega) (by omega) (by omega) (by simp [ho])) ?_
    rw [drop_cons l i (by omega), words, List.append_assoc]
    rfl
theorem spec_l {x : Int} (h2 : 2 ≤ x) (h3 : x ≤ 3) (l : List Int) (hl : okLen l) (hs : srt l) (d : Nat) : ∀ (i : Nat) (out : List ByteArray) (s next before : Int), l.length - i = d → i ≤ l.length → 0 ≤ s → s ≤ 6561 * i → out.length = i →
    0 ≤ next → 0 ≤ before → before ≤ 8 → (∀ h : i < l.length, before ≤ l[i]) → next * x ^ (8 - before).toNat = s →
    Ev (fun k => spec_FirstPrefixCode.l0 k x out next before l (l.length : Int) (i : Int)) (out ++ words x (l.drop i) s, true) := by
  have hl1 := hl.1
  induction d with
  | zero =>
    intro i out s next before hd hi h0 hs' ho hn hb0 hb8 hbl he
    refine Pl.succ ?_
    simp only [spec_FirstPrefixCode.l0]
    exact Pl.neg (by omega) (Pl.ret (by rw [List.drop_of_length_le (by omega)]; simp [words]))
  | succ d ih =>
    intro i out s next before hd hi h0 hs' ho hn hb0 hb8 hbl he
    have hm := hl.2 l[i] (List.getElem_mem (by omega))
    have hbi := hbl (by omega)
    have hp := pow8 h2 h3 (n := (8 - l[i]).toNat) (by omega)
    have hpb := pow8 h2 h3 (n := (l[i] - before).toNat) (by omega)
    have e1 : next * x ^ (l[i] - before).toNat * x ^ (8 - l[i]).toNat = s := by
      rw [Int.mul_assoc, ← Int.pow_add, show (l[i] - before).toNat + (8 - l[i]).toNat = (8 - before).toNat by omega, he]
    have n0 : 0 ≤ next * x ^ (l[i] - before).toNat := Int.mul_nonneg hn (by omega)
    have n1 : next * x ^ (l[i] - before).toNat ≤ s := by
      have := Int.mul_le_mul_of_nonneg_left hp.1 n0
      omega
    have eq : s / x ^ (8 - l[i]).toNat = next * x ^ (l[i] - before).toNat := by
      rw [← e1, Int.mul_ediv_cancel _ (by omega)]
    refine Pl.succ ?_
    simp only [spec_FirstPrefixCode.l0]
    refine Pl.pos (by omega) (Pl.pos (by omega) (Pl.pos (by omega) ?_))
    rw [Pl.rd_nat _ _ (by omega), Pl.w64 (n := l[i] - before) (by omega) (by omega), Pl.w64 (n := (i : Int) + 1) (by omega) (by omega)]
    refine Ev.bind (krPow h2 h3 (by omega) (by omega)) ?_
    have hw := krText h2 h3 l[i].toNat (by omega) (next * x ^ (l[i] - before).toNat) n0 (by omega)
    rw [show ((l[i].toNat : Nat) : Int) = l[i] by omega] at hw
    rw [Pl.w64 (n := next * x ^ (l[i] - before).toNat) (by omega) (by omega), Pl.w64 (n := next * x ^ (l[i] - before).toNat + 1) (by omega) (by omega)]
    refine Ev.bind hw (Pl.pos (by omega) ?_)
    refine Pl.via (ih (i + 1) _ (s + x ^ (8 - l[i]).toNat) _ _ (by omega) (by omega) (by omega) (by omega) (by simp [ho]) (by omega) (by omega) (by omega) (fun h => hs i h) ?_) ?_
    · rw [Int.add_mul, e1]; omega
    · rw [drop_cons l i (by omega), words, List.append_assoc, eq]
      rfl
noncomputable def fpcV (x : Int) (l : List Int) : List ByteArray × Bool := if good x l ∧ shares x l ≤ x ^ 8 then (words x l 0, true) else ([], false)
theorem fpcV_length (x : Int) (l : List Int) : (fpcV x l).1.length ≤ 12 := by
  unfold fpcV
  split
  · rename_i h
    have := h.1.2.1.1
    simpa [words_length] using this
  · simp
theorem spec_out (x : Int) (l : List Int) : Ev (fun k => spec_FirstPrefixCode.j0 k l x true) (([] : List ByteArray), false) := by
  refine Pl.succ ?_
  simp only [spec_FirstPrefixCode.j0]
  exact Pl.pos (by trivial) (Pl.ret rfl)
theorem impl_out (x : Int) (l : List Int) : Ev (fun k => impl_FirstPrefixCode.j0 k l x true) (([] : List ByteArray), false) := by
  refine Pl.succ ?_
  simp only [impl_FirstPrefixCode.j0]
  exact Pl.pos (by trivial) (Pl.ret rfl)
theorem specFpc (x : Int) (l : List Int) (hl : l.length ≤ 1048576) : Ev (fun k => spec_FirstPrefixCode.f k l x) (fpcV x l) := by
  unfold spec_FirstPrefixCode.f fpcV
  refine Ev.bind (krList x l hl) ?_
  by_cases h : good x l
  · rw [decide_eq_true h]
    refine Pl.pos rfl (Ev.bind (krFits h.1.1 h.1.2 l h.2.1) ?_)
    by_cases hf : shares x l ≤ x ^ 8
    · rw [decide_eq_true hf, if_pos ⟨h, hf⟩]
      refine Pl.succ ?_
      simp only [spec_FirstPrefixCode.j0]
      exact Pl.neg (by simp) (Pl.via (spec_l h.1.1 h.1.2 l h.2.1 h.2.2 l.length 0 [] 0 0 0 (by omega) (by omega) (by omega) (by omega) rfl (by omega) (by omega) (by omega) (fun hi => by have := h.2.1.2 l[0] (List.getElem_mem hi); omega) (by simp)) (by simp))
    · rw [decide_eq_false hf, if_neg (fun hh => hf hh.2)]
      exact spec_out x l
  · rw [decide_eq_false h, if_neg (fun hh => h hh.1)]
    exact Pl.neg (by decide) (spec_out x l)
theorem implFpc (x : Int) (l : List Int) (hl : l.length ≤ 1048576) : Ev (fun k => impl_FirstPrefixCode.f k l x) (fpcV x l) := by
  unfold impl_FirstPrefixCode.f fpcV
  simp only [areLetters_eq, Option.bind_some]
  by_cases hx : 2 ≤ x ∧ x ≤ 3
  · refine Pl.pos (decide_eq_true hx) ?_
    obtain ⟨b, hb, he⟩ := areLengths l hl
    refine Ev.bind he ?_
    cases b with
    | false =>
      have h : ¬ good x l := fun h => by have := hb.2 h.2; cases this
      rw [if_neg (fun hh => h hh.1)]
      exact Pl.neg (by decide) (impl_out x l)
    | true =>
      have h : good x l := ⟨hx, hb.1 rfl⟩
      refine Pl.pos rfl (Ev.bind (canBe hx.1 hx.2 l h.2.1) ?_)
      by_cases hf : shares x l ≤ x ^ 8
      · rw [decide_eq_true hf, if_pos ⟨h, hf⟩]
        refine Pl.succ ?_
        simp only [impl_FirstPrefixCode.j0]
        exact Pl.neg (by simp) (Pl.via (impl_l hx.1 hx.2 l h.2.1 l.length 0 [] 0 (by omega) (by omega) (by omega) (by omega) rfl) (by simp))
      · rw [decide_eq_false hf, if_neg (fun hh => hf hh.2)]
        exact impl_out x l
  · rw [if_neg (fun hh => hx hh.1.1)]
    exact Pl.neg (by simp only [decide_eq_true_eq]; exact hx) (impl_out x l)
theorem FnExactFirstPrefixCode : laws_FnExactFirstPrefixCode.Pure := by
  intro l x _ _ _ _
  refine Ev.rounds ?_
  unfold laws_FnExactFirstPrefixCode.f
  by_cases hb : (l.length : Int) > 1048576
  · exact Pl.pos hb (Pl.ret rfl)
  · have hl : l.length ≤ 1048576 := by omega
    have hlen := fpcV_length x l
    have hs := specFpc x l hl
    have hi := implFpc x l hl
    generalize fpcV x l = v at hlen hs hi
    obtain ⟨g, b⟩ := v
    simp only at hlen
    refine Pl.neg hb (Ev.bind (toIntS l hl) (Ev.bind hs (Ev.bind (toIntS l hl) (Ev.bind hi (Ev.bind (eqStringS g (by omega)) (Pl.pos rfl (Pl.succ ?_)))))))
    simp only [laws_FnExactFirstPrefixCode.j0]
    obtain ⟨mi, hm1, hm2⟩ := marksI l (by omega)
    obtain ⟨ms, hs1, hs2⟩ := marksS g (by omega)
    refine Pl.neg (by simp) (Ev.bind (toIntS l hl) (Ev.bind (eqIntS l (by omega)) (Pl.pos rfl (Ev.bind hm1 (Pl.neg (by show ¬ (1 + (l.length : Int)) < 0; omega) (Ev.bind (eqStringS g (by omega)) (Pl.pos rfl (Pl.succ ?_))))))))
    simp only [laws_FnExactFirstPrefixCode.j1]
    refine Pl.neg (by simp) (Ev.bind hs1 (Ev.bind hs2 (Pl.neg (by omega) (Pl.pos rfl (Ev.bind (toIntS l hl) (Ev.bind hi (Ev.bind (eqStringS g (by omega)) (Pl.pos rfl (Pl.succ ?_)))))))))
    simp only [laws_FnExactFirstPrefixCode.j2]
    exact Pl.neg (by simp) (Ev.bind hs2 (Pl.neg (by omega) (Pl.pos rfl (Pl.ret rfl))))

end Go.Proofs.Ytnfpcgjdpcmkcaa.Pure

/- CommonDivisor: the program's answer is the reference's, for all arguments; no condition. -/
import Derived.Test.YthdecnghjhdfhaaDoorSt
import Derived.Test.YthdecnghjhdfhaaDoorLwZ
import Derived.Test.YthdecnghjhdfhaaDoorLwS
import Derived.Test.YthdecnghjhdfhaaDoorLn
import Derived.Test.YthdecnghjhdfhaaDoorXx13
import Derived.Test.YthdecnghjhdfhaaDoorXx14
namespace Go.Proofs.YthdecnghjhdfhaaDoor.Pure
open Go.RowKit Go.Proofs.YthdecnghjhdfhaaDoor.X Go.Proofs.YthdecnghjhdfhaaDoorW.PrintWords Go.Proofs.YthdecnghjhdfhaaDoorW.PrintLast Go.Proofs.YthdecnghjhdfhaaDoor

theorem krGcd_l (b : Nat) : ∀ a : Nat, Ev (fun k => spec_krGcd.l0 k (a : Int) (b : Int)) (Nat.gcd a b : Int) := by
  induction b using Nat.strongRecOn with
  | ind b ih =>
    intro a
    refine Pl.succ ?_
    simp only [spec_krGcd.l0]
    by_cases h : b = 0
    · subst h
      exact Pl.pos rfl (Pl.ret (by simp))
    · refine Pl.neg (by omega) ?_
      rw [← Int.ofNat_tmod]
      refine Pl.via (ih (a % b) (Nat.mod_lt _ (by omega)) b) ?_
      rw [Nat.gcd_comm a b, Nat.gcd_rec b a, Nat.gcd_comm]
/-- The greatest common divisor of the lengths, and of one number more. -/
def gcds : List ByteArray → Nat → Nat
  | [], g => g
  | s :: l, g => gcds l (Nat.gcd s.size g)
theorem spec_l (l : List ByteArray) (hl : l.length ≤ 1048576) (d : Nat) : ∀ (i g : Nat), l.length - i = d → i ≤ l.length →
    Ev (fun k => spec_CommonDivisor.l0 k (g : Int) l (l.length : Int) (i : Int)) ((gcds (l.drop i) g : Int), true) := by
  induction d with
  | zero =>
    intro i g hd hi
    refine Pl.succ ?_
    simp only [spec_CommonDivisor.l0]
    exact Pl.neg (by omega) (Pl.ret (by rw [List.drop_of_length_le (by omega)]; rfl))
  | succ d ih =>
    intro i g hd hi
    refine Pl.succ ?_
    simp only [spec_CommonDivisor.l0, spec_krGcd.f]
    rw [Pl.rdS_nat _ i (by omega), Pl.w64 (by omega) (by omega)]
    refine Pl.pos (by omega) (Pl.pos (by omega) (Pl.pos (by omega) (Ev.bind (krGcd_l g l[i].size) ?_)))
    refine Pl.via (ih (i + 1) _ (by omega) (by omega)) ?_
    rw [drop_cons' l i (by omega), gcds]
theorem impl_l1 (L : List Int) (N j : Int) (r : Int × Bool) (b : Nat) : ∀ a : Nat, Ev (fun k => impl_CommonDivisor.l0 k (Nat.gcd a b : Int) L N (wrap64 (j + 1))) r →
    Ev (fun k => impl_CommonDivisor.l1 k (a : Int) (b : Int) L N j) r := by
  induction b using Nat.strongRecOn with
  | ind b ih =>
    intro a h
    refine Pl.succ ?_
    simp only [impl_CommonDivisor.l1]
    by_cases hb : b = 0
    · subst hb
      rw [Nat.gcd_zero_right] at h
      exact Pl.pos rfl h
    · refine Pl.neg (by omega) ?_
      rw [← Int.ofNat_tmod]
      refine ih (a % b) (Nat.mod_lt _ (by omega)) b ?_
      rw [show Nat.gcd b (a % b) = Nat.gcd a b by rw [Nat.gcd_comm a b, Nat.gcd_rec b a, Nat.gcd_comm]]
      exact h
theorem impl_l (l : List ByteArray) (hl : l.length ≤ 1048576) (d : Nat) : ∀ (i g : Nat), l.length - i = d → i ≤ l.length →
    Ev (fun k => impl_CommonDivisor.l0 k (g : Int) (lens l) (l.length : Int) (i : Int)) ((gcds (l.drop i) g : Int), true) := by
  have hll : (lens l).length = l.length := by simp [lens]
  induction d with
  | zero =>
    intro i g hd hi
    refine Pl.succ ?_
    simp only [impl_CommonDivisor.l0]
    exact Pl.neg (by omega) (Pl.ret (by rw [List.drop_of_length_le (by omega)]; rfl))
  | succ d ih =>
    intro i g hd hi
    have hr : rd (lens l) (i : Int) = ((l[i].size : Nat) : Int) := by rw [Pl.rd_nat _ i (by omega)]; simp [lens]
    refine Pl.succ ?_
    simp only [impl_CommonDivisor.l0]
    rw [hr, hll]
    refine Pl.pos (by omega) (Pl.pos (by omega) (Pl.pos (by omega) (impl_l1 _ _ _ _ _ _ ?_)))
    rw [Pl.w64 (by omega) (by omega)]
    refine Pl.via (ih (i + 1) _ (by omega) (by omega)) ?_
    rw [drop_cons' l i (by omega), gcds, Nat.gcd_comm]
theorem both (l : List ByteArray) (hl : l.length ≤ 1048576) : ∃ v, Ev (fun k => spec_CommonDivisor.f k l) v ∧ Ev (fun k => impl_CommonDivisor.f k l) v := by
  unfold spec_CommonDivisor.f impl_CommonDivisor.f
  have out1 : Ev (fun k => spec_CommonDivisor.j0 k l true) ((0 : Int), false) := by
    refine Pl.succ ?_
    simp only [spec_CommonDivisor.j0]
    exact Pl.pos (by trivial) (Pl.ret rfl)
  have out2 : Ev (fun k => impl_CommonDivisor.j0 k l true) ((0 : Int), false) := by
    refine Pl.succ ?_
    simp only [impl_CommonDivisor.j0]
    exact Pl.pos (by trivial) (Pl.ret rfl)
  by_cases h : wset l
  · by_cases h0 : l.length = 0
    · refine ⟨((0 : Int), false), Ev.bind (wdSet l) ?_, Ev.bind (isSet l (by omega)) ?_⟩
      · rw [decide_eq_true h, show ((l.length : Int) == 0) = true by rw [h0]; rfl]
        exact Pl.pos rfl out1
      · rw [decide_eq_true h, show ((l.length : Int) == 0) = true by rw [h0]; rfl]
        exact Pl.pos rfl out2
    · have e : ((l.length : Int) == 0) = false := by rw [beq_eq_false_iff_ne]; omega
      refine ⟨((gcds l 0 : Int), true), Ev.bind (wdSet l) ?_, Ev.bind (isSet l (by omega)) ?_⟩
      · rw [decide_eq_true h, e]
        refine Pl.pos rfl (Pl.succ ?_)
        simp only [spec_CommonDivisor.j0]
        exact Pl.neg (by simp) (Pl.via (spec_l l hl l.length 0 0 (by omega) (by omega)) (by simp))
      · rw [decide_eq_true h, e]
        refine Pl.pos rfl (Pl.succ ?_)
        simp only [impl_CommonDivisor.j0]
        refine Pl.neg (by simp) (Ev.bind (lengthsOf l hl) ?_)
        rw [show ((lens l).length : Int) = (l.length : Int) by simp [lens]]
        exact Pl.via (impl_l l hl l.length 0 0 (by omega) (by omega)) (by simp)
  · refine ⟨((0 : Int), false), Ev.bind (wdSet l) ?_, Ev.bind (isSet l (by omega)) ?_⟩
    · rw [decide_eq_false h]; exact Pl.neg (by decide) out1
    · rw [decide_eq_false h]; exact Pl.neg (by decide) out2
theorem FnExactCommonDivisor (l : List ByteArray) (hb : l.length * 16 ≤ 140737488351232) (hs : ∀ s ∈ l, s.size ≤ maxLen) : ∃ k, laws_FnExactCommonDivisor.f k l = some true := by
  refine Ev.rounds ?_
  unfold laws_FnExactCommonDivisor.f
  obtain ⟨r, hr, hq⟩ := szStringS l hb hs 1048576 (by omega) (by omega)
  refine Ev.bind hr ?_
  by_cases hc : r < 0
  · exact Pl.pos hc (Pl.ret rfl)
  obtain ⟨_, hl, _⟩ := hq (by omega)
  obtain ⟨v, h1, h2⟩ := both l hl
  refine Pl.neg hc (Ev.bind (toStringS l hl) (Ev.bind h1 (Ev.bind (toStringS l hl) (Ev.bind h2 (Pl.pos (by first | rfl | trivial) (Pl.succ ?_))))))
  simp only [laws_FnExactCommonDivisor.j0]
  refine Pl.neg (by simp) (Ev.bind (toStringS l hl) (Ev.bind (eqStringS l (by omega)) (Pl.pos rfl (Pl.ret rfl))))

end Go.Proofs.YthdecnghjhdfhaaDoor.Pure

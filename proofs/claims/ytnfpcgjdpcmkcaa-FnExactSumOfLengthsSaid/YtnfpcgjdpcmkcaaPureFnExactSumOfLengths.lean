/- SumOfLengths: the program's answer is the reference's, for all arguments; no condition. -/
import Derived.Test.YtnfpcgjdpcmkcaaKr
import Derived.Test.YtnfpcgjdpcmkcaaLwI
import Derived.Test.YtnfpcgjdpcmkcaaXx14
import Derived.Test.YtnfpcgjdpcmkcaaXx15
import Derived.Test.YtnfpcgjdpcmkcaaXx16
namespace Go.Proofs.Ytnfpcgjdpcmkcaa.Pure
open Go.RowKit Go.Proofs.Ytnfpcgjdpcmkcaa.X Go.Proofs.YtnfpcgjdpcmkcaaW.PrintWords Go.Proofs.YtnfpcgjdpcmkcaaW.PrintLast Go.Proofs.Ytnfpcgjdpcmkcaa

theorem krGcd_l (b : Nat) : ∀ a : Nat, Ev (fun k => spec_krGcd.l0 k (a : Int) (b : Int)) (Nat.gcd a b : Int) := by
  induction b using Nat.strongRecOn with
  | ind b ih =>
    intro a
    refine Pl.succ ?_
    simp only [spec_krGcd.l0]
    by_cases h : b = 0
    · subst h
      exact Pl.pos rfl (Pl.ret (by simp))
    · refine Pl.neg (by omega) ?_
      rw [← Int.ofNat_tmod]
      refine Pl.via (ih (a % b) (Nat.mod_lt _ (by omega)) b) ?_
      rw [Nat.gcd_comm a b, Nat.gcd_rec b a, Nat.gcd_comm]
theorem ratio_l (p q : Int) (b : Nat) : ∀ a : Nat, 0 < Nat.gcd a b → Ev (fun k => impl_ratio.l0 k p q (a : Int) (b : Int)) (wrap64 (Int.tdiv p (Nat.gcd a b : Int)), wrap64 (Int.tdiv q (Nat.gcd a b : Int))) := by
  induction b using Nat.strongRecOn with
  | ind b ih =>
    intro a hg
    refine Pl.succ ?_
    simp only [impl_ratio.l0]
    by_cases h : b = 0
    · subst h
      rw [Nat.gcd_zero_right] at hg ⊢
      exact Pl.pos rfl (Pl.neg (by omega) (Pl.ret rfl))
    · refine Pl.neg (by omega) ?_
      have e : Nat.gcd a b = Nat.gcd b (a % b) := by rw [Nat.gcd_comm a b, Nat.gcd_rec b a, Nat.gcd_comm]
      rw [← Int.ofNat_tmod, e]
      exact ih (a % b) (Nat.mod_lt _ (by omega)) b (by omega)
def rat (p q : Int) : Int × Int := (wrap64 (Int.tdiv p (Nat.gcd p.toNat q.toNat : Int)), wrap64 (Int.tdiv q (Nat.gcd p.toNat q.toNat : Int)))
theorem krRatio (p q : Int) (hp : 0 ≤ p) (hq : 0 < q) : Ev (fun k => spec_krRatio.f k p q) (rat p q) := by
  unfold spec_krRatio.f spec_krGcd.f
  have h := krGcd_l q.toNat p.toNat
  rw [show ((p.toNat : Nat) : Int) = p by omega, show ((q.toNat : Nat) : Int) = q by omega] at h
  refine Ev.bind h (Pl.neg ?_ (Pl.ret rfl))
  have : 0 < Nat.gcd p.toNat q.toNat := Nat.gcd_pos_of_pos_right _ (by omega)
  omega
theorem iratio (p q : Int) (hp : 0 ≤ p) (hq : 0 < q) : Ev (fun k => impl_ratio.f k p q) (rat p q) := by
  unfold impl_ratio.f
  have h := ratio_l p q q.toNat p.toNat (Nat.gcd_pos_of_pos_right _ (by omega))
  rw [show ((p.toNat : Nat) : Int) = p by omega, show ((q.toNat : Nat) : Int) = q by omega] at h
  exact h
noncomputable def sumV (x : Int) (l : List Int) : Int × Int × Bool := if good x l then ((rat (shares x l) (x ^ 8)).1, (rat (shares x l) (x ^ 8)).2, true) else (0, 0, false)
theorem specSum (x : Int) (l : List Int) (hl : l.length ≤ 1048576) : Ev (fun k => spec_SumOfLengths.f k l x) (sumV x l) := by
  unfold spec_SumOfLengths.f sumV
  refine Ev.bind (krList x l hl) ?_
  by_cases h : good x l
  · rw [decide_eq_true h, if_pos h]
    refine Pl.pos rfl (Ev.bind (a := rat (shares x l) (x ^ 8)) ?_ (Pl.ret rfl))
    unfold spec_krSum.f
    have := shares_bd h.1.1 h.1.2 l h.2.1.2
    have := pow8 h.1.1 h.1.2 (n := 8) (by omega)
    exact Ev.bind (krShares h.1.1 h.1.2 l h.2.1) (Ev.bind (krPow h.1.1 h.1.2 (by omega) (by omega)) (Ev.bind (krRatio _ _ (by omega) (by show 0 < x ^ 8; omega)) (Pl.ret rfl)))
  · rw [decide_eq_false h, if_neg h]
    exact Pl.neg (by decide) (Pl.ret rfl)
theorem implSum (x : Int) (l : List Int) (hl : l.length ≤ 1048576) : Ev (fun k => impl_SumOfLengths.f k l x) (sumV x l) := by
  unfold impl_SumOfLengths.f sumV
  simp only [areLetters_eq, Option.bind_some]
  by_cases hx : 2 ≤ x ∧ x ≤ 3
  · refine Pl.pos (decide_eq_true hx) ?_
    obtain ⟨b, hb, he⟩ := areLengths l hl
    refine Ev.bind he ?_
    cases b with
    | true =>
      have h : good x l := ⟨hx, hb.1 rfl⟩
      rw [if_pos h]
      refine Pl.pos rfl (Ev.bind (a := rat (shares x l) (x ^ 8)) ?_ (Pl.ret rfl))
      unfold impl_sumOf.f
      have := shares_bd h.1.1 h.1.2 l h.2.1.2
      have := pow8 h.1.1 h.1.2 (n := 8) (by omega)
      exact Ev.bind (iparts h.1.1 h.1.2 l h.2.1) (Ev.bind (ipow h.1.1 h.1.2 (by omega) (by omega)) (Ev.bind (iratio _ _ (by omega) (by show 0 < x ^ 8; omega)) (Pl.ret rfl)))
    | false =>
      have h : ¬ good x l := fun h => by have := hb.2 h.2; cases this
      rw [if_neg h]
      exact Pl.neg (by decide) (Pl.ret rfl)
  · rw [if_neg (show ¬ good x l from fun h => hx h.1)]
    exact Pl.neg (by simp only [decide_eq_true_eq]; exact hx) (Pl.ret rfl)
theorem eqRatio_self (a b : Int) : laws_eqRatio.f a b a b = some true := by simp [laws_eqRatio.f]
theorem FnExactSumOfLengths : laws_FnExactSumOfLengths.Pure := by
  intro l x _ _ _ _
  refine Ev.rounds ?_
  unfold laws_FnExactSumOfLengths.f
  by_cases hb : (l.length : Int) > 1048576
  · exact Pl.pos hb (Pl.ret rfl)
  · have hl : l.length ≤ 1048576 := by omega
    refine Pl.neg hb (Ev.bind (toIntS l hl) (Ev.bind (specSum x l hl) (Ev.bind (toIntS l hl) (Ev.bind (implSum x l hl) ?_))))
    simp only [eqRatio_self, Option.bind_some]
    refine Pl.pos (by trivial) (Pl.succ ?_)
    simp only [laws_FnExactSumOfLengths.j0]
    refine Pl.neg (by simp) (Ev.bind (toIntS l hl) (Ev.bind (eqIntS l (by omega)) ?_))
    exact Pl.pos rfl (Pl.ret rfl)

end Go.Proofs.Ytnfpcgjdpcmkcaa.Pure

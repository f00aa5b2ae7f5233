/- IsPrimitive: the program's answer is the reference's, for all arguments; no condition. -/
import Derived.Test.YtkphnakihjiebaaDoorRoot
import Derived.Test.YtkphnakihjiebaaDoorXx10
namespace Go.Proofs.YtkphnakihjiebaaDoor.Pure
open Go.RowKit Go.Proofs.YtkphnakihjiebaaDoor.X Go.Proofs.YtkphnakihjiebaaDoorW.PrintWords Go.Proofs.YtkphnakihjiebaaDoorW.PrintLast Go.Proofs.YtkphnakihjiebaaDoor

theorem own (s : ByteArray) (m : Nat) (m1 : 1 ≤ m) (m2 : m ≤ s.size) (m3 : s.size % m = 0) : ((s.extract 0 m).toList == s.toList) = (((s.size / m : Nat) : Int) == 1) := by
  by_cases h : m = s.size
  · subst h
    rw [ByteArray.extract_zero_size, Nat.div_self (by omega)]
    simp
  · have h2 : s.size / m ≠ 1 := by
      intro e
      have := Nat.div_add_mod s.size m
      rw [e, m3] at this
      omega
    rw [beq_eq_false_iff_ne.2 (show ((s.size / m : Nat) : Int) ≠ 1 by omega), beq_eq_false_iff_ne]
    intro e
    have e2 := congrArg List.length e
    rw [Pl.toL, Pl.toL] at e2
    have l1 : (s.extract 0 m).data.toList.length = (s.extract 0 m).size := bts_len _
    have l2 : s.data.toList.length = s.size := bts_len s
    rw [l1, l2, extract_size s m m2] at e2
    exact h e2
theorem both (s : ByteArray) : ∃ v, Ev (fun k => spec_IsPrimitive.f k s) v ∧ impl_IsPrimitive.f s = some v := by
  unfold spec_IsPrimitive.f impl_IsPrimitive.f
  rw [isFull, Option.bind_some]
  cases h : wfull s with
  | false =>
    refine ⟨(false, false), Ev.bind (bsAsked s) ?_, rfl⟩
    rw [h]
    exact Pl.neg (by decide) (Pl.ret rfl)
  | true =>
    obtain ⟨h1, h60⟩ := wfull_size h
    obtain ⟨m, m1, m2, m3, hp, hi⟩ := roots s h1 h60
    refine ⟨(((s.size / m : Nat) : Int) == 1, true), Ev.bind (bsAsked s) ?_, by rw [if_pos rfl, hi]; rfl⟩
    rw [h]
    refine Pl.pos rfl (Ev.bind hp (Pl.ret ?_))
    rw [own s m m1 m2 m3]
theorem FnExactIsPrimitive (s : ByteArray) (_ : s.size ≤ 140737488351232) : ∃ k, laws_FnExactIsPrimitive.f k s = some true := by
  refine Ev.rounds ?_
  unfold laws_FnExactIsPrimitive.f
  by_cases h1 : (s.size : Int) > 1048576
  · exact Pl.pos h1 (Pl.ret rfl)
  obtain ⟨v, h2, h3⟩ := both s
  rw [h3]
  exact Pl.neg h1 (Ev.bind h2 (Pl.neg (by simp) (Pl.neg (by simp) (Pl.ret rfl))))

end Go.Proofs.YtkphnakihjiebaaDoor.Pure

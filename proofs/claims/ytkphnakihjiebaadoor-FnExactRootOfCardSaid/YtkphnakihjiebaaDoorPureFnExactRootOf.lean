/- RootOf: the program's answer is the reference's, for all arguments; no condition. -/
import Derived.Test.YtkphnakihjiebaaDoorRoot
import Derived.Test.YtkphnakihjiebaaDoorXx14
namespace Go.Proofs.YtkphnakihjiebaaDoor.Pure
open Go.RowKit Go.Proofs.YtkphnakihjiebaaDoor.X Go.Proofs.YtkphnakihjiebaaDoorW.PrintWords Go.Proofs.YtkphnakihjiebaaDoorW.PrintLast Go.Proofs.YtkphnakihjiebaaDoor

theorem both (s : ByteArray) : ∃ v, Ev (fun k => spec_RootOf.f k s) v ∧ impl_RootOf.f s = some v := by
  unfold spec_RootOf.f impl_RootOf.f
  rw [isFull, Option.bind_some]
  cases h : wfull s with
  | false =>
    refine ⟨(⟨#[]⟩, 0, false), Ev.bind (bsAsked s) ?_, rfl⟩
    rw [h]
    exact Pl.neg (by decide) (Pl.ret rfl)
  | true =>
    obtain ⟨h1, h60⟩ := wfull_size h
    obtain ⟨m, m1, m2, m3, hp, hi⟩ := roots s h1 h60
    refine ⟨(s.extract 0 m, ((s.size / m : Nat) : Int), true), Ev.bind (bsAsked s) ?_, by rw [if_pos rfl, hi]; rfl⟩
    rw [h]
    refine Pl.pos rfl (Ev.bind hp ?_)
    have hq := Nat.div_le_self s.size m
    rw [extract_size s m m2]
    refine Pl.neg (by omega) (Pl.ret ?_)
    rw [← Int.natCast_ediv]
    generalize s.size / m = q at hq ⊢
    rw [Pl.w64 (by omega) (by omega)]
theorem FnExactRootOf (s : ByteArray) (_ : s.size ≤ 140737488351232) : ∃ k, laws_FnExactRootOf.f k s = some true := by
  refine Ev.rounds ?_
  unfold laws_FnExactRootOf.f
  by_cases h1 : (s.size : Int) > 1048576
  · exact Pl.pos h1 (Pl.ret rfl)
  obtain ⟨v, h2, h3⟩ := both s
  rw [h3]
  exact Pl.neg h1 (Ev.bind h2 (Pl.pos rfl (Pl.pos rfl (Pl.neg (by simp) (Pl.ret rfl)))))

end Go.Proofs.YtkphnakihjiebaaDoor.Pure

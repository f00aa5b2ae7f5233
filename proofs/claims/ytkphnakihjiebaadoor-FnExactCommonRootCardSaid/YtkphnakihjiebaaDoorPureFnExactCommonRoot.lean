/- CommonRoot: the program's answer is the reference's, for all arguments; no condition. -/
import Derived.Test.YtkphnakihjiebaaDoorRoot
import Derived.Test.YtkphnakihjiebaaDoorXx1
import Derived.Test.YtkphnakihjiebaaDoorXx6
namespace Go.Proofs.YtkphnakihjiebaaDoor.Pure
open Go.RowKit Go.Proofs.YtkphnakihjiebaaDoor.X Go.Proofs.YtkphnakihjiebaaDoorW.PrintWords Go.Proofs.YtkphnakihjiebaaDoorW.PrintLast Go.Proofs.YtkphnakihjiebaaDoor

theorem both (s t : ByteArray) : ∃ v, Ev (fun k => spec_CommonRoot.f k s t) v ∧ impl_CommonRoot.f s t = some v := by
  unfold spec_CommonRoot.f impl_CommonRoot.f
  rw [isFull, isFull, Option.bind_some]
  cases h : wfull s with
  | false =>
    refine ⟨(⟨#[]⟩, false), Ev.bind (bsAsked s) ?_, rfl⟩
    rw [h]
    exact Pl.neg (by decide) (Pl.ret rfl)
  | true =>
    rw [if_pos rfl, Option.bind_some]
    cases g : wfull t with
    | false =>
      refine ⟨(⟨#[]⟩, false), Ev.bind (bsAsked s) ?_, rfl⟩
      rw [h]
      refine Pl.pos rfl (Ev.bind (bsAsked t) ?_)
      rw [g]
      exact Pl.neg (by decide) (Pl.ret rfl)
    | true =>
      obtain ⟨h1, h60⟩ := wfull_size h
      obtain ⟨g1, g60⟩ := wfull_size g
      rw [if_pos rfl, if_pos (by omega), if_pos (by omega)]
      by_cases he : (s ++ t).toList = (t ++ s).toList
      · obtain ⟨m, m1, m2, m3, hp, hi⟩ := roots s h1 h60
        refine ⟨(s.extract 0 m, true), Ev.bind (bsAsked s) ?_, by rw [if_pos he, hi]; rfl⟩
        rw [h]
        refine Pl.pos rfl (Ev.bind (bsAsked t) ?_)
        rw [g]
        exact Pl.pos rfl (Pl.pos (by omega) (Pl.pos (by omega) (Pl.pos he (Ev.bind hp (Pl.ret rfl)))))
      · refine ⟨(⟨#[]⟩, false), Ev.bind (bsAsked s) ?_, by rw [if_neg he]⟩
        rw [h]
        refine Pl.pos rfl (Ev.bind (bsAsked t) ?_)
        rw [g]
        exact Pl.pos rfl (Pl.pos (by omega) (Pl.pos (by omega) (Pl.neg he (Pl.ret rfl))))
theorem FnExactCommonRoot (s t : ByteArray) (_ : s.size ≤ 140737488351232) (_ : t.size ≤ 140737488351232) : ∃ k, laws_FnExactCommonRoot.f k s t = some true := by
  refine Ev.rounds ?_
  unfold laws_FnExactCommonRoot.f
  by_cases h1 : (s.size : Int) > 1048576
  · exact Pl.pos h1 (Pl.ret rfl)
  refine Pl.neg h1 ?_
  by_cases h2 : (t.size : Int) > 1048576
  · exact Pl.pos h2 (Pl.ret rfl)
  refine Pl.neg h2 ?_
  obtain ⟨v, hs, hi⟩ := both s t
  rw [hi]
  exact Ev.bind hs (Pl.pos rfl (Pl.neg (by simp) (Pl.ret rfl)))

end Go.Proofs.YtkphnakihjiebaaDoor.Pure

/- Begins: the program's answer is the reference's, for all arguments; no condition. -/
import Derived.Test.YtnfpcgjdpcmkcaaDoorWd
import Derived.Test.YtnfpcgjdpcmkcaaDoorXx3
namespace Go.Proofs.YtnfpcgjdpcmkcaaDoor.Pure
open Go.RowKit Go.Proofs.YtnfpcgjdpcmkcaaDoor.X Go.Proofs.YtnfpcgjdpcmkcaaDoorW.PrintWords Go.Proofs.YtnfpcgjdpcmkcaaDoorW.PrintLast Go.Proofs.YtnfpcgjdpcmkcaaDoor

theorem hasPrefix_eq (s t : ByteArray) : strings_HasPrefix.f s t = spec_wdBegins.f s t := by
  unfold strings_HasPrefix.f stringslite_HasPrefix.f spec_wdBegins.f
  rw [Pl.bind_id]
  by_cases h : (t.size : Int) ≤ s.size
  · have h0 : (0 : Int) ≤ t.size := by omega
    simp only [h, h0, if_true]
  · rw [if_neg h, if_neg h]
theorem wdBegins_some (s t : ByteArray) : ∃ b, spec_wdBegins.f s t = some b := by
  unfold spec_wdBegins.f
  split
  · rw [if_pos (by omega)]; exact ⟨_, rfl⟩
  · exact ⟨_, rfl⟩
theorem FnExactBegins (s t : ByteArray) (_ : s.size ≤ 140737488351232) (_ : t.size ≤ 140737488351232) : ∃ k, laws_FnExactBegins.f k s t = some true := by
  refine Ev.rounds ?_
  obtain ⟨b, hb⟩ := wdBegins_some s t
  unfold laws_FnExactBegins.f
  by_cases h1 : (s.size : Int) > 1048576
  · exact Pl.pos h1 (Pl.ret rfl)
  refine Pl.neg h1 ?_
  by_cases h2 : (t.size : Int) > 1048576
  · exact Pl.pos h2 (Pl.ret rfl)
  refine Pl.neg h2 ?_
  have hs : Ev (fun k => spec_Begins.f k s t) (wgood s && wgood t && b, wgood s && wgood t) := by
    unfold spec_Begins.f
    rw [hb]
    refine Ev.bind (wdGood s) ?_
    cases wgood s
    · exact Pl.neg (by decide) (Pl.ret rfl)
    · refine Pl.pos rfl (Ev.bind (wdGood t) ?_)
      cases wgood t
      · exact Pl.neg (by decide) (Pl.ret rfl)
      · exact Pl.pos rfl (Pl.ret rfl)
  have hi : impl_Begins.f s t = some (wgood s && wgood t && b, wgood s && wgood t) := by
    unfold impl_Begins.f
    rw [hasPrefix_eq, hb, isWord_eq, isWord_eq]
    cases wgood s <;> cases wgood t <;> rfl
  rw [hi]
  exact Ev.bind hs (Pl.neg (by simp) (Pl.neg (by simp) (Pl.ret rfl)))

end Go.Proofs.YtnfpcgjdpcmkcaaDoor.Pure

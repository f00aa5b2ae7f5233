/- Ends: the program's answer is the reference's, for all arguments; no condition. -/
import Derived.Test.YtnfpcgjdpcmkcaaDoorWd
import Derived.Test.YtnfpcgjdpcmkcaaDoorXx3
namespace Go.Proofs.YtnfpcgjdpcmkcaaDoor.Pure
open Go.RowKit Go.Proofs.YtnfpcgjdpcmkcaaDoor.X Go.Proofs.YtnfpcgjdpcmkcaaDoorW.PrintWords Go.Proofs.YtnfpcgjdpcmkcaaDoorW.PrintLast Go.Proofs.YtnfpcgjdpcmkcaaDoor

theorem hasSuffix_eq (s t : ByteArray) : strings_HasSuffix.f s t = spec_wdEnds.f s t := by
  unfold strings_HasSuffix.f stringslite_HasSuffix.f spec_wdEnds.f
  rw [Pl.bind_id]
theorem wdEnds_some (s t : ByteArray) (hs : s.size ≤ 140737488351232) : ∃ b, spec_wdEnds.f s t = some b := by
  unfold spec_wdEnds.f
  split
  · rw [Pl.w64 (by omega) (by omega), if_pos (by omega), if_pos (by omega)]; exact ⟨_, rfl⟩
  · exact ⟨_, rfl⟩
theorem FnExactEnds (s t : ByteArray) (hsz : s.size ≤ 140737488351232) (_ : t.size ≤ 140737488351232) : ∃ k, laws_FnExactEnds.f k s t = some true := by
  refine Ev.rounds ?_
  obtain ⟨b, hb⟩ := wdEnds_some s t hsz
  unfold laws_FnExactEnds.f
  by_cases h1 : (s.size : Int) > 1048576
  · exact Pl.pos h1 (Pl.ret rfl)
  refine Pl.neg h1 ?_
  by_cases h2 : (t.size : Int) > 1048576
  · exact Pl.pos h2 (Pl.ret rfl)
  refine Pl.neg h2 ?_
  have hs : Ev (fun k => spec_Ends.f k s t) (wgood s && wgood t && b, wgood s && wgood t) := by
    unfold spec_Ends.f
    rw [hb]
    refine Ev.bind (wdGood s) ?_
    cases wgood s
    · exact Pl.neg (by decide) (Pl.ret rfl)
    · refine Pl.pos rfl (Ev.bind (wdGood t) ?_)
      cases wgood t
      · exact Pl.neg (by decide) (Pl.ret rfl)
      · exact Pl.pos rfl (Pl.ret rfl)
  have hi : impl_Ends.f s t = some (wgood s && wgood t && b, wgood s && wgood t) := by
    unfold impl_Ends.f
    rw [hasSuffix_eq, hb, isWord_eq, isWord_eq]
    cases wgood s <;> cases wgood t <;> rfl
  rw [hi]
  exact Ev.bind hs (Pl.neg (by simp) (Pl.neg (by simp) (Pl.ret rfl)))

end Go.Proofs.YtnfpcgjdpcmkcaaDoor.Pure

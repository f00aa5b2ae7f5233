/- BordersOf: the program's answer is the reference's, for all arguments; no condition. -/
import Derived.Test.YthdecnghjhdfhaaDoorWd
import Derived.Test.YthdecnghjhdfhaaDoorLwI
import Derived.Test.YthdecnghjhdfhaaDoorXx4
import Derived.Test.YthdecnghjhdfhaaDoorXx5
namespace Go.Proofs.YthdecnghjhdfhaaDoor.Pure
open Go.RowKit Go.Proofs.YthdecnghjhdfhaaDoor.X Go.Proofs.YthdecnghjhdfhaaDoorW.PrintWords Go.Proofs.YthdecnghjhdfhaaDoorW.PrintLast Go.Proofs.YthdecnghjhdfhaaDoor

theorem ends_eq (s : ByteArray) (hs : s.size ≤ 60) (i : Nat) (h1 : 1 ≤ i) (hi : i < s.size) : spec_wdEnds.f s (s.extract 0 (i : Int).toNat) = some ((s.extract ((s.size : Int) - (i : Int)).toNat s.size).toList == (s.extract 0 (i : Int).toNat).toList) := by
  have e : (s.extract 0 (i : Int).toNat).size = i := by rw [ByteArray.size_extract]; simp; omega
  unfold spec_wdEnds.f
  rw [e, Pl.w64 (by omega) (by omega), if_pos (by omega), if_pos (by omega), if_pos (by omega)]
theorem both_l (s : ByteArray) (hs : s.size ≤ 60) (d : Nat) : ∀ (i : Nat) (out : List Int), s.size - i = d → 1 ≤ i → out.length < i → out.length ≤ 61 →
    ∃ r, r.length ≤ 61 ∧ Ev (fun k => spec_BordersOf.l0 k s out (i : Int)) (r, true) ∧ Ev (fun k => impl_BordersOf.l0 k s out (i : Int)) (r, true) := by
  induction d with
  | zero =>
    intro i out hd h1 ho hq
    refine ⟨out, hq, Pl.succ ?_, Pl.succ ?_⟩
    · simp only [spec_BordersOf.l0]
      exact Pl.neg (by omega) (Pl.ret rfl)
    · simp only [impl_BordersOf.l0]
      exact Pl.neg (by omega) (Pl.ret rfl)
  | succ d ih =>
    intro i out hd h1 ho hq
    have he := ends_eq s hs i h1 (by omega)
    by_cases hc : (s.extract ((s.size : Int) - (i : Int)).toNat s.size).toList = (s.extract 0 (i : Int).toNat).toList
    · rw [beq_iff_eq.2 hc] at he
      obtain ⟨r, hr, e1, e2⟩ := ih (i + 1) (out ++ [(i : Int)]) (by omega) (by omega) (by simp; omega) (by simp; omega)
      refine ⟨r, hr, Pl.succ ?_, Pl.succ ?_⟩
      · simp only [spec_BordersOf.l0, he, Option.bind_some]
        rw [Pl.w64 (n := (i : Int) + 1) (by omega) (by omega)]
        exact Pl.pos (by omega) (Pl.pos (by omega) (Pl.pos (by omega) (Pl.pos (by first | rfl | trivial) (Pl.pos (by omega) e1))))
      · simp only [impl_BordersOf.l0]
        rw [Pl.w64 (n := (s.size : Int) - (i : Int)) (by omega) (by omega), Pl.w64 (n := (i : Int) + 1) (by omega) (by omega)]
        exact Pl.pos (by omega) (Pl.pos (by omega) (Pl.pos (by omega) (Pl.pos (by omega) (Pl.pos (by omega) (Pl.pos hc.symm (Pl.pos (by omega) e2))))))
    · rw [beq_eq_false_iff_ne.2 hc] at he
      obtain ⟨r, hr, e1, e2⟩ := ih (i + 1) out (by omega) (by omega) (by omega) hq
      refine ⟨r, hr, Pl.succ ?_, Pl.succ ?_⟩
      · simp only [spec_BordersOf.l0, he, Option.bind_some]
        rw [Pl.w64 (n := (i : Int) + 1) (by omega) (by omega)]
        exact Pl.pos (by omega) (Pl.pos (by omega) (Pl.pos (by omega) (Pl.neg (by simp) e1)))
      · simp only [impl_BordersOf.l0]
        rw [Pl.w64 (n := (s.size : Int) - (i : Int)) (by omega) (by omega), Pl.w64 (n := (i : Int) + 1) (by omega) (by omega)]
        exact Pl.pos (by omega) (Pl.pos (by omega) (Pl.pos (by omega) (Pl.pos (by omega) (Pl.pos (by omega) (Pl.neg (fun h => hc h.symm) e2)))))
theorem both (s : ByteArray) : ∃ v : List Int × Bool, v.1.length ≤ 61 ∧ Ev (fun k => spec_BordersOf.f k s) v ∧ Ev (fun k => impl_BordersOf.f k s) v := by
  unfold spec_BordersOf.f impl_BordersOf.f
  simp only [isWord_eq, Option.bind_some]
  cases h : wgood s with
  | false =>
    refine ⟨([], false), by simp, ?_, Pl.neg (by decide) (Pl.ret rfl)⟩
    refine Ev.bind (wdGood s) ?_
    rw [h]
    exact Pl.neg (by decide) (Pl.ret rfl)
  | true =>
    obtain ⟨r, hr, e1, e2⟩ := both_l s (wgood_size h) (s.size - 1) 1 [] (by omega) (by omega) (by simp) (by simp)
    refine ⟨(r, true), hr, ?_, Pl.pos rfl e2⟩
    refine Ev.bind (wdGood s) ?_
    rw [h]
    exact Pl.pos rfl e1
theorem FnExactBordersOf (s : ByteArray) (_ : s.size ≤ 140737488351232) : ∃ k, laws_FnExactBordersOf.f k s = some true := by
  refine Ev.rounds ?_
  unfold laws_FnExactBordersOf.f
  by_cases h1 : (s.size : Int) > 1048576
  · exact Pl.pos h1 (Pl.ret rfl)
  obtain ⟨⟨g, b⟩, hlen, hs, hi⟩ := both s
  simp only at hlen
  obtain ⟨mi, hm1, hm2⟩ := marksI g (by omega)
  refine Pl.neg h1 (Ev.bind hs (Ev.bind hi (Ev.bind (eqIntS g (by omega)) (Pl.pos rfl (Pl.succ ?_)))))
  simp only [laws_FnExactBordersOf.j0]
  refine Pl.neg (by simp) (Ev.bind hm1 (Ev.bind hm2 (Pl.neg (by omega) (Pl.pos rfl (Ev.bind hi (Ev.bind (eqIntS g (by omega)) (Pl.pos rfl (Pl.succ ?_))))))))
  simp only [laws_FnExactBordersOf.j1]
  exact Pl.neg (by simp) (Ev.bind hm2 (Pl.neg (by omega) (Pl.pos rfl (Pl.ret rfl))))

end Go.Proofs.YthdecnghjhdfhaaDoor.Pure

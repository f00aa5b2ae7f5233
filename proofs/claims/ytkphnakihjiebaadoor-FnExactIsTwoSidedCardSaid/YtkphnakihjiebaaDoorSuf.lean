/- No word ends with another one: of the set backwards none begins with another one. -/
import Derived.Test.YtkphnakihjiebaaDoorRev
import Derived.Test.YtkphnakihjiebaaDoorXx12
namespace Go.Proofs.YtkphnakihjiebaaDoor.X
open Go.RowKit Go.Proofs.YtkphnakihjiebaaDoorW.PrintWords Go.Proofs.YtkphnakihjiebaaDoorW.PrintLast Go.Proofs.YtkphnakihjiebaaDoorW.PrintMore Go.Proofs.YtkphnakihjiebaaDoor

theorem endB_rev (s t : ByteArray) : begB (rev s) (rev t) = endB s t := by
  unfold begB endB
  rw [rev_size, rev_size]
  by_cases h : t.size ≤ s.size
  · rw [decide_eq_true h, Bool.true_and, Bool.true_and, toL_ex, toL_ex, Pl.toL (rev t), Pl.toL t, Nat.sub_zero, List.drop_zero]
    have e1 : (rev t).data.toList = (bts t).reverse := rfl
    have e2 : t.data.toList = bts t := rfl
    rw [e1, e2, bts_rev, List.take_reverse, bts_len, List.take_of_length_le (l := (bts s).drop (s.size - t.size)) (by rw [List.length_drop, bts_len]; omega)]
    by_cases e : (bts s).drop (s.size - t.size) = bts t
    · rw [e, beq_self_eq_true, beq_self_eq_true]
    · rw [beq_eq_false_iff_ne.2 e, beq_eq_false_iff_ne]
      exact fun h => e (List.reverse_inj.1 h)
  · rw [decide_eq_false h, Bool.false_and, Bool.false_and]
theorem noTwo_rev {l : List ByteArray} (h : wset l) : noTwo begB (revs l) ↔ noTwo endB l := by
  rw [noTwo_mem (wset_revs h), noTwo_mem h]
  constructor
  · intro hn x hx y hy hne
    rw [← endB_rev]
    exact hn _ ((revs_mem l _).2 ⟨x, hx, rfl⟩) _ ((revs_mem l _).2 ⟨y, hy, rfl⟩) (fun e => hne (rev_inj e))
  · intro hn x hx y hy hne
    obtain ⟨s, hs, rfl⟩ := (revs_mem l x).1 hx
    obtain ⟨t, ht, rfl⟩ := (revs_mem l y).1 hy
    rw [endB_rev]
    exact hn s hs t ht (fun e => hne (by rw [e]))
theorem krSuffix {l : List ByteArray} (h : wset l) : Ev (fun k => spec_krPrefix.f k (revs l)) (decide (noTwo endB l)) :=
  Pl.via (krPrefix (revs l) (wset_revs h)) (decide_eq_decide.2 (noTwo_rev h))
theorem sizeB_set {l : List ByteArray} (h : wset l) : l.all sizeB = true := List.all_eq_true.2 (fun s hs => decide_eq_true (by have := wshort_size (wset_short h s hs); omega))
theorem revSet {l : List ByteArray} (h : wset l) : Ev (fun k => spec_wdReverse.f k l) (revs l) :=
  wdReverse l (by have := h.1; omega) (fun s hs => by have := wshort_size (wset_short h s hs); omega)

end Go.Proofs.YtkphnakihjiebaaDoor.X

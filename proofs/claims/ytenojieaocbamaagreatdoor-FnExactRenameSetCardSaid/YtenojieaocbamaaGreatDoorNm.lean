/- Numbers that are 0, 1 and 2 once each; plain lists, no program. -/
import Derived.Test.YtenojieaocbamaaGreatDoorPl
import Derived.Test.YtenojieaocbamaaGreatDoorXx11
namespace Go.Proofs.YtenojieaocbamaaGreatDoor.X
open Go.RowKit Go.Proofs.YtenojieaocbamaaGreatDoorW.PrintWords Go.Proofs.YtenojieaocbamaaGreatDoorW.PrintLast Go.Proofs.YtenojieaocbamaaGreatDoorW.PrintMore Go.Proofs.YtenojieaocbamaaGreatDoor

theorem srtI_perm (l : List Int) : (srtI l).Perm l := List.mergeSort_perm l _
theorem srtI_srt (l : List Int) : (srtI l).Pairwise fun x y => x ≤ y := by
  unfold srtI
  refine (List.pairwise_mergeSort (le := fun x y : Int => decide (x ≤ y)) ?_ ?_ l).imp fun h => of_decide_eq_true h
  · intro a b c h1 h2
    rw [decide_eq_true_eq] at *
    omega
  · intro a b
    rw [Bool.or_eq_true, decide_eq_true_eq, decide_eq_true_eq]
    omega
theorem le_ext : ∀ l1 l2 : List Int, l1.Pairwise (fun x y => x ≤ y) → l2.Pairwise (fun x y => x ≤ y) → l1.Perm l2 → l1 = l2
  | [], l2, _, _, h => (List.perm_nil.1 h.symm).symm
  | a :: l1, [], _, _, h => absurd h.length_eq (by simp)
  | a :: l1, b :: l2, h1, h2, h => by
    rw [List.pairwise_cons] at h1 h2
    have hab : a = b := by
      rcases List.mem_cons.1 (h.mem_iff.1 (List.mem_cons_self (a := a) (l := l1))) with e | ha
      · exact e
      · rcases List.mem_cons.1 (h.mem_iff.2 (List.mem_cons_self (a := b) (l := l2))) with e | hb
        · exact e.symm
        · have q1 := h2.1 a ha
          have q2 := h1.1 b hb
          omega
    subst hab
    rw [le_ext l1 l2 h1.2 h2.2 h.cons_inv]
theorem names_iff (l : List Int) : srtI l = [0, 1, 2] ↔ l = [0, 1, 2] ∨ l = [0, 2, 1] ∨ l = [1, 0, 2] ∨ l = [1, 2, 0] ∨ l = [2, 0, 1] ∨ l = [2, 1, 0] := by
  constructor
  · intro h
    have hp := srtI_perm l
    rw [h] at hp
    have hlen := hp.length_eq
    have hm : ∀ x, x ∈ l → x = 0 ∨ x = 1 ∨ x = 2 := fun x hx => by simpa using hp.mem_iff.2 hx
    have hn : l.Nodup := hp.nodup_iff.1 (by decide)
    match l, hlen, hm, hn with
    | [a, b, c], _, hm, hn =>
      have ha := hm a (by simp)
      have hb := hm b (by simp)
      have hc := hm c (by simp)
      simp only [List.nodup_cons, List.mem_cons, List.not_mem_nil, or_false, not_or, List.nodup_nil] at hn
      rcases ha with rfl | rfl | rfl <;> rcases hb with rfl | rfl | rfl <;> rcases hc with rfl | rfl | rfl <;> simp at hn ⊢
  · intro h
    refine le_ext _ _ (srtI_srt l) (by decide) ((srtI_perm l).trans ?_)
    rcases h with rfl | rfl | rfl | rfl | rfl | rfl <;> decide

end Go.Proofs.YtenojieaocbamaaGreatDoor.X

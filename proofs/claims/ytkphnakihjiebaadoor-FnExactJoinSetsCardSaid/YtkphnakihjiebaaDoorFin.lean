/- A list that is answered if it is a set; ordered lists of the same members; no condition. -/
import Derived.Test.YtkphnakihjiebaaDoorSrt
import Derived.Test.YtkphnakihjiebaaDoorXx9
namespace Go.Proofs.YtkphnakihjiebaaDoor.X
open Go.RowKit Go.Proofs.YtkphnakihjiebaaDoorW.PrintWords Go.Proofs.YtkphnakihjiebaaDoorW.PrintLast Go.Proofs.YtkphnakihjiebaaDoorW.PrintMore Go.Proofs.YtkphnakihjiebaaDoor

theorem puts_ext (a b : List ByteArray) (h : ∀ z, z ∈ a ↔ z ∈ b) : puts a [] = puts b [] := by
  rw [← ordB_puts]
  obtain ⟨h1, h2, _⟩ := puts_ok b [] List.Pairwise.nil
  exact ordB_eq a _ h1 fun z => by rw [h2 z, h z]; simp
theorem puts_cat (a b out : List ByteArray) : puts (a ++ b) out = puts b (puts a out) := List.foldl_append
noncomputable def fin (r : List ByteArray) : List ByteArray × Bool := if wset r then (r, true) else ([], false)
theorem fin_len (r : List ByteArray) : (fin r).1.length ≤ r.length := by
  unfold fin
  split
  · exact Nat.le_refl _
  · simp
theorem wdIf_fin (r : List ByteArray) : Ev (fun k => spec_wdIf.f k r) (fin r) := by
  unfold spec_wdIf.f fin
  by_cases h : wset r
  · rw [if_pos h]; exact Ev.bind (wdSet r) (Pl.pos (decide_eq_true h) (Pl.ret rfl))
  · rw [if_neg h]; exact Ev.bind (wdSet r) (Pl.neg (by simp [h]) (Pl.ret rfl))
theorem put_new (l : List ByteArray) (x : ByteArray) (h : x ∉ l) : (put l x).length = l.length + 1 := by
  induction l with
  | nil => rfl
  | cons y l ih =>
    rw [put]
    split
    · rw [List.length_cons, ih (fun q => h (List.mem_cons_of_mem _ q)), List.length_cons]
    · split
      · rename_i hq
        exact absurd (Pl.ba_ext hq ▸ List.mem_cons_self) h
      · rfl
theorem put_old (l : List ByteArray) (x : ByteArray) (hs : l.Pairwise (fun a b => wless a b = true)) (h : x ∈ l) : put l x = l := by
  induction l with
  | nil => cases h
  | cons y l ih =>
    rw [List.pairwise_cons] at hs
    rw [put]
    by_cases e : y = x
    · subst e
      rw [if_neg (by rw [wless_irrefl]; decide), if_pos rfl]
    · have hx : x ∈ l := by
        rcases List.mem_cons.1 h with q | q
        · exact absurd q.symm e
        · exact q
      rw [if_pos (hs.1 x hx), ih hs.2 hx]
theorem set_sizes {l : List ByteArray} (h : wset l) : ∀ s ∈ l, s.size ≤ 8 := fun s hs => (wshort_size (wset_short h s hs)).2

end Go.Proofs.YtkphnakihjiebaaDoor.X

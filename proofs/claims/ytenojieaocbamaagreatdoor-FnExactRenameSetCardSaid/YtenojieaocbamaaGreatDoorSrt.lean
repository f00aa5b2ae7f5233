/- Words ordered, each once: a sorted list whose neighbours differ is the one ordered list of its members; no condition. -/
import Derived.Test.YtenojieaocbamaaGreatDoorPut
import Derived.Lib.SlicesCompact
import Derived.Sort.Statements
import Derived.Test.YtenojieaocbamaaGreatDoorXx9
namespace Go.Proofs.YtenojieaocbamaaGreatDoor.X
open Go.RowKit Go.Proofs.YtenojieaocbamaaGreatDoorW.PrintWords Go.Proofs.YtenojieaocbamaaGreatDoorW.PrintLast Go.Proofs.YtenojieaocbamaaGreatDoorW.PrintMore Go.Proofs.YtenojieaocbamaaGreatDoor Go.Lib Go.Sort
section
variable {α : Type} [Inhabited α] [DecidableEq α]
theorem cu_mem (d : Array α) (m : Nat) (z : α) : z ∈ compactUpTo d m ↔ ∃ j, j < m ∧ keeps d j = true ∧ d[j]! = z := by
  unfold compactUpTo
  rw [List.mem_map]
  constructor
  · rintro ⟨j, hj, h⟩
    rw [List.mem_filter, List.mem_range] at hj
    exact ⟨j, hj.1, hj.2, h⟩
  · rintro ⟨j, h1, h2, h3⟩
    exact ⟨j, List.mem_filter.2 ⟨List.mem_range.2 h1, h2⟩, h3⟩
theorem cu_run (d : Array α) : ∀ j, ∃ i, i ≤ j ∧ keeps d i = true ∧ d[i]! = d[j]! := by
  intro j
  induction j with
  | zero => exact ⟨0, Nat.le_refl _, keeps_lt_one d 0 (by omega), rfl⟩
  | succ j ih =>
    by_cases h : d[j + 1]! = d[j]!
    · obtain ⟨i, h1, h2, h3⟩ := ih
      exact ⟨i, by omega, h2, h3.trans h.symm⟩
    · exact ⟨j + 1, Nat.le_refl _, keeps_pos (by simpa using h), rfl⟩
omit [DecidableEq α] in
theorem toA_get (zs : List α) (j : Nat) (h : j < zs.length) : zs.toArray[j]! = zs[j] := by
  rw [getElem!_pos zs.toArray j (by simpa using h), List.getElem_toArray]
theorem compact_mem (zs : List α) (z : α) : z ∈ compact zs ↔ z ∈ zs := by
  unfold compact
  rw [cu_mem]
  constructor
  · rintro ⟨j, h1, _, rfl⟩
    rw [toA_get zs j h1]
    exact List.getElem_mem h1
  · intro h
    obtain ⟨j, hj, rfl⟩ := List.getElem_of_mem h
    obtain ⟨i, h1, h2, h3⟩ := cu_run zs.toArray j
    exact ⟨i, by omega, h2, by rw [h3, toA_get zs j hj]⟩
theorem compact_len (zs : List α) : (compact zs).length ≤ zs.length := by
  unfold compact compactUpTo
  rw [List.length_map]
  exact Nat.le_trans (List.length_filter_le _ _) (by simp)
theorem compact_srt (lt : α → α → Bool) (hO : SWO lt) (hT : ∀ x y, lt x y = false → lt y x = false → x = y) (zs : List α) (hs : zs.Pairwise fun x y => lt y x = false) : (compact zs).Pairwise fun x y => lt x y = true := by
  unfold compact compactUpTo
  rw [List.pairwise_map]
  have h1 : ((List.range zs.length).filter (keeps zs.toArray)).Pairwise (· < ·) := List.pairwise_lt_range.filter _
  refine h1.imp_of_mem ?_
  intro i j hi hj hij
  rw [List.mem_filter, List.mem_range] at hi hj
  have hle : ∀ a b (_ : a < b) (hb : b < zs.length), lt zs[b] (zs[a]'(by omega)) = false := fun a b hab hb => List.pairwise_iff_getElem.1 hs a b (by omega) hb hab
  have hk := hj.2
  unfold keeps at hk
  rw [decide_eq_true_eq] at hk
  have hne : zs.toArray[j]! ≠ zs.toArray[j - 1]! := by
    rcases hk with h | h
    · omega
    · exact h
  rw [toA_get zs j hj.1, toA_get zs (j - 1) (by omega)] at hne
  rw [toA_get zs i hi.1, toA_get zs j hj.1]
  have hlt : lt (zs[j - 1]'(by omega)) zs[j] = true := by
    cases hc : lt (zs[j - 1]'(by omega)) zs[j] with
    | true => rfl
    | false => exact absurd (hT _ _ (hle (j - 1) j (by omega) hj.1) hc) hne
  by_cases e : i = j - 1
  · subst e; exact hlt
  · cases hc : lt zs[i] zs[j] with
    | true => rfl
    | false =>
      have := hO.ntrans _ _ _ (hle i (j - 1) (by omega) (by omega)) hc
      rw [hlt] at this
      cases this
omit [Inhabited α] [DecidableEq α] in
theorem srt_ext (lt : α → α → Bool) (hi : ∀ x, lt x x = false) (ht : ∀ x y, lt x y = true → lt y x = false) : ∀ l1 l2 : List α, l1.Pairwise (fun x y => lt x y = true) → l2.Pairwise (fun x y => lt x y = true) → (∀ z, z ∈ l1 ↔ z ∈ l2) → l1 = l2
  | [], [], _, _, _ => rfl
  | [], b :: l2, _, _, h => absurd ((h b).2 List.mem_cons_self) (by simp)
  | a :: l1, [], _, _, h => absurd ((h a).1 List.mem_cons_self) (by simp)
  | a :: l1, b :: l2, h1, h2, h => by
    rw [List.pairwise_cons] at h1 h2
    have hab : a = b := by
      rcases List.mem_cons.1 ((h a).1 List.mem_cons_self) with e | ha
      · exact e
      · rcases List.mem_cons.1 ((h b).2 List.mem_cons_self) with e | hb
        · exact e.symm
        · have := ht _ _ (h1.1 b hb)
          rw [h2.1 a ha] at this
          cases this
    subst hab
    congr 1
    refine srt_ext lt hi ht l1 l2 h1.2 h2.2 fun z => ?_
    constructor
    · intro hz
      rcases List.mem_cons.1 ((h z).1 (List.mem_cons_of_mem _ hz)) with e | h3
      · subst e; have := h1.1 z hz; rw [hi] at this; cases this
      · exact h3
    · intro hz
      rcases List.mem_cons.1 ((h z).2 (List.mem_cons_of_mem _ hz)) with e | h3
      · subst e; have := h2.1 z hz; rw [hi] at this; cases this
      · exact h3
omit [Inhabited α] [DecidableEq α] in
theorem msort_srt (lt : α → α → Bool) (hO : SWO lt) (zs : List α) : (zs.mergeSort fun x y => !lt y x).Pairwise fun x y => lt y x = false := by
  refine (List.pairwise_mergeSort (le := fun x y => !lt y x) ?_ ?_ zs).imp fun h => by simpa using h
  · intro a b c h1 h2
    simp only [Bool.not_eq_true'] at h1 h2 ⊢
    exact hO.ntrans _ _ _ h2 h1
  · intro a b
    cases h : lt b a with
    | false => rfl
    | true =>
      cases h2 : lt a b with
      | false => rfl
      | true => have := hO.trans _ _ _ h h2; rw [hO.irrefl] at this; cases this
omit [Inhabited α] [DecidableEq α] in
theorem msort_mem (le : α → α → Bool) (zs : List α) (z : α) : z ∈ zs.mergeSort le ↔ z ∈ zs := (List.mergeSort_perm zs le).mem_iff
end
theorem bytesLess_lt : ∀ x y : List UInt8, Op.bytesLess x y = true ↔ x < y
  | [], [] => by simp [Op.bytesLess]
  | [], _ :: _ => by simp [Op.bytesLess]
  | _ :: _, [] => by simp [Op.bytesLess]
  | a :: x, b :: y => by
    rw [Op.bytesLess, List.cons_lt_cons_iff, ← bytesLess_lt x y]
    simp
theorem wless_cf (s t : ByteArray) : wless s t = ltOf cfW s.data.toList t.data.toList := by
  unfold ltOf
  rw [Bool.eq_iff_iff, decide_eq_true_eq, cfW_lt]
  unfold wless
  simp only [Bool.or_eq_true, Bool.and_eq_true, decide_eq_true_eq]
  rw [bytesLess_lt]
  exact Iff.rfl
theorem ordB_mem (l : List ByteArray) (z : ByteArray) : z ∈ ordB l ↔ z ∈ l := by
  unfold ordB sortW
  rw [List.mem_map]
  constructor
  · rintro ⟨x, hx, rfl⟩
    rw [compact_mem, msort_mem, List.mem_map] at hx
    obtain ⟨y, hy, rfl⟩ := hx
    exact hy
  · intro hz
    refine ⟨z.data.toList, ?_, rfl⟩
    rw [compact_mem, msort_mem, List.mem_map]
    exact ⟨z, hz, rfl⟩
theorem ordB_len (l : List ByteArray) : (ordB l).length ≤ l.length := by
  unfold ordB sortW
  rw [List.length_map]
  refine Nat.le_trans (compact_len _) ?_
  rw [List.length_mergeSort, List.length_map]
  exact Nat.le_refl _
theorem ordB_srt (l : List ByteArray) : (ordB l).Pairwise (fun a b => wless a b = true) := by
  unfold ordB sortW
  rw [List.pairwise_map]
  refine (compact_srt (ltOf cfW) swoW totW _ (msort_srt (ltOf cfW) swoW _)).imp fun h => ?_
  rw [wless_cf]
  exact h
theorem wless_asymm {x y : ByteArray} (h : wless x y = true) : wless y x = false := by
  cases h2 : wless y x with
  | false => rfl
  | true => have := wless_trans h h2; rw [wless_irrefl] at this; cases this
theorem ordB_eq (l r : List ByteArray) (hr : r.Pairwise (fun a b => wless a b = true)) (hm : ∀ z, z ∈ r ↔ z ∈ l) : ordB l = r :=
  srt_ext wless wless_irrefl (fun _ _ h => wless_asymm h) _ _ (ordB_srt l) hr fun z => (ordB_mem l z).trans (hm z).symm
/-- Words put into an ordered list, one after another. -/
def puts (l out : List ByteArray) : List ByteArray := l.foldl put out
theorem puts_ok (l : List ByteArray) : ∀ out : List ByteArray, out.Pairwise (fun a b => wless a b = true) →
    (puts l out).Pairwise (fun a b => wless a b = true) ∧ (∀ z, z ∈ puts l out ↔ z ∈ out ∨ z ∈ l) ∧ (puts l out).length ≤ out.length + l.length := by
  induction l with
  | nil => intro out h; exact ⟨h, fun z => by simp [puts], by simp [puts]⟩
  | cons x l ih =>
    intro out h
    obtain ⟨h1, h2, h3⟩ := ih (put out x) (put_srt out x h)
    have e : puts (x :: l) out = puts l (put out x) := rfl
    refine ⟨h1, fun z => ?_, ?_⟩
    · rw [e, h2 z, put_mem, List.mem_cons]
      constructor
      · rintro ((h | h) | h)
        · exact .inr (.inl h)
        · exact .inl h
        · exact .inr (.inr h)
      · rintro (h | h | h)
        · exact .inl (.inr h)
        · exact .inl (.inl h)
        · exact .inr h
    · have := put_len out x
      rw [e, List.length_cons]
      omega
theorem ordB_puts (l : List ByteArray) : ordB l = puts l [] := by
  obtain ⟨h1, h2, _⟩ := puts_ok l [] List.Pairwise.nil
  exact ordB_eq l _ h1 fun z => by simpa using h2 z
theorem ordered_eq (l : List ByteArray) (hl : l.length ≤ 1048576) : impl_ordered.f l = some (puts l []) := by
  unfold impl_ordered.f
  rw [if_pos (by omega), ordB_puts]
end Go.Proofs.YtenojieaocbamaaGreatDoor.X

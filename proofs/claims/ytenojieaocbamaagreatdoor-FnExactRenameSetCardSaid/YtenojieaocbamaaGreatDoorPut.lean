/- The ordered list: what the reference makes; sizes as of sets. -/
import Derived.Test.YtenojieaocbamaaGreatDoorWl
import Derived.Test.YtenojieaocbamaaGreatDoorXx1
namespace Go.Proofs.YtenojieaocbamaaGreatDoor.X
open Go.RowKit Go.Proofs.YtenojieaocbamaaGreatDoorW.PrintWords Go.Proofs.YtenojieaocbamaaGreatDoorW.PrintLast Go.Proofs.YtenojieaocbamaaGreatDoorW.PrintMore Go.Proofs.YtenojieaocbamaaGreatDoor

theorem toL_ex (s : ByteArray) (a b : Nat) : (s.extract a b).toList = ((bts s).drop a).take (b - a) := by
  rw [Pl.toL, ByteArray.data_extract, Array.toList_extract]
/-- A word put into an ordered list. -/
def put : List ByteArray → ByteArray → List ByteArray
  | [], x => [x]
  | y :: l, x => if wless y x = true then y :: put l x else if y.toList = x.toList then y :: l else x :: y :: l
theorem wdPut_l (l : List ByteArray) (x : ByteArray) (hl : l.length ≤ 1048576) (d : Nat) : ∀ i : Nat, i + d = l.length → Ev (fun k => spec_wdPut.l0 k l x (i : Int)) (l.take i ++ put (l.drop i) x) := by
  induction d with
  | zero =>
    intro i hd
    obtain rfl : i = l.length := by omega
    refine Pl.succ ?_
    simp only [spec_wdPut.l0, Option.bind_some]
    rw [Int.toNat_natCast]
    refine Pl.neg (by omega) (Pl.pos (by omega) (Pl.pos (by omega) (Pl.pos ?_ (Pl.pos ?_ (Pl.pos ?_ (Pl.ret ?_))))))
    · simp only [List.length_nil, List.length_take]; omega
    · simp only [List.nil_append, List.length_take]; omega
    · simp only [List.nil_append, List.length_append, List.length_take, List.length_drop, List.length_cons, List.length_nil]; omega
    · simp [put]
  | succ d ih =>
    intro i hd
    have hil : i < l.length := by omega
    have hdr : l.drop i = l[i] :: l.drop (i + 1) := List.drop_eq_getElem_cons hil
    refine Pl.succ ?_
    simp only [spec_wdPut.l0, wdLess_eq, Option.bind_some]
    rw [Pl.rdS_nat _ i hil, Int.toNat_natCast, Pl.w64 (by omega) (by omega)]
    refine Pl.pos (by omega) (Pl.pos (by omega) ?_)
    by_cases h1 : wless l[i] x = true
    · have hp : put (l.drop i) x = l[i] :: put (l.drop (i + 1)) x := by rw [hdr, put, if_pos h1]
      rw [hp]
      refine Pl.pos h1 (Pl.via (ih (i + 1) (by omega)) ?_)
      rw [List.take_succ_eq_append_getElem hil, List.append_assoc]
      rfl
    · refine Pl.neg h1 ?_
      by_cases h2 : l[i].toList = x.toList
      · have hp : put (l.drop i) x = l.drop i := by rw [hdr, put, if_neg h1, if_pos h2]
        rw [hp, List.take_append_drop]
        exact Pl.pos h2 (Pl.ret rfl)
      · have hp : put (l.drop i) x = x :: l.drop i := by rw [hdr, put, if_neg h1, if_neg h2]
        rw [hp]
        refine Pl.neg h2 (Pl.pos (by omega) (Pl.pos ?_ (Pl.pos ?_ (Pl.pos ?_ (Pl.ret ?_)))))
        · simp only [List.length_nil, List.length_take]; omega
        · simp only [List.nil_append, List.length_take]; omega
        · simp only [List.nil_append, List.length_append, List.length_take, List.length_drop, List.length_cons, List.length_nil]; omega
        · simp
theorem wdPut (l : List ByteArray) (x : ByteArray) (hl : l.length ≤ 1048576) : Ev (fun k => spec_wdPut.f k l x) (put l x) :=
  Pl.via (wdPut_l l x hl l.length 0 (by omega)) (by simp)
theorem bytesLess_total : ∀ x y : List UInt8, x ≠ y → Op.bytesLess x y = false → Op.bytesLess y x = true
  | [], [], h, _ => absurd rfl h
  | [], _ :: _, _, h => by cases h
  | _ :: _, [], _, _ => rfl
  | a :: x, b :: y, h, h1 => by
    rw [Op.bytesLess] at h1 ⊢
    simp only [Bool.or_eq_false_iff, Bool.and_eq_false_iff, decide_eq_false_iff_not, beq_eq_false_iff_ne, Bool.or_eq_true, Bool.and_eq_true, decide_eq_true_eq, beq_iff_eq] at h1 ⊢
    by_cases e : a = b
    · subst e
      refine .inr ⟨rfl, bytesLess_total x y (fun e => h (by rw [e])) ?_⟩
      rcases h1.2 with h2 | h2
      · exact absurd rfl h2
      · exact h2
    · left
      have hn : a.toNat ≠ b.toNat := fun h => e (UInt8.toNat_inj.1 h)
      have h2 := h1.1
      rw [u8_lt_iff] at h2 ⊢
      omega
theorem wless_total {s t : ByteArray} (h1 : ¬ wless s t = true) (h2 : s.toList ≠ t.toList) : wless t s = true := by
  rw [Bool.not_eq_true] at h1
  unfold wless at h1 ⊢
  simp only [Bool.or_eq_false_iff, Bool.and_eq_false_iff, decide_eq_false_iff_not, Bool.or_eq_true, Bool.and_eq_true, decide_eq_true_eq] at h1 ⊢
  rcases h1.2 with h3 | h3
  · left; omega
  · by_cases e : s.size = t.size
    · right
      refine ⟨e.symm, bytesLess_total _ _ ?_ h3⟩
      rw [Pl.toL, Pl.toL] at h2
      exact h2
    · left; omega
theorem put_mem (l : List ByteArray) (x z : ByteArray) : z ∈ put l x ↔ z = x ∨ z ∈ l := by
  induction l with
  | nil => simp [put]
  | cons y l ih =>
    rw [put]
    split
    · rw [List.mem_cons, ih, List.mem_cons]
      constructor
      · rintro (h | h | h)
        · exact .inr (.inl h)
        · exact .inl h
        · exact .inr (.inr h)
      · rintro (h | h | h)
        · exact .inr (.inl h)
        · exact .inl h
        · exact .inr (.inr h)
    · split
      · rename_i h
        have e : y = x := Pl.ba_ext h
        subst e
        rw [List.mem_cons]
        constructor
        · exact .inr
        · rintro (h | h)
          · exact .inl h
          · exact h
      · rw [List.mem_cons]
theorem put_srt (l : List ByteArray) (x : ByteArray) (h : l.Pairwise (fun a b => wless a b = true)) : (put l x).Pairwise (fun a b => wless a b = true) := by
  induction l with
  | nil => exact List.pairwise_singleton _ _
  | cons y l ih =>
    rw [List.pairwise_cons] at h
    rw [put]
    split
    · rename_i h1
      refine List.pairwise_cons.2 ⟨fun z hz => ?_, ih h.2⟩
      rcases (put_mem l x z).1 hz with rfl | hz
      · exact h1
      · exact h.1 z hz
    · rename_i h1
      split
      · exact List.pairwise_cons.2 h
      · rename_i h2
        have hxy := wless_total h1 h2
        refine List.pairwise_cons.2 ⟨fun z hz => ?_, List.pairwise_cons.2 h⟩
        rcases List.mem_cons.1 hz with rfl | hz
        · exact hxy
        · exact wless_trans hxy (h.1 z hz)
theorem put_len (l : List ByteArray) (x : ByteArray) : (put l x).length ≤ l.length + 1 := by
  induction l with
  | nil => simp [put]
  | cons y l ih =>
    rw [put]
    split
    · simp only [List.length_cons]; omega
    · split <;> simp
theorem wset_short {l : List ByteArray} (h : wset l) : ∀ s ∈ l, wshort s = true := fun s hs => by
  obtain ⟨i, hi, rfl⟩ := List.getElem_of_mem hs
  exact h.2.1 i hi
theorem wshort_size {s : ByteArray} (h : wshort s = true) : 1 ≤ s.size ∧ s.size ≤ 8 := by
  unfold wshort at h
  simp only [Bool.and_eq_true, decide_eq_true_eq] at h
  exact h.1
theorem wset_of {l : List ByteArray} (h1 : l.length ≤ 12) (h2 : ∀ s ∈ l, wshort s = true) (h3 : l.Pairwise (fun a b => wless a b = true)) : wset l :=
  ⟨h1, fun i hi => h2 _ (List.getElem_mem hi), fun i hi => List.pairwise_iff_getElem.1 h3 i (i + 1) (by omega) hi (by omega)⟩

end Go.Proofs.YtenojieaocbamaaGreatDoor.X

/- AllCompletePrefix: the program's answer is the reference's, for all arguments; no condition. (All that the proof needs of plain lists stands ahead.) -/
import Derived.Test.YtgokegndboknfaaPl
import Derived.Lib.Bytealg
import Derived.Lib.SlicesCompact
import Derived.Sort.Statements
import Derived.Test.YtgokegndboknfaaXx0
import Derived.Test.YtgokegndboknfaaXx1
import Derived.Test.YtgokegndboknfaaXx2
import Derived.Test.YtgokegndboknfaaXx3
import Derived.Test.YtgokegndboknfaaXx4
import Derived.Test.YtgokegndboknfaaXx5
import Derived.Test.YtgokegndboknfaaXx8
import Derived.Test.YtgokegndboknfaaXx10
import Derived.Test.YtgokegndboknfaaXx11
import Derived.Test.YtgokegndboknfaaXx12
import Derived.Test.YtgokegndboknfaaXx13
import Derived.Test.YtgokegndboknfaaXx14
namespace Go.Proofs.Ytgokegndboknfaa.X
open Go.RowKit Go.Proofs.YtgokegndboknfaaW.PrintWords Go.Proofs.YtgokegndboknfaaW.PrintLast Go.Proofs.YtgokegndboknfaaW.PrintMore Go.Proofs.Ytgokegndboknfaa

/-- A text's bytes. -/
abbrev bts (s : ByteArray) : List UInt8 := s.data.toList
theorem bts_len (s : ByteArray) : (bts s).length = s.size := by rw [bts, Array.length_toList]; rfl
end Go.Proofs.Ytgokegndboknfaa.X
namespace Go.Proofs.Ytgokegndboknfaa.X
open Go.RowKit Go.Proofs.YtgokegndboknfaaW.PrintWords Go.Proofs.YtgokegndboknfaaW.PrintLast Go.Proofs.YtgokegndboknfaaW.PrintMore Go.Proofs.Ytgokegndboknfaa

/-- One word comes before another one. -/
def wless (s t : ByteArray) : Bool := decide (s.size < t.size) || (decide (s.size = t.size) && Op.bytesLess (bts s) (bts t))
theorem u8_lt_iff (a b : UInt8) : a < b ↔ a.toNat < b.toNat := UInt8.lt_iff_toNat_lt
theorem cmpB_neg : ∀ x y : List UInt8, decide (Lib.compareBytes x y < 0) = Op.bytesLess x y
  | [], [] => by simp [Lib.compareBytes, Op.bytesLess]
  | [], _ :: _ => by simp [Lib.compareBytes, Op.bytesLess]
  | _ :: _, [] => by simp [Lib.compareBytes, Op.bytesLess]
  | a :: x, b :: y => by
    have ih := cmpB_neg x y
    rw [Lib.compareBytes, Op.bytesLess]
    by_cases h1 : a < b
    · simp [h1]
    · by_cases h2 : b < a
      · have h3 : ¬ a = b := by
          rintro rfl
          rw [u8_lt_iff] at h2
          omega
        simp [h1, h2, h3]
      · have h3 : a = b := by
          rw [u8_lt_iff] at h1 h2
          exact UInt8.toNat_inj.1 (by omega)
        subst h3
        simp only [h1, if_false, ih, beq_self_eq_true, Bool.true_and, decide_false, Bool.false_or]
theorem wdLess_eq (s t : ByteArray) : spec_wdLess.f s t = some (wless s t) := by
  unfold spec_wdLess.f wless
  by_cases h1 : s.size < t.size
  · rw [if_pos (by omega), decide_eq_true h1]; rfl
  · rw [if_neg (by omega), decide_eq_false h1]
    by_cases h2 : s.size = t.size
    · rw [if_pos (by omega), decide_eq_true h2, Pl.toL, Pl.toL]; rfl
    · rw [if_neg (by omega), decide_eq_false h2]; rfl
end Go.Proofs.Ytgokegndboknfaa.X
namespace Go.Proofs.Ytgokegndboknfaa.X
open Go.RowKit Go.Proofs.YtgokegndboknfaaW.PrintWords Go.Proofs.YtgokegndboknfaaW.PrintLast Go.Proofs.YtgokegndboknfaaW.PrintMore Go.Proofs.Ytgokegndboknfaa

end Go.Proofs.Ytgokegndboknfaa.X
namespace Go.Proofs.Ytgokegndboknfaa.X
open Go.RowKit Go.Proofs.YtgokegndboknfaaW.PrintWords Go.Proofs.YtgokegndboknfaaW.PrintLast Go.Proofs.YtgokegndboknfaaW.PrintMore Go.Proofs.Ytgokegndboknfaa

theorem bytesLess_irrefl : ∀ x : List UInt8, Op.bytesLess x x = false
  | [] => rfl
  | a :: x => by
    rw [Op.bytesLess, bytesLess_irrefl x]
    simp
theorem bytesLess_trans : ∀ x y z : List UInt8, Op.bytesLess x y = true → Op.bytesLess y z = true → Op.bytesLess x z = true
  | [], [], _, h, _ => by cases h
  | [], _ :: _, [], _, h => by cases h
  | [], _ :: _, _ :: _, _, _ => rfl
  | _ :: _, [], _, h, _ => by cases h
  | _ :: _, _ :: _, [], _, h => by cases h
  | a :: x, b :: y, c :: z, h1, h2 => by
    rw [Op.bytesLess] at h1 h2 ⊢
    simp only [Bool.or_eq_true, Bool.and_eq_true, decide_eq_true_eq, beq_iff_eq] at h1 h2 ⊢
    rcases h1 with h1 | ⟨rfl, h1⟩
    · rcases h2 with h2 | ⟨rfl, h2⟩
      · left
        rw [u8_lt_iff] at h1 h2 ⊢
        omega
      · exact .inl h1
    · rcases h2 with h2 | ⟨rfl, h2⟩
      · exact .inl h2
      · exact .inr ⟨rfl, bytesLess_trans x y z h1 h2⟩
theorem wless_irrefl (s : ByteArray) : wless s s = false := by
  unfold wless
  rw [bytesLess_irrefl]
  simp
theorem wless_trans {s t u : ByteArray} (h1 : wless s t = true) (h2 : wless t u = true) : wless s u = true := by
  unfold wless at *
  simp only [Bool.or_eq_true, Bool.and_eq_true, decide_eq_true_eq] at *
  rcases h1 with h1 | ⟨e1, h1⟩ <;> rcases h2 with h2 | ⟨e2, h2⟩
  · left; omega
  · left; omega
  · left; omega
  · right; exact ⟨by omega, bytesLess_trans _ _ _ h1 h2⟩
end Go.Proofs.Ytgokegndboknfaa.X
namespace Go.Proofs.Ytgokegndboknfaa.X
open Go.RowKit Go.Proofs.YtgokegndboknfaaW.PrintWords Go.Proofs.YtgokegndboknfaaW.PrintLast Go.Proofs.YtgokegndboknfaaW.PrintMore Go.Proofs.Ytgokegndboknfaa

/-- A word put into an ordered list. -/
def put : List ByteArray → ByteArray → List ByteArray
  | [], x => [x]
  | y :: l, x => if wless y x = true then y :: put l x else if y.toList = x.toList then y :: l else x :: y :: l
theorem wdPut_l (l : List ByteArray) (x : ByteArray) (hl : l.length ≤ 1048576) (d : Nat) : ∀ i : Nat, i + d = l.length → Ev (fun k => spec_wdPut.l0 k l x (i : Int)) (l.take i ++ put (l.drop i) x) := by
  induction d with
  | zero =>
    intro i hd
    obtain rfl : i = l.length := by omega
    refine Pl.succ ?_
    simp only [spec_wdPut.l0, Option.bind_some]
    rw [Int.toNat_natCast]
    refine Pl.neg (by omega) (Pl.pos (by omega) (Pl.pos (by omega) (Pl.pos ?_ (Pl.pos ?_ (Pl.pos ?_ (Pl.ret ?_))))))
    · simp only [List.length_nil, List.length_take]; omega
    · simp only [List.nil_append, List.length_take]; omega
    · simp only [List.nil_append, List.length_append, List.length_take, List.length_drop, List.length_cons, List.length_nil]; omega
    · simp [put]
  | succ d ih =>
    intro i hd
    have hil : i < l.length := by omega
    have hdr : l.drop i = l[i] :: l.drop (i + 1) := List.drop_eq_getElem_cons hil
    refine Pl.succ ?_
    simp only [spec_wdPut.l0, wdLess_eq, Option.bind_some]
    rw [Pl.rdS_nat _ i hil, Int.toNat_natCast, Pl.w64 (by omega) (by omega)]
    refine Pl.pos (by omega) (Pl.pos (by omega) ?_)
    by_cases h1 : wless l[i] x = true
    · have hp : put (l.drop i) x = l[i] :: put (l.drop (i + 1)) x := by rw [hdr, put, if_pos h1]
      rw [hp]
      refine Pl.pos h1 (Pl.via (ih (i + 1) (by omega)) ?_)
      rw [List.take_succ_eq_append_getElem hil, List.append_assoc]
      rfl
    · refine Pl.neg h1 ?_
      by_cases h2 : l[i].toList = x.toList
      · have hp : put (l.drop i) x = l.drop i := by rw [hdr, put, if_neg h1, if_pos h2]
        rw [hp, List.take_append_drop]
        exact Pl.pos h2 (Pl.ret rfl)
      · have hp : put (l.drop i) x = x :: l.drop i := by rw [hdr, put, if_neg h1, if_neg h2]
        rw [hp]
        refine Pl.neg h2 (Pl.pos (by omega) (Pl.pos ?_ (Pl.pos ?_ (Pl.pos ?_ (Pl.ret ?_)))))
        · simp only [List.length_nil, List.length_take]; omega
        · simp only [List.nil_append, List.length_take]; omega
        · simp only [List.nil_append, List.length_append, List.length_take, List.length_drop, List.length_cons, List.length_nil]; omega
        · simp
theorem wdPut (l : List ByteArray) (x : ByteArray) (hl : l.length ≤ 1048576) : Ev (fun k => spec_wdPut.f k l x) (put l x) :=
  Pl.via (wdPut_l l x hl l.length 0 (by omega)) (by simp)
theorem bytesLess_total : ∀ x y : List UInt8, x ≠ y → Op.bytesLess x y = false → Op.bytesLess y x = true
  | [], [], h, _ => absurd rfl h
  | [], _ :: _, _, h => by cases h
  | _ :: _, [], _, _ => rfl
  | a :: x, b :: y, h, h1 => by
    rw [Op.bytesLess] at h1 ⊢
    simp only [Bool.or_eq_false_iff, Bool.and_eq_false_iff, decide_eq_false_iff_not, beq_eq_false_iff_ne, Bool.or_eq_true, Bool.and_eq_true, decide_eq_true_eq, beq_iff_eq] at h1 ⊢
    by_cases e : a = b
    · subst e
      refine .inr ⟨rfl, bytesLess_total x y (fun e => h (by rw [e])) ?_⟩
      rcases h1.2 with h2 | h2
      · exact absurd rfl h2
      · exact h2
    · left
      have hn : a.toNat ≠ b.toNat := fun h => e (UInt8.toNat_inj.1 h)
      have h2 := h1.1
      rw [u8_lt_iff] at h2 ⊢
      omega
theorem wless_total {s t : ByteArray} (h1 : ¬ wless s t = true) (h2 : s.toList ≠ t.toList) : wless t s = true := by
  rw [Bool.not_eq_true] at h1
  unfold wless at h1 ⊢
  simp only [Bool.or_eq_false_iff, Bool.and_eq_false_iff, decide_eq_false_iff_not, Bool.or_eq_true, Bool.and_eq_true, decide_eq_true_eq] at h1 ⊢
  rcases h1.2 with h3 | h3
  · left; omega
  · by_cases e : s.size = t.size
    · right
      refine ⟨e.symm, bytesLess_total _ _ ?_ h3⟩
      rw [Pl.toL, Pl.toL] at h2
      exact h2
    · left; omega
theorem put_mem (l : List ByteArray) (x z : ByteArray) : z ∈ put l x ↔ z = x ∨ z ∈ l := by
  induction l with
  | nil => simp [put]
  | cons y l ih =>
    rw [put]
    split
    · rw [List.mem_cons, ih, List.mem_cons]
      constructor
      · rintro (h | h | h)
        · exact .inr (.inl h)
        · exact .inl h
        · exact .inr (.inr h)
      · rintro (h | h | h)
        · exact .inr (.inl h)
        · exact .inl h
        · exact .inr (.inr h)
    · split
      · rename_i h
        have e : y = x := Pl.ba_ext h
        subst e
        rw [List.mem_cons]
        constructor
        · exact .inr
        · rintro (h | h)
          · exact .inl h
          · exact h
      · rw [List.mem_cons]
theorem put_srt (l : List ByteArray) (x : ByteArray) (h : l.Pairwise (fun a b => wless a b = true)) : (put l x).Pairwise (fun a b => wless a b = true) := by
  induction l with
  | nil => exact List.pairwise_singleton _ _
  | cons y l ih =>
    rw [List.pairwise_cons] at h
    rw [put]
    split
    · rename_i h1
      refine List.pairwise_cons.2 ⟨fun z hz => ?_, ih h.2⟩
      rcases (put_mem l x z).1 hz with rfl | hz
      · exact h1
      · exact h.1 z hz
    · rename_i h1
      split
      · exact List.pairwise_cons.2 h
      · rename_i h2
        have hxy := wless_total h1 h2
        refine List.pairwise_cons.2 ⟨fun z hz => ?_, List.pairwise_cons.2 h⟩
        rcases List.mem_cons.1 hz with rfl | hz
        · exact hxy
        · exact wless_trans hxy (h.1 z hz)
theorem put_len (l : List ByteArray) (x : ByteArray) : (put l x).length ≤ l.length + 1 := by
  induction l with
  | nil => simp [put]
  | cons y l ih =>
    rw [put]
    split
    · simp only [List.length_cons]; omega
    · split <;> simp
end Go.Proofs.Ytgokegndboknfaa.X
namespace Go.Proofs.Ytgokegndboknfaa.X
open Go.RowKit Go.Proofs.YtgokegndboknfaaW.PrintWords Go.Proofs.YtgokegndboknfaaW.PrintLast Go.Proofs.YtgokegndboknfaaW.PrintMore Go.Proofs.Ytgokegndboknfaa Go.Lib Go.Sort
section
variable {α : Type} [Inhabited α] [DecidableEq α]
theorem cu_mem (d : Array α) (m : Nat) (z : α) : z ∈ compactUpTo d m ↔ ∃ j, j < m ∧ keeps d j = true ∧ d[j]! = z := by
  unfold compactUpTo
  rw [List.mem_map]
  constructor
  · rintro ⟨j, hj, h⟩
    rw [List.mem_filter, List.mem_range] at hj
    exact ⟨j, hj.1, hj.2, h⟩
  · rintro ⟨j, h1, h2, h3⟩
    exact ⟨j, List.mem_filter.2 ⟨List.mem_range.2 h1, h2⟩, h3⟩
theorem cu_run (d : Array α) : ∀ j, ∃ i, i ≤ j ∧ keeps d i = true ∧ d[i]! = d[j]! := by
  intro j
  induction j with
  | zero => exact ⟨0, Nat.le_refl _, keeps_lt_one d 0 (by omega), rfl⟩
  | succ j ih =>
    by_cases h : d[j + 1]! = d[j]!
    · obtain ⟨i, h1, h2, h3⟩ := ih
      exact ⟨i, by omega, h2, h3.trans h.symm⟩
    · exact ⟨j + 1, Nat.le_refl _, keeps_pos (by simpa using h), rfl⟩
omit [DecidableEq α] in
theorem toA_get (zs : List α) (j : Nat) (h : j < zs.length) : zs.toArray[j]! = zs[j] := by
  rw [getElem!_pos zs.toArray j (by simpa using h), List.getElem_toArray]
theorem compact_mem (zs : List α) (z : α) : z ∈ compact zs ↔ z ∈ zs := by
  unfold compact
  rw [cu_mem]
  constructor
  · rintro ⟨j, h1, _, rfl⟩
    rw [toA_get zs j h1]
    exact List.getElem_mem h1
  · intro h
    obtain ⟨j, hj, rfl⟩ := List.getElem_of_mem h
    obtain ⟨i, h1, h2, h3⟩ := cu_run zs.toArray j
    exact ⟨i, by omega, h2, by rw [h3, toA_get zs j hj]⟩
theorem compact_srt (lt : α → α → Bool) (hO : SWO lt) (hT : ∀ x y, lt x y = false → lt y x = false → x = y) (zs : List α) (hs : zs.Pairwise fun x y => lt y x = false) : (compact zs).Pairwise fun x y => lt x y = true := by
  unfold compact compactUpTo
  rw [List.pairwise_map]
  have h1 : ((List.range zs.length).filter (keeps zs.toArray)).Pairwise (· < ·) := List.pairwise_lt_range.filter _
  refine h1.imp_of_mem ?_
  intro i j hi hj hij
  rw [List.mem_filter, List.mem_range] at hi hj
  have hle : ∀ a b (_ : a < b) (hb : b < zs.length), lt zs[b] (zs[a]'(by omega)) = false := fun a b hab hb => List.pairwise_iff_getElem.1 hs a b (by omega) hb hab
  have hk := hj.2
  unfold keeps at hk
  rw [decide_eq_true_eq] at hk
  have hne : zs.toArray[j]! ≠ zs.toArray[j - 1]! := by
    rcases hk with h | h
    · omega
    · exact h
  rw [toA_get zs j hj.1, toA_get zs (j - 1) (by omega)] at hne
  rw [toA_get zs i hi.1, toA_get zs j hj.1]
  have hlt : lt (zs[j - 1]'(by omega)) zs[j] = true := by
    cases hc : lt (zs[j - 1]'(by omega)) zs[j] with
    | true => rfl
    | false => exact absurd (hT _ _ (hle (j - 1) j (by omega) hj.1) hc) hne
  by_cases e : i = j - 1
  · subst e; exact hlt
  · cases hc : lt zs[i] zs[j] with
    | true => rfl
    | false =>
      have := hO.ntrans _ _ _ (hle i (j - 1) (by omega) (by omega)) hc
      rw [hlt] at this
      cases this
omit [Inhabited α] [DecidableEq α] in
theorem srt_ext (lt : α → α → Bool) (hi : ∀ x, lt x x = false) (ht : ∀ x y, lt x y = true → lt y x = false) : ∀ l1 l2 : List α, l1.Pairwise (fun x y => lt x y = true) → l2.Pairwise (fun x y => lt x y = true) → (∀ z, z ∈ l1 ↔ z ∈ l2) → l1 = l2
  | [], [], _, _, _ => rfl
  | [], b :: l2, _, _, h => absurd ((h b).2 List.mem_cons_self) (by simp)
  | a :: l1, [], _, _, h => absurd ((h a).1 List.mem_cons_self) (by simp)
  | a :: l1, b :: l2, h1, h2, h => by
    rw [List.pairwise_cons] at h1 h2
    have hab : a = b := by
      rcases List.mem_cons.1 ((h a).1 List.mem_cons_self) with e | ha
      · exact e
      · rcases List.mem_cons.1 ((h b).2 List.mem_cons_self) with e | hb
        · exact e.symm
        · have := ht _ _ (h1.1 b hb)
          rw [h2.1 a ha] at this
          cases this
    subst hab
    congr 1
    refine srt_ext lt hi ht l1 l2 h1.2 h2.2 fun z => ?_
    constructor
    · intro hz
      rcases List.mem_cons.1 ((h z).1 (List.mem_cons_of_mem _ hz)) with e | h3
      · subst e; have := h1.1 z hz; rw [hi] at this; cases this
      · exact h3
    · intro hz
      rcases List.mem_cons.1 ((h z).2 (List.mem_cons_of_mem _ hz)) with e | h3
      · subst e; have := h2.1 z hz; rw [hi] at this; cases this
      · exact h3
omit [Inhabited α] [DecidableEq α] in
theorem msort_srt (lt : α → α → Bool) (hO : SWO lt) (zs : List α) : (zs.mergeSort fun x y => !lt y x).Pairwise fun x y => lt y x = false := by
  refine (List.pairwise_mergeSort (le := fun x y => !lt y x) ?_ ?_ zs).imp fun h => by simpa using h
  · intro a b c h1 h2
    simp only [Bool.not_eq_true'] at h1 h2 ⊢
    exact hO.ntrans _ _ _ h2 h1
  · intro a b
    cases h : lt b a with
    | false => rfl
    | true =>
      cases h2 : lt a b with
      | false => rfl
      | true => have := hO.trans _ _ _ h h2; rw [hO.irrefl] at this; cases this
omit [Inhabited α] [DecidableEq α] in
theorem msort_mem (le : α → α → Bool) (zs : List α) (z : α) : z ∈ zs.mergeSort le ↔ z ∈ zs := (List.mergeSort_perm zs le).mem_iff
end
theorem bytesLess_lt : ∀ x y : List UInt8, Op.bytesLess x y = true ↔ x < y
  | [], [] => by simp [Op.bytesLess]
  | [], _ :: _ => by simp [Op.bytesLess]
  | _ :: _, [] => by simp [Op.bytesLess]
  | a :: x, b :: y => by
    rw [Op.bytesLess, List.cons_lt_cons_iff, ← bytesLess_lt x y]
    simp
theorem wless_cf (s t : ByteArray) : wless s t = ltOf cfW s.data.toList t.data.toList := by
  unfold ltOf
  rw [Bool.eq_iff_iff, decide_eq_true_eq, cfW_lt]
  unfold wless
  simp only [Bool.or_eq_true, Bool.and_eq_true, decide_eq_true_eq]
  rw [bytesLess_lt]
  exact Iff.rfl
theorem ordB_mem (l : List ByteArray) (z : ByteArray) : z ∈ ordB l ↔ z ∈ l := by
  unfold ordB sortW
  rw [List.mem_map]
  constructor
  · rintro ⟨x, hx, rfl⟩
    rw [compact_mem, msort_mem, List.mem_map] at hx
    obtain ⟨y, hy, rfl⟩ := hx
    exact hy
  · intro hz
    refine ⟨z.data.toList, ?_, rfl⟩
    rw [compact_mem, msort_mem, List.mem_map]
    exact ⟨z, hz, rfl⟩
theorem ordB_srt (l : List ByteArray) : (ordB l).Pairwise (fun a b => wless a b = true) := by
  unfold ordB sortW
  rw [List.pairwise_map]
  refine (compact_srt (ltOf cfW) swoW totW _ (msort_srt (ltOf cfW) swoW _)).imp fun h => ?_
  rw [wless_cf]
  exact h
theorem wless_asymm {x y : ByteArray} (h : wless x y = true) : wless y x = false := by
  cases h2 : wless y x with
  | false => rfl
  | true => have := wless_trans h h2; rw [wless_irrefl] at this; cases this
theorem ordB_eq (l r : List ByteArray) (hr : r.Pairwise (fun a b => wless a b = true)) (hm : ∀ z, z ∈ r ↔ z ∈ l) : ordB l = r :=
  srt_ext wless wless_irrefl (fun _ _ h => wless_asymm h) _ _ (ordB_srt l) hr fun z => (ordB_mem l z).trans (hm z).symm
/-- Words put into an ordered list, one after another. -/
def puts (l out : List ByteArray) : List ByteArray := l.foldl put out
theorem puts_ok (l : List ByteArray) : ∀ out : List ByteArray, out.Pairwise (fun a b => wless a b = true) →
    (puts l out).Pairwise (fun a b => wless a b = true) ∧ (∀ z, z ∈ puts l out ↔ z ∈ out ∨ z ∈ l) ∧ (puts l out).length ≤ out.length + l.length := by
  induction l with
  | nil => intro out h; exact ⟨h, fun z => by simp [puts], by simp [puts]⟩
  | cons x l ih =>
    intro out h
    obtain ⟨h1, h2, h3⟩ := ih (put out x) (put_srt out x h)
    have e : puts (x :: l) out = puts l (put out x) := rfl
    refine ⟨h1, fun z => ?_, ?_⟩
    · rw [e, h2 z, put_mem, List.mem_cons]
      constructor
      · rintro ((h | h) | h)
        · exact .inr (.inl h)
        · exact .inl h
        · exact .inr (.inr h)
      · rintro (h | h | h)
        · exact .inl (.inr h)
        · exact .inl (.inl h)
        · exact .inr h
    · have := put_len out x
      rw [e, List.length_cons]
      omega
theorem ordB_puts (l : List ByteArray) : ordB l = puts l [] := by
  obtain ⟨h1, h2, _⟩ := puts_ok l [] List.Pairwise.nil
  exact ordB_eq l _ h1 fun z => by simpa using h2 z
theorem ordered_eq (l : List ByteArray) (hl : l.length ≤ 1048576) : impl_ordered.f l = some (puts l []) := by
  unfold impl_ordered.f
  rw [if_pos (by omega), ordB_puts]
end Go.Proofs.Ytgokegndboknfaa.X
namespace Go.Proofs.Ytgokegndboknfaa.X
open Go.RowKit Go.Proofs.YtgokegndboknfaaW.PrintWords Go.Proofs.YtgokegndboknfaaW.PrintLast Go.Proofs.YtgokegndboknfaaW.PrintMore Go.Proofs.Ytgokegndboknfaa

/-- The text behind the first word. -/
def tailX : List ByteArray → List UInt8
  | [] => []
  | s :: l => 44 :: (s.data.toList ++ tailX l)
def wtx : List ByteArray → List UInt8
  | [] => [45]
  | s :: l => s.data.toList ++ tailX l
theorem textX_l (l : List ByteArray) (hl : l.length ≤ 1000) (hs : ∀ s ∈ l, s.size ≤ 8) (d : Nat) : ∀ (i : Nat) (out : ByteArray), i + d = l.length → 1 ≤ i → 1 ≤ out.size → out.size ≤ 9 * i →
    Ev (fun k => spec_wdText.l0 k out l (l.length : Int) (i : Int)) ⟨(out.data.toList ++ tailX (l.drop i)).toArray⟩ := by
  induction d with
  | zero =>
    intro i out hd hi ho hb
    refine Pl.succ ?_
    simp only [spec_wdText.l0]
    have hne : out.toList ≠ [] := by
      intro e
      have : out.toList.length = out.size := by rw [Pl.toL]; exact bts_len out
      rw [e] at this
      simp at this
      omega
    refine Pl.neg (by omega) (Pl.neg hne (Pl.ret ?_))
    rw [List.drop_of_length_le (by omega), tailX, List.append_nil]
  | succ d ih =>
    intro i out hd hi ho hb
    have hil : i < l.length := by omega
    have h8 := hs l[i] (List.getElem_mem hil)
    have e1 : (out ++ (⟨#[44]⟩ : ByteArray)).size = out.size + 1 := by rw [ByteArray.size_append]; rfl
    refine Pl.succ ?_
    simp only [spec_wdText.l0]
    rw [Pl.rdS_nat _ i hil, Pl.w64 (by omega) (by omega)]
    refine Pl.pos (by omega) (Pl.pos (by omega) (Pl.pos (by omega) (Pl.pos (by omega) (Pl.pos (by omega) (Pl.pos (by omega) ?_)))))
    refine Pl.via (ih (i + 1) _ (by omega) (by omega) (by rw [ByteArray.size_append]; omega) (by rw [ByteArray.size_append]; omega)) ?_
    rw [List.drop_eq_getElem_cons hil, tailX]
    congr 1
    congr 1
    simp only [ByteArray.data_append, Array.toList_append, List.append_assoc]
    rfl
theorem wdTextX (l : List ByteArray) (hl : l.length ≤ 1000) (hs : ∀ s ∈ l, 1 ≤ s.size ∧ s.size ≤ 8) : Ev (fun k => spec_wdText.f k l) ⟨(wtx l).toArray⟩ := by
  unfold spec_wdText.f
  cases l with
  | nil =>
    refine Pl.succ ?_
    simp only [spec_wdText.l0]
    exact Pl.neg (by simp) (Pl.pos (by rw [Pl.toL]) (Pl.ret rfl))
  | cons x l =>
    have hx := hs x List.mem_cons_self
    simp only [List.length_cons] at hl
    have hr : rdOf ByteArray.empty (x :: l) (0 : Int) = x := rfl
    have e0 : (⟨#[]⟩ : ByteArray) ++ x = x := by
      apply Pl.ba_ext
      simp only [Pl.toL, ByteArray.data_append, Array.toList_append]
      rfl
    refine Pl.succ ?_
    simp only [spec_wdText.l0]
    rw [hr, e0, Pl.w64 (by omega) (by omega)]
    refine Pl.pos (by simp only [List.length_cons]; omega) (Pl.pos (by omega) (Pl.pos (by simp only [List.length_cons]; omega) (Pl.neg (by omega) (Pl.pos (by show 0 + x.size ≤ 9223372036854775807; omega) ?_))))
    exact textX_l (x :: l) (by simp only [List.length_cons]; omega) (fun s h => (hs s h).2) l.length 1 x (by simp only [List.length_cons]; omega) (by omega) (by omega) (by omega)
end Go.Proofs.Ytgokegndboknfaa.X
namespace Go.Proofs.Ytgokegndboknfaa.X
open Go.RowKit Go.Proofs.YtgokegndboknfaaW.PrintWords Go.Proofs.YtgokegndboknfaaW.PrintLast Go.Proofs.YtgokegndboknfaaW.PrintMore Go.Proofs.Ytgokegndboknfaa

theorem eqStringS_l (l : List ByteArray) (hl : l.length ≤ 4611686018427387904) (d : Nat) : ∀ (i : Nat), l.length - i = d → i ≤ l.length → Ev (fun k => laws_eqStringS.l0 k l l (i : Int)) true := by
  induction d with
  | zero =>
    intro i hd hi
    refine Pl.succ ?_
    simp only [laws_eqStringS.l0]
    exact Pl.neg (by omega) (Pl.ret rfl)
  | succ d ih =>
    intro i hd hi
    refine Pl.succ ?_
    simp only [laws_eqStringS.l0]
    refine Pl.pos (by omega) (Pl.pos (by omega) (Pl.pos (by omega) (Pl.pos (by first | rfl | trivial) ?_)))
    rw [Pl.w64 (by omega) (by omega)]
    exact ih (i + 1) (by omega) (by omega)
theorem eqStringS (l : List ByteArray) (hl : l.length ≤ 4611686018427387904) : Ev (fun k => laws_eqStringS.f k l l) true := by
  unfold laws_eqStringS.f
  exact Pl.pos rfl (eqStringS_l l hl l.length 0 (by omega) (by omega))


end Go.Proofs.Ytgokegndboknfaa.X
namespace Go.Proofs.Ytgokegndboknfaa.X
open Go.RowKit Go.Proofs.YtgokegndboknfaaW.PrintWords Go.Proofs.YtgokegndboknfaaW.PrintLast Go.Proofs.YtgokegndboknfaaW.PrintMore Go.Proofs.Ytgokegndboknfaa

theorem rdSS (l : List (List ByteArray)) (i : Nat) (h : i < l.length) : rd_L1 l (i : Int) = l[i] := by
  simp [rd_L1, List.getD_eq_getElem?_getD, h]
theorem eqStringSS_l (l : List (List ByteArray)) (hl : l.length ≤ 500000000000) (hr : ∀ r ∈ l, r.length ≤ 100) (d : Nat) : ∀ (i : Nat), l.length - i = d → i ≤ l.length → Ev (fun k => laws_eqStringSS.l0 k l l (i : Int)) true := by
  induction d with
  | zero =>
    intro i hd hi
    refine Pl.succ ?_
    simp only [laws_eqStringSS.l0]
    exact Pl.neg (by omega) (Pl.ret rfl)
  | succ d ih =>
    intro i hd hi
    have hil : i < l.length := by omega
    refine Pl.succ ?_
    simp only [laws_eqStringSS.l0]
    rw [rdSS l i hil]
    refine Pl.pos (by omega) (Pl.pos (by omega) (Pl.pos (by omega) (Ev.bind (eqStringS _ (by have := hr _ (List.getElem_mem hil); omega)) (Pl.pos rfl ?_))))
    rw [Pl.w64 (by omega) (by omega)]
    exact ih (i + 1) (by omega) (by omega)
theorem eqStringSS (l : List (List ByteArray)) (hl : l.length ≤ 500000000000) (hr : ∀ r ∈ l, r.length ≤ 100) : Ev (fun k => laws_eqStringSS.f k l l) true := by
  unfold laws_eqStringSS.f
  exact Pl.pos rfl (eqStringSS_l l hl hr l.length 0 (by omega) (by omega))
theorem markTextB_l (d : Nat) : ∀ (n : Nat) (acc : ByteArray), n < 10 ^ d → n ≤ 1000000000000000 → acc.size + d ≤ 1000 → ∃ t, Ev (fun k => laws_markText.l0 k (n : Int) acc) t := by
  induction d with
  | zero =>
    intro n acc hn hq hs
    refine ⟨(⟨#[109]⟩ : ByteArray) ++ acc, Pl.succ ?_⟩
    simp only [laws_markText.l0]
    exact Pl.neg (by omega) (Pl.pos (by omega) (Pl.ret rfl))
  | succ d ih =>
    intro n acc hn hq hs
    by_cases h0 : n = 0
    · refine ⟨(⟨#[109]⟩ : ByteArray) ++ acc, Pl.succ ?_⟩
      simp only [laws_markText.l0]
      exact Pl.neg (by omega) (Pl.pos (by omega) (Pl.ret rfl))
    · have hsz : ∀ y : Int, (strOfNums [y]).size = 1 := fun y => by rw [strOfNums_size]; rfl
      obtain ⟨t, ht⟩ := ih (n / 10) (strOfNums [(wrap64 (48 + (Int.tmod (n : Int) 10))) % 256] ++ acc) (by rw [Nat.pow_succ] at hn; omega) (by omega) (by rw [ByteArray.size_append, hsz]; omega)
      refine ⟨t, Pl.succ ?_⟩
      simp only [laws_markText.l0, Option.bind_some]
      refine Pl.pos (by omega) (Pl.pos (by rw [hsz]; omega) ?_)
      have e : Int.tdiv (n : Int) 10 = ((n / 10 : Nat) : Int) := (Int.ofNat_tdiv n 10).symm
      rw [e, Pl.w64 (by omega) (by omega)]
      exact ht
theorem markTextB (n : Nat) (h1 : 1 ≤ n) (hn : n ≤ 1000000000000000) : ∃ t, Ev (fun k => laws_markText.f k (n : Int)) t := by
  obtain ⟨t, ht⟩ := markTextB_l 17 n ⟨#[]⟩ (by omega) hn (by decide)
  refine ⟨t, ?_⟩
  unfold laws_markText.f
  exact Pl.neg (by omega) ht
theorem markStringS_a (a : Nat) (ha1 : 1 ≤ a) (ha : a ≤ 100000000000000) (n : Nat) (hn : n ≤ 1048576) (d : Nat) : ∀ (i : Nat) (x : List ByteArray), n - i = d → i ≤ n → x.length = n → (∀ j, j < i → ∃ t, x[j]? = some t ∧ Ev (fun k => laws_markText.f k ((a + j : Nat) : Int)) t) →
    ∃ l', l'.length = n ∧ (∀ j, j < n → ∃ t, l'[j]? = some t ∧ Ev (fun k => laws_markText.f k ((a + j : Nat) : Int)) t) ∧ Ev (fun k => laws_markStringS.l0 k x ((a + i : Nat) : Int) (i : Int)) (((a + n : Nat) : Int), l') := by
  induction d with
  | zero =>
    intro i x hd hi hx he
    refine ⟨x, hx, fun j hj => he j (by omega), ?_⟩
    refine Pl.succ ?_
    simp only [laws_markStringS.l0]
    obtain rfl : i = n := by omega
    exact Pl.neg (by omega) (Pl.ret rfl)
  | succ d ih =>
    intro i x hd hi hx he
    obtain ⟨t, ht⟩ := markTextB (a + i) (by omega) (by omega)
    obtain ⟨l', h1, h2, h3⟩ := ih (i + 1) (x.set i t) (by omega) (by omega) (by simpa using hx) (by
      intro j hj
      rw [List.getElem?_set]
      by_cases e : i = j
      · subst e
        exact ⟨t, by rw [if_pos rfl, if_pos (by omega)], ht⟩
      · rw [if_neg e]
        exact he j (by omega))
    refine ⟨l', h1, h2, ?_⟩
    refine Pl.succ ?_
    simp only [laws_markStringS.l0]
    refine Pl.pos (by omega) (Ev.bind ht (Pl.pos (by omega) ?_))
    rw [Pl.w64 (n := ((a + i : Nat) : Int) + 1) (by omega) (by omega), Pl.w64 (n := (i : Int) + 1) (by omega) (by omega), Int.toNat_natCast]
    have e : (((a + i : Nat) : Int) + 1) = ((a + (i + 1) : Nat) : Int) := by omega
    rw [e]
    exact h3
theorem heldStringS_a (a : Nat) (ha : a ≤ 100000000000000) (n : Nat) (hn : n ≤ 1048576) (l' : List ByteArray) (h1 : l'.length = n) (h2 : ∀ j, j < n → ∃ t, l'[j]? = some t ∧ Ev (fun k => laws_markText.f k ((a + j : Nat) : Int)) t) (d : Nat) : ∀ (i : Nat), n - i = d → i ≤ n →
    Ev (fun k => laws_heldStringS.l0 k l' ((a + i : Nat) : Int) (i : Int)) ((a + n : Nat) : Int) := by
  induction d with
  | zero =>
    intro i hd hi
    refine Pl.succ ?_
    simp only [laws_heldStringS.l0]
    obtain rfl : i = n := by omega
    exact Pl.neg (by omega) (Pl.ret rfl)
  | succ d ih =>
    intro i hd hi
    obtain ⟨t, hti, ht⟩ := h2 i (by omega)
    refine Pl.succ ?_
    simp only [laws_heldStringS.l0]
    have hr : rdOf ByteArray.empty l' (i : Int) = t := by
      rw [List.getElem?_eq_getElem (by omega)] at hti
      rw [Pl.rdS_nat _ _ (by omega)]
      exact Option.some.inj hti
    refine Pl.pos (by omega) (Pl.pos (by omega) (Ev.bind ht (Pl.pos (by rw [hr]) ?_)))
    rw [Pl.w64 (n := ((a + i : Nat) : Int) + 1) (by omega) (by omega), Pl.w64 (n := (i : Int) + 1) (by omega) (by omega)]
    have e : (((a + i : Nat) : Int) + 1) = ((a + (i + 1) : Nat) : Int) := by omega
    rw [e]
    exact ih (i + 1) (by omega) (by omega)
theorem markSa (l : List ByteArray) (a : Nat) (ha1 : 1 ≤ a) (ha : a ≤ 100000000000000) (hn : l.length ≤ 1048576) : ∃ l', Ev (fun k => laws_markStringS.f k l (a : Int)) (((a + l.length : Nat) : Int), l') ∧ Ev (fun k => laws_heldStringS.f k l' (a : Int)) ((a + l.length : Nat) : Int) := by
  obtain ⟨l', h1, h2, h3⟩ := markStringS_a a ha1 ha l.length hn l.length 0 l (by omega) (by omega) rfl (fun j hj => absurd hj (Nat.not_lt_zero _))
  exact ⟨l', h3, heldStringS_a a ha l.length hn l' h1 h2 l.length 0 (by omega) (by omega)⟩
/-- The rows hold the marks from a on; e: what is next. -/
def HeldS : List (List ByteArray) → Nat → Nat → Prop
  | [], a, e => e = a
  | x :: xs, a, e => ∃ b : Nat, Ev (fun k => laws_heldStringS.f k x (a : Int)) (b : Int) ∧ HeldS xs b e
theorem marksSS_l : ∀ (l : List (List ByteArray)) (a : Nat), 1 ≤ a → a + l.length * 100 ≤ 100000000000000 → (∀ r ∈ l, r.length ≤ 100) → ∃ (l' : List (List ByteArray)) (e : Nat), l'.length = l.length ∧ Ev (fun k => mSSS k l (a : Int)) ((e : Int), l') ∧ HeldS l' a e
  | [], a, _, _, _ => ⟨[], a, rfl, Ev.now _, rfl⟩
  | x :: xs, a, h0, h1, h2 => by
    have hx := h2 x List.mem_cons_self
    rw [List.length_cons] at h1
    obtain ⟨x', q1, q2⟩ := markSa x a h0 (by omega) (by omega)
    obtain ⟨l', e, e1, e2, e3⟩ := marksSS_l xs (a + x.length) (by omega) (by omega) (fun r hr => h2 r (List.mem_cons_of_mem _ hr))
    refine ⟨x' :: l', e, by rw [List.length_cons, List.length_cons, e1], ?_, ⟨_, q2, e3⟩⟩
    unfold mSSS
    exact Ev.bind q1 (Ev.bind e2 (Ev.now _))
theorem heldStringSS_l (l : List (List ByteArray)) (hl : l.length ≤ 500000000000) : ∀ (suf pre : List (List ByteArray)) (a e : Nat), l = pre ++ suf → HeldS suf a e → Ev (fun k => laws_heldStringSS.l0 k l (a : Int) (pre.length : Int)) (e : Int)
  | [], pre, a, e, hp, h => by
    refine Pl.succ ?_
    simp only [laws_heldStringSS.l0]
    have : l.length = pre.length := by rw [hp]; simp
    have h' : e = a := h
    exact Pl.neg (by omega) (Pl.ret (by rw [h']))
  | x :: xs, pre, a, e, hp, h => by
    obtain ⟨b, h1, h2⟩ := h
    have hlen : l.length = pre.length + (xs.length + 1) := by rw [hp]; simp
    have hx : rd_L1 l (pre.length : Int) = x := by rw [rdSS l pre.length (by omega)]; simp [hp]
    refine Pl.succ ?_
    simp only [laws_heldStringSS.l0]
    rw [hx, Pl.w64 (n := (pre.length : Int) + 1) (by omega) (by omega)]
    refine Pl.pos (by omega) (Pl.pos (by omega) (Ev.bind h1 (Pl.neg (by omega) ?_)))
    have := heldStringSS_l l hl xs (pre ++ [x]) b e (by rw [hp]; simp) h2
    rw [List.length_append, List.length_singleton] at this
    exact this
/-- Marked, and held: the marks stand. -/
theorem marksSS (l : List (List ByteArray)) (hl : l.length ≤ 500000000000) (hr : ∀ r ∈ l, r.length ≤ 100) : ∃ (l' : List (List ByteArray)) (e : Nat), Ev (fun k => laws_markStringSS.f k l 1) ((e : Int), l') ∧ Ev (fun k => laws_heldStringSS.f k l' 1) (e : Int) := by
  obtain ⟨l', e, e1, e2, e3⟩ := marksSS_l l 1 (by omega) (by omega) hr
  exact ⟨l', e, e2, heldStringSS_l l' (by omega) l' [] 1 e rfl e3⟩

end Go.Proofs.Ytgokegndboknfaa.X
namespace Go.Proofs.Ytgokegndboknfaa.X
open Go.RowKit Go.Proofs.YtgokegndboknfaaW.PrintWords Go.Proofs.YtgokegndboknfaaW.PrintLast Go.Proofs.YtgokegndboknfaaW.PrintMore Go.Proofs.Ytgokegndboknfaa

/-! What can be evaluated: the texts' bytes alone. -/
def putV : List ByteArray → ByteArray → List ByteArray
  | [], x => [x]
  | y :: l, x => if wless y x = true then y :: putV l x else if y.data.toList = x.data.toList then y :: l else x :: y :: l
theorem putV_eq : ∀ (l : List ByteArray) (x : ByteArray), putV l x = put l x
  | [], _ => rfl
  | y :: l, x => by rw [putV, put, putV_eq l x, Pl.toL, Pl.toL]
def putsV (l : List ByteArray) : List ByteArray := l.foldl putV []
theorem putsV_eq (l : List ByteArray) : putsV l = puts l [] := by
  unfold putsV puts
  congr 1
  funext a b
  exact putV_eq a b
def okX (l : List ByteArray) : Bool := decide (l.length ≤ 50) && l.all fun s => decide (1 ≤ s.size) && decide (s.size ≤ 8)
def chkL (L : List (List ByteArray)) : Bool := decide (L.length ≤ 1000) && L.all okX && L.all (fun l => acOk (putsV l)) && decide (L.map fun l => wtx (putsV l)).Nodup
def goodL (m n : Nat) : Bool := match tr 40 (m : Int) (n : Int) 8 with
  | none => false
  | some L => decide (pl 40 (m : Int) 0 (n : Int) ⟨#[]⟩ = some L) && chkL L
set_option maxRecDepth 100000 in
theorem good_all : ∀ m < 4, ∀ n < 7, 2 ≤ m → 2 ≤ n → goodL m n = true := by decide +kernel
set_option maxRecDepth 100000 in
theorem pl_one : ∀ m < 4, 2 ≤ m → pl 40 ((m : Nat) : Int) 0 1 ⟨#[]⟩ = some [] := by decide +kernel

theorem okX_iff {l : List ByteArray} (h : okX l = true) : l.length ≤ 50 ∧ ∀ s ∈ l, 1 ≤ s.size ∧ s.size ≤ 8 := by
  unfold okX at h
  rw [Bool.and_eq_true, decide_eq_true_eq] at h
  refine ⟨h.1, fun s hs => ?_⟩
  have := List.all_eq_true.1 h.2 s hs
  rw [Bool.and_eq_true, decide_eq_true_eq, decide_eq_true_eq] at this
  exact this
/-- A set of words, small. -/
def okR (l : List ByteArray) : Prop := l.length ≤ 50 ∧ ∀ s ∈ l, 1 ≤ s.size ∧ s.size ≤ 8
theorem puts_okR {l : List ByteArray} (h : okR l) : okR (puts l []) := by
  obtain ⟨_, h2, h3⟩ := puts_ok l [] List.Pairwise.nil
  refine ⟨by have := h.1; simp only [List.length_nil] at h3; omega, fun s hs => h.2 s ?_⟩
  rcases (h2 s).1 hs with q | q
  · cases q
  · exact q
theorem joinTail_tailX : ∀ l : List ByteArray, Lib.joinTail [44] (l.map (·.data.toList)) = tailX l
  | [] => rfl
  | s :: l => by
    have ih := joinTail_tailX l
    unfold Lib.joinTail at ih ⊢
    rw [List.map_cons, List.map_cons, List.flatten_cons, ih]
    rfl
theorem acT_eq (l : List ByteArray) : (acT l).data.toList = wtx l := by
  unfold acT
  cases l with
  | nil => rfl
  | cons s l =>
    rw [if_neg (by simp), List.map_cons, Lib.join_cons, joinTail_tailX]
    rfl
/-! The order of the sets. -/
def xlt (a b : List ByteArray) : Bool := Op.bytesLess (wtx a) (wtx b)
theorem xlt_irrefl (a : List ByteArray) : xlt a a = false := bytesLess_irrefl _
theorem xlt_trans {a b c : List ByteArray} (h1 : xlt a b = true) (h2 : xlt b c = true) : xlt a c = true := bytesLess_trans _ _ _ h1 h2
theorem xlt_asymm {a b : List ByteArray} (h : xlt a b = true) : xlt b a = false := by
  cases h2 : xlt b a with
  | false => rfl
  | true => have := xlt_trans h h2; rw [xlt_irrefl] at this; cases this
theorem xltO : Go.Sort.SWO xlt where
  irrefl := xlt_irrefl
  trans _ _ _ h1 h2 := xlt_trans h1 h2
  ntrans x y z h1 h2 := by
    cases h : xlt x z with
    | false => rfl
    | true =>
      have n1 : ¬ wtx x < wtx y := fun q => by rw [show xlt x y = true from (bytesLess_lt _ _).2 q] at h1; cases h1
      have n2 : ¬ wtx y < wtx z := fun q => by rw [show xlt y z = true from (bytesLess_lt _ _).2 q] at h2; cases h2
      have n3 := (bytesLess_lt _ _).1 h
      exact absurd n3 (List.not_lt.2 (List.le_trans (List.not_lt.1 n2) (List.not_lt.1 n1)))
def insT : List (List ByteArray) → List ByteArray → List (List ByteArray)
  | [], s => [s]
  | y :: l, s => if xlt y s = true then y :: insT l s else s :: y :: l
theorem insT_mem (l : List (List ByteArray)) (s z : List ByteArray) : z ∈ insT l s ↔ z = s ∨ z ∈ l := by
  induction l with
  | nil => simp [insT]
  | cons y l ih =>
    unfold insT
    split
    · rw [List.mem_cons, ih, List.mem_cons]
      constructor
      · rintro (h | h | h)
        · exact .inr (.inl h)
        · exact .inl h
        · exact .inr (.inr h)
      · rintro (h | h | h)
        · exact .inr (.inl h)
        · exact .inl h
        · exact .inr (.inr h)
    · rw [List.mem_cons]
theorem insT_len (l : List (List ByteArray)) (s : List ByteArray) : (insT l s).length = l.length + 1 := by
  induction l with
  | nil => rfl
  | cons y l ih =>
    unfold insT
    split
    · rw [List.length_cons, ih, List.length_cons]
    · rfl
theorem insT_srt (l : List (List ByteArray)) (s : List ByteArray) (h : l.Pairwise (fun a b => xlt a b = true)) (hs : ∀ y ∈ l, wtx y ≠ wtx s) : (insT l s).Pairwise (fun a b => xlt a b = true) := by
  induction l with
  | nil => exact List.pairwise_singleton _ _
  | cons y l ih =>
    rw [List.pairwise_cons] at h
    unfold insT
    by_cases hc : xlt y s = true
    · rw [if_pos hc, List.pairwise_cons]
      refine ⟨fun z hz => ?_, ih h.2 fun z hz => hs z (List.mem_cons_of_mem _ hz)⟩
      rcases (insT_mem l s z).1 hz with rfl | hz
      · exact hc
      · exact h.1 z hz
    · rw [if_neg hc, List.pairwise_cons]
      have hsy : xlt s y = true := bytesLess_total _ _ (hs y List.mem_cons_self) (by unfold xlt at hc; simpa using hc)
      refine ⟨fun z hz => ?_, List.pairwise_cons.2 h⟩
      rcases List.mem_cons.1 hz with rfl | hz
      · exact hsy
      · exact xlt_trans hsy (h.1 z hz)
theorem insAll (os : List (List ByteArray)) : ∀ out : List (List ByteArray), out.Pairwise (fun a b => xlt a b = true) → ((out ++ os).map wtx).Nodup →
    (os.foldl insT out).Pairwise (fun a b => xlt a b = true) ∧ (∀ z, z ∈ os.foldl insT out ↔ z ∈ out ∨ z ∈ os) ∧ (os.foldl insT out).length = out.length + os.length := by
  induction os with
  | nil => intro out h _; exact ⟨h, fun z => by simp, by simp⟩
  | cons s os ih =>
    intro out h hn
    have hp : ((insT out s ++ os).map wtx).Nodup := by
      have hperm : (insT out s).Perm (out ++ [s]) := by
        clear ih h hn
        induction out with
        | nil => exact List.Perm.refl _
        | cons y l ihl =>
          unfold insT
          split
          · exact ihl.cons y
          · exact (List.perm_append_singleton s (y :: l)).symm
      have h2 : ((insT out s ++ os).map wtx).Perm ((out ++ s :: os).map wtx) := by
        refine List.Perm.map wtx ?_
        have := hperm.append_right os
        rwa [List.append_assoc, List.singleton_append] at this
      exact h2.nodup_iff.2 hn
    have hs : ∀ y ∈ out, wtx y ≠ wtx s := by
      intro y hy
      rw [List.map_append, List.map_cons] at hn
      exact (List.pairwise_append.1 hn).2.2 (wtx y) (List.mem_map_of_mem hy) (wtx s) List.mem_cons_self
    obtain ⟨a1, a2, a3⟩ := ih (insT out s) (insT_srt out s h hs) hp
    rw [List.foldl_cons]
    refine ⟨a1, fun z => ?_, by rw [a3, insT_len, List.length_cons]; omega⟩
    rw [a2, insT_mem, List.mem_cons]
    constructor
    · rintro ((h | h) | h)
      · exact .inr (.inl h)
      · exact .inl h
      · exact .inr (.inr h)
    · rintro (h | h | h)
      · exact .inl (.inr h)
      · exact .inl (.inl h)
      · exact .inr h
/-- The program's order is the reference's. -/
theorem acS_eq (os : List (List ByteArray)) (hn : (os.map wtx).Nodup) : acS os = os.foldl insT [] := by
  obtain ⟨h1, h2, _⟩ := insAll os [] List.Pairwise.nil hn
  have e : acS os = os.mergeSort fun x y => !xlt y x := by
    unfold acS
    congr 1
    funext a b
    unfold acLe xlt
    rw [acT_eq, acT_eq, cmpB_neg]
  rw [e]
  have hp := List.mergeSort_perm os fun x y => !xlt y x
  have hs := msort_srt xlt xltO os
  have hd : ((os.mergeSort fun x y => !xlt y x).map wtx).Nodup := (hp.map wtx).nodup_iff.2 hn
  refine srt_ext xlt xlt_irrefl (fun _ _ h => xlt_asymm h) _ _ ?_ h1 fun z => ?_
  · have hd' := List.pairwise_map.1 hd
    refine (hs.and hd').imp fun {a b} h => ?_
    exact bytesLess_total _ _ (fun e => h.2 e.symm) h.1
  · rw [hp.mem_iff, h2]
    simp
/-! The reference. -/
theorem acL2 {rows out : List (List ByteArray)} {set : List ByteArray} {n j : Int} {R : List (List ByteArray) × Bool} (hl : out.length ≤ 2000) (ho : ∀ l ∈ out, okR l) (hs : okR set) (hj : -1000000 ≤ j ∧ j ≤ 1000000)
    (hn : Ev (fun k => spec_AllCompletePrefix.l0 k (insT out set) rows n (j + 1)) R) (d : Nat) : ∀ i : Nat, i + d = out.length → insT out set = out.take i ++ insT (out.drop i) set → Ev (fun k => spec_AllCompletePrefix.l2 k out set (i : Int) rows n j) R := by
  induction d with
  | zero =>
    intro i hd hi
    obtain rfl : i = out.length := by omega
    refine Pl.succ ?_
    simp only [spec_AllCompletePrefix.l2, Option.bind_some]
    rw [Int.toNat_natCast, Pl.w64 (n := j + 1) (by omega) (by omega)]
    refine Pl.neg (by omega) (Pl.pos (by omega) (Pl.pos (by omega) (Pl.pos ?_ (Pl.pos ?_ (Pl.pos ?_ ?_)))))
    · simp only [List.length_nil, List.length_take]; omega
    · simp only [List.nil_append, List.length_take]; omega
    · simp only [List.nil_append, List.length_append, List.length_take, List.length_drop, List.length_cons, List.length_nil]; omega
    · rw [hi] at hn
      simp only [List.nil_append, List.append_assoc, List.drop_length, insT] at hn ⊢
      simpa using hn
  | succ d ih =>
    intro i hd hi
    have hil : i < out.length := by omega
    have hdr : out.drop i = out[i] :: out.drop (i + 1) := List.drop_eq_getElem_cons hil
    have hoi := ho _ (List.getElem_mem hil)
    refine Pl.succ ?_
    simp only [spec_AllCompletePrefix.l2, Option.bind_some]
    rw [rdSS _ i hil, Int.toNat_natCast, Pl.w64 (n := (i : Int) + 1) (by omega) (by omega), Pl.w64 (n := j + 1) (by omega) (by omega)]
    refine Pl.pos (by omega) (Pl.pos (by omega) (Ev.bind (wdTextX out[i] (by have := hoi.1; omega) hoi.2) (Ev.bind (wdTextX set (by have := hs.1; omega) hs.2) ?_)))
    rw [Pl.toL, Pl.toL]
    by_cases h1 : xlt out[i] set = true
    · have hp : insT (out.drop i) set = out[i] :: insT (out.drop (i + 1)) set := by rw [hdr, insT, if_pos h1]
      refine Pl.pos h1 (ih (i + 1) (by omega) ?_)
      rw [hi, hp, List.take_succ_eq_append_getElem hil, List.append_assoc]
      rfl
    · have hp : insT (out.drop i) set = set :: out.drop i := by rw [hdr, insT, if_neg h1]
      rw [hi, hp] at hn
      refine Pl.neg h1 (Pl.pos (by omega) (Pl.pos ?_ (Pl.pos ?_ (Pl.pos ?_ ?_))))
      · simp only [List.length_nil, List.length_take]; omega
      · simp only [List.nil_append, List.length_take]; omega
      · simp only [List.nil_append, List.length_append, List.length_take, List.length_drop, List.length_cons, List.length_nil]; omega
      · simpa using hn
theorem acL1 {rows out : List (List ByteArray)} {row : List ByteArray} {n j : Int} {R : List (List ByteArray) × Bool} (hr : okR row) (d : Nat) : ∀ (i : Nat) (set : List ByteArray), i + d = row.length → set.length ≤ i →
    Ev (fun k => spec_AllCompletePrefix.l2 k out (puts (row.drop i) set) 0 rows n j) R → Ev (fun k => spec_AllCompletePrefix.l1 k out set rows n j row (row.length : Int) (i : Int)) R := by
  have h50 := hr.1
  induction d with
  | zero =>
    intro i set hd hs h
    rw [List.drop_of_length_le (by omega)] at h
    refine Pl.succ ?_
    simp only [spec_AllCompletePrefix.l1]
    exact Pl.neg (by omega) h
  | succ d ih =>
    intro i set hd hs h
    have hil : i < row.length := by omega
    have hpl := put_len set row[i]
    rw [List.drop_eq_getElem_cons hil] at h
    refine Pl.succ ?_
    simp only [spec_AllCompletePrefix.l1]
    rw [Pl.rdS_nat _ i hil, Pl.w64 (n := (i : Int) + 1) (by omega) (by omega)]
    exact Pl.pos (by omega) (Pl.pos (by omega) (Pl.pos (by omega) (Ev.bind (wdPut set row[i] (by omega)) (ih (i + 1) _ (by omega) (by omega) h))))
theorem acL0 (rows : List (List ByteArray)) (hr : ∀ l ∈ rows, okR l) (hrl : rows.length ≤ 1000) (d : Nat) : ∀ (j : Nat) (out : List (List ByteArray)), j + d = rows.length → out.length = j → (∀ l ∈ out, okR l) →
    Ev (fun k => spec_AllCompletePrefix.l0 k out rows (rows.length : Int) (j : Int)) (((rows.drop j).map fun l => puts l []).foldl insT out, true) := by
  induction d with
  | zero =>
    intro j out hd hl ho
    refine Pl.succ ?_
    simp only [spec_AllCompletePrefix.l0]
    rw [List.drop_of_length_le (by omega)]
    exact Pl.neg (by omega) (Pl.ret rfl)
  | succ d ih =>
    intro j out hd hl ho
    have hjl : j < rows.length := by omega
    have hrow := hr _ (List.getElem_mem hjl)
    have hset := puts_okR hrow
    rw [List.drop_eq_getElem_cons hjl, List.map_cons, List.foldl_cons]
    refine Pl.succ ?_
    simp only [spec_AllCompletePrefix.l0]
    rw [rdSS _ j hjl]
    refine Pl.pos (by omega) (Pl.pos (by omega) (Pl.pos (by omega) (acL1 hrow rows[j].length 0 [] (by omega) (by simp) ?_)))
    rw [List.drop_zero]
    refine acL2 (by omega) ho hset (by omega) ?_ out.length 0 (by omega) (by rw [List.take_zero, List.drop_zero, List.nil_append])
    have e : ((j : Int) + 1) = ((j + 1 : Nat) : Int) := by omega
    rw [e]
    refine ih (j + 1) _ (by omega) (by rw [insT_len]; omega) fun l hlm => ?_
    rcases (insT_mem _ _ _).1 hlm with rfl | h
    · exact hset
    · exact ho l h
theorem mapO_ordered : ∀ rows : List (List ByteArray), (∀ l ∈ rows, okR l) → mapO impl_ordered.f rows = some (rows.map fun l => puts l [])
  | [], _ => rfl
  | l :: rows, h => by
    have h1 := (h l List.mem_cons_self).1
    rw [mapO, ordered_eq l (by omega), Option.bind_some, mapO_ordered rows fun x hx => h x (List.mem_cons_of_mem _ hx), Option.bind_some]
    rfl
theorem tr_lift' {k k' : Nat} {m n q : Int} {L : List (List ByteArray)} (h : tr k m n q = some L) (hk : k ≤ k') : tr k' m n q = some L := at_rounds (g := fun k => tr k m n q) (fun k => tr.mono k m n q) hk h
theorem pl_lift {k k' : Nat} {m f n : Int} {a : ByteArray} {L : List (List ByteArray)} (h : pl k m f n a = some L) (hk : k ≤ k') : pl k' m f n a = some L := at_rounds (g := fun k => pl k m f n a) (fun k => pl.mono k m f n a) hk h
theorem l1In_ac (a b c : Int) : spec_l1In.f a b c = some (decide (b ≤ a ∧ a ≤ c)) := by
  unfold spec_l1In.f
  by_cases h : b ≤ a
  · rw [if_pos h]; simp [h]
  · rw [if_neg h]; simp [h]
theorem in_ac (a b c : Int) : impl_in.f a b c = some (decide (b ≤ a ∧ a ≤ c)) := by
  unfold impl_in.f
  by_cases h : b ≤ a
  · rw [if_pos h]; simp [h]
  · rw [if_neg h]; simp [h]
/-- From the trees on: both hand back the same sets. -/
theorem ac_rows {m n : Int} (L : List (List ByteArray)) (hc : chkL L = true) (hi : Ev (fun k => impl_completePrefix.f k m n) L) (hs : Ev (fun k => spec_pfLists.f k m 0 n ⟨#[]⟩) L) :
    ∃ v : List (List ByteArray), v.length ≤ 1000 ∧ (∀ r ∈ v, r.length ≤ 100) ∧ Ev (fun k => spec_AllCompletePrefix.j0 k m n false) (v, true) ∧
      Ev (fun k => (impl_completePrefix.f k m n).bind fun rows => if rows.length ≤ 1000000 then ((mapO impl_ordered.f rows).bind fun os => if os.all acOk = true ∧ (os.map fun l => (acT l).data.toList).Nodup then some (acS os, true) else none) else none) (v, true) := by
  unfold chkL at hc
  simp only [Bool.and_eq_true, decide_eq_true_eq] at hc
  obtain ⟨⟨⟨h1, h2⟩, h3⟩, h4⟩ := hc
  have hok : ∀ l ∈ L, okR l := fun l hl => okX_iff (List.all_eq_true.1 h2 l hl)
  have h4' : ((L.map fun l => puts l []).map wtx).Nodup := by
    rw [List.map_map]
    have : (fun l => wtx (putsV l)) = wtx ∘ fun l => puts l [] := by funext l; rw [putsV_eq]; rfl
    rw [← this]
    exact h4
  obtain ⟨a1, a2, a3⟩ := insAll (L.map fun l => puts l []) [] List.Pairwise.nil h4'
  refine ⟨(L.map fun l => puts l []).foldl insT [], ?_, fun r hr => ?_, ?_, ?_⟩
  · rw [a3, List.length_map]; simp only [List.length_nil]; omega
  · rcases (a2 r).1 hr with h | h
    · cases h
    · obtain ⟨l, hl, rfl⟩ := List.mem_map.1 h
      have := (puts_okR (hok l hl)).1
      omega
  · refine Pl.succ ?_
    simp only [spec_AllCompletePrefix.j0]
    refine Pl.neg (by decide) (Ev.bind hs ?_)
    have := acL0 L hok h1 L.length 0 [] (by omega) rfl (by simp)
    rw [List.drop_zero] at this
    exact this
  · refine Ev.bind hi (Pl.pos (by omega) ?_)
    rw [mapO_ordered L hok]
    refine Ev.bind (Ev.now _) (Pl.pos ⟨?_, ?_⟩ (Pl.ret ?_))
    · rw [List.all_eq_true]
      intro o ho
      obtain ⟨l, hl, rfl⟩ := List.mem_map.1 ho
      rw [← putsV_eq]
      exact List.all_eq_true.1 h3 l hl
    · have : (fun l => (acT l).data.toList) = wtx := by funext l; exact acT_eq l
      rw [this]
      exact h4'
    · rw [acS_eq _ h4']
theorem ac_both (a b : Int) : ∃ v : List (List ByteArray) × Bool, v.1.length ≤ 1000 ∧ (∀ r ∈ v.1, r.length ≤ 100) ∧ Ev (fun k => spec_AllCompletePrefix.f k a b) v ∧ Ev (fun k => impl_AllCompletePrefix.f k a b) v := by
  unfold spec_AllCompletePrefix.f impl_AllCompletePrefix.f spec_krLetters.f impl_areLetters.f
  simp only [l1In_ac, in_ac, Option.bind_some]
  have hno : Ev (fun k => spec_AllCompletePrefix.j0 k a b true) (([] : List (List ByteArray)), false) := by
    refine Pl.succ ?_
    simp only [spec_AllCompletePrefix.j0]
    exact Pl.pos (by trivial) (Pl.ret rfl)
  by_cases h1 : 2 ≤ a ∧ a ≤ 3
  · by_cases h2 : 1 ≤ b ∧ b ≤ 6
    · obtain ⟨m, rfl⟩ : ∃ m : Nat, a = (m : Int) := ⟨a.toNat, by omega⟩
      obtain ⟨n, rfl⟩ : ∃ n : Nat, b = (n : Int) := ⟨b.toNat, by omega⟩
      have key : ∃ v : List (List ByteArray), v.length ≤ 1000 ∧ (∀ r ∈ v, r.length ≤ 100) ∧ Ev (fun k => spec_AllCompletePrefix.j0 k (m : Int) (n : Int) false) (v, true) ∧
          Ev (fun k => (impl_completePrefix.f k (m : Int) (n : Int)).bind fun rows => if rows.length ≤ 1000000 then ((mapO impl_ordered.f rows).bind fun os => if os.all acOk = true ∧ (os.map fun l => (acT l).data.toList).Nodup then some (acS os, true) else none) else none) (v, true) := by
        by_cases hn : n = 1
        · subst hn
          have hp := pl_one m (by omega) (by omega)
          refine ac_rows [] rfl ?_ ⟨40, fun k hk => pl_lift hp hk⟩
          unfold impl_completePrefix.f
          exact Pl.pos rfl (Pl.ret rfl)
        · have hg := good_all m (by omega) n (by omega) (by omega) (by omega)
          unfold goodL at hg
          cases ht : tr 40 (m : Int) (n : Int) 8 with
          | none => rw [ht] at hg; cases hg
          | some L =>
            rw [ht] at hg
            simp only [Bool.and_eq_true, decide_eq_true_eq] at hg
            refine ac_rows L hg.2 ?_ ⟨40, fun k hk => pl_lift hg.1 hk⟩
            unfold impl_completePrefix.f impl_trees.f
            exact Pl.neg (by omega) (Ev.bind ⟨40, fun k hk => tr_lift' ht hk⟩ (Pl.ret rfl))
      obtain ⟨v, k1, k2, k3, k4⟩ := key
      refine ⟨(v, true), k1, k2, Pl.pos (decide_eq_true h1) ?_, Pl.pos (decide_eq_true h1) (Pl.pos (decide_eq_true h2) k4)⟩
      rw [decide_eq_true h2]
      exact k3
    · refine ⟨([], false), by simp, by simp, Pl.pos (decide_eq_true h1) ?_, Pl.pos (decide_eq_true h1) (Pl.neg (by simp [h2]) (Pl.ret rfl))⟩
      rw [decide_eq_false h2]
      exact hno
  · exact ⟨([], false), by simp, by simp, Pl.neg (by simp [h1]) hno, Pl.neg (by simp [h1]) (Pl.ret rfl)⟩

end Go.Proofs.Ytgokegndboknfaa.X
namespace Go.Proofs.Ytgokegndboknfaa.Pure
open Go.RowKit Go.Proofs.Ytgokegndboknfaa.X Go.Proofs.YtgokegndboknfaaW.PrintWords Go.Proofs.YtgokegndboknfaaW.PrintLast Go.Proofs.Ytgokegndboknfaa

theorem FnExactAllCompletePrefix (a b : Int) (_ : (Lit.int .i64 a).wf = true) (_ : (Lit.int .i64 b).wf = true) : ∃ k, laws_FnExactAllCompletePrefix.f k a b = some true := by
  refine Ev.rounds ?_
  unfold laws_FnExactAllCompletePrefix.f
  obtain ⟨⟨g, q⟩, hlen, hrow, h1, h2⟩ := ac_both a b
  simp only at hlen hrow
  obtain ⟨mg, e, hm1, hm2⟩ := marksSS g (by omega) hrow
  exact Ev.bind h1 (Ev.bind h2 (Ev.bind (eqStringSS g (by omega) hrow) (Ev.bind hm1 (Ev.bind hm2 (Pl.pos ⟨rfl, rfl, by show (0 : Int) ≤ (e : Int); omega, rfl⟩ (Pl.ret rfl))))))

end Go.Proofs.Ytgokegndboknfaa.Pure

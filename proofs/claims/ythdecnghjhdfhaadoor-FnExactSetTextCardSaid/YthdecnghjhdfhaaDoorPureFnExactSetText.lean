/- SetText: the program's answer is the reference's, for all arguments; no condition. -/
import Derived.Test.YthdecnghjhdfhaaDoorSt
import Derived.Test.YthdecnghjhdfhaaDoorLwZ
import Derived.Test.YthdecnghjhdfhaaDoorLwS
import Derived.Test.YthdecnghjhdfhaaDoorXx11
import Derived.Test.YthdecnghjhdfhaaDoorXx26
import Derived.Test.YthdecnghjhdfhaaDoorXx27
namespace Go.Proofs.YthdecnghjhdfhaaDoor.Pure
open Go.RowKit Go.Proofs.YthdecnghjhdfhaaDoor.X Go.Proofs.YthdecnghjhdfhaaDoorW.PrintWords Go.Proofs.YthdecnghjhdfhaaDoorW.PrintLast Go.Proofs.YthdecnghjhdfhaaDoor

theorem ba_append_assoc (a b c : ByteArray) : a ++ b ++ c = a ++ (b ++ c) := by
  apply Pl.ba_ext
  simp only [Pl.toL, ByteArray.data_append, Array.toList_append, List.append_assoc]
/-- The text behind the first word. -/
def tailB : List ByteArray → List UInt8
  | [] => []
  | s :: l => 44 :: (s.data.toList ++ tailB l)
theorem join_tail (x : ByteArray) (l : List ByteArray) : joinB (x :: l) ⟨#[44]⟩ = x.data.toList ++ tailB l := by
  unfold joinB Lib.join
  induction l generalizing x with
  | nil => simp [tailB, List.intercalate]
  | cons y l ih =>
    have := ih y
    simp only [List.map_cons] at this ⊢
    rw [tailB]
    rw [← this]
    simp [List.intercalate, List.intersperse]
theorem tail_len (l : List ByteArray) (h : ∀ s ∈ l, s.size ≤ 8) : (tailB l).length ≤ 9 * l.length := by
  induction l with
  | nil => simp [tailB]
  | cons s l ih =>
    have h1 := ih (fun x hx => h x (List.mem_cons_of_mem _ hx))
    have h2 := h s List.mem_cons_self
    have h3 : s.data.toList.length = s.size := bts_len s
    rw [tailB, List.length_cons, List.length_append, List.length_cons]
    omega
theorem text_l (l : List ByteArray) (hl : l.length ≤ 12) (hs : ∀ s ∈ l, s.size ≤ 8) (d : Nat) : ∀ (i : Nat) (out : ByteArray), i + d = l.length → 1 ≤ i → 1 ≤ out.size → out.size ≤ 9 * i →
    Ev (fun k => spec_wdText.l0 k out l (l.length : Int) (i : Int)) ⟨(out.data.toList ++ tailB (l.drop i)).toArray⟩ := by
  induction d with
  | zero =>
    intro i out hd hi ho hb
    refine Pl.succ ?_
    simp only [spec_wdText.l0]
    have hne : out.toList ≠ [] := by
      intro e
      have : out.toList.length = out.size := by rw [Pl.toL]; exact bts_len out
      rw [e] at this
      simp at this
      omega
    refine Pl.neg (by omega) (Pl.neg hne (Pl.ret ?_))
    rw [List.drop_of_length_le (by omega), tailB, List.append_nil]
  | succ d ih =>
    intro i out hd hi ho hb
    have hil : i < l.length := by omega
    have h8 := hs l[i] (List.getElem_mem hil)
    have e1 : (out ++ (⟨#[44]⟩ : ByteArray)).size = out.size + 1 := by rw [ByteArray.size_append]; rfl
    refine Pl.succ ?_
    simp only [spec_wdText.l0]
    rw [Pl.rdS_nat _ i hil, Pl.w64 (by omega) (by omega)]
    refine Pl.pos (by omega) (Pl.pos (by omega) (Pl.pos (by omega) (Pl.pos (by omega) (Pl.pos (by omega) (Pl.pos (by omega) ?_)))))
    refine Pl.via (ih (i + 1) _ (by omega) (by omega) (by rw [ByteArray.size_append]; omega) (by rw [ByteArray.size_append]; omega)) ?_
    rw [drop_cons' l i hil, tailB]
    congr 1
    congr 1
    simp only [ByteArray.data_append, Array.toList_append, List.append_assoc]
    rfl
theorem wdText (l : List ByteArray) (h : wset l) : ∃ v, Ev (fun k => spec_wdText.f k l) v ∧ impl_setText.f l = some v := by
  unfold spec_wdText.f impl_setText.f
  have h12 := h.1
  have h8 : ∀ s ∈ l, 1 ≤ s.size ∧ s.size ≤ 8 := fun s hs => by
    obtain ⟨i, hi, rfl⟩ := List.getElem_of_mem hs
    have := h.2.1 i hi
    unfold wshort at this
    simp only [Bool.and_eq_true, decide_eq_true_eq] at this
    exact this.1
  cases l with
  | nil =>
    refine ⟨⟨#[45]⟩, Pl.succ ?_, rfl⟩
    simp only [spec_wdText.l0]
    exact Pl.neg (by simp) (Pl.pos (by rw [Pl.toL]) (Pl.ret rfl))
  | cons x l =>
    have hx := h8 x List.mem_cons_self
    have ht := tail_len l (fun s hs => (h8 s (List.mem_cons_of_mem _ hs)).2)
    simp only [List.length_cons] at h12
    refine ⟨⟨(x.data.toList ++ tailB l).toArray⟩, Pl.succ ?_, ?_⟩
    · have hr : rdOf ByteArray.empty (x :: l) (0 : Int) = x := rfl
      have e0 : (⟨#[]⟩ : ByteArray) ++ x = x := by
        apply Pl.ba_ext
        simp only [Pl.toL, ByteArray.data_append, Array.toList_append]
        rfl
      simp only [spec_wdText.l0]
      rw [hr, e0, Pl.w64 (by omega) (by omega)]
      refine Pl.pos (by simp only [List.length_cons]; omega) (Pl.pos (by omega) (Pl.pos (by simp only [List.length_cons]; omega) (Pl.neg (by omega) (Pl.pos (by have : (⟨#[]⟩ : ByteArray).size = 0 := rfl; omega) ?_))))
      have := text_l (x :: l) (by simp only [List.length_cons]; omega) (fun s hs => (h8 s hs).2) l.length 1 x (by simp only [List.length_cons]; omega) (by omega) hx.1 (by omega)
      exact this
    · have hj : (joinB (x :: l) ⟨#[44]⟩).length ≤ 140737488355328 := by
        have h3 : x.data.toList.length = x.size := bts_len x
        rw [join_tail, List.length_append]
        omega
      rw [if_neg (by simp only [List.length_cons]; omega)]
      unfold strings_Join.f
      rw [if_pos hj, if_pos (by simp only [List.length_cons]; omega), join_tail]
      rfl
theorem both (l : List ByteArray) (hl : l.length ≤ 1048576) : ∃ v, Ev (fun k => spec_SetText.f k l) v ∧ Ev (fun k => impl_SetText.f k l) v := by
  unfold spec_SetText.f impl_SetText.f
  by_cases h : wset l
  · obtain ⟨v, h1, h2⟩ := wdText l h
    refine ⟨(v, true), Ev.bind (wdSet l) ?_, Ev.bind (isSet l (by omega)) ?_⟩
    · rw [decide_eq_true h]
      exact Pl.pos rfl (Ev.bind h1 (Pl.ret rfl))
    · rw [decide_eq_true h, h2]
      exact Pl.pos rfl (Pl.ret rfl)
  · refine ⟨(⟨#[]⟩, false), Ev.bind (wdSet l) ?_, Ev.bind (isSet l (by omega)) ?_⟩
    · rw [decide_eq_false h]; exact Pl.neg (by decide) (Pl.ret rfl)
    · rw [decide_eq_false h]; exact Pl.neg (by decide) (Pl.ret rfl)
theorem FnExactSetText (l : List ByteArray) (hb : l.length * 16 ≤ 140737488351232) (hs : ∀ s ∈ l, s.size ≤ maxLen) : ∃ k, laws_FnExactSetText.f k l = some true := by
  refine Ev.rounds ?_
  unfold laws_FnExactSetText.f
  obtain ⟨r, hr, hq⟩ := szStringS l hb hs 1048576 (by omega) (by omega)
  refine Ev.bind hr ?_
  by_cases hc : r < 0
  · exact Pl.pos hc (Pl.ret rfl)
  obtain ⟨_, hl, _⟩ := hq (by omega)
  obtain ⟨v, h1, h2⟩ := both l hl
  refine Pl.neg hc (Ev.bind (toStringS l hl) (Ev.bind h1 (Ev.bind (toStringS l hl) (Ev.bind h2 (Pl.pos (by first | rfl | trivial) (Pl.succ ?_))))))
  simp only [laws_FnExactSetText.j0]
  refine Pl.neg (by simp) (Ev.bind (toStringS l hl) (Ev.bind (eqStringS l (by omega)) (Pl.pos rfl (Pl.ret rfl))))

end Go.Proofs.YthdecnghjhdfhaaDoor.Pure

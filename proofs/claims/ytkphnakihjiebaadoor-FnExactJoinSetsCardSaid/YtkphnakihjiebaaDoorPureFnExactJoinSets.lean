/- JoinSets: the program's answer is the reference's, for all arguments; no condition. -/
import Derived.Test.YtkphnakihjiebaaDoorFin
import Derived.Test.YtkphnakihjiebaaDoorLwZ
import Derived.Test.YtkphnakihjiebaaDoorLwS2
import Derived.Test.YtkphnakihjiebaaDoorXx9
import Derived.Test.YtkphnakihjiebaaDoorXx10
import Derived.Test.YtkphnakihjiebaaDoorXx12
import Derived.Test.YtkphnakihjiebaaDoorXx13
namespace Go.Proofs.YtkphnakihjiebaaDoor.Pure
open Go.RowKit Go.Proofs.YtkphnakihjiebaaDoor.X Go.Proofs.YtkphnakihjiebaaDoorW.PrintWords Go.Proofs.YtkphnakihjiebaaDoorW.PrintLast Go.Proofs.YtkphnakihjiebaaDoor

theorem l1 (m : List ByteArray) (hm : m.length ≤ 12) (d : Nat) : ∀ (i : Nat) (out : List ByteArray), i + d = m.length → out.length ≤ 12 + i →
    Ev (fun k => spec_JoinSets.l1 k out m (m.length : Int) (i : Int)) (fin (puts (m.drop i) out)) := by
  induction d with
  | zero =>
    intro i out hd ho
    refine Pl.succ ?_
    simp only [spec_JoinSets.l1]
    rw [List.drop_of_length_le (by omega)]
    exact Pl.neg (by omega) (Ev.bind (wdIf_fin out) (Pl.ret rfl))
  | succ d ih =>
    intro i out hd ho
    have hil : i < m.length := by omega
    have hp := put_len out m[i]
    refine Pl.succ ?_
    simp only [spec_JoinSets.l1]
    rw [Pl.rdS_nat _ i hil, Pl.w64 (n := (i : Int) + 1) (by omega) (by omega), List.drop_eq_getElem_cons hil]
    exact Pl.pos (by omega) (Pl.pos (by omega) (Pl.pos (by omega) (Ev.bind (wdPut out m[i] (by omega)) (ih (i + 1) _ (by omega) (by omega)))))
theorem l0 (l m : List ByteArray) (hl : l.length ≤ 12) (hm : m.length ≤ 12) (d : Nat) : ∀ (i : Nat) (out : List ByteArray), i + d = l.length → out.length ≤ i →
    Ev (fun k => spec_JoinSets.l0 k m out l (l.length : Int) (i : Int)) (fin (puts m (puts (l.drop i) out))) := by
  induction d with
  | zero =>
    intro i out hd ho
    refine Pl.succ ?_
    simp only [spec_JoinSets.l0]
    rw [List.drop_of_length_le (show l.length ≤ i by omega)]
    exact Pl.neg (by omega) (l1 m hm m.length 0 out (by omega) (by omega))
  | succ d ih =>
    intro i out hd ho
    have hil : i < l.length := by omega
    have hp := put_len out l[i]
    refine Pl.succ ?_
    simp only [spec_JoinSets.l0]
    rw [Pl.rdS_nat _ i hil, Pl.w64 (n := (i : Int) + 1) (by omega) (by omega), List.drop_eq_getElem_cons hil]
    exact Pl.pos (by omega) (Pl.pos (by omega) (Pl.pos (by omega) (Ev.bind (wdPut out l[i] (by omega)) (ih (i + 1) _ (by omega) (by omega)))))
theorem notShort_eq (s : ByteArray) : notShort s = !(wshort s) := by
  have h := (isShort_b s).symm.trans (isShort_eq s)
  unfold notShort
  rw [Option.some.inj h]
theorem setOf_fin (l : List ByteArray) (h40 : l.length ≤ 40) (h : ∀ s ∈ l, wshort s = true) : impl_SetOf.f l = some (fin (puts l [])) := by
  unfold impl_SetOf.f
  have hn : ¬ (l.any notShort = true) := by
    rw [List.any_eq_true]
    rintro ⟨s, hs, hq⟩
    rw [notShort_eq, h s hs] at hq
    cases hq
  obtain ⟨h1, h2, _⟩ := puts_ok l [] List.Pairwise.nil
  rw [if_pos h40, if_neg hn, ordered_eq l (by omega), Option.bind_some]
  unfold fin
  by_cases hq : (puts l []).length ≤ 12
  · rw [if_pos hq, if_pos (wset_of hq (fun s hs => h s (by simpa using (h2 s).1 hs)) h1)]
  · rw [if_neg hq, if_neg (fun g : wset (puts l []) => hq g.1)]
theorem sj (l m : List ByteArray) : Ev (fun k => spec_JoinSets.j0 k l m true) ([], false) := by
  refine Pl.succ ?_
  simp only [spec_JoinSets.j0]
  exact Pl.pos (by first | rfl | trivial) (Pl.ret rfl)
theorem both (l m : List ByteArray) (hl : l.length ≤ 1048576) (hm : m.length ≤ 1048576) : ∃ v : List ByteArray × Bool, v.1.length ≤ 1048576 ∧ Ev (fun k => spec_JoinSets.f k l m) v ∧ Ev (fun k => impl_JoinSets.f k l m) v := by
  unfold spec_JoinSets.f impl_JoinSets.f
  by_cases h : wset l
  · by_cases g : wset m
    · have w1 := h.1
      have w2 := g.1
      have e1 := l0 l m w1 w2 l.length 0 [] (by omega) (by simp)
      rw [List.drop_zero, ← puts_cat] at e1
      have hp := (puts_ok (l ++ m) [] List.Pairwise.nil).2.2
      have hf := fin_len (puts (l ++ m) [])
      simp only [List.length_nil, List.length_append] at hp
      refine ⟨fin (puts (l ++ m) []), by omega, Ev.bind (wdSet l) (Pl.pos (decide_eq_true h) (Ev.bind (wdSet m) ?_)), Ev.bind (isSet l (by omega)) (Pl.pos (decide_eq_true h) (Ev.bind (isSet m (by omega)) (Pl.pos (decide_eq_true g) (Pl.pos hl (Pl.pos hm ⟨0, fun _ _ => ?_⟩)))))⟩
      · refine Pl.succ ?_
        simp only [spec_JoinSets.j0]
        exact Pl.neg (by simp [g]) e1
      · refine setOf_fin (l ++ m) (by rw [List.length_append]; omega) (fun s hs => ?_)
        rcases List.mem_append.1 hs with q | q
        · exact wset_short h s q
        · exact wset_short g s q
    · exact ⟨([], false), by simp, Ev.bind (wdSet l) (Pl.pos (decide_eq_true h) (Ev.bind (wdSet m) (by rw [decide_eq_false g]; exact sj l m))), Ev.bind (isSet l (by omega)) (Pl.pos (decide_eq_true h) (Ev.bind (isSet m (by omega)) (Pl.neg (by simp [g]) (Pl.ret rfl))))⟩
  · exact ⟨([], false), by simp, Ev.bind (wdSet l) (Pl.neg (by simp [h]) (sj l m)), Ev.bind (isSet l (by omega)) (Pl.neg (by simp [h]) (Pl.ret rfl))⟩
theorem FnExactJoinSets (l m : List ByteArray) (hb : l.length * 16 ≤ 140737488351232) (hs : ∀ s ∈ l, s.size ≤ maxLen) (hb2 : m.length * 16 ≤ 140737488351232) (hs2 : ∀ s ∈ m, s.size ≤ maxLen) : ∃ k, laws_FnExactJoinSets.f k l m = some true := by
  refine Ev.rounds ?_
  unfold laws_FnExactJoinSets.f
  obtain ⟨r, hr, hq⟩ := szStringS l hb hs 1048576 (by omega) (by omega)
  refine Ev.bind hr ?_
  by_cases hc : r < 0
  · exact Pl.pos hc (Pl.ret rfl)
  obtain ⟨hr1, hl, _⟩ := hq (by omega)
  obtain ⟨r2, hr2, hq2⟩ := szStringS m hb2 hs2 r (by omega) (by omega)
  refine Pl.neg hc (Ev.bind hr2 ?_)
  by_cases hc2 : r2 < 0
  · exact Pl.pos hc2 (Pl.ret rfl)
  obtain ⟨_, hm, _⟩ := hq2 (by omega)
  obtain ⟨⟨g, b⟩, hlen, h1, h2⟩ := both l m hl hm
  simp only at hlen
  obtain ⟨mg, hm1, hm2⟩ := marksS g (by omega)
  obtain ⟨ml, ms, hs1⟩ := marksS2 l m (by omega) (by omega)
  obtain ⟨hs1, hs3⟩ := hs1
  refine Pl.neg hc2 (Ev.bind (toStringS l hl) (Ev.bind (toStringS m hm) (Ev.bind h1 (Ev.bind (toStringS l hl) (Ev.bind (toStringS m hm) (Ev.bind h2 (Ev.bind (eqStringS g (by omega)) (Pl.pos rfl (Pl.succ ?_)))))))))
  simp only [laws_FnExactJoinSets.j0]
  refine Pl.neg (by simp) (Ev.bind (toStringS l hl) (Ev.bind (eqStringS l (by omega)) (Pl.pos rfl (Ev.bind (toStringS m hm) (Ev.bind (eqStringS m (by omega)) (Pl.pos rfl (Ev.bind hs1 (Ev.bind hs3 (Pl.neg (by show ¬ (1 + (l.length : Int) + (m.length : Int)) < 0; omega) (Ev.bind (eqStringS g (by omega)) (Pl.pos rfl (Pl.succ ?_))))))))))))
  simp only [laws_FnExactJoinSets.j1]
  refine Pl.neg (by simp) (Ev.bind hm1 (Ev.bind hm2 (Pl.neg (by omega) (Pl.pos rfl (Ev.bind (toStringS l hl) (Ev.bind (toStringS m hm) (Ev.bind h2 (Ev.bind (eqStringS g (by omega)) (Pl.pos rfl (Pl.succ ?_))))))))))
  simp only [laws_FnExactJoinSets.j2]
  exact Pl.neg (by simp) (Ev.bind hm2 (Pl.neg (by omega) (Pl.pos rfl (Pl.ret rfl))))

end Go.Proofs.YtkphnakihjiebaaDoor.Pure

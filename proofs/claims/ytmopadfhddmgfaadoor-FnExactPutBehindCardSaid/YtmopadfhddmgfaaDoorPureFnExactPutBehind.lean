/- PutBehind: the program's answer is the reference's, for all arguments; no condition. -/
import Derived.Test.YtmopadfhddmgfaaDoorFin
import Derived.Test.YtmopadfhddmgfaaDoorPre
import Derived.Test.YtmopadfhddmgfaaDoorLwZ
import Derived.Test.YtmopadfhddmgfaaDoorLwS2
import Derived.Test.YtmopadfhddmgfaaDoorXx1
import Derived.Test.YtmopadfhddmgfaaDoorXx8
import Derived.Test.YtmopadfhddmgfaaDoorXx11
import Derived.Test.YtmopadfhddmgfaaDoorXx12
namespace Go.Proofs.YtmopadfhddmgfaaDoor.Pure
open Go.RowKit Go.Proofs.YtmopadfhddmgfaaDoor.X Go.Proofs.YtmopadfhddmgfaaDoorW.PrintWords Go.Proofs.YtmopadfhddmgfaaDoorW.PrintLast Go.Proofs.YtmopadfhddmgfaaDoor

theorem p1 (l m : List ByteArray) (n : Nat) (hl : l.length ≤ 12) (d : Nat) : ∀ (j : Nat) (out : List ByteArray), j + d = l.length → n < j → out.length ≤ j + 12 →
    Ev (fun k => spec_PutBehind.l0 k (n : Int) m out l (l.length : Int) (j : Int)) (fin (puts (l.drop j) out)) := by
  induction d with
  | zero =>
    intro j out hj hn ho
    refine Pl.succ ?_
    simp only [spec_PutBehind.l0]
    rw [List.drop_of_length_le (by omega)]
    exact Pl.neg (by omega) (Ev.bind (wdIf_fin out) (Pl.ret rfl))
  | succ d ih =>
    intro j out hj hn ho
    have hjl : j < l.length := by omega
    have hp := put_len out l[j]
    refine Pl.succ ?_
    simp only [spec_PutBehind.l0]
    rw [Pl.rdS_nat _ j hjl, Pl.w64 (n := (j : Int) + 1) (by omega) (by omega), List.drop_eq_getElem_cons hjl]
    exact Pl.pos (by omega) (Pl.pos (by omega) (Pl.pos (by omega) (Pl.neg (by omega) (Ev.bind (wdPut out l[j] (by omega)) (ih (j + 1) _ (by omega) (by omega) (by omega))))))
theorem pin (l m : List ByteArray) (n : Nat) (hl : l.length ≤ 12) (hm : m.length ≤ 12) (hn : n < l.length) (h8 : l[n].size ≤ 8) (hm8 : ∀ s ∈ m, s.size ≤ 8) (e : Nat) : ∀ (t : Nat) (out : List ByteArray), t + e = m.length → out.length ≤ n + t →
    Ev (fun k => spec_PutBehind.l1 k (n : Int) m out l[n] l (l.length : Int) (n : Int) m (m.length : Int) (t : Int)) (fin (puts (l.drop (n + 1)) (puts ((m.drop t).map fun y => l[n] ++ y) out))) := by
  induction e with
  | zero =>
    intro t out ht ho
    refine Pl.succ ?_
    simp only [spec_PutBehind.l1]
    rw [Pl.w64 (n := (n : Int) + 1) (by omega) (by omega), List.drop_of_length_le (show m.length ≤ t by omega)]
    exact Pl.neg (by omega) (p1 l m n hl (l.length - (n + 1)) (n + 1) out (by omega) (by omega) (by omega))
  | succ e ih =>
    intro t out ht ho
    have htm : t < m.length := by omega
    have hp := put_len out (l[n] ++ m[t])
    have hz := hm8 _ (List.getElem_mem htm)
    refine Pl.succ ?_
    simp only [spec_PutBehind.l1]
    rw [Pl.rdS_nat _ t htm, Pl.w64 (n := (t : Int) + 1) (by omega) (by omega), List.drop_eq_getElem_cons htm]
    exact Pl.pos (by omega) (Pl.pos (by omega) (Pl.pos (by omega) (Pl.pos (by omega) (Ev.bind (wdPut out _ (by omega)) (ih (t + 1) _ (by omega) (by omega))))))
theorem p2 (l m : List ByteArray) (n : Nat) (hl : l.length ≤ 12) (hm : m.length ≤ 12) (hn : n < l.length) (h8 : l[n].size ≤ 8) (hm8 : ∀ s ∈ m, s.size ≤ 8) (d : Nat) : ∀ (j : Nat) (out : List ByteArray), j + d = n → out.length ≤ j →
    Ev (fun k => spec_PutBehind.l0 k (n : Int) m out l (l.length : Int) (j : Int)) (fin (puts (l.drop (n + 1)) (puts (m.map fun y => l[n] ++ y) (puts ((l.drop j).take d) out)))) := by
  induction d with
  | zero =>
    intro j out hj ho
    obtain rfl : j = n := by omega
    refine Pl.succ ?_
    simp only [spec_PutBehind.l0]
    rw [Pl.rdS_nat _ j hn]
    refine Pl.pos (by omega) (Pl.pos (by omega) (Pl.pos (by omega) (Pl.pos (by first | rfl | trivial) ?_)))
    exact pin l m j hl hm hn h8 hm8 m.length 0 out (by omega) (by omega)
  | succ d ih =>
    intro j out hj ho
    have hjl : j < l.length := by omega
    have hp := put_len out l[j]
    refine Pl.succ ?_
    simp only [spec_PutBehind.l0]
    rw [Pl.rdS_nat _ j hjl, Pl.w64 (n := (j : Int) + 1) (by omega) (by omega), List.drop_eq_getElem_cons hjl, List.take_succ_cons]
    exact Pl.pos (by omega) (Pl.pos (by omega) (Pl.pos (by omega) (Pl.neg (by omega) (Ev.bind (wdPut out l[j] (by omega)) (ih (j + 1) _ (by omega) (by omega))))))
theorem q (l m : List ByteArray) (n : Nat) (hm : m.length ≤ 12) (hn : n < l.length) (h8 : l[n].size ≤ 8) (hm8 : ∀ s ∈ m, s.size ≤ 8) (e : Nat) : ∀ (t : Nat) (out : List ByteArray), t + e = m.length → out.length ≤ 12 + t →
    Ev (fun k => impl_PutBehind.l0 k l (n : Int) out m (m.length : Int) (t : Int)) (fin (puts (out ++ (m.drop t).map fun y => l[n] ++ y) [])) := by
  induction e with
  | zero =>
    intro t out ht ho
    refine Pl.succ ?_
    simp only [impl_PutBehind.l0, ordered_eq out (by omega), Option.bind_some]
    rw [List.drop_of_length_le (show m.length ≤ t by omega), List.map_nil, List.append_nil]
    have hp := (puts_ok out [] List.Pairwise.nil).2.2
    refine Pl.neg (by omega) (Ev.bind (isSet (puts out []) (by simp only [List.length_nil] at hp; omega)) ?_)
    unfold fin
    by_cases h : wset (puts out [])
    · rw [if_pos h]; exact Pl.pos (decide_eq_true h) (Pl.ret rfl)
    · rw [if_neg h]; exact Pl.neg (by simp [h]) (Pl.ret rfl)
  | succ e ih =>
    intro t out ht ho
    have htm : t < m.length := by omega
    have hz := hm8 _ (List.getElem_mem htm)
    refine Pl.succ ?_
    simp only [impl_PutBehind.l0]
    rw [Pl.rdS_nat _ t htm, Pl.rdS_nat _ n hn, Pl.w64 (n := (t : Int) + 1) (by omega) (by omega), List.drop_eq_getElem_cons htm]
    refine Pl.pos (by omega) (Pl.pos (by omega) (Pl.pos (by omega) (Pl.pos (by omega) (Pl.pos (by omega) (Pl.pos (by omega) (Pl.pos (by omega) ?_))))))
    exact Pl.via (ih (t + 1) _ (by omega) (by simp; omega)) (by rw [List.map_cons, List.append_assoc]; rfl)
theorem sj (l m : List ByteArray) (i : Int) : Ev (fun k => spec_PutBehind.j0 k l i m true) ([], false) := by
  refine Pl.succ ?_
  simp only [spec_PutBehind.j0]
  exact Pl.pos (by first | rfl | trivial) (Pl.ret rfl)
theorem ij (l m : List ByteArray) (i : Int) : Ev (fun k => impl_PutBehind.j0 k l i m true) ([], false) := by
  refine Pl.succ ?_
  simp only [impl_PutBehind.j0]
  exact Pl.pos (by first | rfl | trivial) (Pl.ret rfl)
theorem both (l : List ByteArray) (i : Int) (m : List ByteArray) (hl : l.length ≤ 1048576) (hm : m.length ≤ 1048576) : ∃ v : List ByteArray × Bool, v.1.length ≤ 1048576 ∧ Ev (fun k => spec_PutBehind.f k l i m) v ∧ Ev (fun k => impl_PutBehind.f k l i m) v := by
  unfold spec_PutBehind.f impl_PutBehind.f
  simp only [l1In_eq', in_eq', Option.bind_some]
  by_cases h : wset l
  · by_cases g : wset m
    · by_cases p : noTwo begB l
      · by_cases q1 : noTwo begB m
        · have w1 := h.1
          have w2 := g.1
          rw [Pl.w64 (n := (l.length : Int) - 1) (by omega) (by omega)]
          by_cases hi : 0 ≤ i ∧ i ≤ (l.length : Int) - 1
          · obtain ⟨n, rfl⟩ : ∃ n : Nat, i = n := ⟨i.toNat, by omega⟩
            have hn : n < l.length := by omega
            have s1 := set_sizes h
            have s2 := set_sizes g
            have e1 := p2 l m n w1 w2 hn (s1 _ (List.getElem_mem hn)) s2 n 0 [] (by omega) (by simp)
            have e2 := q l m n w2 hn (s1 _ (List.getElem_mem hn)) s2 m.length 0 (l.eraseIdx n) (by omega) (by rw [List.length_eraseIdx]; split <;> omega)
            rw [List.drop_zero] at e1 e2
            have e3 : puts (l.eraseIdx n ++ m.map fun y => l[n] ++ y) [] = puts (l.drop (n + 1)) (puts (m.map fun y => l[n] ++ y) (puts (l.take n) [])) := by
              rw [← puts_cat, ← puts_cat, List.eraseIdx_eq_take_drop_succ]
              refine puts_ext _ _ fun z => ?_
              simp only [List.mem_append, or_assoc, or_comm]
            rw [e3] at e2
            refine ⟨fin (puts (l.drop (n + 1)) (puts (m.map fun y => l[n] ++ y) (puts (l.take n) []))), ?_, Ev.bind (wdSet l) (Pl.pos (decide_eq_true h) (Ev.bind (wdSet m) (Pl.pos (decide_eq_true g) (Ev.bind (krPrefix l h) (Pl.pos (decide_eq_true p) (Ev.bind (krPrefix m g) (Pl.pos (decide_eq_true q1) ?_))))))),
              Ev.bind (isSet l (by omega)) (Pl.pos (decide_eq_true h) (Ev.bind (isSet m (by omega)) (Pl.pos (decide_eq_true g) (Ev.bind (Ev.now (decide (noTwo begB l))) (Pl.pos (decide_eq_true p) (Ev.bind (Ev.now (decide (noTwo begB m))) (Pl.pos (decide_eq_true q1) ?_)))))))⟩
            rotate_left
            · refine Pl.succ ?_
              simp only [spec_PutBehind.j0]
              exact Pl.neg (by simp [hi]) e1
            · refine Pl.succ ?_
              simp only [impl_PutBehind.j0]
              refine Pl.neg (by simp [hi]) (Ev.bind (a := l.eraseIdx n) ⟨0, fun _ _ => ?_⟩ e2)
              unfold impl_without.f
              rw [if_pos (by omega), if_pos (by omega), if_pos (by omega), Int.toNat_natCast]
            · refine Nat.le_trans (fin_len _) ?_
              rw [← e3]
              have := (puts_ok (l.eraseIdx n ++ m.map fun y => l[n] ++ y) [] List.Pairwise.nil).2.2
              have h3 : (l.eraseIdx n).length ≤ l.length := by rw [List.length_eraseIdx]; split <;> omega
              simp only [List.length_nil, List.length_append, List.length_map] at this
              omega
          · exact ⟨([], false), by simp, Ev.bind (wdSet l) (Pl.pos (decide_eq_true h) (Ev.bind (wdSet m) (Pl.pos (decide_eq_true g) (Ev.bind (krPrefix l h) (Pl.pos (decide_eq_true p) (Ev.bind (krPrefix m g) (Pl.pos (decide_eq_true q1) (by rw [decide_eq_false hi]; exact sj l m i)))))))),
              Ev.bind (isSet l (by omega)) (Pl.pos (decide_eq_true h) (Ev.bind (isSet m (by omega)) (Pl.pos (decide_eq_true g) (Ev.bind (Ev.now (decide (noTwo begB l))) (Pl.pos (decide_eq_true p) (Ev.bind (Ev.now (decide (noTwo begB m))) (Pl.pos (decide_eq_true q1) (by rw [decide_eq_false hi]; exact ij l m i))))))))⟩
        · exact ⟨([], false), by simp, Ev.bind (wdSet l) (Pl.pos (decide_eq_true h) (Ev.bind (wdSet m) (Pl.pos (decide_eq_true g) (Ev.bind (krPrefix l h) (Pl.pos (decide_eq_true p) (Ev.bind (krPrefix m g) (Pl.neg (by simp [q1]) (sj l m i)))))))),
            Ev.bind (isSet l (by omega)) (Pl.pos (decide_eq_true h) (Ev.bind (isSet m (by omega)) (Pl.pos (decide_eq_true g) (Ev.bind (Ev.now (decide (noTwo begB l))) (Pl.pos (decide_eq_true p) (Ev.bind (Ev.now (decide (noTwo begB m))) (Pl.neg (by simp [q1]) (ij l m i))))))))⟩
      · exact ⟨([], false), by simp, Ev.bind (wdSet l) (Pl.pos (decide_eq_true h) (Ev.bind (wdSet m) (Pl.pos (decide_eq_true g) (Ev.bind (krPrefix l h) (Pl.neg (by simp [p]) (sj l m i)))))),
          Ev.bind (isSet l (by omega)) (Pl.pos (decide_eq_true h) (Ev.bind (isSet m (by omega)) (Pl.pos (decide_eq_true g) (Ev.bind (Ev.now (decide (noTwo begB l))) (Pl.neg (by simp [p]) (ij l m i))))))⟩
    · exact ⟨([], false), by simp, Ev.bind (wdSet l) (Pl.pos (decide_eq_true h) (Ev.bind (wdSet m) (Pl.neg (by simp [g]) (sj l m i)))),
        Ev.bind (isSet l (by omega)) (Pl.pos (decide_eq_true h) (Ev.bind (isSet m (by omega)) (Pl.neg (by simp [g]) (ij l m i))))⟩
  · exact ⟨([], false), by simp, Ev.bind (wdSet l) (Pl.neg (by simp [h]) (sj l m i)), Ev.bind (isSet l (by omega)) (Pl.neg (by simp [h]) (ij l m i))⟩
theorem FnExactPutBehind (l : List ByteArray) (i : Int) (m : List ByteArray) (hb : l.length * 16 ≤ 140737488351232) (hs : ∀ s ∈ l, s.size ≤ maxLen) (_ : (Lit.int .i64 i).wf = true) (hb2 : m.length * 16 ≤ 140737488351232) (hs2 : ∀ s ∈ m, s.size ≤ maxLen) : ∃ k, laws_FnExactPutBehind.f k l i m = some true := by
  refine Ev.rounds ?_
  unfold laws_FnExactPutBehind.f
  obtain ⟨r, hr, hq⟩ := szStringS l hb hs 1048576 (by omega) (by omega)
  refine Ev.bind hr ?_
  by_cases hc : r < 0
  · exact Pl.pos hc (Pl.ret rfl)
  obtain ⟨hr1, hl, _⟩ := hq (by omega)
  obtain ⟨r2, hr2, hq2⟩ := szStringS m hb2 hs2 r (by omega) (by omega)
  refine Pl.neg hc (Ev.bind hr2 ?_)
  by_cases hc2 : r2 < 0
  · exact Pl.pos hc2 (Pl.ret rfl)
  obtain ⟨_, hm, _⟩ := hq2 (by omega)
  obtain ⟨⟨g, b⟩, hlen, h1, h2⟩ := both l i m hl hm
  simp only at hlen
  obtain ⟨mg, hm1, hm2⟩ := marksS g (by omega)
  obtain ⟨ml, ms, hs1⟩ := marksS2 l m (by omega) (by omega)
  obtain ⟨hs1, hs3⟩ := hs1
  refine Pl.neg hc2 (Ev.bind (toStringS l hl) (Ev.bind (toStringS m hm) (Ev.bind h1 (Ev.bind (toStringS l hl) (Ev.bind (toStringS m hm) (Ev.bind h2 (Ev.bind (eqStringS g (by omega)) (Pl.pos rfl (Pl.succ ?_)))))))))
  simp only [laws_FnExactPutBehind.j0]
  refine Pl.neg (by simp) (Ev.bind (toStringS l hl) (Ev.bind (eqStringS l (by omega)) (Pl.pos rfl (Ev.bind (toStringS m hm) (Ev.bind (eqStringS m (by omega)) (Pl.pos rfl (Ev.bind hs1 (Ev.bind hs3 (Pl.neg (by show ¬ (1 + (l.length : Int) + (m.length : Int)) < 0; omega) (Ev.bind (eqStringS g (by omega)) (Pl.pos rfl (Pl.succ ?_))))))))))))
  simp only [laws_FnExactPutBehind.j1]
  refine Pl.neg (by simp) (Ev.bind hm1 (Ev.bind hm2 (Pl.neg (by omega) (Pl.pos rfl (Ev.bind (toStringS l hl) (Ev.bind (toStringS m hm) (Ev.bind h2 (Ev.bind (eqStringS g (by omega)) (Pl.pos rfl (Pl.succ ?_))))))))))
  simp only [laws_FnExactPutBehind.j2]
  exact Pl.neg (by simp) (Ev.bind hm2 (Pl.neg (by omega) (Pl.pos rfl (Pl.ret rfl))))

end Go.Proofs.YtmopadfhddmgfaaDoor.Pure

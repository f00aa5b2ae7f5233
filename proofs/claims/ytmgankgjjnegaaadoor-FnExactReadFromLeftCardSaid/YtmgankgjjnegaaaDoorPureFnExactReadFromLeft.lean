/- ReadFromLeft: the program's answer is the reference's, for all arguments; no condition. -/
import Derived.Test.YtmgankgjjnegaaaDoorWd
import Derived.Test.YtmgankgjjnegaaaDoorPre
import Derived.Test.YtmgankgjjnegaaaDoorLwZ
import Derived.Test.YtmgankgjjnegaaaDoorLwM
import Derived.Test.YtmgankgjjnegaaaDoorLwI
import Derived.Test.YtmgankgjjnegaaaDoorXx1
import Derived.Test.YtmgankgjjnegaaaDoorXx8
import Derived.Test.YtmgankgjjnegaaaDoorXx9
namespace Go.Proofs.YtmgankgjjnegaaaDoor.Pure
open Go.RowKit Go.Proofs.YtmgankgjjnegaaaDoor.X Go.Proofs.YtmgankgjjnegaaaDoorW.PrintWords Go.Proofs.YtmgankgjjnegaaaDoorW.PrintLast Go.Proofs.YtmgankgjjnegaaaDoor

theorem ex_L (s : ByteArray) (a b : Nat) : (s.extract a b).toList = ((bts s).drop a).take (b - a) := by
  rw [Pl.toL, ByteArray.data_extract, Array.toList_extract]
theorem beg_iff (s t : ByteArray) : begB s t = true ↔ t.size ≤ s.size ∧ (bts s).take t.size = bts t := by
  unfold begB
  rw [Bool.and_eq_true, decide_eq_true_eq, beq_iff_eq, ex_L, List.drop_zero, Nat.sub_zero, Pl.toL]
theorem beg_two {s u v : ByteArray} (hu : begB s u = true) (hv : begB s v = true) (h : u.size ≤ v.size) : begB v u = true := by
  rw [beg_iff] at *
  refine ⟨h, ?_⟩
  rw [← hv.2, List.take_take, Nat.min_eq_left h]
  exact hu.2
theorem uniq {l : List ByteArray} (hn : noTwo begB l) {s : ByteArray} {i k : Nat} (hi : i < l.length) (hk : k < l.length) (h1 : begB s l[i] = true) (h2 : begB s l[k] = true) : i = k := by
  rcases Nat.lt_or_ge i k with h | h
  · exfalso
    rcases Nat.le_total l[i].size l[k].size with q | q
    · have := hn k hk i hi (by omega)
      rw [beg_two h1 h2 q] at this
      cases this
    · have := hn i hi k hk (by omega)
      rw [beg_two h2 h1 q] at this
      cases this
  · rcases Nat.lt_or_ge k i with h' | h'
    · exfalso
      rcases Nat.le_total l[i].size l[k].size with q | q
      · have := hn k hk i hi (by omega)
        rw [beg_two h1 h2 q] at this
        cases this
      · have := hn i hi k hk (by omega)
        rw [beg_two h2 h1 q] at this
        cases this
    · omega
theorem kOf_of {l : List ByteArray} (hn : noTwo begB l) {s : ByteArray} {m : Nat} (hm : m < l.length) (h : begB s l[m] = true) : kOf l s = (m : Int) := by
  have hp : ¬ kOf l s < 0 := by
    unfold kOf idxG
    rw [if_pos (List.any_eq_true.2 ⟨l[m], List.getElem_mem hm, h⟩)]
    omega
  obtain ⟨j, hj, ej, hb⟩ := kOf_hit l s hp
  rw [ej, uniq hn hj hm hb h]
theorem kOf_no {l : List ByteArray} {s : ByteArray} (h : ∀ q (hq : q < l.length), begB s l[q] = false) : kOf l s = -1 := idxG_miss h
theorem l1_l (l : List ByteArray) (hl : l.length ≤ 12) (hn : noTwo begB l) (s : ByteArray) (out : List Int) (ho : out.length ≤ 1000) (R : List Int × ByteArray)
    (h1 : kOf l s < 0 → R = (out, s)) (h2 : ∀ j (hj : j < l.length), kOf l s = (j : Int) → l[j].size ≤ s.size → Ev (fun k => spec_pfRead.l0 k l (s.extract l[j].size s.size) (out ++ [(j : Int)])) R) (d : Nat) :
    ∀ (i : Nat) (cur : Int), i + d = l.length → ((cur = -1 ∧ ∀ q (hq : q < l.length), q < i → begB s l[q] = false) ∨ ∃ m, ∃ hm : m < l.length, cur = (m : Int) ∧ begB s l[m] = true) →
      Ev (fun k => spec_pfRead.l1 k l s out cur l (l.length : Int) (i : Int)) R := by
  induction d with
  | zero =>
    intro i cur hd hc
    refine Pl.succ ?_
    simp only [spec_pfRead.l1]
    refine Pl.neg (by omega) ?_
    rcases hc with ⟨rfl, hno⟩ | ⟨m, hm, rfl, hb⟩
    · have hk := kOf_no (l := l) (s := s) fun q hq => hno q hq (by omega)
      exact Pl.pos (by omega) (Pl.ret (h1 (by omega)).symm)
    · have hk := kOf_of hn hm hb
      have hz := ((beg_iff _ _).1 hb).1
      rw [Pl.rdS_nat _ m hm, Int.toNat_natCast]
      exact Pl.neg (by omega) (Pl.pos (by omega) (Pl.pos (by omega) (Pl.pos (by omega) (Pl.pos (by omega) (Pl.pos (by omega) (h2 m hm hk hz))))))
  | succ d ih =>
    intro i cur hd hc
    have hil : i < l.length := by omega
    refine Pl.succ ?_
    simp only [spec_pfRead.l1, wdBegins_eq, Option.bind_some]
    rw [Pl.rdS_nat _ i hil, Pl.w64 (n := (i : Int) + 1) (by omega) (by omega)]
    refine Pl.pos (by omega) (Pl.pos (by omega) (Pl.pos (by omega) ?_))
    cases hb : begB s l[i] with
    | true => exact Pl.pos rfl (ih (i + 1) (i : Int) (by omega) (.inr ⟨i, hil, rfl, hb⟩))
    | false =>
      refine Pl.neg (by decide) (ih (i + 1) cur (by omega) ?_)
      rcases hc with ⟨h, hno⟩ | h
      · refine .inl ⟨h, fun q hq hqi => ?_⟩
        by_cases e : q = i
        · subst e; exact hb
        · exact hno q hq (by omega)
      · exact .inr h
theorem read (l : List ByteArray) (hl : l.length ≤ 12) (hn : noTwo begB l) (h1 : ∀ t ∈ l, 1 ≤ t.size) (n : Nat) : ∀ (out : List Int) (s : ByteArray), s.size < n → out.length + s.size ≤ 1000 →
    ∃ v : List Int × ByteArray, rlL l n out s = some v ∧ v.1.length ≤ 1000 ∧ Ev (fun k => spec_pfRead.l0 k l s out) v := by
  induction n with
  | zero => intro out s h _; exact absurd h (Nat.not_lt_zero _)
  | succ n ih =>
    intro out s hs ho
    by_cases hk : kOf l s < 0
    · refine ⟨(out, s), by unfold rlL; rw [if_pos hk], by show out.length ≤ _; omega, Pl.succ ?_⟩
      simp only [spec_pfRead.l0]
      refine l1_l l hl hn s out (by omega) (out, s) (fun _ => rfl) (fun j hj e _ => ?_) l.length 0 (-1) (by omega) (.inl ⟨rfl, fun q _ h => absurd h (Nat.not_lt_zero _)⟩)
      rw [e] at hk
      omega
    · obtain ⟨j, hj, ej, hb⟩ := kOf_hit l s hk
      have hz := ((beg_iff _ _).1 hb).1
      have hp := h1 _ (List.getElem_mem hj)
      have hsz : (s.extract l[j].size s.size).size = s.size - l[j].size := by rw [ByteArray.size_extract]; omega
      obtain ⟨v, e1, e2, e3⟩ := ih (out ++ [(j : Int)]) (s.extract l[j].size s.size) (by omega) (by rw [List.length_append, List.length_singleton]; omega)
      refine ⟨v, ?_, e2, Pl.succ ?_⟩
      · unfold rlL
        rw [if_neg hk, ej, Pl.rdS_nat _ j hj]
        exact e1
      · simp only [spec_pfRead.l0]
        refine l1_l l hl hn s out (by omega) v (fun h => absurd h hk) (fun j' hj' e' _ => ?_) l.length 0 (-1) (by omega) (.inl ⟨rfl, fun q _ h => absurd h (Nat.not_lt_zero _)⟩)
        have : j' = j := by omega
        subst this
        exact e3
theorem both (l : List ByteArray) (s : ByteArray) (hl : l.length ≤ 1048576) : ∃ v : List Int × ByteArray × Bool, v.1.length ≤ 1000 ∧ Ev (fun k => spec_ReadFromLeft.f k l s) v ∧ Ev (fun k => impl_ReadFromLeft.f k l s) v := by
  unfold spec_ReadFromLeft.f impl_ReadFromLeft.f
  by_cases h : wset l
  · by_cases p : noTwo begB l
    · cases g : wgood s with
      | true =>
        have h60 := wgood_size g
        have h1 : ∀ t ∈ l, 1 ≤ t.size := fun t ht => by
          obtain ⟨i, hi, rfl⟩ := List.getElem_of_mem ht
          have := h.2.1 i hi
          unfold wshort at this
          simp only [Bool.and_eq_true, decide_eq_true_eq] at this
          exact this.1.1
        obtain ⟨v, e1, e2, e3⟩ := read l h.1 p h1 (s.size + 1) [] s (by omega) (by simp; omega)
        refine ⟨(v.1, v.2, true), e2, Ev.bind (wdSet l) (Pl.pos (decide_eq_true h) (Ev.bind (krPrefix l h) (Pl.pos (decide_eq_true p) (Ev.bind (wdGood s) (Pl.pos g (Ev.bind (a := v) e3 (Pl.ret rfl))))))),
          Ev.bind (isSet l (by omega)) (Pl.pos (decide_eq_true h) (Ev.bind (Ev.now (decide (noTwo begB l))) (Pl.pos (decide_eq_true p) (Ev.bind (a := true) ⟨0, fun _ _ => by rw [isWord_eq, g]⟩ (Pl.pos rfl (Ev.bind (a := v) ⟨0, fun _ _ => e1⟩ (Pl.ret rfl)))))))⟩
      | false =>
        exact ⟨([], ⟨#[]⟩, false), by simp, Ev.bind (wdSet l) (Pl.pos (decide_eq_true h) (Ev.bind (krPrefix l h) (Pl.pos (decide_eq_true p) (Ev.bind (wdGood s) (Pl.neg (by simp [g]) (Pl.ret rfl)))))),
          Ev.bind (isSet l (by omega)) (Pl.pos (decide_eq_true h) (Ev.bind (Ev.now (decide (noTwo begB l))) (Pl.pos (decide_eq_true p) (Ev.bind (a := false) ⟨0, fun _ _ => by rw [isWord_eq, g]⟩ (Pl.neg (by decide) (Pl.ret rfl))))))⟩
    · exact ⟨([], ⟨#[]⟩, false), by simp, Ev.bind (wdSet l) (Pl.pos (decide_eq_true h) (Ev.bind (krPrefix l h) (Pl.neg (by simp [p]) (Pl.ret rfl)))),
        Ev.bind (isSet l (by omega)) (Pl.pos (decide_eq_true h) (Ev.bind (Ev.now (decide (noTwo begB l))) (Pl.neg (by simp [p]) (Pl.ret rfl))))⟩
  · exact ⟨([], ⟨#[]⟩, false), by simp, Ev.bind (wdSet l) (Pl.neg (by simp [h]) (Pl.ret rfl)), Ev.bind (isSet l (by omega)) (Pl.neg (by simp [h]) (Pl.ret rfl))⟩
theorem FnExactReadFromLeft (l : List ByteArray) (s : ByteArray) (hb : l.length * 16 ≤ 140737488351232) (hs : ∀ s ∈ l, s.size ≤ maxLen) (_ : s.size ≤ 140737488351232) : ∃ k, laws_FnExactReadFromLeft.f k l s = some true := by
  refine Ev.rounds ?_
  unfold laws_FnExactReadFromLeft.f
  by_cases h0 : (s.size : Int) > 1048576
  · exact Pl.pos h0 (Pl.ret rfl)
  obtain ⟨r, hr, hq⟩ := szStringS l hb hs 1048576 (by omega) (by omega)
  refine Pl.neg h0 (Ev.bind hr ?_)
  by_cases hc : r < 0
  · exact Pl.pos hc (Pl.ret rfl)
  obtain ⟨_, hl, _⟩ := hq (by omega)
  obtain ⟨⟨g, t, b⟩, hlen, h1, h2⟩ := both l s hl
  simp only at hlen
  obtain ⟨mg, hm1, hm2⟩ := marksI g (by omega)
  obtain ⟨ms, hs1⟩ := marksO l (by omega)
  refine Pl.neg hc (Ev.bind (toStringS l hl) (Ev.bind h1 (Ev.bind (toStringS l hl) (Ev.bind h2 (Ev.bind (eqIntS g (by omega)) (Pl.pos rfl (Pl.pos (by first | rfl | trivial) (Pl.succ ?_))))))))
  simp only [laws_FnExactReadFromLeft.j0]
  refine Pl.neg (by simp) (Ev.bind (toStringS l hl) (Ev.bind (eqStringS l (by omega)) (Pl.pos rfl (Ev.bind hs1 (Pl.neg (by show ¬ (1 + (l.length : Int)) < 0; omega) (Ev.bind (eqIntS g (by omega)) (Pl.pos rfl (Pl.pos (by first | rfl | trivial) (Pl.succ ?_)))))))))
  simp only [laws_FnExactReadFromLeft.j1]
  refine Pl.neg (by simp) (Ev.bind hm1 (Ev.bind hm2 (Pl.neg (by omega) (Pl.pos rfl (Ev.bind (toStringS l hl) (Ev.bind h2 (Ev.bind (eqIntS g (by omega)) (Pl.pos rfl (Pl.pos (by first | rfl | trivial) (Pl.succ ?_))))))))))
  simp only [laws_FnExactReadFromLeft.j2]
  exact Pl.neg (by simp) (Ev.bind hm2 (Pl.neg (by omega) (Pl.pos rfl (Pl.ret rfl))))

end Go.Proofs.YtmgankgjjnegaaaDoor.Pure

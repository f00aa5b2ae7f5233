/- CountMessages: the program's answer is the reference's, for all arguments; no condition. -/
import Derived.Test.YtmgankgjjnegaaaDoorTab
import Derived.Test.YtmgankgjjnegaaaDoorLwZ
import Derived.Test.YtmgankgjjnegaaaDoorLwE
import Derived.Test.YtmgankgjjnegaaaDoorXx1
import Derived.Test.YtmgankgjjnegaaaDoorXx2
import Derived.Test.YtmgankgjjnegaaaDoorXx6
import Derived.Test.YtmgankgjjnegaaaDoorXx7
namespace Go.Proofs.YtmgankgjjnegaaaDoor.Pure
open Go.RowKit Go.Proofs.YtmgankgjjnegaaaDoor.X Go.Proofs.YtmgankgjjnegaaaDoorW.PrintWords Go.Proofs.YtmgankgjjnegaaaDoorW.PrintLast Go.Proofs.YtmgankgjjnegaaaDoor

def fits (n : Nat) (t : ByteArray) : Bool := decide (t.size ≤ n)
theorem spec_l (l : List ByteArray) (N : Nat) (hN : N ≤ 20) (hl : l.length ≤ 1048576) (h1 : ∀ t ∈ l, 1 ≤ t.size) (d : Nat) : ∀ n : Nat, n + d = N →
    Ev (fun k => spec_CountMessages.l0 k l (N : Int) (table fits l n) ((n + 1 : Nat) : Int)) (rd (table fits l N) (N : Int), true) := by
  induction d with
  | zero =>
    intro n hd
    obtain rfl : n = N := by omega
    have hlen := table_len fits l n
    refine Pl.succ ?_
    simp only [spec_CountMessages.l0]
    exact Pl.neg (by omega) (Pl.pos (by omega) (Pl.pos (by omega) (Pl.ret rfl)))
  | succ d ih =>
    intro n hd
    obtain ⟨T, hT⟩ : ∃ T, table fits l n = T := ⟨_, rfl⟩
    have hTl : T.length = n + 1 := by rw [← hT, table_len]
    have hin : ∀ (e i : Nat), i + e = l.length → Ev (fun k => spec_CountMessages.l1 k l (N : Int) T ((n + 1 : Nat) : Int) (stepA fits T 0 (l.take i)) l (l.length : Int) (i : Int)) (rd (table fits l N) (N : Int), true) := by
      intro e
      induction e with
      | zero =>
        intro i hi
        obtain rfl : i = l.length := by omega
        refine Pl.succ ?_
        simp only [spec_CountMessages.l1]
        rw [Pl.w64 (n := ((n + 1 : Nat) : Int) + 1) (by omega) (by omega)]
        refine Pl.neg (by omega) (Pl.pos (by omega) ?_)
        have := ih (n + 1) (by omega)
        rw [table, hT] at this
        rw [List.take_length]
        exact this
      | succ e ihe =>
        intro i hi
        have hil : i < l.length := by omega
        have hi' := ihe (i + 1) (by omega)
        have hz1 := h1 _ (List.getElem_mem hil)
        rw [stepA_take _ _ _ _ _ hil, hTl] at hi'
        refine Pl.succ ?_
        simp only [spec_CountMessages.l1]
        rw [Pl.rdS_nat _ i hil, Pl.w64 (n := (i : Int) + 1) (by omega) (by omega)]
        refine Pl.pos (by omega) (Pl.pos (by omega) (Pl.pos (by omega) ?_))
        by_cases hc : l[i].size ≤ n + 1
        · rw [if_pos (show fits (n + 1) l[i] = true from decide_eq_true hc)] at hi'
          rw [Pl.w64 (n := ((n + 1 : Nat) : Int) - (l[i].size : Int)) (by omega) (by omega), show ((n + 1 : Nat) : Int) - (l[i].size : Int) = ((n + 1 - l[i].size : Nat) : Int) by omega]
          exact Pl.pos (by omega) (Pl.pos (by omega) (Pl.pos (by omega) hi'))
        · rw [if_neg (show ¬ fits (n + 1) l[i] = true by unfold fits; rw [decide_eq_false hc]; decide)] at hi'
          exact Pl.neg (by omega) hi'
    refine Pl.succ ?_
    simp only [spec_CountMessages.l0]
    refine Pl.pos (by omega) ?_
    have := hin l.length 0 (by omega)
    rw [hT]
    exact this
theorem impl_l (l : List ByteArray) (N : Nat) (hN : N ≤ 20) (hl : l.length ≤ 1048576) (h1 : ∀ t ∈ l, 1 ≤ t.size) (d : Nat) : ∀ n : Nat, n + d = N →
    Ev (fun k => impl_CountMessages.l0 k l (N : Int) (table fits l n ++ List.replicate (N - n) 0) ((n + 1 : Nat) : Int)) (rd (table fits l N) (N : Int), true) := by
  induction d with
  | zero =>
    intro n hd
    obtain rfl : n = N := by omega
    have hlen := table_len fits l n
    refine Pl.succ ?_
    simp only [impl_CountMessages.l0]
    rw [Nat.sub_self, List.replicate_zero, List.append_nil]
    exact Pl.neg (by omega) (Pl.pos (by omega) (Pl.pos (by omega) (Pl.ret rfl)))
  | succ d ih =>
    intro n hd
    obtain ⟨T, hT⟩ : ∃ T, table fits l n = T := ⟨_, rfl⟩
    have hTl : T.length = n + 1 := by rw [← hT, table_len]
    have hin : ∀ (e i : Nat), i + e = l.length → Ev (fun k => impl_CountMessages.l1 k l (N : Int) (T ++ stepA fits T 0 (l.take i) :: List.replicate (N - (n + 1)) 0) ((n + 1 : Nat) : Int) l (l.length : Int) (i : Int)) (rd (table fits l N) (N : Int), true) := by
      intro e
      induction e with
      | zero =>
        intro i hi
        obtain rfl : i = l.length := by omega
        refine Pl.succ ?_
        simp only [impl_CountMessages.l1]
        rw [Pl.w64 (n := ((n + 1 : Nat) : Int) + 1) (by omega) (by omega)]
        refine Pl.neg (by omega) ?_
        have := ih (n + 1) (by omega)
        rw [table, hT, List.append_assoc] at this
        rw [List.take_length]
        exact this
      | succ e ihe =>
        intro i hi
        have hil : i < l.length := by omega
        have hi' := ihe (i + 1) (by omega)
        have hz1 := h1 _ (List.getElem_mem hil)
        rw [stepA_take _ _ _ _ _ hil, hTl] at hi'
        refine Pl.succ ?_
        simp only [impl_CountMessages.l1]
        rw [Pl.rdS_nat _ i hil, Pl.w64 (n := (i : Int) + 1) (by omega) (by omega)]
        refine Pl.pos (by omega) (Pl.pos (by omega) (Pl.pos (by omega) ?_))
        by_cases hc : l[i].size ≤ n + 1
        · rw [if_pos (show fits (n + 1) l[i] = true from decide_eq_true hc)] at hi'
          rw [Pl.w64 (n := ((n + 1 : Nat) : Int) - (l[i].size : Int)) (by omega) (by omega), show ((n + 1 : Nat) : Int) - (l[i].size : Int) = ((n + 1 - l[i].size : Nat) : Int) by omega, Int.toNat_natCast]
          refine Pl.pos (by omega) (Pl.pos (by omega) (Pl.pos (by simp; omega) (Pl.pos (by omega) (Pl.pos (by simp; omega) ?_))))
          rw [← hTl, rdT1, setT, rdT2 _ _ _ (by omega)]
          rw [hTl]
          exact hi'
        · rw [if_neg (show ¬ fits (n + 1) l[i] = true by unfold fits; rw [decide_eq_false hc]; decide)] at hi'
          exact Pl.neg (by omega) hi'
    refine Pl.succ ?_
    simp only [impl_CountMessages.l0]
    refine Pl.pos (by omega) ?_
    have := hin l.length 0 (by omega)
    rw [hT, show N - n = (N - (n + 1)) + 1 by omega, List.replicate_succ]
    exact this
theorem set_pos' {l : List ByteArray} (h : wset l) : ∀ t ∈ l, 1 ≤ t.size := fun t ht => by
  obtain ⟨i, hi, rfl⟩ := List.getElem_of_mem ht
  have := h.2.1 i hi
  unfold wshort at this
  simp only [Bool.and_eq_true, decide_eq_true_eq] at this
  exact this.1.1
theorem both (l : List ByteArray) (i : Int) (hl : l.length ≤ 1048576) (_ : (Lit.int .i64 i).wf = true) : ∃ v, Ev (fun k => spec_CountMessages.f k l i) v ∧ Ev (fun k => impl_CountMessages.f k l i) v := by
  unfold spec_CountMessages.f impl_CountMessages.f
  simp only [l1In_eq', in_eq', Option.bind_some]
  by_cases h : wset l
  · by_cases hi : 0 ≤ i ∧ i ≤ 20
    · obtain ⟨N, rfl⟩ : ∃ N : Nat, i = N := ⟨i.toNat, by omega⟩
      have h1 := spec_l l N (by omega) hl (set_pos' h) N 0 (by omega)
      have h2 := impl_l l N (by omega) hl (set_pos' h) N 0 (by omega)
      refine ⟨(rd (table fits l N) (N : Int), true), Ev.bind (wdSet l) (Pl.pos (decide_eq_true h) (Pl.succ ?_)), Ev.bind (isSet l (by omega)) (Pl.pos (decide_eq_true h) (Pl.succ ?_))⟩
      · simp only [spec_CountMessages.j0]
        exact Pl.neg (by rw [decide_eq_true hi]; decide) h1
      · simp only [impl_CountMessages.j0]
        rw [Pl.w64 (by omega) (by omega), show ((N : Int) + 1) = ((N + 1 : Nat) : Int) by omega, Int.toNat_natCast]
        refine Pl.neg (by rw [decide_eq_true hi]; decide) (Pl.pos (by omega) (Pl.pos (by omega) (Ev.bind (Ev.now _) (Pl.pos (by simp) ?_))))
        rw [List.replicate_succ]
        exact h2
    · refine ⟨(0, false), Ev.bind (wdSet l) (Pl.pos (decide_eq_true h) (Pl.succ ?_)), Ev.bind (isSet l (by omega)) (Pl.pos (decide_eq_true h) (Pl.succ ?_))⟩
      · simp only [spec_CountMessages.j0]
        exact Pl.pos (by rw [decide_eq_false hi]; rfl) (Pl.ret rfl)
      · simp only [impl_CountMessages.j0]
        exact Pl.pos (by rw [decide_eq_false hi]; rfl) (Pl.ret rfl)
  · refine ⟨(0, false), Ev.bind (wdSet l) (Pl.neg (by rw [decide_eq_false h]; decide) (Pl.succ ?_)), Ev.bind (isSet l (by omega)) (Pl.neg (by rw [decide_eq_false h]; decide) (Pl.succ ?_))⟩
    · simp only [spec_CountMessages.j0]
      exact Pl.pos (by first | rfl | trivial) (Pl.ret rfl)
    · simp only [impl_CountMessages.j0]
      exact Pl.pos (by first | rfl | trivial) (Pl.ret rfl)
theorem FnExactCountMessages (l : List ByteArray) (i : Int) (hb : l.length * 16 ≤ 140737488351232) (hs : ∀ s ∈ l, s.size ≤ maxLen) (wi : (Lit.int .i64 i).wf = true) : ∃ k, laws_FnExactCountMessages.f k l i = some true := by
  refine Ev.rounds ?_
  unfold laws_FnExactCountMessages.f
  obtain ⟨r, hr, hq⟩ := szStringS l hb hs 1048576 (by omega) (by omega)
  refine Ev.bind hr ?_
  by_cases hc : r < 0
  · exact Pl.pos hc (Pl.ret rfl)
  obtain ⟨_, hl, _⟩ := hq (by omega)
  obtain ⟨v, h1, h2⟩ := both l i hl wi
  refine Pl.neg hc (Ev.bind (toStringS l hl) (Ev.bind h1 (Ev.bind (toStringS l hl) (Ev.bind h2 (Pl.pos (by first | rfl | trivial) (Pl.succ ?_))))))
  simp only [laws_FnExactCountMessages.j0]
  refine Pl.neg (by simp) (Ev.bind (toStringS l hl) (Ev.bind (eqStringS l (by omega)) (Pl.pos rfl (Pl.ret rfl))))

end Go.Proofs.YtmgankgjjnegaaaDoor.Pure

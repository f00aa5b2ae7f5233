/- ReplaceLetters: the program's answer is the reference's, for all arguments; no condition. -/
import Derived.Test.YtmopadfhddmgfaaDoorFin
import Derived.Test.YtmopadfhddmgfaaDoorLwZ
import Derived.Test.YtmopadfhddmgfaaDoorLwS2
import Derived.Test.YtmopadfhddmgfaaDoorXx1
import Derived.Test.YtmopadfhddmgfaaDoorXx12
import Derived.Test.YtmopadfhddmgfaaDoorXx13
namespace Go.Proofs.YtmopadfhddmgfaaDoor.Pure
open Go.RowKit Go.Proofs.YtmopadfhddmgfaaDoor.X Go.Proofs.YtmopadfhddmgfaaDoorW.PrintWords Go.Proofs.YtmopadfhddmgfaaDoorW.PrintLast Go.Proofs.YtmopadfhddmgfaaDoor

noncomputable instance (w : ByteArray) (l : List ByteArray) : Decidable (w ∈ l) := Classical.propDecidable _
/-- The place of a letter. -/
def kx (s : ByteArray) (i : Nat) : Nat := (((bt s (i : Int)) - 97) % 256).toNat
theorem kx_eq (s : ByteArray) (i : Nat) : ((bt s (i : Int)) - 97) % 256 = (kx s i : Int) := by unfold kx; omega
theorem kx_lt (s : ByteArray) (i : Nat) : kx s i < 256 := by unfold kx; omega
/-- The letters from a place on replaced, behind what stands already. -/
def repl (b : List ByteArray) (s : ByteArray) : Nat → Nat → ByteArray → Option ByteArray
  | 0, _, out => some out
  | d + 1, i, out => if h : kx s i < b.length then repl b s d (i + 1) (out ++ b[kx s i]) else none
def replW (b : List ByteArray) (s : ByteArray) : Option ByteArray := repl b s s.size 0 ⟨#[]⟩
def orNo (o : Option ByteArray) : ByteArray × Bool := match o with | some w => (w, true) | none => (⟨#[]⟩, false)
theorem pfReplace_l (b : List ByteArray) (s : ByteArray) (hb : ∀ t ∈ b, t.size ≤ 8) (hs : s.size ≤ 8) (_ : b.length ≤ 12) (d : Nat) : ∀ (i : Nat) (out : ByteArray), i + d = s.size → out.size ≤ 8 * i →
    Ev (fun k => spec_pfReplace.l0 k s b out (i : Int)) (orNo (repl b s d i out)) := by
  induction d with
  | zero =>
    intro i out hd ho
    refine Pl.succ ?_
    simp only [spec_pfReplace.l0]
    exact Pl.neg (by omega) (Pl.ret rfl)
  | succ d ih =>
    intro i out hd ho
    have hk := kx_lt s i
    refine Pl.succ ?_
    simp only [spec_pfReplace.l0, kx_eq]
    rw [Pl.w64 (n := (i : Int) + 1) (by omega) (by omega), repl]
    refine Pl.pos (by omega) (Pl.pos (by omega) ?_)
    by_cases h : kx s i < b.length
    · have h8 := hb _ (List.getElem_mem h)
      rw [dif_pos h, Pl.rdS_nat _ _ h]
      exact Pl.neg (by omega) (Pl.pos (by omega) (Pl.pos (by omega) (Pl.pos (by omega) (ih (i + 1) _ (by omega) (by rw [ByteArray.size_append]; omega)))))
    · rw [dif_neg h]
      exact Pl.pos (by omega) (Pl.ret rfl)
theorem pfReplace (b : List ByteArray) (s : ByteArray) (hb : ∀ t ∈ b, t.size ≤ 8) (hs : s.size ≤ 8) (hl : b.length ≤ 12) : Ev (fun k => spec_pfReplace.f k s b) (orNo (replW b s)) :=
  pfReplace_l b s hb hs hl s.size 0 ⟨#[]⟩ (by omega) (by show (0 : Nat) ≤ _; omega)
theorem wdHas_l (l : List ByteArray) (w : ByteArray) (hl : l.length ≤ 1048576) (d : Nat) : ∀ i : Nat, i + d = l.length → Ev (fun k => spec_wdHas.l0 k w l (l.length : Int) (i : Int)) (decide (w ∈ l.drop i)) := by
  induction d with
  | zero =>
    intro i hd
    refine Pl.succ ?_
    simp only [spec_wdHas.l0]
    rw [List.drop_of_length_le (by omega)]
    exact Pl.neg (by omega) (Pl.ret (by simp))
  | succ d ih =>
    intro i hd
    have hil : i < l.length := by omega
    refine Pl.succ ?_
    simp only [spec_wdHas.l0]
    rw [Pl.rdS_nat _ i hil, Pl.w64 (n := (i : Int) + 1) (by omega) (by omega), List.drop_eq_getElem_cons hil]
    refine Pl.pos (by omega) (Pl.pos (by omega) (Pl.pos (by omega) ?_))
    by_cases h : w.toList = l[i].toList
    · exact Pl.pos h (Pl.ret (decide_eq_true (Pl.ba_ext h ▸ List.mem_cons_self)).symm)
    · refine Pl.neg h (Pl.via (ih (i + 1) (by omega)) ?_)
      have hne : w ≠ l[i] := fun e => h (by rw [e])
      exact decide_eq_decide.2 ⟨List.mem_cons_of_mem _, fun q => (List.mem_cons.1 q).resolve_left hne⟩
theorem wdHas (l : List ByteArray) (w : ByteArray) (hl : l.length ≤ 1048576) : Ev (fun k => spec_wdHas.f k l w) (decide (w ∈ l)) :=
  Pl.via (wdHas_l l w hl l.length 0 (by omega)) (by rw [List.drop_zero])
/-- All words replaced, if there are words for all letters. -/
def replA (b : List ByteArray) : List ByteArray → Option (List ByteArray)
  | [] => some []
  | s :: l => (replW b s).bind fun w => (replA b l).bind fun ws => some (w :: ws)
theorem replA_len (b : List ByteArray) : ∀ (l ws : List ByteArray), replA b l = some ws → ws.length = l.length
  | [], ws, h => by cases h; rfl
  | s :: l, ws, h => by
    obtain ⟨w, _, h⟩ := Option.bind_eq_some_iff.1 h
    obtain ⟨vs, h2, h⟩ := Option.bind_eq_some_iff.1 h
    cases h
    rw [List.length_cons, List.length_cons, replA_len b l vs h2]
/-- What is answered of the words behind those that stand already. -/
noncomputable def ans (out : List ByteArray) (o : Option (List ByteArray)) : List ByteArray × Bool := match o with
  | none => ([], false)
  | some ws => if (puts ws out).length = out.length + ws.length then fin (puts ws out) else ([], false)
theorem spec_l (l b : List ByteArray) (hb : ∀ t ∈ b, t.size ≤ 8) (hs : ∀ s ∈ l, s.size ≤ 8) (hl : l.length ≤ 12) (hbl : b.length ≤ 12) (d : Nat) : ∀ (i : Nat) (out : List ByteArray), i + d = l.length → out.length ≤ i → out.Pairwise (fun a b => wless a b = true) →
    Ev (fun k => spec_ReplaceLetters.l0 k b out l (l.length : Int) (i : Int)) (ans out (replA b (l.drop i))) := by
  induction d with
  | zero =>
    intro i out hd ho hp
    refine Pl.succ ?_
    simp only [spec_ReplaceLetters.l0]
    rw [List.drop_of_length_le (by omega)]
    exact Pl.neg (by omega) (Ev.bind (wdIf_fin out) (Pl.ret (by simp [ans, replA, puts])))
  | succ d ih =>
    intro i out hd ho hp
    have hil : i < l.length := by omega
    have h8 := hs _ (List.getElem_mem hil)
    refine Pl.succ ?_
    simp only [spec_ReplaceLetters.l0]
    rw [Pl.rdS_nat _ i hil, Pl.w64 (n := (i : Int) + 1) (by omega) (by omega), List.drop_eq_getElem_cons hil, replA]
    refine Pl.pos (by omega) (Pl.pos (by omega) (Pl.pos (by omega) (Ev.bind (pfReplace b l[i] hb h8 hbl) ?_)))
    cases hr : replW b l[i] with
    | none => exact Pl.neg (by simp [orNo]) (Pl.ret rfl)
    | some w =>
      refine Pl.pos rfl (Ev.bind (wdHas out w (by omega)) ?_)
      by_cases hw : w ∈ out
      · refine Pl.pos (decide_eq_true hw) (Pl.ret ?_)
        rw [Option.bind_some]
        cases replA b (l.drop (i + 1)) with
        | none => rfl
        | some ws =>
          have h1 := (puts_ok ws (put out w) (put_srt out w hp)).2.2
          rw [put_old out w hp hw] at h1
          have h2 : puts (w :: ws) out = puts ws out := by show puts ws (put out w) = _; rw [put_old out w hp hw]
          simp only [ans, Option.bind_some]
          rw [if_neg]
          rw [h2, List.length_cons]
          omega
      · have hn := put_new out w hw
        refine Pl.neg (by simp [hw]) (Ev.bind (wdPut out w (by omega)) (Pl.via (ih (i + 1) (put out w) (by omega) (by omega) (put_srt out w hp)) ?_))
        rw [Option.bind_some]
        cases replA b (l.drop (i + 1)) with
        | none => rfl
        | some ws =>
          have h2 : puts (w :: ws) out = puts ws (put out w) := rfl
          simp only [ans, Option.bind_some]
          rw [h2, hn, List.length_cons, show out.length + 1 + ws.length = out.length + (ws.length + 1) by omega]
theorem impl_l (l b : List ByteArray) (hb : ∀ t ∈ b, t.size ≤ 8) (hs : ∀ s ∈ l, s.size ≤ 8) (hl : l.length ≤ 12) (_ : b.length ≤ 12) (d : Nat) : ∀ (i : Nat) (out : List ByteArray), i + d = l.length → out.length = i →
    Ev (fun k => impl_ReplaceLetters.l0 k l b out l (l.length : Int) (i : Int)) (match replA b (l.drop i) with | none => ([], false) | some ws => if (puts (out ++ ws) []).length = l.length then fin (puts (out ++ ws) []) else ([], false)) := by
  induction d with
  | zero =>
    intro i out hd ho
    refine Pl.succ ?_
    simp only [impl_ReplaceLetters.l0, ordered_eq out (by omega), Option.bind_some]
    rw [List.drop_of_length_le (show l.length ≤ i by omega)]
    have hp := (puts_ok out [] List.Pairwise.nil).2.2
    simp only [List.length_nil] at hp
    refine Pl.neg (by omega) ?_
    simp only [replA, List.append_nil]
    by_cases h : (puts out []).length = l.length
    · rw [if_pos h]
      refine Pl.pos (by omega) (Ev.bind (isSet (puts out []) (by omega)) ?_)
      unfold fin
      by_cases g : wset (puts out [])
      · rw [if_pos g]; exact Pl.pos (decide_eq_true g) (Pl.ret rfl)
      · rw [if_neg g]; exact Pl.neg (by simp [g]) (Pl.ret rfl)
    · rw [if_neg h]
      exact Pl.neg (by omega) (Pl.ret rfl)
  | succ d ih =>
    intro i out hd ho
    have hil : i < l.length := by omega
    have h8 := hs _ (List.getElem_mem hil)
    obtain ⟨R, hR⟩ : ∃ R, (match replA b (l.drop i) with | none => (([] : List ByteArray), false) | some ws => if (puts (out ++ ws) []).length = l.length then fin (puts (out ++ ws) []) else ([], false)) = R := ⟨_, rfl⟩
    rw [hR]
    have hin : ∀ (e j : Nat) (w : ByteArray), j + e = l[i].size → w.size ≤ 8 * j → replW b l[i] = repl b l[i] e j w → Ev (fun k => impl_ReplaceLetters.l1 k l b out l[i] w l (l.length : Int) (i : Int) (l[i].size : Int) (j : Int)) R := by
      intro e
      induction e with
      | zero =>
        intro j w hj hw hq
        refine Pl.succ ?_
        simp only [impl_ReplaceLetters.l1]
        rw [Pl.w64 (n := (i : Int) + 1) (by omega) (by omega)]
        refine Pl.neg (by omega) (Pl.pos (by omega) (Pl.via (ih (i + 1) (out ++ [w]) (by omega) (by simp; omega)) ?_))
        rw [← hR, List.drop_eq_getElem_cons hil, replA, hq, repl, Option.bind_some]
        cases replA b (l.drop (i + 1)) with
        | none => rfl
        | some ws => simp only [Option.bind_some, List.append_assoc, List.cons_append, List.nil_append]
      | succ e ihe =>
        intro j w hj hw hq
        have hk := kx_lt l[i] j
        refine Pl.succ ?_
        simp only [impl_ReplaceLetters.l1, kx_eq]
        rw [Pl.w64 (n := (j : Int) + 1) (by omega) (by omega)]
        rw [repl] at hq
        refine Pl.pos (by omega) (Pl.pos (by omega) (Pl.pos (by omega) ?_))
        by_cases h : kx l[i] j < b.length
        · have h9 := hb _ (List.getElem_mem h)
          rw [dif_pos h] at hq
          rw [Pl.rdS_nat _ _ h]
          exact Pl.neg (by omega) (Pl.pos (by omega) (Pl.pos (by omega) (Pl.pos (by omega) (ihe (j + 1) _ (by omega) (by rw [ByteArray.size_append]; omega) hq))))
        · rw [dif_neg h] at hq
          refine Pl.pos (by omega) (Pl.ret ?_)
          rw [← hR, List.drop_eq_getElem_cons hil, replA, hq]
          rfl
    refine Pl.succ ?_
    simp only [impl_ReplaceLetters.l0]
    rw [Pl.rdS_nat _ i hil]
    exact Pl.pos (by omega) (Pl.pos (by omega) (Pl.pos (by omega) (hin l[i].size 0 ⟨#[]⟩ (by omega) (by show (0 : Nat) ≤ _; omega) rfl)))
theorem sj (l b : List ByteArray) : Ev (fun k => spec_ReplaceLetters.j0 k l b true) ([], false) := by
  refine Pl.succ ?_
  simp only [spec_ReplaceLetters.j0]
  exact Pl.pos (by first | rfl | trivial) (Pl.ret rfl)
theorem ij (l b : List ByteArray) : Ev (fun k => impl_ReplaceLetters.j0 k l b true) ([], false) := by
  refine Pl.succ ?_
  simp only [impl_ReplaceLetters.j0]
  exact Pl.pos (by first | rfl | trivial) (Pl.ret rfl)
theorem pfBy (b : List ByteArray) : Ev (fun k => spec_pfBy.f k b) (decide (wset b) && decide ((2 : Int) ≤ (b.length : Int) ∧ (b.length : Int) ≤ 3)) := by
  unfold spec_pfBy.f
  simp only [l1In_eq', Option.bind_some]
  by_cases h : wset b
  · rw [decide_eq_true h, Bool.true_and]
    exact Ev.bind (wdSet b) (Pl.pos (decide_eq_true h) (Pl.ret rfl))
  · rw [decide_eq_false h, Bool.false_and]
    exact Ev.bind (wdSet b) (Pl.neg (by simp [h]) (Pl.ret rfl))
theorem both (l b : List ByteArray) (hl : l.length ≤ 1048576) (hb : b.length ≤ 1048576) : ∃ v : List ByteArray × Bool, v.1.length ≤ 1048576 ∧ Ev (fun k => spec_ReplaceLetters.f k l b) v ∧ Ev (fun k => impl_ReplaceLetters.f k l b) v := by
  unfold spec_ReplaceLetters.f impl_ReplaceLetters.f impl_areLetters.f
  simp only [in_eq', Option.bind_some]
  by_cases h : wset l
  · by_cases g : wset b
    · by_cases hi : (2 : Int) ≤ (b.length : Int) ∧ (b.length : Int) ≤ 3
      · have e1 := spec_l l b (set_sizes g) (set_sizes h) h.1 g.1 l.length 0 [] (by omega) (by simp) List.Pairwise.nil
        have e2 := impl_l l b (set_sizes g) (set_sizes h) h.1 g.1 l.length 0 [] (by omega) rfl
        rw [List.drop_zero] at e1 e2
        have e3 : (match replA b l with | none => (([] : List ByteArray), false) | some ws => if (puts ([] ++ ws) []).length = l.length then fin (puts ([] ++ ws) []) else ([], false)) = ans [] (replA b l) := by
          cases hq : replA b l with
          | none => rfl
          | some ws =>
            have := replA_len b l ws hq
            simp only [ans, List.nil_append, List.length_nil, Nat.zero_add, this]
        rw [e3] at e2
        refine ⟨ans [] (replA b l), ?_, Ev.bind (wdSet l) (Pl.pos (decide_eq_true h) (Ev.bind (pfBy b) ?_)), Ev.bind (isSet l (by omega)) (Pl.pos (decide_eq_true h) (Ev.bind (isSet b (by omega)) (Pl.pos (decide_eq_true g) ?_)))⟩
        rotate_left
        · refine Pl.succ ?_
          simp only [spec_ReplaceLetters.j0]
          exact Pl.neg (by simp [g, hi]) e1
        · refine Pl.succ ?_
          simp only [impl_ReplaceLetters.j0]
          exact Pl.neg (by simp [hi]) e2
        · cases hq : replA b l with
          | none => simp [ans]
          | some ws =>
            have h1 := replA_len b l ws hq
            have h2 := (puts_ok ws [] List.Pairwise.nil).2.2
            have h3 := fin_len (puts ws [])
            simp only [List.length_nil] at h2
            unfold ans
            simp only
            split
            · omega
            · simp
      · exact ⟨([], false), by simp, Ev.bind (wdSet l) (Pl.pos (decide_eq_true h) (Ev.bind (pfBy b) (by rw [decide_eq_false hi, Bool.and_false]; exact sj l b))), Ev.bind (isSet l (by omega)) (Pl.pos (decide_eq_true h) (Ev.bind (isSet b (by omega)) (Pl.pos (decide_eq_true g) (by rw [decide_eq_false hi]; exact ij l b))))⟩
    · exact ⟨([], false), by simp, Ev.bind (wdSet l) (Pl.pos (decide_eq_true h) (Ev.bind (pfBy b) (by rw [decide_eq_false g, Bool.false_and]; exact sj l b))), Ev.bind (isSet l (by omega)) (Pl.pos (decide_eq_true h) (Ev.bind (isSet b (by omega)) (Pl.neg (by simp [g]) (ij l b))))⟩
  · exact ⟨([], false), by simp, Ev.bind (wdSet l) (Pl.neg (by simp [h]) (sj l b)), Ev.bind (isSet l (by omega)) (Pl.neg (by simp [h]) (ij l b))⟩
theorem FnExactReplaceLetters (l m : List ByteArray) (hb : l.length * 16 ≤ 140737488351232) (hs : ∀ s ∈ l, s.size ≤ maxLen) (hb2 : m.length * 16 ≤ 140737488351232) (hs2 : ∀ s ∈ m, s.size ≤ maxLen) : ∃ k, laws_FnExactReplaceLetters.f k l m = some true := by
  refine Ev.rounds ?_
  unfold laws_FnExactReplaceLetters.f
  obtain ⟨r, hr, hq⟩ := szStringS l hb hs 1048576 (by omega) (by omega)
  refine Ev.bind hr ?_
  by_cases hc : r < 0
  · exact Pl.pos hc (Pl.ret rfl)
  obtain ⟨hr1, hl, _⟩ := hq (by omega)
  obtain ⟨r2, hr2, hq2⟩ := szStringS m hb2 hs2 r (by omega) (by omega)
  refine Pl.neg hc (Ev.bind hr2 ?_)
  by_cases hc2 : r2 < 0
  · exact Pl.pos hc2 (Pl.ret rfl)
  obtain ⟨_, hm, _⟩ := hq2 (by omega)
  obtain ⟨⟨g, b⟩, hlen, h1, h2⟩ := both l m hl hm
  simp only at hlen
  obtain ⟨mg, hm1, hm2⟩ := marksS g (by omega)
  obtain ⟨ml, ms, hs1⟩ := marksS2 l m (by omega) (by omega)
  obtain ⟨hs1, hs3⟩ := hs1
  refine Pl.neg hc2 (Ev.bind (toStringS l hl) (Ev.bind (toStringS m hm) (Ev.bind h1 (Ev.bind (toStringS l hl) (Ev.bind (toStringS m hm) (Ev.bind h2 (Ev.bind (eqStringS g (by omega)) (Pl.pos rfl (Pl.succ ?_)))))))))
  simp only [laws_FnExactReplaceLetters.j0]
  refine Pl.neg (by simp) (Ev.bind (toStringS l hl) (Ev.bind (eqStringS l (by omega)) (Pl.pos rfl (Ev.bind (toStringS m hm) (Ev.bind (eqStringS m (by omega)) (Pl.pos rfl (Ev.bind hs1 (Ev.bind hs3 (Pl.neg (by show ¬ (1 + (l.length : Int) + (m.length : Int)) < 0; omega) (Ev.bind (eqStringS g (by omega)) (Pl.pos rfl (Pl.succ ?_))))))))))))
  simp only [laws_FnExactReplaceLetters.j1]
  refine Pl.neg (by simp) (Ev.bind hm1 (Ev.bind hm2 (Pl.neg (by omega) (Pl.pos rfl (Ev.bind (toStringS l hl) (Ev.bind (toStringS m hm) (Ev.bind h2 (Ev.bind (eqStringS g (by omega)) (Pl.pos rfl (Pl.succ ?_))))))))))
  simp only [laws_FnExactReplaceLetters.j2]
  exact Pl.neg (by simp) (Ev.bind hm2 (Pl.neg (by omega) (Pl.pos rfl (Pl.ret rfl))))

end Go.Proofs.YtmopadfhddmgfaaDoor.Pure

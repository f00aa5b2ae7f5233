/- InnerWords: the program's answer is the reference's, for all arguments; no condition. -/
import Derived.Test.YtkphnakihjiebaaDoorSt
import Derived.Test.YtkphnakihjiebaaDoorLwZ
import Derived.Test.YtkphnakihjiebaaDoorLwS
import Derived.Test.YtkphnakihjiebaaDoorSrt
import Derived.Test.YtkphnakihjiebaaDoorXx7
import Derived.Test.YtkphnakihjiebaaDoorXx8
import Derived.Test.YtkphnakihjiebaaDoorXx11
import Derived.Test.YtkphnakihjiebaaDoorXx12
namespace Go.Proofs.YtkphnakihjiebaaDoor.Pure
open Go.RowKit Go.Proofs.YtkphnakihjiebaaDoor.X Go.Proofs.YtkphnakihjiebaaDoorW.PrintWords Go.Proofs.YtkphnakihjiebaaDoorW.PrintLast Go.Proofs.YtkphnakihjiebaaDoor

def inner (s : ByteArray) : List ByteArray := (List.range' 0 s.size).map fun n => s.extract 0 n
theorem puts_app (a b out : List ByteArray) : puts (a ++ b) out = puts b (puts a out) := List.foldl_append
theorem spec_l (l : List ByteArray) (hl : l.length ≤ 12) (hs : ∀ s ∈ l, s.size ≤ 8) (d : Nat) : ∀ (i : Nat) (out : List ByteArray), i + d = l.length → out.length ≤ 8 * i →
    Ev (fun k => spec_pfInner.l0 k out l (l.length : Int) (i : Int)) (puts ((l.drop i).flatMap inner) out) := by
  induction d with
  | zero =>
    intro i out hd ho
    refine Pl.succ ?_
    simp only [spec_pfInner.l0]
    exact Pl.neg (by omega) (Pl.ret (by rw [List.drop_of_length_le (by omega)]; rfl))
  | succ d ih =>
    intro i out hd ho
    have hil : i < l.length := by omega
    have h8 := hs _ (List.getElem_mem hil)
    have hin : ∀ (e n : Nat) (out : List ByteArray), n + e = l[i].size → out.length ≤ 8 * i + n → Ev (fun k => spec_pfInner.l1 k out l[i] (n : Int) l (l.length : Int) (i : Int)) (puts ((l.drop (i + 1)).flatMap inner) (puts ((List.range' n e).map fun n => l[i].extract 0 n) out)) := by
      intro e
      induction e with
      | zero =>
        intro n out hn ho
        refine Pl.succ ?_
        simp only [spec_pfInner.l1]
        rw [Pl.w64 (n := (i : Int) + 1) (by omega) (by omega)]
        exact Pl.neg (by omega) (Pl.via (ih (i + 1) out (by omega) (by omega)) rfl)
      | succ e ihe =>
        intro n out hn ho
        have hp := put_len out (l[i].extract 0 n)
        refine Pl.succ ?_
        simp only [spec_pfInner.l1]
        rw [Pl.w64 (by omega) (by omega), Int.toNat_natCast]
        refine Pl.pos (by omega) (Pl.pos (by omega) (Pl.pos (by omega) (Ev.bind (wdPut out (l[i].extract 0 n) (by omega)) ?_)))
        exact Pl.via (ihe (n + 1) _ (by omega) (by omega)) (by rw [List.range'_succ]; rfl)
    refine Pl.succ ?_
    simp only [spec_pfInner.l0]
    rw [Pl.rdS_nat _ i hil]
    refine Pl.pos (by omega) (Pl.pos (by omega) (Pl.pos (by omega) ?_))
    refine Pl.via (hin l[i].size 0 out (by omega) (by omega)) ?_
    rw [List.drop_eq_getElem_cons hil, List.flatMap_cons, puts_app]
    rfl
theorem impl_l (l : List ByteArray) (hl : l.length ≤ 12) (hs : ∀ s ∈ l, s.size ≤ 8) (d : Nat) : ∀ (i : Nat) (out : List ByteArray), i + d = l.length → out.length ≤ 8 * i →
    Ev (fun k => impl_innerWords.l0 k out l (l.length : Int) (i : Int)) (puts (out ++ (l.drop i).flatMap inner) []) := by
  induction d with
  | zero =>
    intro i out hd ho
    refine Pl.succ ?_
    simp only [impl_innerWords.l0, ordered_eq out (by omega), Option.bind_some]
    exact Pl.neg (by omega) (Pl.ret (by rw [List.drop_of_length_le (by omega), List.flatMap_nil, List.append_nil]))
  | succ d ih =>
    intro i out hd ho
    have hil : i < l.length := by omega
    have h8 := hs _ (List.getElem_mem hil)
    have hin : ∀ (e n : Nat) (out : List ByteArray), n + e = l[i].size → out.length ≤ 8 * i + n → Ev (fun k => impl_innerWords.l1 k out l[i] l (l.length : Int) (i : Int) (l[i].size : Int) (n : Int)) (puts (out ++ ((List.range' n e).map fun n => l[i].extract 0 n) ++ (l.drop (i + 1)).flatMap inner) []) := by
      intro e
      induction e with
      | zero =>
        intro n out hn ho
        refine Pl.succ ?_
        simp only [impl_innerWords.l1]
        rw [Pl.w64 (n := (i : Int) + 1) (by omega) (by omega)]
        exact Pl.neg (by omega) (Pl.via (ih (i + 1) out (by omega) (by omega)) (by simp))
      | succ e ihe =>
        intro n out hn ho
        refine Pl.succ ?_
        simp only [impl_innerWords.l1]
        rw [Pl.w64 (by omega) (by omega), Int.toNat_natCast]
        refine Pl.pos (by omega) (Pl.pos (by omega) (Pl.pos (by omega) (Pl.pos (by omega) ?_)))
        exact Pl.via (ihe (n + 1) _ (by omega) (by simp; omega)) (by rw [List.range'_succ]; simp)
    refine Pl.succ ?_
    simp only [impl_innerWords.l0]
    rw [Pl.rdS_nat _ i hil]
    refine Pl.pos (by omega) (Pl.pos (by omega) (Pl.pos (by omega) ?_))
    refine Pl.via (hin l[i].size 0 out (by omega) (by omega)) ?_
    rw [List.drop_eq_getElem_cons hil, List.flatMap_cons, List.append_assoc]
    rfl
theorem inner_len (l : List ByteArray) (hs : ∀ s ∈ l, s.size ≤ 8) : (l.flatMap inner).length ≤ 8 * l.length := by
  induction l with
  | nil => simp
  | cons x l ih =>
    have h1 := hs x List.mem_cons_self
    have h2 := ih fun s h => hs s (List.mem_cons_of_mem _ h)
    rw [List.flatMap_cons, List.length_append, List.length_cons]
    have : (inner x).length = x.size := by simp [inner]
    omega
theorem both (l : List ByteArray) (hl : l.length ≤ 1048576) : ∃ v : List ByteArray × Bool, v.1.length ≤ 1048576 ∧ Ev (fun k => spec_InnerWords.f k l) v ∧ Ev (fun k => impl_InnerWords.f k l) v := by
  unfold spec_InnerWords.f impl_InnerWords.f
  by_cases h : wset l
  · have hs : ∀ s ∈ l, s.size ≤ 8 := fun s hs => (wshort_size (wset_short h s hs)).2
    have hlen := inner_len l hs
    have h12 := h.1
    have hp := (puts_ok (l.flatMap inner) [] List.Pairwise.nil).2.2
    have h1 := spec_l l h.1 hs l.length 0 [] (by omega) (by simp)
    have h2 := impl_l l h.1 hs l.length 0 [] (by omega) (by simp)
    rw [List.drop_zero] at h1 h2
    rw [List.nil_append] at h2
    refine ⟨(puts (l.flatMap inner) [], true), by simp only [List.length_nil] at hp; show (puts _ _).length ≤ _; omega, Ev.bind (wdSet l) ?_, Ev.bind (isSet l (by omega)) ?_⟩
    · rw [decide_eq_true h]
      exact Pl.pos rfl (Ev.bind h1 (Pl.ret rfl))
    · rw [decide_eq_true h]
      exact Pl.pos rfl (Ev.bind h2 (Pl.ret rfl))
  · refine ⟨([], false), by simp, Ev.bind (wdSet l) ?_, Ev.bind (isSet l (by omega)) ?_⟩
    · rw [decide_eq_false h]; exact Pl.neg (by decide) (Pl.ret rfl)
    · rw [decide_eq_false h]; exact Pl.neg (by decide) (Pl.ret rfl)
theorem FnExactInnerWords (l : List ByteArray) (hb : l.length * 16 ≤ 140737488351232) (hs : ∀ s ∈ l, s.size ≤ maxLen) : ∃ k, laws_FnExactInnerWords.f k l = some true := by
  refine Ev.rounds ?_
  unfold laws_FnExactInnerWords.f
  obtain ⟨r, hr, hq⟩ := szStringS l hb hs 1048576 (by omega) (by omega)
  refine Ev.bind hr ?_
  by_cases hc : r < 0
  · exact Pl.pos hc (Pl.ret rfl)
  obtain ⟨_, hl, _⟩ := hq (by omega)
  obtain ⟨⟨g, b⟩, hlen, h1, h2⟩ := both l hl
  simp only at hlen
  obtain ⟨mg, hm1, hm2⟩ := marksS g (by omega)
  obtain ⟨ms, hs1, hs2⟩ := marksS l (by omega)
  refine Pl.neg hc (Ev.bind (toStringS l hl) (Ev.bind h1 (Ev.bind (toStringS l hl) (Ev.bind h2 (Ev.bind (eqStringS g (by omega)) (Pl.pos rfl (Pl.succ ?_)))))))
  simp only [laws_FnExactInnerWords.j0]
  refine Pl.neg (by simp) (Ev.bind (toStringS l hl) (Ev.bind (eqStringS l (by omega)) (Pl.pos rfl (Ev.bind hs1 (Pl.neg (by show ¬ (1 + (l.length : Int)) < 0; omega) (Ev.bind (eqStringS g (by omega)) (Pl.pos rfl (Pl.succ ?_))))))))
  simp only [laws_FnExactInnerWords.j1]
  refine Pl.neg (by simp) (Ev.bind hm1 (Ev.bind hm2 (Pl.neg (by omega) (Pl.pos rfl (Ev.bind (toStringS l hl) (Ev.bind h2 (Ev.bind (eqStringS g (by omega)) (Pl.pos rfl (Pl.succ ?_)))))))))
  simp only [laws_FnExactInnerWords.j2]
  exact Pl.neg (by simp) (Ev.bind hm2 (Pl.neg (by omega) (Pl.pos rfl (Pl.ret rfl))))

end Go.Proofs.YtkphnakihjiebaaDoor.Pure

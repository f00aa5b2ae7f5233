/- SetOf: the program's answer is the reference's, for all arguments; no condition. -/
import Derived.Test.YtkphnakihjiebaaDoorSt
import Derived.Test.YtkphnakihjiebaaDoorLwZ
import Derived.Test.YtkphnakihjiebaaDoorLwS
import Derived.Test.YtkphnakihjiebaaDoorSrt
import Derived.Test.YtkphnakihjiebaaDoorXx12
import Derived.Test.YtkphnakihjiebaaDoorXx14
import Derived.Test.YtkphnakihjiebaaDoorXx17
import Derived.Test.YtkphnakihjiebaaDoorXx18
namespace Go.Proofs.YtkphnakihjiebaaDoor.Pure
open Go.RowKit Go.Proofs.YtkphnakihjiebaaDoor.X Go.Proofs.YtkphnakihjiebaaDoorW.PrintWords Go.Proofs.YtkphnakihjiebaaDoorW.PrintLast Go.Proofs.YtkphnakihjiebaaDoor

theorem wdIf (out : List ByteArray) (h1 : out.Pairwise (fun a b => wless a b = true)) (h2 : ∀ s ∈ out, wshort s = true) : Ev (fun k => spec_wdIf.f k out) (if out.length ≤ 12 then (out, true) else ([], false)) := by
  unfold spec_wdIf.f
  by_cases h : out.length ≤ 12
  · rw [if_pos h]
    exact Ev.bind (wdSet out) (Pl.pos (decide_eq_true (wset_of h h2 h1)) (Pl.ret rfl))
  · rw [if_neg h]
    exact Ev.bind (wdSet out) (Pl.neg (by rw [decide_eq_false (fun hw : wset out => h hw.1)]; decide) (Pl.ret rfl))
theorem spec_l (l : List ByteArray) (hl : l.length ≤ 40) (d : Nat) : ∀ (i : Nat) (out : List ByteArray), i + d = l.length → out.length ≤ i → out.Pairwise (fun a b => wless a b = true) → (∀ s ∈ out, wshort s = true) →
    Ev (fun k => spec_SetOf.l0 k out l (l.length : Int) (i : Int)) (if (l.drop i).all wshort = true then (if (puts (l.drop i) out).length ≤ 12 then (puts (l.drop i) out, true) else ([], false)) else ([], false)) := by
  induction d with
  | zero =>
    intro i out hd ho h1 h2
    refine Pl.succ ?_
    simp only [spec_SetOf.l0]
    rw [List.drop_of_length_le (by omega)]
    exact Pl.neg (by omega) (Ev.bind (wdIf out h1 h2) (Pl.ret rfl))
  | succ d ih =>
    intro i out hd ho h1 h2
    have hil : i < l.length := by omega
    have hp := put_len out l[i]
    refine Pl.succ ?_
    simp only [spec_SetOf.l0]
    rw [Pl.rdS_nat _ i hil, Pl.w64 (by omega) (by omega), List.drop_eq_getElem_cons hil, List.all_cons]
    refine Pl.pos (by omega) (Pl.pos (by omega) (Pl.pos (by omega) (Ev.bind (wdShort l[i]) ?_)))
    cases hs : wshort l[i] with
    | false => exact Pl.neg (by decide) (Pl.ret rfl)
    | true =>
      refine Pl.pos rfl (Ev.bind (wdPut out l[i] (by omega)) ?_)
      rw [Bool.true_and]
      exact ih (i + 1) (put out l[i]) (by omega) (by omega) (put_srt out _ h1) (fun s hs' => by
        rcases (put_mem out l[i] s).1 hs' with rfl | hs'
        · exact hs
        · exact h2 s hs')
theorem notShort_eq (s : ByteArray) : notShort s = !(wshort s) := by
  have h := (isShort_b s).symm.trans (isShort_eq s)
  unfold notShort
  rw [Option.some.inj h]
theorem any_not (l : List ByteArray) : l.any notShort = !(l.all wshort) := by
  induction l with
  | nil => rfl
  | cons x l ih => rw [List.any_cons, List.all_cons, ih, notShort_eq, Bool.not_and]
theorem both (l : List ByteArray) (hl : l.length ≤ 1048576) : ∃ v : List ByteArray × Bool, v.1.length ≤ 1048576 ∧ Ev (fun k => spec_SetOf.f k l) v ∧ Ev (fun _ : Nat => impl_SetOf.f l) v := by
  unfold spec_SetOf.f impl_SetOf.f
  by_cases h : l.length ≤ 40
  · have h1 := spec_l l h l.length 0 [] (by omega) (by simp) List.Pairwise.nil (by simp)
    rw [List.drop_zero] at h1
    refine ⟨_, ?_, Pl.neg (by omega) h1, ⟨0, fun _ _ => ?_⟩⟩
    · split
      · split
        · show (puts _ _).length ≤ _; omega
        · simp
      · simp
    · rw [if_pos h, any_not, ordered_eq l hl, Option.bind_some]
      cases l.all wshort with
      | false => rfl
      | true =>
        rw [if_neg (by decide), if_pos rfl]
        split <;> rfl
  · refine ⟨([], false), by simp, Pl.pos (by omega) (Pl.ret rfl), ⟨0, fun _ _ => ?_⟩⟩
    rw [if_neg h]
theorem FnExactSetOf (l : List ByteArray) (hb : l.length * 16 ≤ 140737488351232) (hs : ∀ s ∈ l, s.size ≤ maxLen) : ∃ k, laws_FnExactSetOf.f k l = some true := by
  refine Ev.rounds ?_
  unfold laws_FnExactSetOf.f
  obtain ⟨r, hr, hq⟩ := szStringS l hb hs 1048576 (by omega) (by omega)
  refine Ev.bind hr ?_
  by_cases hc : r < 0
  · exact Pl.pos hc (Pl.ret rfl)
  obtain ⟨_, hl, _⟩ := hq (by omega)
  obtain ⟨⟨g, b⟩, hlen, h1, h2⟩ := both l hl
  simp only at hlen
  obtain ⟨mg, hm1, hm2⟩ := marksS g (by omega)
  obtain ⟨ms, hs1, hs2⟩ := marksS l (by omega)
  refine Pl.neg hc (Ev.bind (toStringS l hl) (Ev.bind h1 (Ev.bind (toStringS l hl) (Ev.bind h2 (Ev.bind (eqStringS g (by omega)) (Pl.pos rfl (Pl.succ ?_)))))))
  simp only [laws_FnExactSetOf.j0]
  refine Pl.neg (by simp) (Ev.bind (toStringS l hl) (Ev.bind (eqStringS l (by omega)) (Pl.pos rfl (Ev.bind hs1 (Pl.neg (by show ¬ (1 + (l.length : Int)) < 0; omega) (Ev.bind (eqStringS g (by omega)) (Pl.pos rfl (Pl.succ ?_))))))))
  simp only [laws_FnExactSetOf.j1]
  refine Pl.neg (by simp) (Ev.bind hm1 (Ev.bind hm2 (Pl.neg (by omega) (Pl.pos rfl (Ev.bind (toStringS l hl) (Ev.bind h2 (Ev.bind (eqStringS g (by omega)) (Pl.pos rfl (Pl.succ ?_)))))))))
  simp only [laws_FnExactSetOf.j2]
  exact Pl.neg (by simp) (Ev.bind hm2 (Pl.neg (by omega) (Pl.pos rfl (Pl.ret rfl))))

end Go.Proofs.YtkphnakihjiebaaDoor.Pure

/- IsPartFree: the program's answer is the reference's, for all arguments; no condition. -/
import Derived.Test.YtkphnakihjiebaaDoorSt
import Derived.Test.YtkphnakihjiebaaDoorLwZ
import Derived.Test.YtkphnakihjiebaaDoorLwE
import Derived.Test.YtkphnakihjiebaaDoorXx1
import Derived.Test.YtkphnakihjiebaaDoorXx6
import Derived.Test.YtkphnakihjiebaaDoorXx7
namespace Go.Proofs.YtkphnakihjiebaaDoor.Pure
open Go.RowKit Go.Proofs.YtkphnakihjiebaaDoor.X Go.Proofs.YtkphnakihjiebaaDoorW.PrintWords Go.Proofs.YtkphnakihjiebaaDoorW.PrintLast Go.Proofs.YtkphnakihjiebaaDoor

theorem idx_ge (sub : List UInt8) : ∀ l : List UInt8, -1 ≤ Lib.index l sub
  | [] => by unfold Lib.index; split <;> omega
  | b :: l => by
    have := idx_ge sub l
    unfold Lib.index
    split
    · omega
    · split
      · omega
      · omega
theorem idx_iff (sub : List UInt8) : ∀ l : List UInt8, 0 ≤ Lib.index l sub ↔ ∃ i, i ≤ l.length ∧ sub.isPrefixOf (l.drop i) = true
  | [] => by
    unfold Lib.index
    constructor
    · intro h
      split at h
      · rename_i hs
        rw [List.isEmpty_iff] at hs
        subst hs
        exact ⟨0, Nat.le_refl _, rfl⟩
      · omega
    · rintro ⟨i, _, h⟩
      rw [List.drop_nil] at h
      cases sub with
      | nil => simp
      | cons a b => cases h
  | b :: l => by
    have ih := idx_iff sub l
    have hg := idx_ge sub l
    unfold Lib.index
    by_cases hp : sub.isPrefixOf (b :: l) = true
    · rw [if_pos hp]
      exact ⟨fun _ => ⟨0, Nat.zero_le _, hp⟩, fun _ => Int.le_refl _⟩
    · rw [if_neg hp]
      by_cases hq : Lib.index l sub = -1
      · rw [if_pos (by rw [hq]; rfl)]
        refine ⟨fun h => by omega, ?_⟩
        rintro ⟨i, hi, h⟩
        cases i with
        | zero => exact absurd h hp
        | succ i =>
          have := ih.2 ⟨i, by simpa using hi, h⟩
          omega
      · rw [if_neg (by simpa using hq)]
        refine ⟨fun _ => ?_, fun _ => by omega⟩
        obtain ⟨i, hi, h⟩ := ih.1 (by omega)
        exact ⟨i + 1, by simpa using hi, h⟩
theorem ex_toL (s : ByteArray) (a b : Nat) : (s.extract a b).toList = ((bts s).drop a).take (b - a) := by
  rw [Pl.toL, ByteArray.data_extract, Array.toList_extract]
theorem conB_iff (s t : ByteArray) : conB s t = true ↔ ∃ i, i + t.size ≤ s.size ∧ (s.extract i (i + t.size)).toList = t.toList := by
  unfold conB Lib.contains
  rw [decide_eq_true_eq, idx_iff]
  have h1 : ∀ i, t.data.toList.isPrefixOf (s.data.toList.drop i) = true ↔ t.data.toList = (s.data.toList.drop i).take t.data.toList.length := fun i => by
    rw [List.isPrefixOf_iff_prefix, List.prefix_iff_eq_take]
  have ht : t.data.toList.length = t.size := by simp
  have hs : s.data.toList.length = s.size := by simp
  constructor
  · rintro ⟨i, hi, h⟩
    have h2 := (h1 i).1 h
    have h3 := congrArg List.length h2
    rw [List.length_take, List.length_drop, hs, ht] at h3
    refine ⟨i, by omega, ?_⟩
    rw [ex_toL, Pl.toL, show i + t.size - i = t.size by omega]
    rw [ht] at h2
    exact h2.symm
  · rintro ⟨i, hi, h⟩
    refine ⟨i, by rw [hs]; omega, (h1 i).2 ?_⟩
    rw [ex_toL, Pl.toL, show i + t.size - i = t.size by omega] at h
    rw [ht]
    exact h.symm
theorem within_l (s t : ByteArray) (hs : s.size ≤ 1000) (ht : t.size ≤ 1000) (d : Nat) : ∀ i : Nat, i + d = s.size + 1 → (∀ j, j < i → ¬ (j + t.size ≤ s.size ∧ (s.extract j (j + t.size)).toList = t.toList)) → Ev (fun k => spec_pfWithin.l0 k s t (i : Int)) (conB s t) := by
  have no : ∀ i : Nat, (∀ j, j < i → ¬ (j + t.size ≤ s.size ∧ (s.extract j (j + t.size)).toList = t.toList)) → ¬ (i + t.size ≤ s.size) → conB s t = false := fun i h hc => by
    rw [← Bool.not_eq_true, conB_iff]
    rintro ⟨j, hj, e⟩
    exact h j (by omega) ⟨hj, e⟩
  induction d with
  | zero =>
    intro i hd h
    refine Pl.succ ?_
    simp only [spec_pfWithin.l0]
    rw [Pl.w64 (n := (i : Int) + (t.size : Int)) (by omega) (by omega)]
    exact Pl.neg (by omega) (Pl.ret (no i h (by omega)).symm)
  | succ d ih =>
    intro i hd h
    refine Pl.succ ?_
    simp only [spec_pfWithin.l0]
    rw [Pl.w64 (n := (i : Int) + (t.size : Int)) (by omega) (by omega), Pl.w64 (n := (i : Int) + 1) (by omega) (by omega), show (i : Int) + (t.size : Int) = ((i + t.size : Nat) : Int) by omega, Int.toNat_natCast, Int.toNat_natCast]
    by_cases hc : i + t.size ≤ s.size
    · refine Pl.pos (by omega) (Pl.pos (by omega) (Pl.pos (by omega) ?_))
      by_cases he : (s.extract i (i + t.size)).toList = t.toList
      · exact Pl.pos he (Pl.ret ((conB_iff s t).2 ⟨i, hc, he⟩).symm)
      · refine Pl.neg he (ih (i + 1) (by omega) (fun j hj => ?_))
        by_cases e : j = i
        · subst e; exact fun q => he q.2
        · exact h j (by omega)
    · exact Pl.neg (by omega) (Pl.ret (no i h hc).symm)
theorem within (s t : ByteArray) (hs : s.size ≤ 1000) (ht : t.size ≤ 1000) : Ev (fun k => spec_pfWithin.f k s t) (conB s t) :=
  within_l s t hs ht (s.size + 1) 0 (by omega) (fun j hj => absurd hj (Nat.not_lt_zero _))
theorem spec_l (l : List ByteArray) (hl : l.length ≤ 1000) (hz : ∀ s ∈ l, s.size ≤ 1000) (r : Bool) (hr : r = true ↔ noTwo conB l) (d : Nat) : ∀ i : Nat, i + d = l.length → (∀ q (hq : q < l.length), q < i → ∀ k (hk : k < l.length), q ≠ k → conB l[q] l[k] = false) →
    Ev (fun n => spec_IsPartFree.l0 n l l (l.length : Int) (i : Int)) (r, true) := by
  induction d with
  | zero =>
    intro i hd h
    refine Pl.succ ?_
    simp only [spec_IsPartFree.l0]
    have : r = true := hr.2 fun q hq k hk hqk => h q hq (by omega) k hk hqk
    rw [this]
    exact Pl.neg (by omega) (Pl.ret rfl)
  | succ d ih =>
    intro i hd h
    have hil : i < l.length := by omega
    have hin : ∀ (e j : Nat), j + e = l.length → (∀ k (hk : k < l.length), k < j → i ≠ k → conB l[i] l[k] = false) → Ev (fun n => spec_IsPartFree.l1 n l (i : Int) l[i] l (l.length : Int) (i : Int) l (l.length : Int) (j : Int)) (r, true) := by
      intro e
      induction e with
      | zero =>
        intro j hj hk
        refine Pl.succ ?_
        simp only [spec_IsPartFree.l1]
        rw [Pl.w64 (n := (i : Int) + 1) (by omega) (by omega)]
        refine Pl.neg (by omega) (ih (i + 1) (by omega) (fun q hq hqi k hk2 hqk => ?_))
        by_cases e : q = i
        · subst e; exact hk k hk2 (by omega) hqk
        · exact h q hq (by omega) k hk2 hqk
      | succ e ihe =>
        intro j hj hk
        have hjl : j < l.length := by omega
        refine Pl.succ ?_
        simp only [spec_IsPartFree.l1]
        rw [Pl.rdS_nat _ j hjl, Pl.w64 (n := (j : Int) + 1) (by omega) (by omega)]
        refine Pl.pos (by omega) (Pl.pos (by omega) (Pl.pos (by omega) ?_))
        by_cases hij : i = j
        · refine Pl.pos (by omega) (ihe (j + 1) (by omega) (fun k hk2 hkj hik => hk k hk2 (by omega) hik))
        · refine Pl.neg (by omega) (Ev.bind (within l[i] l[j] (hz _ (List.getElem_mem hil)) (hz _ (List.getElem_mem hjl))) ?_)
          cases hc : conB l[i] l[j] with
          | true =>
            have : r = false := by
              rw [← Bool.not_eq_true, hr]
              intro g
              have := g i hil j hjl hij
              rw [hc] at this
              cases this
            rw [this]
            exact Pl.pos rfl (Pl.ret rfl)
          | false =>
            refine Pl.neg (by decide) (ihe (j + 1) (by omega) (fun k hk2 hkj hik => ?_))
            by_cases e2 : k = j
            · subst e2; exact hc
            · exact hk k hk2 (by omega) hik
    refine Pl.succ ?_
    simp only [spec_IsPartFree.l0]
    rw [Pl.rdS_nat _ i hil]
    exact Pl.pos (by omega) (Pl.pos (by omega) (Pl.pos (by omega) (hin l.length 0 (by omega) (fun k _ hk => absurd hk (Nat.not_lt_zero _)))))
theorem both (l : List ByteArray) (hl : l.length ≤ 1048576) : ∃ v, Ev (fun k => spec_IsPartFree.f k l) v ∧ Ev (fun k => impl_IsPartFree.f k l) v := by
  unfold spec_IsPartFree.f impl_IsPartFree.f
  by_cases h : wset l
  · have h12 := h.1
    have hz : ∀ s ∈ l, s.size ≤ 8 := fun s hs => by
      obtain ⟨i, hi, rfl⟩ := List.getElem_of_mem hs
      have := h.2.1 i hi
      unfold wshort at this
      simp only [Bool.and_eq_true, decide_eq_true_eq] at this
      exact this.1.2
    have hall : l.all sz1000 = true := List.all_eq_true.2 fun s q => decide_eq_true (by have := hz s q; omega)
    exact ⟨(decide (noTwo conB l), true), Ev.bind (wdSet l) (Pl.pos (decide_eq_true h) (spec_l l (by omega) (fun s q => by have := hz s q; omega) _ decide_eq_true_iff l.length 0 (by omega) (fun q _ hq => absurd hq (Nat.not_lt_zero _)))), Ev.bind (isSet l (by omega)) (Pl.pos (decide_eq_true h) (Pl.pos hall (Pl.ret rfl)))⟩
  · exact ⟨(false, false), Ev.bind (wdSet l) (Pl.neg (by simp [h]) (Pl.ret rfl)), Ev.bind (isSet l (by omega)) (Pl.neg (by simp [h]) (Pl.ret rfl))⟩
theorem FnExactIsPartFree (l : List ByteArray) (hb : l.length * 16 ≤ 140737488351232) (hs : ∀ s ∈ l, s.size ≤ maxLen) : ∃ k, laws_FnExactIsPartFree.f k l = some true := by
  refine Ev.rounds ?_
  unfold laws_FnExactIsPartFree.f
  obtain ⟨r, hr, hq⟩ := szStringS l hb hs 1048576 (by omega) (by omega)
  refine Ev.bind hr ?_
  by_cases hc : r < 0
  · exact Pl.pos hc (Pl.ret rfl)
  obtain ⟨_, hl, _⟩ := hq (by omega)
  obtain ⟨v, h1, h2⟩ := both l hl
  refine Pl.neg hc (Ev.bind (toStringS l hl) (Ev.bind h1 (Ev.bind (toStringS l hl) (Ev.bind h2 (Pl.neg (by simp) (Pl.succ ?_))))))
  simp only [laws_FnExactIsPartFree.j0]
  refine Pl.neg (by simp) (Ev.bind (toStringS l hl) (Ev.bind (eqStringS l (by omega)) (Pl.pos rfl (Pl.ret rfl))))

end Go.Proofs.YtkphnakihjiebaaDoor.Pure

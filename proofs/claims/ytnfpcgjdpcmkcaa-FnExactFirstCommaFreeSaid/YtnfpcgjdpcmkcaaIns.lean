/- The first place of a word within two others: program and reference go one way; no condition beyond sizes. -/
import Derived.Test.YtnfpcgjdpcmkcaaPl
import Derived.Test.YtnfpcgjdpcmkcaaXx2
import Derived.Test.YtnfpcgjdpcmkcaaXx5
import Derived.Test.YtnfpcgjdpcmkcaaXx6
namespace Go.Proofs.Ytnfpcgjdpcmkcaa.X
open Go.RowKit Go.Proofs.YtnfpcgjdpcmkcaaW.PrintWords Go.Proofs.YtnfpcgjdpcmkcaaW.PrintLast Go.Proofs.YtnfpcgjdpcmkcaaW.PrintMore Go.Proofs.Ytnfpcgjdpcmkcaa

abbrev btI (s : ByteArray) : List UInt8 := s.data.toList
def pr (R : List Int) : List Int × Bool := (R, !R.isEmpty)
theorem ext_size (s t : ByteArray) : (s ++ t).size = s.size + t.size := ByteArray.size_append
theorem toL_ex' (s : ByteArray) (a b : Nat) : (s.extract a b).toList = ((btI s).drop a).take (b - a) := by
  rw [Pl.toL, ByteArray.data_extract, Array.toList_extract]
theorem hasAt (b u : ByteArray) (p : Nat) (h : p + u.size ≤ b.size) : strings_HasPrefix.f (b.extract p b.size) u = some (decide ((b.extract p (p + u.size)).toList = u.toList)) := by
  unfold strings_HasPrefix.f stringslite_HasPrefix.f
  have hz : (b.extract p b.size).size = b.size - p := by rw [ByteArray.size_extract]; omega
  rw [hz, if_pos (by omega), if_pos (by omega), if_pos (by omega), Option.bind_some]
  congr 1
  have e : ((b.extract p b.size).extract (0 : Int).toNat (u.size : Int).toNat).toList = (b.extract p (p + u.size)).toList := by
    rw [toL_ex', toL_ex' b p]
    have e2 : btI (b.extract p b.size) = ((btI b).drop p).take (b.size - p) := by rw [← toL_ex', Pl.toL]
    rw [e2, Int.toNat_natCast]
    simp only [Int.toNat_zero, List.drop_zero, Nat.sub_zero, List.take_take]
    congr 1
    omega
  first
    | (rw [e]; exact Bool.eq_iff_iff.2 (by simp))
    | (simp only [Int.toNat_natCast, Int.toNat_zero] at e ⊢; rw [e]; exact Bool.eq_iff_iff.2 (by simp))
theorem ins3 (l : List ByteArray) (N : Int) (i j k : Nat) (hk : k ≤ 1000) (s t u : ByteArray) (hs : s.size ≤ 1000) (ht : t.size ≤ 1000) (hu : u.size ≤ 1000) (R2 : List Int) (hR2 : R2.length ≤ 4)
    (h2s : Ev (fun n => spec_syInside.l2 n l (i : Int) s (j : Int) t l N (i : Int) l N (j : Int) l N ((k + 1 : Nat) : Int)) (pr R2))
    (h2i : Ev (fun n => impl_firstInside.l2 n l (i : Int) s (j : Int) (s ++ t) l N (i : Int) l N (j : Int) l N ((k + 1 : Nat) : Int)) R2) (d : Nat) :
    ∀ p : Nat, p + d = s.size + t.size + 1 → ∃ R : List Int, R.length ≤ 4 ∧ Ev (fun n => spec_syInside.l3 n l (i : Int) s (j : Int) t (k : Int) u (p : Int) l N (i : Int) l N (j : Int) l N (k : Int)) (pr R) ∧
      Ev (fun n => impl_firstInside.l3 n l (i : Int) s (j : Int) (s ++ t) (k : Int) u l N (i : Int) l N (j : Int) l N (k : Int) ((s.size : Int) + (t.size : Int) - (u.size : Int) + 1) (p : Int)) R := by
  have hz := ext_size s t
  have out : ∀ p : Nat, p ≤ s.size + t.size + 1 → ¬ (p + u.size ≤ s.size + t.size) → ∃ R : List Int, R.length ≤ 4 ∧ Ev (fun n => spec_syInside.l3 n l (i : Int) s (j : Int) t (k : Int) u (p : Int) l N (i : Int) l N (j : Int) l N (k : Int)) (pr R) ∧
      Ev (fun n => impl_firstInside.l3 n l (i : Int) s (j : Int) (s ++ t) (k : Int) u l N (i : Int) l N (j : Int) l N (k : Int) ((s.size : Int) + (t.size : Int) - (u.size : Int) + 1) (p : Int)) R := by
    intro p hp hn
    refine ⟨R2, hR2, Pl.succ ?_, Pl.succ ?_⟩
    · simp only [spec_syInside.l3]
      rw [Pl.w64 (n := (p : Int) + (u.size : Int)) (by omega) (by omega), Pl.w64 (n := (s.size : Int) + (t.size : Int)) (by omega) (by omega), Pl.w64 (n := (k : Int) + 1) (by omega) (by omega)]
      exact Pl.neg (by omega) h2s
    · simp only [impl_firstInside.l3]
      rw [Pl.w64 (n := (k : Int) + 1) (by omega) (by omega)]
      exact Pl.neg (by omega) h2i
  induction d with
  | zero =>
    intro p hp
    exact out p (by omega) (by omega)
  | succ d ih =>
    intro p hp
    by_cases hc : p + u.size ≤ s.size + t.size
    · obtain ⟨R', hR', ihs, ihi⟩ := ih (p + 1) (by omega)
      have hat := hasAt (s ++ t) u p (by omega)
      by_cases hq : ((s ++ t).extract p (p + u.size)).toList = u.toList ∧ ¬ ((p = 0 ∧ k = i) ∨ (p = s.size ∧ k = j))
      · obtain ⟨hq1, hq2⟩ := hq
        rw [decide_eq_true hq1] at hat
        have hj : Ev (fun n => spec_syInside.j4 n l (i : Int) s (j : Int) t (k : Int) u (p : Int) l N (i : Int) l N (j : Int) l N (k : Int) false) (pr [(i : Int), (j : Int), (k : Int), (p : Int)]) := by
          refine Pl.succ ?_
          simp only [spec_syInside.j4]
          rw [Pl.w64 (n := (p : Int) + (u.size : Int)) (by omega) (by omega), show (p : Int) + (u.size : Int) = ((p + u.size : Nat) : Int) by omega, Int.toNat_natCast, Int.toNat_natCast]
          exact Pl.neg (by decide) (Pl.pos (by omega) (Pl.pos (by omega) (Pl.pos (by omega) (Pl.pos (by omega) (Pl.pos hq1 (Pl.ret rfl))))))
        refine ⟨[(i : Int), (j : Int), (k : Int), (p : Int)], by simp, Pl.succ ?_, Pl.succ ?_⟩
        · simp only [spec_syInside.l3]
          rw [Pl.w64 (n := (p : Int) + (u.size : Int)) (by omega) (by omega), Pl.w64 (n := (s.size : Int) + (t.size : Int)) (by omega) (by omega)]
          refine Pl.pos (by omega) ?_
          have kj : p = s.size → ((k : Int) == (j : Int)) = false := fun e => by
            rw [beq_eq_false_iff_ne]
            intro h
            exact hq2 (.inr ⟨e, by omega⟩)
          by_cases a0 : p = 0
          · refine Pl.pos (by omega) (Pl.neg (fun h => hq2 (.inl ⟨a0, by omega⟩)) ?_)
            by_cases a2 : p = s.size
            · exact Pl.pos (by omega) (by rw [kj a2]; exact hj)
            · exact Pl.neg (by omega) hj
          · refine Pl.neg (by omega) ?_
            by_cases a2 : p = s.size
            · exact Pl.pos (by omega) (by rw [kj a2]; exact hj)
            · exact Pl.neg (by omega) hj
        · simp only [impl_firstInside.l3]
          rw [Int.toNat_natCast, hat]
          refine Pl.pos (by omega) (Pl.pos (by omega) (Pl.pos (by omega) (Ev.bind (Ev.now _) (Pl.pos rfl ?_))))
          by_cases a0 : p = 0
          · refine Pl.pos (by omega) (Pl.neg (fun h => hq2 (.inl ⟨a0, by omega⟩)) ?_)
            by_cases a2 : p = s.size
            · exact Pl.pos (by omega) (Pl.neg (fun h => hq2 (.inr ⟨a2, by omega⟩)) (Pl.ret rfl))
            · exact Pl.neg (by omega) (Pl.ret rfl)
          · refine Pl.neg (by omega) ?_
            by_cases a2 : p = s.size
            · exact Pl.pos (by omega) (Pl.neg (fun h => hq2 (.inr ⟨a2, by omega⟩)) (Pl.ret rfl))
            · exact Pl.neg (by omega) (Pl.ret rfl)
      · have hj : ∀ c : Bool, (c = false → ¬ ((s ++ t).extract p (p + u.size)).toList = u.toList) → Ev (fun n => spec_syInside.j4 n l (i : Int) s (j : Int) t (k : Int) u (p : Int) l N (i : Int) l N (j : Int) l N (k : Int) c) (pr R') := by
          intro c hcc
          refine Pl.succ ?_
          simp only [spec_syInside.j4]
          rw [Pl.w64 (n := (p : Int) + (u.size : Int)) (by omega) (by omega), Pl.w64 (n := (p : Int) + 1) (by omega) (by omega), show (p : Int) + (u.size : Int) = ((p + u.size : Nat) : Int) by omega, Int.toNat_natCast, Int.toNat_natCast]
          cases c with
          | true => exact Pl.pos rfl ihs
          | false => exact Pl.neg (by decide) (Pl.pos (by omega) (Pl.pos (by omega) (Pl.pos (by omega) (Pl.pos (by omega) (Pl.neg (hcc rfl) ihs)))))
        refine ⟨R', hR', Pl.succ ?_, Pl.succ ?_⟩
        · simp only [spec_syInside.l3]
          rw [Pl.w64 (n := (p : Int) + (u.size : Int)) (by omega) (by omega), Pl.w64 (n := (s.size : Int) + (t.size : Int)) (by omega) (by omega)]
          refine Pl.pos (by omega) ?_
          by_cases a0 : p = 0
          · refine Pl.pos (by omega) ?_
            by_cases a1 : k = i
            · exact Pl.pos (by omega) (hj true (fun h => by cases h))
            · refine Pl.neg (by omega) ?_
              by_cases a2 : p = s.size
              · refine Pl.pos (by omega) (hj _ (fun h hqq => ?_))
                refine hq ⟨hqq, ?_⟩
                rintro (g | g)
                · exact a1 g.2
                · rw [beq_eq_false_iff_ne] at h; exact h (by omega)
              · refine Pl.neg (by omega) (hj _ (fun _ hqq => hq ⟨hqq, ?_⟩))
                rintro (g | g)
                · exact a1 g.2
                · exact a2 g.1
          · refine Pl.neg (by omega) ?_
            by_cases a2 : p = s.size
            · refine Pl.pos (by omega) (hj _ (fun h hqq => ?_))
              refine hq ⟨hqq, ?_⟩
              rintro (g | g)
              · exact a0 g.1
              · rw [beq_eq_false_iff_ne] at h; exact h (by omega)
            · refine Pl.neg (by omega) (hj _ (fun _ hqq => hq ⟨hqq, ?_⟩))
              rintro (g | g)
              · exact a0 g.1
              · exact a2 g.1
        · simp only [impl_firstInside.l3]
          rw [Int.toNat_natCast, hat, Pl.w64 (n := (p : Int) + 1) (by omega) (by omega)]
          refine Pl.pos (by omega) (Pl.pos (by omega) (Pl.pos (by omega) (Ev.bind (Ev.now _) ?_)))
          by_cases hq1 : ((s ++ t).extract p (p + u.size)).toList = u.toList
          · refine Pl.pos (decide_eq_true hq1) ?_
            have hsk : (p = 0 ∧ k = i) ∨ (p = s.size ∧ k = j) := Classical.byContradiction fun h => hq ⟨hq1, h⟩
            by_cases a0 : p = 0
            · refine Pl.pos (by omega) ?_
              by_cases a1 : k = i
              · exact Pl.pos (by omega) ihi
              · have a2 : p = s.size ∧ k = j := hsk.resolve_left fun g => a1 g.2
                exact Pl.neg (by omega) (Pl.pos (by omega) (Pl.pos (by omega) ihi))
            · have a2 : p = s.size ∧ k = j := hsk.resolve_left fun g => a0 g.1
              exact Pl.neg (by omega) (Pl.pos (by omega) (Pl.pos (by omega) ihi))
          · exact Pl.neg (by simp [hq1]) ihi
    · exact out p (by omega) hc
theorem ins2 (l : List ByteArray) (hl : l.length ≤ 1000) (hz : ∀ s ∈ l, s.size ≤ 1000) (i j : Nat) (hj : j ≤ 1000) (s t : ByteArray) (hs : s.size ≤ 1000) (ht : t.size ≤ 1000) (R1 : List Int) (hR1 : R1.length ≤ 4)
    (h1s : Ev (fun n => spec_syInside.l1 n l (i : Int) s l (l.length : Int) (i : Int) l (l.length : Int) ((j + 1 : Nat) : Int)) (pr R1))
    (h1i : Ev (fun n => impl_firstInside.l1 n l (i : Int) s l (l.length : Int) (i : Int) l (l.length : Int) ((j + 1 : Nat) : Int)) R1) (d : Nat) :
    ∀ k : Nat, k + d = l.length → ∃ R : List Int, R.length ≤ 4 ∧ Ev (fun n => spec_syInside.l2 n l (i : Int) s (j : Int) t l (l.length : Int) (i : Int) l (l.length : Int) (j : Int) l (l.length : Int) (k : Int)) (pr R) ∧
      Ev (fun n => impl_firstInside.l2 n l (i : Int) s (j : Int) (s ++ t) l (l.length : Int) (i : Int) l (l.length : Int) (j : Int) l (l.length : Int) (k : Int)) R := by
  have hzz := ext_size s t
  induction d with
  | zero =>
    intro k hk
    refine ⟨R1, hR1, Pl.succ ?_, Pl.succ ?_⟩
    · simp only [spec_syInside.l2]
      rw [Pl.w64 (n := (j : Int) + 1) (by omega) (by omega)]
      exact Pl.neg (by omega) h1s
    · simp only [impl_firstInside.l2]
      rw [Pl.w64 (n := (j : Int) + 1) (by omega) (by omega)]
      exact Pl.neg (by omega) h1i
  | succ d ih =>
    intro k hk
    have hkl : k < l.length := by omega
    obtain ⟨R2, hR2, h2s, h2i⟩ := ih (k + 1) (by omega)
    have hu := hz _ (List.getElem_mem hkl)
    obtain ⟨R, hR, h3s, h3i⟩ := ins3 l (l.length : Int) i j k (by omega) s t l[k] hs ht hu R2 hR2 h2s h2i (s.size + t.size + 1) 0 (by omega)
    refine ⟨R, hR, Pl.succ ?_, Pl.succ ?_⟩
    · simp only [spec_syInside.l2]
      rw [Pl.rdS_nat _ k hkl]
      exact Pl.pos (by omega) (Pl.pos (by omega) (Pl.pos (by omega) h3s))
    · simp only [impl_firstInside.l2]
      rw [Pl.rdS_nat _ k hkl, hzz, Pl.w64 (n := ((s.size + t.size : Nat) : Int) - (l[k].size : Int)) (by omega) (by omega), Pl.w64 (n := ((s.size + t.size : Nat) : Int) - (l[k].size : Int) + 1) (by omega) (by omega), show ((s.size + t.size : Nat) : Int) = (s.size : Int) + (t.size : Int) by omega]
      exact Pl.pos (by omega) (Pl.pos (by omega) (Pl.pos (by omega) h3i))
theorem ins1 (l : List ByteArray) (hl : l.length ≤ 1000) (hz : ∀ s ∈ l, s.size ≤ 1000) (i : Nat) (hi : i ≤ 1000) (s : ByteArray) (hs : s.size ≤ 1000) (R0 : List Int) (hR0 : R0.length ≤ 4)
    (h0s : Ev (fun n => spec_syInside.l0 n l l (l.length : Int) ((i + 1 : Nat) : Int)) (pr R0))
    (h0i : Ev (fun n => impl_firstInside.l0 n l l (l.length : Int) ((i + 1 : Nat) : Int)) R0) (d : Nat) :
    ∀ j : Nat, j + d = l.length → ∃ R : List Int, R.length ≤ 4 ∧ Ev (fun n => spec_syInside.l1 n l (i : Int) s l (l.length : Int) (i : Int) l (l.length : Int) (j : Int)) (pr R) ∧
      Ev (fun n => impl_firstInside.l1 n l (i : Int) s l (l.length : Int) (i : Int) l (l.length : Int) (j : Int)) R := by
  induction d with
  | zero =>
    intro j hj
    refine ⟨R0, hR0, Pl.succ ?_, Pl.succ ?_⟩
    · simp only [spec_syInside.l1]
      rw [Pl.w64 (n := (i : Int) + 1) (by omega) (by omega)]
      exact Pl.neg (by omega) h0s
    · simp only [impl_firstInside.l1]
      rw [Pl.w64 (n := (i : Int) + 1) (by omega) (by omega)]
      exact Pl.neg (by omega) h0i
  | succ d ih =>
    intro j hj
    have hjl : j < l.length := by omega
    obtain ⟨R1, hR1, h1s, h1i⟩ := ih (j + 1) (by omega)
    have ht := hz _ (List.getElem_mem hjl)
    obtain ⟨R, hR, h2s, h2i⟩ := ins2 l hl hz i j (by omega) s l[j] hs ht R1 hR1 h1s h1i l.length 0 (by omega)
    refine ⟨R, hR, Pl.succ ?_, Pl.succ ?_⟩
    · simp only [spec_syInside.l1]
      rw [Pl.rdS_nat _ j hjl]
      exact Pl.pos (by omega) (Pl.pos (by omega) (Pl.pos (by omega) h2s))
    · simp only [impl_firstInside.l1]
      rw [Pl.rdS_nat _ j hjl]
      exact Pl.pos (by omega) (Pl.pos (by omega) (Pl.pos (by omega) (Pl.pos (by omega) h2i)))
theorem ins0 (l : List ByteArray) (hl : l.length ≤ 1000) (hz : ∀ s ∈ l, s.size ≤ 1000) (d : Nat) :
    ∀ i : Nat, i + d = l.length → ∃ R : List Int, R.length ≤ 4 ∧ Ev (fun n => spec_syInside.l0 n l l (l.length : Int) (i : Int)) (pr R) ∧ Ev (fun n => impl_firstInside.l0 n l l (l.length : Int) (i : Int)) R := by
  induction d with
  | zero =>
    intro i hi
    refine ⟨[], by simp, Pl.succ ?_, Pl.succ ?_⟩
    · simp only [spec_syInside.l0]
      exact Pl.neg (by omega) (Pl.ret rfl)
    · simp only [impl_firstInside.l0]
      exact Pl.neg (by omega) (Pl.ret rfl)
  | succ d ih =>
    intro i hi
    have hil : i < l.length := by omega
    obtain ⟨R0, hR0, h0s, h0i⟩ := ih (i + 1) (by omega)
    have hs := hz _ (List.getElem_mem hil)
    obtain ⟨R, hR, h1s, h1i⟩ := ins1 l hl hz i (by omega) l[i] hs R0 hR0 h0s h0i l.length 0 (by omega)
    refine ⟨R, hR, Pl.succ ?_, Pl.succ ?_⟩
    · simp only [spec_syInside.l0]
      rw [Pl.rdS_nat _ i hil]
      exact Pl.pos (by omega) (Pl.pos (by omega) (Pl.pos (by omega) h1s))
    · simp only [impl_firstInside.l0]
      rw [Pl.rdS_nat _ i hil]
      exact Pl.pos (by omega) (Pl.pos (by omega) (Pl.pos (by omega) h1i))
/-- The first place: program and reference find the same. -/
theorem inside (l : List ByteArray) (hl : l.length ≤ 1000) (hz : ∀ s ∈ l, s.size ≤ 1000) : ∃ R : List Int, R.length ≤ 4 ∧ Ev (fun n => spec_syInside.f n l) (pr R) ∧ Ev (fun n => impl_firstInside.f n l) R :=
  ins0 l hl hz l.length 0 (by omega)

end Go.Proofs.Ytnfpcgjdpcmkcaa.X

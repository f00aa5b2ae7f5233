/- How many readings a word has: program and reference fill one table; no condition beyond sizes. -/
import Derived.Test.YtidjjcgfdkmefaaDoorWd
import Derived.Test.YtidjjcgfdkmefaaDoorTab
import Derived.Test.YtidjjcgfdkmefaaDoorXx1
import Derived.Test.YtidjjcgfdkmefaaDoorXx7
namespace Go.Proofs.YtidjjcgfdkmefaaDoor.X
open Go.RowKit Go.Proofs.YtidjjcgfdkmefaaDoorW.PrintWords Go.Proofs.YtidjjcgfdkmefaaDoorW.PrintLast Go.Proofs.YtidjjcgfdkmefaaDoorW.PrintMore Go.Proofs.YtidjjcgfdkmefaaDoor

def bgB (s t : ByteArray) : Bool := decide (t.size ≤ s.size) && ((s.extract 0 t.size).toList == t.toList)
theorem hasPrefix_bg (s t : ByteArray) : strings_HasPrefix.f s t = some (bgB s t) := by
  unfold strings_HasPrefix.f stringslite_HasPrefix.f bgB
  by_cases h : t.size ≤ s.size
  · rw [if_pos (by omega), if_pos (by omega), if_pos (by omega), decide_eq_true h]; rfl
  · rw [if_neg (by omega), decide_eq_false h]; rfl
theorem wdBegins_bg (s t : ByteArray) : spec_wdBegins.f s t = some (bgB s t) := by
  unfold spec_wdBegins.f bgB
  by_cases h : t.size ≤ s.size
  · rw [if_pos (by omega), if_pos (by omega), decide_eq_true h]; rfl
  · rw [if_neg (by omega), decide_eq_false h]; rfl
theorem bgB_size {s t : ByteArray} (h : bgB s t = true) : t.size ≤ s.size := by
  unfold bgB at h
  simp only [Bool.and_eq_true, decide_eq_true_eq] at h
  exact h.1
/-- The word t stands at the beginning of the last n letters of s. -/
def sufC (s : ByteArray) (n : Nat) (t : ByteArray) : Bool := bgB (s.extract (s.size - n) s.size) t
theorem sufC_size {s t : ByteArray} {n : Nat} (h : sufC s n t = true) (hn : n ≤ s.size) : t.size ≤ n := by
  have := bgB_size h
  rw [ByteArray.size_extract] at this
  omega
theorem readings_l (s : ByteArray) (l : List ByteArray) (hs : s.size ≤ 60) (hl : l.length ≤ 1048576) (h1 : ∀ t ∈ l, 1 ≤ t.size) (d : Nat) : ∀ n : Nat, n + 1 + d = s.size + 1 →
    Ev (fun k => impl_readings.l0 k l s (table (sufC s) l n ++ List.replicate (s.size - n) 0) ((n + 1 : Nat) : Int)) (table (sufC s) l s.size) := by
  induction d with
  | zero =>
    intro n hd
    obtain rfl : n = s.size := by omega
    refine Pl.succ ?_
    simp only [impl_readings.l0]
    exact Pl.neg (by omega) (Pl.ret (by simp))
  | succ d ih =>
    intro n hd
    obtain ⟨T, hT⟩ : ∃ T, table (sufC s) l n = T := ⟨_, rfl⟩
    have hTl : T.length = n + 1 := by rw [← hT, table_len]
    have hin : ∀ (e i : Nat), i + e = l.length → Ev (fun k => impl_readings.l1 k l s (T ++ stepA (sufC s) T 0 (l.take i) :: List.replicate (s.size - (n + 1)) 0) ((n + 1 : Nat) : Int) (s.extract (s.size - (n + 1)) s.size) l (l.length : Int) (i : Int)) (table (sufC s) l s.size) := by
      intro e
      induction e with
      | zero =>
        intro i hi
        obtain rfl : i = l.length := by omega
        refine Pl.succ ?_
        simp only [impl_readings.l1]
        rw [Pl.w64 (n := ((n + 1 : Nat) : Int) + 1) (by omega) (by omega)]
        refine Pl.neg (by omega) ?_
        have := ih (n + 1) (by omega)
        rw [table, hT, List.append_assoc] at this
        rw [List.take_length]
        exact this
      | succ e ihe =>
        intro i hi
        have hil : i < l.length := by omega
        have hi' := ihe (i + 1) (by omega)
        rw [stepA_take _ _ _ _ _ hil, hTl] at hi'
        refine Pl.succ ?_
        simp only [impl_readings.l1, hasPrefix_bg, Option.bind_some]
        rw [Pl.rdS_nat _ i hil, Pl.w64 (n := (i : Int) + 1) (by omega) (by omega)]
        refine Pl.pos (by omega) (Pl.pos (by omega) (Pl.pos (by omega) ?_))
        by_cases hc : sufC s (n + 1) l[i] = true
        · rw [if_pos hc] at hi'
          have hz := sufC_size hc (by omega)
          have hz1 := h1 _ (List.getElem_mem hil)
          rw [Pl.w64 (n := ((n + 1 : Nat) : Int) - (l[i].size : Int)) (by omega) (by omega), show ((n + 1 : Nat) : Int) - (l[i].size : Int) = ((n + 1 - l[i].size : Nat) : Int) by omega, Int.toNat_natCast]
          refine Pl.pos hc (Pl.pos (by omega) (Pl.pos (by simp; omega) (Pl.pos (by omega) (Pl.pos (by simp; omega) ?_))))
          rw [← hTl, rdT1, setT, rdT2 _ _ _ (by omega)]
          rw [hTl]
          exact hi'
        · rw [if_neg hc] at hi'
          exact Pl.neg hc hi'
    refine Pl.succ ?_
    simp only [impl_readings.l0]
    rw [Pl.w64 (n := (s.size : Int) - ((n + 1 : Nat) : Int)) (by omega) (by omega), show (s.size : Int) - ((n + 1 : Nat) : Int) = ((s.size - (n + 1) : Nat) : Int) by omega, Int.toNat_natCast]
    refine Pl.pos (by omega) (Pl.pos (by omega) (Pl.pos (by omega) ?_))
    have := hin l.length 0 (by omega)
    rw [hT, show s.size - n = (s.size - (n + 1)) + 1 by omega, List.replicate_succ]
    exact this
theorem readings (s : ByteArray) (l : List ByteArray) (hs : s.size ≤ 60) (hl : l.length ≤ 1048576) (h1 : ∀ t ∈ l, 1 ≤ t.size) : Ev (fun k => impl_readings.f k l s) (table (sufC s) l s.size) := by
  unfold impl_readings.f
  rw [Pl.w64 (by omega) (by omega), show ((s.size : Int) + 1) = ((s.size + 1 : Nat) : Int) by omega, Int.toNat_natCast]
  refine Pl.pos (by omega) (Pl.pos (by omega) (Ev.bind (Ev.now _) (Pl.pos (by simp) ?_)))
  have := readings_l s l hs hl h1 s.size 0 (by omega)
  rw [List.replicate_succ]
  exact this
theorem dc_l (s : ByteArray) (l : List ByteArray) (hs : s.size ≤ 60) (hl : l.length ≤ 1048576) (h1 : ∀ t ∈ l, 1 ≤ t.size) (d : Nat) : ∀ n : Nat, n + 1 + d = s.size + 1 →
    Ev (fun k => spec_dcCount.l0 k l s (List.replicate (s.size - n) 0 ++ (table (sufC s) l n).reverse) ((s.size : Int) - ((n + 1 : Nat) : Int))) (rd (table (sufC s) l s.size) (s.size : Int)) := by
  induction d with
  | zero =>
    intro n hd
    obtain rfl : n = s.size := by omega
    have hlen := table_len (sufC s) l s.size
    refine Pl.succ ?_
    simp only [spec_dcCount.l0]
    rw [Nat.sub_self, List.replicate_zero, List.nil_append]
    refine Pl.neg (by omega) (Pl.pos (by rw [List.length_reverse, hlen]; omega) (Pl.ret ?_))
    rw [show (0 : Int) = ((0 : Nat) : Int) from rfl, Pl.rd_nat _ _ (by rw [List.length_reverse, hlen]; omega), Pl.rd_nat _ _ (by omega), List.getElem_reverse]
    congr 1
    omega
  | succ d ih =>
    intro n hd
    obtain ⟨T, hT⟩ : ∃ T, table (sufC s) l n = T := ⟨_, rfl⟩
    have hTl : T.length = n + 1 := by rw [← hT, table_len]
    obtain ⟨q, hq⟩ : ∃ q, s.size - (n + 1) = q := ⟨_, rfl⟩
    have hin : ∀ (e i : Nat), i + e = l.length → Ev (fun k => spec_dcCount.l1 k l s (List.replicate q 0 ++ stepA (sufC s) T 0 (l.take i) :: T.reverse) (q : Int) l (l.length : Int) (i : Int)) (rd (table (sufC s) l s.size) (s.size : Int)) := by
      intro e
      induction e with
      | zero =>
        intro i hi
        obtain rfl : i = l.length := by omega
        refine Pl.succ ?_
        simp only [spec_dcCount.l1]
        rw [Pl.w64 (n := (q : Int) - 1) (by omega) (by omega)]
        refine Pl.neg (by omega) ?_
        have := ih (n + 1) (by omega)
        rw [table, hT, List.reverse_append, hq, show (s.size : Int) - ((n + 1 + 1 : Nat) : Int) = (q : Int) - 1 by omega] at this
        rw [List.take_length]
        exact this
      | succ e ihe =>
        intro i hi
        have hil : i < l.length := by omega
        have hi' := ihe (i + 1) (by omega)
        rw [stepA_take _ _ _ _ _ hil, hTl] at hi'
        refine Pl.succ ?_
        simp only [spec_dcCount.l1, wdBegins_bg, Option.bind_some]
        rw [Pl.rdS_nat _ i hil, Pl.w64 (n := (i : Int) + 1) (by omega) (by omega), Int.toNat_natCast]
        refine Pl.pos (by omega) (Pl.pos (by omega) (Pl.pos (by omega) (Pl.pos (by omega) (Pl.pos (by omega) ?_))))
        by_cases hc : sufC s (n + 1) l[i] = true
        · rw [if_pos hc] at hi'
          have hz := sufC_size hc (by omega)
          have hz1 := h1 _ (List.getElem_mem hil)
          rw [Pl.w64 (n := (q : Int) + (l[i].size : Int)) (by omega) (by omega), show (q : Int) + (l[i].size : Int) = ((q + l[i].size : Nat) : Int) by omega]
          refine Pl.pos (by rw [← hq]; exact hc) (Pl.pos (by simp; omega) (Pl.pos (by omega) (Pl.pos (by simp; omega) ?_)))
          have e1 : rd (List.replicate q 0 ++ stepA (sufC s) T 0 (l.take i) :: T.reverse) (q : Int) = stepA (sufC s) T 0 (l.take i) := by
            have := rdT1 (List.replicate q 0) T.reverse (stepA (sufC s) T 0 (l.take i))
            rwa [List.length_replicate] at this
          have e2 : ∀ b, (List.replicate q 0 ++ stepA (sufC s) T 0 (l.take i) :: T.reverse).set q b = List.replicate q 0 ++ b :: T.reverse := fun b => by
            have := setT (List.replicate q 0) T.reverse (stepA (sufC s) T 0 (l.take i)) b
            rwa [List.length_replicate] at this
          rw [e1, e2, rdR2 _ _ _ _ hz1 (by omega), hTl]
          exact hi'
        · rw [if_neg hc] at hi'
          exact Pl.neg (by rw [← hq]; exact hc) hi'
    refine Pl.succ ?_
    simp only [spec_dcCount.l0]
    rw [show (s.size : Int) - ((n + 1 : Nat) : Int) = (q : Int) by omega]
    refine Pl.pos (by omega) ?_
    have := hin l.length 0 (by omega)
    rw [hT, show s.size - n = q + 1 by omega, List.replicate_succ', List.append_assoc]
    exact this
theorem dcCount (s : ByteArray) (l : List ByteArray) (hs : s.size ≤ 60) (hl : l.length ≤ 1048576) (h1 : ∀ t ∈ l, 1 ≤ t.size) : Ev (fun k => spec_dcCount.f k l s) (rd (table (sufC s) l s.size) (s.size : Int)) := by
  unfold spec_dcCount.f
  rw [Pl.w64 (n := (s.size : Int) + 1) (by omega) (by omega), show ((s.size : Int) + 1) = ((s.size + 1 : Nat) : Int) by omega, Int.toNat_natCast, Int.toNat_natCast]
  rw [Pl.w64 (n := (s.size : Int) - 1) (by omega) (by omega)]
  refine Pl.pos (by omega) (Pl.pos (by omega) (Ev.bind (Ev.now _) (Pl.pos (by omega) (Pl.pos (by simp; omega) ?_))))
  have := dc_l s l hs hl h1 s.size 0 (by omega)
  have e : (List.replicate (s.size + 1) (0 : Int)).set s.size 1 = List.replicate s.size 0 ++ [1] := by
    rw [List.replicate_succ']
    have := setT (List.replicate s.size 0) [] 0 1
    rwa [List.length_replicate] at this
  rw [e]
  exact this
theorem countReadings (s : ByteArray) (l : List ByteArray) (hs : s.size ≤ 60) (hl : l.length ≤ 1048576) (h1 : ∀ t ∈ l, 1 ≤ t.size) : Ev (fun k => impl_countReadings.f k l s) (rd (table (sufC s) l s.size) (s.size : Int)) := by
  unfold impl_countReadings.f
  have hlen := table_len (sufC s) l s.size
  exact Ev.bind (readings s l hs hl h1) (Pl.pos (by omega) (Pl.pos (by omega) (Pl.ret rfl)))
theorem set_pos {l : List ByteArray} (h : wset l) : ∀ t ∈ l, 1 ≤ t.size := fun t ht => by
  obtain ⟨i, hi, rfl⟩ := List.getElem_of_mem ht
  have := h.2.1 i hi
  unfold wshort at this
  simp only [Bool.and_eq_true, decide_eq_true_eq] at this
  exact this.1.1
theorem dcAsked (l : List ByteArray) (s : ByteArray) : Ev (fun k => spec_dcAsked.f k l s) (decide (wset l) && wgood s) := by
  unfold spec_dcAsked.f
  refine Ev.bind (wdSet l) ?_
  by_cases h : wset l
  · rw [decide_eq_true h]
    exact Pl.pos rfl (Ev.bind (wdGood s) (Pl.ret rfl))
  · rw [decide_eq_false h]
    exact Pl.neg (by decide) (Pl.ret rfl)

end Go.Proofs.YtidjjcgfdkmefaaDoor.X

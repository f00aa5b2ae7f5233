/- CountWritten: the program's answer is the reference's, for all arguments; no condition. -/
import Derived.Test.YtemjfkogaimolaaDoorCx
import Derived.Test.YtemjfkogaimolaaDoorLwZ
import Derived.Test.YtemjfkogaimolaaDoorLwE
import Derived.Test.YtemjfkogaimolaaDoorXx0
import Derived.Test.YtemjfkogaimolaaDoorXx1
import Derived.Test.YtemjfkogaimolaaDoorXx2
import Derived.Test.YtemjfkogaimolaaDoorXx3
import Derived.Test.YtemjfkogaimolaaDoorXx5
import Derived.Test.YtemjfkogaimolaaDoorXx7
namespace Go.Proofs.YtemjfkogaimolaaDoor.Pure
open Go.RowKit Go.Proofs.YtemjfkogaimolaaDoor.X Go.Proofs.YtemjfkogaimolaaDoorW.PrintWords Go.Proofs.YtemjfkogaimolaaDoorW.PrintLast Go.Proofs.YtemjfkogaimolaaDoor

theorem dcSorted : ∀ (n : Nat) (l : List ByteArray), l.length ≤ n → l.length ≤ 4194304 → ∃ r, Ev (fun k => spec_dcSorted.f k l) r ∧ r.Pairwise tlt ∧ (∀ z, z ∈ r ↔ z ∈ l) ∧ r.length ≤ l.length := by
  intro n
  induction n with
  | zero =>
    intro l hl _
    have e : l = [] := List.length_eq_zero_iff.1 (by omega)
    subst e
    refine ⟨[], Pl.succ ?_, List.Pairwise.nil, fun z => Iff.rfl, Nat.le_refl _⟩
    simp only [spec_dcSorted.f]
    exact Pl.pos (by decide) (Pl.ret rfl)
  | succ n ih =>
    intro l hl hb
    by_cases h2 : l.length < 2
    · refine ⟨l, Pl.succ ?_, ?_, fun z => Iff.rfl, Nat.le_refl _⟩
      · simp only [spec_dcSorted.f]
        exact Pl.pos h2 (Pl.ret rfl)
      · match l, h2 with
        | [], _ => exact List.Pairwise.nil
        | [x], _ => exact List.pairwise_singleton _ _
    · have t1 : (l.take (l.length / 2)).length = l.length / 2 := by rw [List.length_take]; omega
      have t2 : (l.drop (l.length / 2)).length = l.length - l.length / 2 := List.length_drop
      obtain ⟨a, ea, pa, ma, la⟩ := ih (l.take (l.length / 2)) (by omega) (by omega)
      obtain ⟨b, eb, pb, mb, lb⟩ := ih (l.drop (l.length / 2)) (by omega) (by omega)
      obtain ⟨q1, q2⟩ := mrg_ok (a.length + b.length) a b [] (Nat.le_refl _) pa pb List.Pairwise.nil (fun o ho => by cases ho)
      have hm : ∀ z, z ∈ mrg (a.length + b.length) a b [] ↔ z ∈ l := fun z => by
        rw [q2 z, ma z, mb z, ← List.mem_append, List.take_append_drop]
        simp
      refine ⟨mrg (a.length + b.length) a b [], Pl.succ ?_, q1, hm, nodup_len _ _ (tlt_nodup q1) fun x hx => (hm x).1 hx⟩
      simp only [spec_dcSorted.f]
      exact Pl.neg h2 (Ev.bind ea (Ev.bind eb (Pl.pos (by omega) (Pl.ret rfl))))
theorem l2_ev (set : List ByteArray) (n kk : Int) (L : List (List ByteArray)) (t : ByteArray) (ht : t.size ≤ 100) (i : Int) (row : List ByteArray) (hr : ∀ s ∈ row, s.size ≤ 100) (hrl : row.length ≤ 1000000) (R : Int × Bool) (d : Nat) : ∀ (j : Nat) (now : List ByteArray), j + d = row.length → now.length + (row.length - j) ≤ 4194304 →
    Ev (fun k => spec_CountWritten.l1 k set n L kk (now ++ (row.drop j).map (fun s => s ++ t)) set (set.length : Int) (wrap64 (i + 1))) R → Ev (fun k => spec_CountWritten.l2 k set n L kk now t set (set.length : Int) i row (row.length : Int) (j : Int)) R := by
  induction d with
  | zero =>
    intro j now hd hb hk
    refine Pl.succ ?_
    simp only [spec_CountWritten.l2]
    rw [List.drop_of_length_le (by omega), List.map_nil, List.append_nil] at hk
    exact Pl.neg (by omega) hk
  | succ d ih =>
    intro j now hd hb hk
    have hjl : j < row.length := by omega
    have h1 := hr _ (List.getElem_mem hjl)
    refine Pl.succ ?_
    simp only [spec_CountWritten.l2]
    rw [Pl.rdS_nat _ j hjl, Pl.w64 (n := (j : Int) + 1) (by omega) (by omega)]
    refine Pl.pos (by omega) (Pl.pos (by omega) (Pl.pos (by omega) (Pl.pos (by omega) (Pl.pos (by omega) (ih (j + 1) _ (by omega) (by rw [List.length_append, List.length_singleton]; omega) ?_)))))
    rw [List.drop_eq_getElem_cons hjl, List.map_cons] at hk
    rw [List.append_assoc]
    exact hk
theorem l1_ev (set : List ByteArray) (hs12 : set.length ≤ 12) (hsz : ∀ t ∈ set, 1 ≤ t.size ∧ t.size ≤ 8) (n : Int) (L : List (List ByteArray)) (kk : Nat) (hkk : kk ≤ 9) (hLl : L.length = kk) (hrow : ∀ j, j < kk → (L.getD j []).length ≤ 20000 ∧ ∀ s ∈ L.getD j [], s.size ≤ 100) (R : Int × Bool) (d : Nat) : ∀ (i : Nat) (now : List ByteArray), i + d = set.length → now.length ≤ 20000 * i →
    Ev (fun k => (spec_dcSorted.f k (now ++ nowL L kk (set.drop i))).bind fun t => if L.length < 5864062014805 then spec_CountWritten.l0 k set n (L ++ [t]) (wrap64 ((kk : Int) + 1)) else none) R → Ev (fun k => spec_CountWritten.l1 k set n L (kk : Int) now set (set.length : Int) (i : Int)) R := by
  induction d with
  | zero =>
    intro i now hd hb hk
    refine Pl.succ ?_
    simp only [spec_CountWritten.l1]
    rw [List.drop_of_length_le (by omega)] at hk
    unfold nowL at hk
    rw [List.flatMap_nil, List.append_nil] at hk
    exact Pl.neg (by omega) hk
  | succ d ih =>
    intro i now hd hb hk
    have hil : i < set.length := by omega
    have hti := hsz _ (List.getElem_mem hil)
    refine Pl.succ ?_
    simp only [spec_CountWritten.l1]
    rw [Pl.rdS_nat _ i hil]
    refine Pl.pos (by omega) (Pl.pos (by omega) (Pl.pos (by omega) ?_))
    unfold nowL at hk
    rw [List.drop_eq_getElem_cons hil, List.flatMap_cons] at hk
    by_cases hgt : (set[i].size : Int) > kk
    · rw [if_neg (by omega), List.nil_append] at hk
      rw [Pl.w64 (n := (i : Int) + 1) (by omega) (by omega)]
      exact Pl.pos hgt (ih (i + 1) now (by omega) (by omega) hk)
    · rw [if_pos (by omega)] at hk
      have hj := hrow (kk - set[i].size) (by omega)
      have e1 : rd_L1 L (((kk - set[i].size : Nat)) : Int) = L.getD (kk - set[i].size) [] := by unfold rd_L1; rw [Int.toNat_natCast]
      rw [Pl.w64 (n := (kk : Int) - (set[i].size : Int)) (by omega) (by omega), show (kk : Int) - (set[i].size : Int) = ((kk - set[i].size : Nat) : Int) by omega, e1]
      refine Pl.neg hgt (Pl.pos (by omega) (Pl.pos (by omega) ?_))
      refine l2_ev set n (kk : Int) L set[i] (by omega) (i : Int) _ hj.2 (by omega) R _ 0 now (Nat.zero_add _) (by omega) ?_
      rw [Pl.w64 (n := (i : Int) + 1) (by omega) (by omega), List.drop_zero]
      refine ih (i + 1) _ (by omega) (by rw [List.length_append, List.length_map]; omega) ?_
      rw [List.append_assoc]
      exact hk
def okW (set : List ByteArray) (s : ByteArray) : Bool := decide (0 < rd (table (sufC s) set s.size) (s.size : Int))
theorem okW_iff {set : List ByteArray} (h : wset set) {s : ByteArray} (hs : s.size ≤ 9) : okW set s = true ↔ RdL set (bts s) := by
  unfold okW
  rw [decide_eq_true_eq, (tab_ok h s s.size (Nat.le_refl _) hs s.size (Nat.le_refl _)).2.2, Nat.sub_self, List.drop_zero]
theorem pow9 {j : Nat} (h : j ≤ 9) : 3 ^ j ≤ 19683 := by
  have : (3 : Nat) ^ j ≤ 3 ^ 9 := Nat.pow_le_pow_right (by decide) h
  exact this
theorem l0_ev {set : List ByteArray} (h : wset set) (n : Nat) (hn : n ≤ 9) (d : Nat) : ∀ (kk : Nat) (L : List (List ByteArray)), kk + d = n + 1 → 1 ≤ kk → L.length = kk → (∀ j, j < kk → LW set j (L.getD j [])) →
    Ev (fun k => spec_CountWritten.l0 k set (n : Int) L (kk : Int)) ((((allW n).filter (okW set)).length : Int), true) := by
  induction d with
  | zero =>
    intro kk L hd h1 hl hL
    obtain rfl : kk = n + 1 := by omega
    refine Pl.succ ?_
    simp only [spec_CountWritten.l0]
    have e1 : rd_L1 L (n : Int) = L.getD n [] := by unfold rd_L1; rw [Int.toNat_natCast]
    rw [e1]
    refine Pl.neg (by omega) (Pl.pos (by omega) (Pl.pos (by omega) (Pl.ret ?_)))
    rw [LW_filter h (hL n (by omega)) (okW set) (fun s hs => okW_iff h (by omega))]
  | succ d ih =>
    intro kk L hd h1 hl hL
    have hrow : ∀ j, j < kk → (L.getD j []).length ≤ 20000 ∧ ∀ s ∈ L.getD j [], s.size ≤ 100 := fun j hj => by
      have h3 := LW_len h (hL j hj)
      have h4 := pow9 (j := j) (by omega)
      exact ⟨by omega, fun s hs => by have := (((hL j hj).2 s).1 hs).1; omega⟩
    have hlen : ∀ ts : List ByteArray, (∀ t ∈ ts, 1 ≤ t.size) → (nowL L kk ts).length ≤ 20000 * ts.length := by
      intro ts hts
      induction ts with
      | nil => simp [nowL]
      | cons t ts iht =>
        have q1 := iht (fun u hu => hts u (List.mem_cons_of_mem _ hu))
        have q2 := hts t List.mem_cons_self
        unfold nowL at q1 ⊢
        rw [List.flatMap_cons, List.length_append, List.length_cons]
        split
        · rw [List.length_map]
          have := (hrow (kk - t.size) (by omega)).1
          omega
        · rw [List.length_nil]; omega
    have hsz : ∀ t ∈ set, 1 ≤ t.size ∧ t.size ≤ 8 := fun t ht => wshort_size (wset_short h t ht)
    have h12 := h.1
    have hnl := hlen set (fun t ht => (hsz t ht).1)
    obtain ⟨r, er, pr, mr, _⟩ := dcSorted (nowL L kk set).length (nowL L kk set) (Nat.le_refl _) (by omega)
    refine Pl.succ ?_
    simp only [spec_CountWritten.l0]
    refine Pl.pos (by omega) (l1_ev set h12 hsz (n : Int) L kk (by omega) hl hrow _ set.length 0 [] (by omega) (by simp) ?_)
    rw [List.drop_zero, List.nil_append, Pl.w64 (n := (kk : Int) + 1) (by omega) (by omega)]
    refine Ev.bind er (Pl.pos (by omega) (ih (kk + 1) (L ++ [r]) (by omega) (by omega) (by rw [List.length_append, List.length_singleton, hl]) fun j hj => ?_))
    by_cases e : j = kk
    · subst e
      rw [List.getD_eq_getElem?_getD, List.getElem?_append_right (by omega), hl, Nat.sub_self]
      exact ⟨tlt_nodup pr, fun s => (mr s).trans (nowL_mem h L _ h1 hL s)⟩
    · rw [List.getD_eq_getElem?_getD, List.getElem?_append_left (by omega), ← List.getD_eq_getElem?_getD]
      exact hL j (by omega)
theorem abc1 (x : Nat) (hx : x = 0 ∨ x = 1 ∨ x = 2) : (⟨#[97, 98, 99]⟩ : ByteArray).extract x (x + 1) = ⟨#[UInt8.ofNat (97 + x)]⟩ := by
  refine bts_ext ?_
  show ((⟨#[97, 98, 99]⟩ : ByteArray).extract x (x + 1)).data.toList = _
  rw [ByteArray.data_extract, Array.toList_extract, List.extract_eq_take_drop]
  rcases hx with rfl | rfl | rfl <;> rfl
theorem aw_l2 (n i : Int) (cur next : List ByteArray) (s : ByteArray) (hs : s.size ≤ 100) (hb : next.length ≤ 4194304) (j : Int) (R : List ByteArray) (hk : Ev (fun k => impl_allWords.l1 k 3 (next ++ thr s) n i cur (cur.length : Int) (wrap64 (j + 1))) R) : Ev (fun k => impl_allWords.l2 k 3 next s n i cur (cur.length : Int) j 3 0) R := by
  have w1 : wrap64 (0 + 1) = 1 := Pl.w64 (by omega) (by omega)
  have w2 : wrap64 (1 + 1) = 2 := Pl.w64 (by omega) (by omega)
  have w3 : wrap64 (2 + 1) = 3 := Pl.w64 (by omega) (by omega)
  have x0 := abc1 0 (.inl rfl)
  have x1 := abc1 1 (.inr (.inl rfl))
  have x2 := abc1 2 (.inr (.inr rfl))
  have one : ∀ b : UInt8, (⟨#[b]⟩ : ByteArray).size = 1 := fun _ => rfl
  refine Pl.succ (Pl.succ (Pl.succ (Pl.succ ?_)))
  simp only [impl_allWords.l2, w1, w2, w3, Int.toNat_zero, Int.reduceToNat]
  rw [x0, x1, x2]
  simp only [one, List.length_append, List.length_cons, List.length_nil]
  refine Pl.pos (by omega) (Pl.pos (by omega) (Pl.pos (by omega) (Pl.pos (by omega) (Pl.pos (by omega) (Pl.pos (by omega) ?_)))))
  refine Pl.pos (by omega) (Pl.pos (by omega) (Pl.pos (by omega) (Pl.pos (by omega) (Pl.pos (by omega) (Pl.pos (by omega) ?_)))))
  refine Pl.pos (by omega) (Pl.pos (by omega) (Pl.pos (by omega) (Pl.pos (by omega) (Pl.pos (by omega) (Pl.pos (by omega) ?_)))))
  refine Pl.neg (by omega) ?_
  rw [List.append_assoc, List.append_assoc]
  exact hk
theorem aw_l1 (n i : Nat) (hi : i ≤ 9) (R : List ByteArray) (hk : Ev (fun k => impl_allWords.l0 k 3 (allW (i + 1)) (n : Int) (wrap64 ((i : Int) + 1))) R) (d : Nat) : ∀ (j : Nat) (next : List ByteArray), j + d = (allW i).length → next.length = 3 * j → next ++ ((allW i).drop j).flatMap thr = allW (i + 1) → Ev (fun k => impl_allWords.l1 k 3 next (n : Int) (i : Int) (allW i) ((allW i).length : Int) (j : Int)) R := by
  have hal := allW_len i
  have hp := pow9 hi
  induction d with
  | zero =>
    intro j next hd hb he
    refine Pl.succ ?_
    simp only [impl_allWords.l1]
    rw [List.drop_of_length_le (by omega), List.flatMap_nil, List.append_nil] at he
    rw [he]
    exact Pl.neg (by omega) hk
  | succ d ih =>
    intro j next hd hb he
    have hjl : j < (allW i).length := by omega
    have hz := ((allW_mem i _).1 (List.getElem_mem hjl)).1
    refine Pl.succ ?_
    simp only [impl_allWords.l1]
    rw [Pl.rdS_nat _ j hjl]
    refine Pl.pos (by omega) (Pl.pos (by omega) (Pl.pos (by omega) (aw_l2 (n : Int) (i : Int) (allW i) next _ (by omega) (by omega) (j : Int) R ?_)))
    rw [Pl.w64 (n := (j : Int) + 1) (by omega) (by omega)]
    refine ih (j + 1) _ (by omega) (by rw [List.length_append, hb]; show _ + 3 = _; omega) ?_
    rw [List.drop_eq_getElem_cons hjl, List.flatMap_cons] at he
    rw [List.append_assoc]
    exact he
theorem aw_l0 (n : Nat) (hn : n ≤ 9) (d : Nat) : ∀ i : Nat, i + d = n → Ev (fun k => impl_allWords.l0 k 3 (allW i) (n : Int) (i : Int)) (allW n) := by
  induction d with
  | zero =>
    intro i hd
    obtain rfl : i = n := by omega
    refine Pl.succ ?_
    simp only [impl_allWords.l0]
    exact Pl.neg (by omega) (Pl.ret rfl)
  | succ d ih =>
    intro i hd
    refine Pl.succ ?_
    simp only [impl_allWords.l0]
    refine Pl.pos (by omega) (aw_l1 n i (by omega) _ ?_ (allW i).length 0 [] (by omega) rfl (by rw [List.drop_zero]; rfl))
    rw [Pl.w64 (n := (i : Int) + 1) (by omega) (by omega)]
    exact ih (i + 1) (by omega)
theorem cw_l0 {set : List ByteArray} (h : wset set) (ws : List ByteArray) (hw : ws.length ≤ 20000) (hz : ∀ s ∈ ws, s.size ≤ 9) (d : Nat) : ∀ (i : Nat), i + d = ws.length → Ev (fun k => impl_CountWritten.l0 k set (((ws.take i).filter (okW set)).length : Int) ws (ws.length : Int) (i : Int)) (((ws.filter (okW set)).length : Int), true) := by
  have hpos : ∀ t ∈ set, 1 ≤ t.size := fun t ht => (wshort_size (wset_short h t ht)).1
  have h12 := h.1
  induction d with
  | zero =>
    intro i hd
    refine Pl.succ ?_
    simp only [impl_CountWritten.l0]
    rw [List.take_of_length_le (by omega)]
    exact Pl.neg (by omega) (Pl.ret rfl)
  | succ d ih =>
    intro i hd
    have hil : i < ws.length := by omega
    have hzi := hz _ (List.getElem_mem hil)
    have hle : ((ws.take i).filter (okW set)).length ≤ 20000 := Nat.le_trans (List.length_filter_le _ _) (by rw [List.length_take]; omega)
    have hi1 := ih (i + 1) (by omega)
    rw [List.take_succ_eq_append_getElem hil, List.filter_append, List.length_append] at hi1
    refine Pl.succ ?_
    simp only [impl_CountWritten.l0]
    rw [Pl.rdS_nat _ i hil, Pl.w64 (n := (i : Int) + 1) (by omega) (by omega)]
    refine Pl.pos (by omega) (Pl.pos (by omega) (Pl.pos (by omega) (Ev.bind (countReadings _ set (by omega) (by omega) hpos) ?_)))
    cases hc : okW set ws[i] with
    | true =>
      have e : ([ws[i]].filter (okW set)).length = 1 := by simp [hc]
      rw [e] at hi1
      unfold okW at hc
      rw [Pl.w64 (by omega) (by omega)]
      exact Pl.pos (of_decide_eq_true hc) hi1
    | false =>
      have e : ([ws[i]].filter (okW set)).length = 0 := by simp [hc]
      rw [e] at hi1
      unfold okW at hc
      exact Pl.neg (of_decide_eq_false hc) hi1
theorem both (l : List ByteArray) (n : Int) (hl : l.length ≤ 1048576) (_ : (Lit.int .i64 n).wf = true) : ∃ v, Ev (fun k => spec_CountWritten.f k l n) v ∧ Ev (fun k => impl_CountWritten.f k l n) v := by
  unfold spec_CountWritten.f impl_CountWritten.f
  have sj : Ev (fun k => spec_CountWritten.j0 k l n true) (0, false) := by
    refine Pl.succ ?_
    simp only [spec_CountWritten.j0]
    exact Pl.pos trivial (Pl.ret rfl)
  have ij : Ev (fun k => impl_CountWritten.j0 k l n true) (0, false) := by
    refine Pl.succ ?_
    simp only [impl_CountWritten.j0]
    exact Pl.pos trivial (Pl.ret rfl)
  have sin : spec_l1In.f n 0 9 = some (decide (0 ≤ n ∧ n ≤ 9)) := by
    unfold spec_l1In.f
    by_cases h : n ≥ 0
    · rw [if_pos h]; congr 1; exact decide_eq_decide.2 ⟨fun q => ⟨h, q⟩, fun q => q.2⟩
    · rw [if_neg h]; congr 1; exact (decide_eq_false (fun q => h q.1)).symm
  have iin : impl_in.f n 0 9 = some (decide (0 ≤ n ∧ n ≤ 9)) := by
    unfold impl_in.f
    by_cases h : 0 ≤ n
    · rw [if_pos h]; congr 1; exact decide_eq_decide.2 ⟨fun q => ⟨h, q⟩, fun q => q.2⟩
    · rw [if_neg h]; congr 1; exact (decide_eq_false (fun q => h q.1)).symm
  simp only [sin, iin, Option.bind_some]
  by_cases h : wset l
  · by_cases hn : 0 ≤ n ∧ n ≤ 9
    · obtain ⟨m, rfl⟩ : ∃ m : Nat, n = m := ⟨n.toNat, by omega⟩
      have hm : m ≤ 9 := by omega
      have hd : decide (0 ≤ (m : Int) ∧ (m : Int) ≤ 9) = true := decide_eq_true hn
      simp only [hd]
      refine ⟨((((allW m).filter (okW l)).length : Int), true), Ev.bind (wdSet l) (Pl.pos (decide_eq_true h) (Pl.succ ?_)), Ev.bind (isSet l (by omega)) (Pl.pos (decide_eq_true h) (Pl.succ ?_))⟩
      · simp only [spec_CountWritten.j0]
        refine Pl.neg (by decide) (l0_ev h m hm m 1 [[⟨#[]⟩]] (by omega) (Nat.le_refl _) rfl fun j hj => ?_)
        obtain rfl : j = 0 := by omega
        refine ⟨by simp, fun s => ?_⟩
        show s ∈ [(⟨#[]⟩ : ByteArray)] ↔ _
        rw [List.mem_singleton]
        constructor
        · rintro rfl; exact ⟨rfl, RdL_nil l⟩
        · rintro ⟨hz, _⟩
          refine bts_ext ?_
          have := bts_len s
          exact List.length_eq_zero_iff.1 (by omega)
      · simp only [impl_CountWritten.j0]
        have hal := allW_len m
        have hp := pow9 hm
        refine Pl.neg (by decide) (Ev.bind (aw_l0 m hm m 0 (by omega)) ?_)
        exact cw_l0 h (allW m) (by omega) (fun s hs => by have := ((allW_mem m s).1 hs).1; omega) (allW m).length 0 (by omega)
    · have hd : decide (0 ≤ n ∧ n ≤ 9) = false := decide_eq_false hn
      simp only [hd]
      exact ⟨(0, false), Ev.bind (wdSet l) (Pl.pos (decide_eq_true h) sj), Ev.bind (isSet l (by omega)) (Pl.pos (decide_eq_true h) ij)⟩
  · exact ⟨(0, false), Ev.bind (wdSet l) (Pl.neg (by simp [h]) sj), Ev.bind (isSet l (by omega)) (Pl.neg (by simp [h]) ij)⟩
theorem FnExactCountWritten (l : List ByteArray) (n : Int) (hb : l.length * 16 ≤ 140737488351232) (hs : ∀ s ∈ l, s.size ≤ maxLen) (wn : (Lit.int .i64 n).wf = true) : ∃ k, laws_FnExactCountWritten.f k l n = some true := by
  refine Ev.rounds ?_
  unfold laws_FnExactCountWritten.f
  obtain ⟨r, hr, hq⟩ := szStringS l hb hs 1048576 (by omega) (by omega)
  refine Ev.bind hr ?_
  by_cases hc : r < 0
  · exact Pl.pos hc (Pl.ret rfl)
  obtain ⟨_, hl, _⟩ := hq (by omega)
  obtain ⟨v, h1, h2⟩ := both l n hl wn
  refine Pl.neg hc (Ev.bind (toStringS l hl) (Ev.bind h1 (Ev.bind (toStringS l hl) (Ev.bind h2 (Pl.pos (by first | rfl | trivial) (Pl.succ ?_))))))
  simp only [laws_FnExactCountWritten.j0]
  refine Pl.neg (by simp) (Ev.bind (toStringS l hl) (Ev.bind (eqStringS l (by omega)) (Pl.pos rfl (Pl.ret rfl))))

end Go.Proofs.YtemjfkogaimolaaDoor.Pure

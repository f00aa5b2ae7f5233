/- All readings of a word, in order: how many there are, and the first ones, as program and reference find them; no condition beyond sizes. -/
import Derived.Test.YtidjjcgfdkmefaaDoorDd
import Derived.Test.YtidjjcgfdkmefaaDoorWl
import Derived.Test.YtidjjcgfdkmefaaDoorXx0
import Derived.Test.YtidjjcgfdkmefaaDoorXx2
import Derived.Test.YtidjjcgfdkmefaaDoorXx8
namespace Go.Proofs.YtidjjcgfdkmefaaDoor.X
open Go.RowKit Go.Proofs.YtidjjcgfdkmefaaDoorW.PrintWords Go.Proofs.YtidjjcgfdkmefaaDoorW.PrintLast Go.Proofs.YtidjjcgfdkmefaaDoorW.PrintMore Go.Proofs.YtidjjcgfdkmefaaDoor

/-- What is left behind a word. -/
def rst (s t : ByteArray) : ByteArray := s.extract t.size s.size
theorem rst_size (s t : ByteArray) : (rst s t).size = s.size - t.size := by unfold rst; rw [ByteArray.size_extract]; omega
def aR (g : ByteArray → List (List Int)) (s : ByteArray) : List ByteArray → Nat → List (List Int)
  | [], _ => []
  | t :: ws, i => (if bgB s t = true then (g (rst s t)).map (fun r => (i : Int) :: r) else []) ++ aR g s ws (i + 1)
def allR (set : List ByteArray) : Nat → ByteArray → List (List Int)
  | 0, _ => []
  | n + 1, s => if s.size = 0 then [[]] else aR (allR set n) s set 0
theorem aR_congr {g g' : ByteArray → List (List Int)} (s : ByteArray) : ∀ (ws : List ByteArray) (i : Nat), (∀ t ∈ ws, bgB s t = true → g (rst s t) = g' (rst s t)) → aR g s ws i = aR g' s ws i
  | [], _, _ => rfl
  | t :: ws, i, h => by
    rw [aR, aR, aR_congr s ws (i + 1) (fun u hu => h u (List.mem_cons_of_mem _ hu))]
    by_cases hb : bgB s t = true
    · rw [if_pos hb, if_pos hb, h t List.mem_cons_self hb]
    · rw [if_neg hb, if_neg hb]
theorem allR_stable (set : List ByteArray) (h1 : ∀ t ∈ set, 1 ≤ t.size) : ∀ (n m : Nat) (s : ByteArray), s.size < n → s.size < m → allR set n s = allR set m s
  | 0, _, _, h, _ => absurd h (Nat.not_lt_zero _)
  | _ + 1, 0, _, _, h => absurd h (Nat.not_lt_zero _)
  | n + 1, m + 1, s, hn, hm => by
    rw [allR, allR]
    by_cases hz : s.size = 0
    · rw [if_pos hz, if_pos hz]
    · rw [if_neg hz, if_neg hz]
      refine aR_congr s set 0 fun t ht hb => ?_
      have h2 := bgB_size hb
      have h3 := h1 t ht
      have e := rst_size s t
      exact allR_stable set h1 n m _ (by omega) (by omega)
/-- All readings of a word, in order. -/
def rds (set : List ByteArray) (s : ByteArray) : List (List Int) := allR set (s.size + 1) s
theorem rds_nil (set : List ByteArray) {s : ByteArray} (h : s.size = 0) : rds set s = [[]] := by unfold rds; rw [allR, if_pos h]
theorem rds_eq {set : List ByteArray} (h1 : ∀ t ∈ set, 1 ≤ t.size) {s : ByteArray} (h : s.size ≠ 0) : rds set s = aR (rds set) s set 0 := by
  have e : rds set s = aR (allR set s.size) s set 0 := by unfold rds; rw [allR, if_neg h]
  rw [e]
  refine aR_congr s set 0 fun t ht hb => ?_
  have h2 := bgB_size hb
  have h3 := h1 t ht
  have e := rst_size s t
  exact allR_stable set h1 _ _ _ (by omega) (by omega)
theorem aR_mem {g : ByteArray → List (List Int)} {s : ByteArray} {r : List Int} : ∀ {ws : List ByteArray} {i : Nat}, r ∈ aR g s ws i → ∃ (k : Nat) (hk : k < ws.length) (q : List Int), bgB s ws[k] = true ∧ q ∈ g (rst s ws[k]) ∧ r = ((i + k : Nat) : Int) :: q
  | [], _, h => by cases h
  | t :: ws, i, h => by
    rw [aR] at h
    rcases List.mem_append.1 h with h | h
    · by_cases hb : bgB s t = true
      · rw [if_pos hb] at h
        obtain ⟨q, hq, rfl⟩ := List.mem_map.1 h
        exact ⟨0, by simp, q, hb, hq, rfl⟩
      · rw [if_neg hb] at h; cases h
    · obtain ⟨k, hk, q, h1, h2, h3⟩ := aR_mem h
      exact ⟨k + 1, by simp; omega, q, h1, h2, by rw [h3]; congr 2; omega⟩
theorem rds_row {set : List ByteArray} (h1 : ∀ t ∈ set, 1 ≤ t.size) : ∀ (n : Nat) (s : ByteArray), s.size ≤ n → ∀ r ∈ rds set s, r.length ≤ s.size ∧ ∀ x ∈ r, 0 ≤ x ∧ x < (set.length : Int) := by
  intro n
  induction n with
  | zero =>
    intro s hs r hr
    rw [rds_nil set (by omega), List.mem_singleton] at hr
    subst hr
    exact ⟨by simp, fun x hx => by cases hx⟩
  | succ n ih =>
    intro s hs r hr
    by_cases hz : s.size = 0
    · rw [rds_nil set hz, List.mem_singleton] at hr
      subst hr
      exact ⟨by simp, fun x hx => by cases hx⟩
    · rw [rds_eq h1 hz] at hr
      obtain ⟨k, hk, q, hb, hq, rfl⟩ := aR_mem hr
      have h2 := bgB_size hb
      have h3 := h1 _ (List.getElem_mem hk)
      have e := rst_size s set[k]
      obtain ⟨h4, h5⟩ := ih _ (by omega) q hq
      refine ⟨by rw [List.length_cons]; omega, fun x hx => ?_⟩
      rcases List.mem_cons.1 hx with e | hx
      · subst e; exact ⟨by omega, by omega⟩
      · exact h5 x hx
/-- The last letters of a word. -/
def suf (s : ByteArray) (j : Nat) : ByteArray := s.extract (s.size - j) s.size
theorem suf_size (s : ByteArray) (j : Nat) (h : j ≤ s.size) : (suf s j).size = j := by unfold suf; rw [ByteArray.size_extract]; omega
theorem suf_all (s : ByteArray) : suf s s.size = s := by unfold suf; rw [Nat.sub_self]; exact ByteArray.extract_zero_size
theorem bts_extract (s : ByteArray) (i : Nat) : bts (s.extract i s.size) = (bts s).drop i := by
  show (s.extract i s.size).data.toList = _
  rw [ByteArray.data_extract, Array.toList_extract, List.extract_eq_take_drop]
  refine List.take_of_length_le ?_
  rw [List.length_drop]
  show (bts s).length - i ≤ _
  rw [bts_len]
  omega
theorem bts_inj {a b : ByteArray} (h : bts a = bts b) : a = b := ByteArray.ext (Array.toList_inj.1 h)
theorem rst_suf (s t : ByteArray) (j : Nat) (hj : j ≤ s.size) (ht : t.size ≤ j) : rst (suf s j) t = suf s (j - t.size) := by
  refine bts_inj ?_
  unfold rst
  rw [bts_extract]
  unfold suf
  rw [bts_extract, bts_extract, List.drop_drop]
  congr 1
  omega
theorem bgB_same {s t u : ByteArray} (h1 : bgB s t = true) (h2 : bgB s u = true) (h : t.size = u.size) : t = u := by
  unfold bgB at h1 h2
  simp only [Bool.and_eq_true, beq_iff_eq] at h1 h2
  refine Pl.ba_ext ?_
  rw [← h1.2, ← h2.2, h]
theorem wset_pw {set : List ByteArray} (h : wset set) : set.Pairwise (fun t u => wless t u = true) := by
  rw [List.pairwise_iff_getElem]
  intro i j hi hj hij
  exact wset_lt h hij hj
theorem stepR (set : List ByteArray) (s : ByteArray) (n : Nat) (T : List Int) (hT : T.length = n + 1) (hI : ∀ j : Nat, j ≤ n → rd T (j : Int) = ((rds set (suf s j)).length : Int) ∧ (rds set (suf s j)).length ≤ 2 ^ j) (hn : n + 1 ≤ s.size) (h60 : s.size ≤ 60) :
    ∀ (ws : List ByteArray) (i m acc : Nat), (∀ t ∈ ws, 1 ≤ t.size) → ws.Pairwise (fun t u => wless t u = true) → (∀ t ∈ ws, sufC s (n + 1) t = true → m < t.size) → m ≤ n + 1 → acc + 2 ^ (n + 1 - m) ≤ 2305843009213693952 →
    stepA (sufC s) T (acc : Int) ws = ((acc + (aR (rds set) (suf s (n + 1)) ws i).length : Nat) : Int) ∧ (aR (rds set) (suf s (n + 1)) ws i).length + 1 ≤ 2 ^ (n + 1 - m)
  | [], i, m, acc, _, _, _, _, _ => by
    refine ⟨by simp [stepA, aR], ?_⟩
    have := Nat.one_le_two_pow (n := n + 1 - m)
    simpa [aR] using this
  | t :: ws, i, m, acc, h1, hp, hm, hmn, hacc => by
    rw [List.pairwise_cons] at hp
    have e : stepA (sufC s) T (acc : Int) (t :: ws) = stepA (sufC s) T (if sufC s T.length t = true then wrap64 ((acc : Int) + rd T ((T.length - t.size : Nat) : Int)) else (acc : Int)) ws := rfl
    rw [e, hT, aR]
    have hsc : bgB (suf s (n + 1)) t = sufC s (n + 1) t := rfl
    rw [hsc]
    by_cases hc : sufC s (n + 1) t = true
    · rw [if_pos hc, if_pos hc]
      have hq := sufC_size hc hn
      have hmq := hm t List.mem_cons_self hc
      have ht1 := h1 t List.mem_cons_self
      obtain ⟨hr, hb⟩ := hI (n + 1 - t.size) (by omega)
      rw [hr, rst_suf s t (n + 1) hn hq]
      obtain ⟨Lq, hLq⟩ : ∃ Lq, rds set (suf s (n + 1 - t.size)) = Lq := ⟨_, rfl⟩
      rw [hLq] at hb ⊢
      have hpw : 2 * 2 ^ (n + 1 - t.size) ≤ 2 ^ (n + 1 - m) := by
        rw [Nat.mul_comm, ← Nat.pow_succ]
        exact Nat.pow_le_pow_right (by decide) (by omega)
      obtain ⟨P, hP⟩ : ∃ P, 2 ^ (n + 1 - t.size) = P := ⟨_, rfl⟩
      rw [hP] at hb hpw
      obtain ⟨q1, q2⟩ := stepR set s n T hT hI hn h60 ws (i + 1) t.size (acc + Lq.length) (fun u hu => h1 u (List.mem_cons_of_mem _ hu)) hp.2 (fun u hu hcu => by
        have h2 := wless_size (hp.1 u hu)
        rcases Nat.lt_or_ge t.size u.size with h3 | h3
        · exact h3
        · have := bgB_same hc hcu (by omega)
          subst this
          have h4 := hp.1 t hu
          rw [wless_irrefl] at h4
          cases h4) hq (by rw [hP]; omega)
      rw [Pl.w64 (by omega) (by omega), show ((acc : Int) + (Lq.length : Int)) = ((acc + Lq.length : Nat) : Int) by omega, q1]
      rw [hP] at q2
      refine ⟨?_, ?_⟩
      · rw [List.length_append, List.length_map]; congr 1; omega
      · rw [List.length_append, List.length_map]; omega
    · rw [if_neg hc, if_neg hc, List.nil_append]
      exact stepR set s n T hT hI hn h60 ws (i + 1) m acc (fun u hu => h1 u (List.mem_cons_of_mem _ hu)) hp.2 (fun u hu => hm u (List.mem_cons_of_mem _ hu)) hmn hacc
theorem cnt_ok {set : List ByteArray} (h : wset set) (s : ByteArray) (h60 : s.size ≤ 60) : ∀ n : Nat, n ≤ s.size → ∀ j : Nat, j ≤ n → rd (table (sufC s) set n) (j : Int) = ((rds set (suf s j)).length : Int) ∧ (rds set (suf s j)).length ≤ 2 ^ j
  | 0, _, j, hj => by
    obtain rfl : j = 0 := by omega
    rw [rds_nil set (suf_size s 0 (by omega))]
    exact ⟨rfl, by simp⟩
  | n + 1, hn, j, hj => by
    have ih := cnt_ok h s h60 n (by omega)
    have hT := table_len (sufC s) set n
    obtain ⟨T, hTe⟩ : ∃ T, table (sufC s) set n = T := ⟨_, rfl⟩
    have hcons : table (sufC s) set (n + 1) = T ++ stepA (sufC s) T 0 set :: [] := by rw [table, hTe]
    rw [hTe] at ih hT
    rw [hcons]
    by_cases hjn : j ≤ n
    · rw [rdT2 _ _ j (by omega)]
      exact ih j hjn
    · obtain rfl : j = n + 1 := by omega
      have e := rdT1 T [] (stepA (sufC s) T 0 set)
      rw [hT] at e
      rw [e]
      have h1 := set_pos h
      have hp2 : 2 ^ (n + 1) ≤ 2 ^ 60 := Nat.pow_le_pow_right (by decide) (by omega)
      obtain ⟨q1, q2⟩ := stepR set s n T hT ih hn h60 set 0 0 0 h1 (wset_pw h) (fun t ht _ => h1 t ht) (by omega) (by rw [Nat.sub_zero]; omega)
      rw [Nat.sub_zero] at q2
      have hz := suf_size s (n + 1) hn
      rw [rds_eq h1 (s := suf s (n + 1)) (by omega)]
      refine ⟨?_, by omega⟩
      rw [Nat.zero_add] at q1
      exact q1
theorem cnt_all {set : List ByteArray} (h : wset set) (s : ByteArray) (h60 : s.size ≤ 60) : rd (table (sufC s) set s.size) (s.size : Int) = ((rds set s).length : Int) := by
  have := (cnt_ok h s h60 s.size (by omega) s.size (by omega)).1
  rwa [suf_all] at this
theorem take_take_app {α : Type} (n : Nat) (a b : List α) : (a.take n ++ b).take n = (a ++ b).take n := by
  rw [List.take_append, List.take_append, List.take_take, Nat.min_self, List.length_take]
  congr 2
  omega
theorem rdL_nat (l : List (List Int)) (i : Nat) (h : i < l.length) : rd_L3 l (i : Int) = l[i] := by
  simp [rd_L3, List.getD_eq_getElem?_getD, h]
theorem toL_nil {s : ByteArray} : s.toList = [] ↔ s.size = 0 := by
  have e : s.toList = bts s := Pl.toL s
  rw [e, ← List.length_eq_zero_iff, bts_len]
theorem dcReadings {set : List ByteArray} (h : wset set) : ∀ (d : Nat) (s : ByteArray) (most : Nat), s.size ≤ d → s.size ≤ 60 → 1 ≤ most → most ≤ 1000 → Ev (fun k => spec_dcReadings.f k set s (most : Int)) ((rds set s).take most) := by
  have h1 := set_pos h
  have hl12 := h.1
  intro d
  induction d with
  | zero =>
    intro s most hd h60 hm1 hm2
    refine Pl.succ ?_
    simp only [spec_dcReadings.f]
    refine Pl.pos (toL_nil.2 (by omega)) (Pl.ret ?_)
    rw [rds_nil set (by omega), List.take_of_length_le (by simpa using hm1)]
  | succ d ih =>
    intro s most hd h60 hm1 hm2
    refine Pl.succ ?_
    simp only [spec_dcReadings.f]
    by_cases hz : s.size = 0
    · refine Pl.pos (toL_nil.2 hz) (Pl.ret ?_)
      rw [rds_nil set hz, List.take_of_length_le (by simpa using hm1)]
    refine Pl.neg (fun q => hz (toL_nil.1 q)) ?_
    rw [rds_eq h1 hz]
    have hin : ∀ (e i : Nat), i + e = set.length → ∀ L : List (List Int), L.length < most → Ev (fun k => spec_dcReadings.l0 k set s (most : Int) L set (set.length : Int) (i : Int)) ((L ++ aR (rds set) s (set.drop i) i).take most) := by
      intro e
      induction e with
      | zero =>
        intro i hi L hL
        refine Pl.succ ?_
        simp only [spec_dcReadings.l0]
        refine Pl.neg (by omega) (Pl.ret ?_)
        rw [List.drop_of_length_le (by omega), aR, List.append_nil, List.take_of_length_le (by omega)]
      | succ e ihe =>
        intro i hi L hL
        have hil : i < set.length := by omega
        have hi' := ihe (i + 1) (by omega)
        rw [List.drop_eq_getElem_cons hil, aR]
        refine Pl.succ ?_
        simp only [spec_dcReadings.l0, wdBegins_bg, Option.bind_some]
        rw [Pl.rdS_nat _ i hil]
        refine Pl.pos (by omega) (Pl.pos (by omega) (Pl.pos (by omega) ?_))
        have hnext : ∀ M : List (List Int), M.length < most → Ev (fun k => spec_dcReadings.l0 k set s (most : Int) M set (set.length : Int) (wrap64 ((i : Int) + 1))) ((M ++ aR (rds set) s (set.drop (i + 1)) (i + 1)).take most) := by
          intro M hM
          rw [Pl.w64 (n := (i : Int) + 1) (by omega) (by omega)]
          exact hi' M hM
        generalize hx : set[i] = x at *
        have hx1 : 1 ≤ x.size := by rw [← hx]; exact h1 _ (List.getElem_mem hil)
        by_cases hb : bgB s x = true
        · have hbz := bgB_size hb
          have hrz := rst_size s x
          rw [if_pos hb]
          refine Pl.pos hb (Pl.pos (by omega) (Pl.pos (by omega) ?_))
          rw [Int.toNat_natCast]
          have hdc := dcCount (rst s x) set (by omega) (by omega) h1
          rw [cnt_all h (rst s x) (by omega)] at hdc
          refine Ev.bind hdc (Pl.succ ?_)
          simp only [spec_dcReadings.j1]
          by_cases hz0 : (rds set (rst s x)).length = 0
          · rw [hz0]
            have : rds set (rst s x) = [] := List.length_eq_zero_iff.1 hz0
            rw [this, List.map_nil, List.nil_append]
            exact Pl.pos rfl (hnext L hL)
          · refine Pl.neg (fun q => hz0 (by have := beq_iff_eq.1 q; omega)) (Pl.pos (by omega) (Pl.pos (by omega) ?_))
            rw [Int.toNat_natCast, Pl.w64 (n := (most : Int) - (L.length : Int)) (by omega) (by omega), show (most : Int) - (L.length : Int) = ((most - L.length : Nat) : Int) by omega]
            have hrec := ih (rst s x) (most - L.length) (by omega) (by omega) (by omega) (by omega)
            refine Ev.bind hrec ?_
            obtain ⟨Y, hY⟩ : ∃ Y, (rds set (rst s x)).take (most - L.length) = Y := ⟨_, rfl⟩
            have hYl : L.length + Y.length ≤ most := by rw [← hY, List.length_take]; omega
            have hYr : ∀ r ∈ Y, r.length ≤ 60 := fun r hr => by
              rw [← hY] at hr
              have := (rds_row h1 (rst s x).size (rst s x) (by omega) r (List.mem_of_mem_take hr)).1
              omega
            have hYe : (L ++ ((rds set (rst s x)).map (fun r => (i : Int) :: r) ++ aR (rds set) s (set.drop (i + 1)) (i + 1))).take most = ((L ++ Y.map (fun r => (i : Int) :: r)) ++ aR (rds set) s (set.drop (i + 1)) (i + 1)).take most := by
              rw [← List.append_assoc, ← take_take_app most (L ++ (rds set (rst s x)).map (fun r => (i : Int) :: r)), ← take_take_app most (L ++ Y.map (fun r => (i : Int) :: r))]
              congr 2
              rw [List.take_append, List.take_append, ← List.map_take, ← List.map_take, ← hY, List.take_take, Nat.min_self]
            rw [hY, hYe]
            have hj : ∀ (e m : Nat), m + e = Y.length → Ev (fun k => spec_dcReadings.l1 k set s (most : Int) (L ++ (Y.take m).map (fun r => (i : Int) :: r)) (i : Int) set (set.length : Int) (i : Int) Y (Y.length : Int) (m : Int)) (((L ++ Y.map (fun r => (i : Int) :: r)) ++ aR (rds set) s (set.drop (i + 1)) (i + 1)).take most) := by
              intro e
              induction e with
              | zero =>
                intro m hm
                obtain rfl : m = Y.length := by omega
                rw [List.take_length]
                refine Pl.succ ?_
                simp only [spec_dcReadings.l1]
                refine Pl.neg (by omega) ?_
                have hll : (L ++ Y.map (fun r => (i : Int) :: r)).length = L.length + Y.length := by simp
                by_cases hfull : L.length + Y.length = most
                · refine Pl.pos (by rw [hll]; omega) (Pl.ret ?_)
                  rw [List.take_append_of_le_length (by omega), List.take_of_length_le (by omega)]
                · exact Pl.neg (by rw [hll]; omega) (hnext _ (by omega))
              | succ e ihm =>
                intro m hm
                have hml : m < Y.length := by omega
                refine Pl.succ ?_
                simp only [spec_dcReadings.l1]
                have hll : (L ++ (Y.take m).map (fun r => (i : Int) :: r)).length = L.length + m := by simp; omega
                rw [rdL_nat Y m hml, hll]
                refine Pl.pos (by omega) (Pl.pos (by omega) (Pl.pos (by omega) (Pl.pos (by omega) (Ev.bind (Ev.now [(i : Int)]) (Pl.pos ?_ (Pl.pos (by omega) ?_))))))
                · have := hYr _ (List.getElem_mem hml)
                  simp only [List.length_cons, List.length_nil]
                  omega
                · rw [Pl.w64 (n := (m : Int) + 1) (by omega) (by omega)]
                  have := ihm (m + 1) (by omega)
                  rw [List.take_succ_eq_append_getElem hml, List.map_append, List.map_singleton, ← List.append_assoc] at this
                  exact this
            have := hj Y.length 0 (by omega)
            rw [List.take_zero, List.map_nil, List.append_nil] at this
            exact this
        · rw [if_neg hb, List.nil_append]
          refine Pl.neg hb (Pl.succ ?_)
          simp only [spec_dcReadings.j1]
          exact Pl.pos (by first | rfl | trivial) (hnext L hL)
    have := hin set.length 0 (by omega) [] (by simp; omega)
    rw [List.nil_append, List.drop_zero] at this
    exact this
theorem frW_ok {set : List ByteArray} (h : wset set) (s0 : ByteArray) (h60 : s0.size ≤ 60) (most : Nat) (g : List Int → ByteArray → List (List Int) → Option (List (List Int))) (done : List Int) (j : Nat) (hj : j ≤ s0.size)
    (hg : ∀ (t : ByteArray) (i : Nat) (L : List (List Int)), 1 ≤ t.size → t.size ≤ j → L.length < most → g (done ++ [(i : Int)]) (suf s0 (j - t.size)) L = some ((L ++ (rds set (suf s0 (j - t.size))).map (fun r => (done ++ [(i : Int)]) ++ r)).take most)) :
    ∀ (ws : List ByteArray) (i : Nat) (L : List (List Int)), (∀ t ∈ ws, 1 ≤ t.size) → L.length ≤ most →
    frW g (table (sufC s0) set s0.size) (most : Int) done (suf s0 j) ws i L = some ((L ++ (aR (rds set) (suf s0 j) ws i).map (fun r => done ++ r)).take most)
  | [], i, L, _, hL => by
    rw [frW, aR, List.map_nil, List.append_nil, List.take_of_length_le hL]
  | x :: ws, i, L, h1, hL => by
    have ih := fun L' => frW_ok h s0 h60 most g done j hj hg ws (i + 1) L' (fun t ht => h1 t (List.mem_cons_of_mem _ ht))
    have hx1 := h1 x List.mem_cons_self
    have hz := suf_size s0 j hj
    have hbb : begB (suf s0 j) x = bgB (suf s0 j) x := rfl
    rw [frW, aR, List.map_append, hbb]
    by_cases hb : bgB (suf s0 j) x = true
    · have hbz := bgB_size hb
      rw [if_pos hb]
      have hrd : rd (table (sufC s0) set s0.size) (((suf s0 j).size : Int) - (x.size : Int)) = ((rds set (suf s0 (j - x.size))).length : Int) := by
        rw [hz, show (j : Int) - (x.size : Int) = ((j - x.size : Nat) : Int) by omega]
        exact (cnt_ok h s0 h60 s0.size (Nat.le_refl _) (j - x.size) (by omega)).1
      have hre : (suf s0 j).extract x.size (suf s0 j).size = suf s0 (j - x.size) := rst_suf s0 x j hj (by omega)
      have hre2 : rst (suf s0 j) x = suf s0 (j - x.size) := hre
      rw [hrd, hre, hre2]
      by_cases hlt : L.length < most
      · by_cases hpos : 0 < (rds set (suf s0 (j - x.size))).length
        · have hmap : ((rds set (suf s0 (j - x.size))).map (fun r => (i : Int) :: r)).map (fun r => done ++ r) = (rds set (suf s0 (j - x.size))).map (fun r => (done ++ [(i : Int)]) ++ r) := by
            rw [List.map_map]
            exact List.map_congr_left fun r _ => by simp
          have hlt' : (L.length : Int) < (most : Int) := by omega
          have hpos' : (0 : Int) < ((rds set (suf s0 (j - x.size))).length : Int) := by omega
          have hg' := hg x i L hx1 (by omega) hlt
          have hi' := ih (((L ++ (rds set (suf s0 (j - x.size))).map (fun r => (done ++ [(i : Int)]) ++ r)).take most)) (by rw [List.length_take]; omega)
          rw [take_take_app, List.append_assoc] at hi'
          rw [if_pos ⟨hlt', hb, hpos'⟩, hg', Option.bind_some, hi', hmap]
        · have : rds set (suf s0 (j - x.size)) = [] := List.length_eq_zero_iff.1 (by omega)
          rw [if_neg (by intro q; have := q.2.2; omega), ih L hL, this]
          rfl
      · rw [if_neg (by intro q; have := q.1; omega), ih L hL]
        congr 1
        rw [List.take_append_of_le_length (by omega), List.take_append_of_le_length (by omega)]
    · rw [if_neg (fun q => hb q.2.1), if_neg hb, ih L hL, List.map_nil, List.nil_append]
theorem frL_ok {set : List ByteArray} (h : wset set) (s0 : ByteArray) (h60 : s0.size ≤ 60) (most : Nat) (hm : most ≤ 1000) : ∀ (n : Nat) (done : List Int) (j : Nat) (L : List (List Int)), j < n → j ≤ s0.size → done.length + j ≤ 1000 → L.length < most →
    frL set (table (sufC s0) set s0.size) (most : Int) n done (suf s0 j) L = some ((L ++ (rds set (suf s0 j)).map (fun r => done ++ r)).take most)
  | 0, _, _, _, h, _, _, _ => absurd h (Nat.not_lt_zero _)
  | n + 1, done, j, L, hjn, hj, hd, hL => by
    have hz := suf_size s0 j hj
    rw [frL, if_pos ⟨by omega, by omega, by rw [table_len]; omega⟩]
    by_cases h0 : j = 0
    · subst h0
      rw [if_pos (toL_nil.2 hz), rds_nil set hz, List.map_singleton, List.append_nil, List.take_of_length_le (by simp; omega)]
    · rw [if_neg (fun q => by have := toL_nil.1 q; omega), rds_eq (set_pos h) (s := suf s0 j) (by omega)]
      refine frW_ok h s0 h60 most _ done j hj (fun t i L' h1 h2 h3 => ?_) set 0 L (set_pos h) (by omega)
      exact frL_ok h s0 h60 most hm n _ _ L' (by omega) (by omega) (by rw [List.length_append, List.length_singleton]; omega) h3
theorem firstReadings {set : List ByteArray} (h : wset set) (s : ByteArray) (h60 : s.size ≤ 60) (most : Nat) (hm1 : 1 ≤ most) (hm : most ≤ 1000) : Ev (fun k => impl_firstReadings.f k set s (most : Int)) ((rds set s).take most) := by
  unfold impl_firstReadings.f
  refine Ev.bind (readings s set h60 (by have := h.1; omega) (set_pos h)) (Pl.pos (by omega) ⟨s.size + 1, fun k hk => ?_⟩)
  have := frL_ok h s h60 most hm k [] s.size [] (by omega) (Nat.le_refl _) (by simp; omega) (by simp; omega)
  rw [suf_all, List.nil_append] at this
  simp only [List.nil_append, List.map_id'] at this
  exact this

end Go.Proofs.YtidjjcgfdkmefaaDoor.X

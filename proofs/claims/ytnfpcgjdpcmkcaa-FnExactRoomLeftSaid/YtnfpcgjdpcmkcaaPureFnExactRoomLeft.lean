/- RoomLeft: the program's answer is the reference's, for all arguments; no condition. -/
import Derived.Test.YtnfpcgjdpcmkcaaKr
import Derived.Test.YtnfpcgjdpcmkcaaLwI
import Derived.Test.YtnfpcgjdpcmkcaaXx6
import Derived.Test.YtnfpcgjdpcmkcaaXx7
namespace Go.Proofs.Ytnfpcgjdpcmkcaa.Pure
open Go.RowKit Go.Proofs.Ytnfpcgjdpcmkcaa.X Go.Proofs.YtnfpcgjdpcmkcaaW.PrintWords Go.Proofs.YtnfpcgjdpcmkcaaW.PrintLast Go.Proofs.Ytnfpcgjdpcmkcaa

/-- The same as shares, for words of m letters. -/
def sharesAt (x m : Int) (l : List Int) : Int := (l.map fun n => x ^ (m - n).toNat).sum
theorem sharesAt_cons (x m n : Int) (l : List Int) : sharesAt x m (n :: l) = x ^ (m - n).toNat + sharesAt x m l := by simp [sharesAt]
theorem shares_mul {x m : Int} (hm : m ≤ 8) (l : List Int) (h : ∀ n ∈ l, 1 ≤ n ∧ n ≤ m) : shares x l = x ^ (8 - m).toNat * sharesAt x m l := by
  induction l with
  | nil => simp [shares, sharesAt]
  | cons a l ih =>
    have ha := h a List.mem_cons_self
    rw [shares_cons, sharesAt_cons, ih (fun n hn => h n (List.mem_cons_of_mem _ hn)), Int.mul_add, ← Int.pow_add]
    rw [show (8 - m).toNat + (m - a).toNat = (8 - a).toNat by omega]
theorem sharesAt_bd {x m : Int} (h2 : 2 ≤ x) (h3 : x ≤ 3) (hm : m ≤ 8) (l : List Int) (h : ∀ n ∈ l, 1 ≤ n ∧ n ≤ m) : 0 ≤ sharesAt x m l ∧ sharesAt x m l ≤ 6561 * l.length := by
  induction l with
  | nil => simp [sharesAt]
  | cons a l ih =>
    have h1 := ih (fun n hn => h n (List.mem_cons_of_mem _ hn))
    have ha := h a List.mem_cons_self
    have hp := pow8 h2 h3 (n := (m - a).toNat) (by omega)
    rw [sharesAt_cons, List.length_cons]
    omega
theorem room_l {x m : Int} (h2 : 2 ≤ x) (h3 : x ≤ 3) (hm1 : 1 ≤ m) (hm : m ≤ 8) (l : List Int) (hl : l.length ≤ 12) (h : ∀ n ∈ l, 1 ≤ n ∧ n ≤ m) (d : Nat) : ∀ (i : Nat) (acc : Int), l.length - i = d → i ≤ l.length → -6561 * i ≤ acc → acc ≤ 6561 →
    Ev (fun k => spec_RoomLeft.l0 k x m acc l (l.length : Int) (i : Int)) (acc - sharesAt x m (l.drop i), true) := by
  induction d with
  | zero =>
    intro i acc hd hi h0 hb
    refine Pl.succ ?_
    simp only [spec_RoomLeft.l0]
    exact Pl.neg (by omega) (Pl.ret (by rw [List.drop_of_length_le (by omega)]; simp [sharesAt]))
  | succ d ih =>
    intro i acc hd hi h0 hb
    have hm' := h l[i] (List.getElem_mem (by omega))
    have hp := pow8 h2 h3 (n := (m - l[i]).toNat) (by omega)
    refine Pl.succ ?_
    simp only [spec_RoomLeft.l0]
    rw [Pl.rd_nat _ _ (by omega)]
    refine Pl.pos (by omega) (Pl.pos (by omega) (Pl.pos (by omega) (Pl.neg (by omega) ?_)))
    rw [Pl.w64 (n := m - l[i]) (by omega) (by omega), Pl.w64 (n := (i : Int) + 1) (by omega) (by omega)]
    refine Ev.bind (krPow h2 h3 (by omega) (by omega)) ?_
    rw [Pl.w64 (by omega) (by omega)]
    refine Pl.via (ih (i + 1) _ (by omega) (by omega) (by omega) (by omega)) ?_
    rw [drop_cons l i (by omega), sharesAt_cons]
    congr 1
    omega
theorem room_no {x m : Int} (h2 : 2 ≤ x) (h3 : x ≤ 3) (hm1 : 1 ≤ m) (hm : m ≤ 8) (l : List Int) (hl : l.length ≤ 12) (h : ∀ n ∈ l, 1 ≤ n) (q : Nat) (hq : q < l.length) (hlq : m < l[q]) (d : Nat) : ∀ (i : Nat) (acc : Int), q - i = d → i ≤ q → -6561 * i ≤ acc → acc ≤ 6561 →
    Ev (fun k => spec_RoomLeft.l0 k x m acc l (l.length : Int) (i : Int)) (0, false) := by
  induction d with
  | zero =>
    intro i acc hd hi h0 hb
    obtain rfl : i = q := by omega
    refine Pl.succ ?_
    simp only [spec_RoomLeft.l0]
    rw [Pl.rd_nat _ _ (by omega)]
    exact Pl.pos (by omega) (Pl.pos (by omega) (Pl.pos (by omega) (Pl.pos (by omega) (Pl.ret rfl))))
  | succ d ih =>
    intro i acc hd hi h0 hb
    have hm' := h l[i] (List.getElem_mem (by omega))
    refine Pl.succ ?_
    simp only [spec_RoomLeft.l0]
    rw [Pl.rd_nat _ _ (by omega)]
    refine Pl.pos (by omega) (Pl.pos (by omega) (Pl.pos (by omega) ?_))
    by_cases hc : l[i] > m
    · exact Pl.pos hc (Pl.ret rfl)
    · refine Pl.neg hc ?_
      have hp := pow8 h2 h3 (n := (m - l[i]).toNat) (by omega)
      rw [Pl.w64 (n := m - l[i]) (by omega) (by omega), Pl.w64 (n := (i : Int) + 1) (by omega) (by omega)]
      refine Ev.bind (krPow h2 h3 (by omega) (by omega)) ?_
      rw [Pl.w64 (by omega) (by omega)]
      exact ih (i + 1) _ (by omega) (by omega) (by omega) (by omega)
theorem srt_le {l : List Int} (hs : srt l) (d : Nat) : ∀ (i : Nat) (h : i + d < l.length), l[i]'(by omega) ≤ l[i + d] := by
  induction d with
  | zero => intro i h; exact Int.le_refl _
  | succ d ih =>
    intro i h
    have a := ih i (by omega)
    have b := hs (i + d) (by omega)
    simp only [Nat.add_assoc] at b
    simp only [← Nat.add_assoc] at b ⊢
    omega
noncomputable def roomV (x m : Int) (l : List Int) : Int × Bool :=
  if good x l ∧ shares x l ≤ x ^ 8 ∧ (1 ≤ m ∧ m ≤ 8) ∧ ∀ n ∈ l, n ≤ m then (x ^ m.toNat - sharesAt x m l, true) else (0, false)
theorem specRoom (x m : Int) (l : List Int) (hl : l.length ≤ 1048576) : Ev (fun k => spec_RoomLeft.f k l x m) (roomV x m l) := by
  unfold spec_RoomLeft.f roomV
  simp only [l1In_eq, Option.bind_some]
  refine Ev.bind (krList x l hl) ?_
  by_cases h : good x l
  · rw [decide_eq_true h]
    refine Pl.pos rfl (Ev.bind (krFits h.1.1 h.1.2 l h.2.1) ?_)
    by_cases hf : shares x l ≤ x ^ 8
    · refine Pl.pos (decide_eq_true hf) (Pl.succ ?_)
      simp only [spec_RoomLeft.j0]
      by_cases hm : 1 ≤ m ∧ m ≤ 8
      · refine Pl.neg (by simp [hm]) ?_
        refine Ev.bind (krPow h.1.1 h.1.2 (by omega) (by omega)) ?_
        have hp := pow8 h.1.1 h.1.2 (n := m.toNat) (by omega)
        by_cases ha : ∀ n ∈ l, n ≤ m
        · rw [if_pos ⟨h, hf, hm, ha⟩]
          exact room_l h.1.1 h.1.2 hm.1 hm.2 l h.2.1.1 (fun n hn => ⟨(h.2.1.2 n hn).1, ha n hn⟩) l.length 0 _ (by omega) (by omega) (by omega) (by omega)
        · rw [if_neg (fun hh => ha hh.2.2.2)]
          obtain ⟨n, hn⟩ := Classical.not_forall.1 ha
          obtain ⟨hn, hnm⟩ := Classical.not_imp.1 hn
          obtain ⟨q, hq, rfl⟩ := List.getElem_of_mem hn
          exact room_no h.1.1 h.1.2 hm.1 hm.2 l h.2.1.1 (fun n hn => (h.2.1.2 n hn).1) q hq (by omega) q 0 _ (by omega) (by omega) (by omega) (by omega)
      · rw [if_neg (fun hh => hm hh.2.2.1)]
        exact Pl.pos (by simp; omega) (Pl.ret rfl)
    · rw [if_neg (fun hh => hf hh.2.1)]
      refine Pl.neg (by simp only [decide_eq_true_eq]; exact hf) (Pl.succ ?_)
      simp only [spec_RoomLeft.j0]
      exact Pl.pos (by trivial) (Pl.ret rfl)
  · rw [decide_eq_false h, if_neg (fun hh => h hh.1)]
    refine Pl.neg (by decide) (Pl.succ ?_)
    simp only [spec_RoomLeft.j0]
    exact Pl.pos (by trivial) (Pl.ret rfl)
theorem room_out (x m : Int) (l : List Int) : Ev (fun k => impl_RoomLeft.j0 k l x m true) ((0 : Int), false) := by
  refine Pl.succ ?_
  simp only [impl_RoomLeft.j0]
  exact Pl.pos (by trivial) (Pl.ret rfl)
theorem implRoom (x m : Int) (l : List Int) (hl : l.length ≤ 1048576) : Ev (fun k => impl_RoomLeft.f k l x m) (roomV x m l) := by
  unfold impl_RoomLeft.f roomV
  simp only [areLetters_eq, in_eq, Option.bind_some]
  by_cases hx : 2 ≤ x ∧ x ≤ 3
  · refine Pl.pos (decide_eq_true hx) ?_
    obtain ⟨b, hb, he⟩ := areLengths l hl
    refine Ev.bind he ?_
    cases b with
    | false =>
      have h : ¬ good x l := fun h => by have := hb.2 h.2; cases this
      rw [if_neg (fun hh => h hh.1)]
      exact Pl.neg (by decide) (room_out x m l)
    | true =>
      have h : good x l := ⟨hx, hb.1 rfl⟩
      refine Pl.pos rfl ?_
      by_cases hm : 1 ≤ m ∧ m ≤ 8
      · refine Pl.pos (decide_eq_true hm) (Ev.bind (canBe hx.1 hx.2 l h.2.1) ?_)
        by_cases hf : shares x l ≤ x ^ 8
        · rw [decide_eq_true hf]
          refine Pl.succ ?_
          simp only [impl_RoomLeft.j0]
          refine Pl.neg (by simp) ?_
          have hlast : ∃ b : Bool, (b = false ↔ ∀ n ∈ l, n ≤ m) ∧ ∀ r, Ev (fun k => impl_RoomLeft.j1 k l x m b) r →
              Ev (fun k => if (l.length : Int) > 0 then (if 0 ≤ (wrap64 ((l.length : Int) - 1)) then (if (wrap64 ((l.length : Int) - 1)) < (l.length : Int) then (impl_RoomLeft.j1 k l x m (decide ((rd l (wrap64 ((l.length : Int) - 1))) > m))) else (none)) else (none)) else (impl_RoomLeft.j1 k l x m false)) r := by
            cases hn : l.length with
            | zero =>
              refine ⟨false, ⟨fun _ n hn' => ?_, fun _ => rfl⟩, fun r hr => Pl.neg (by omega) hr⟩
              rw [List.eq_nil_of_length_eq_zero hn] at hn'
              cases hn'
            | succ q =>
              have e : wrap64 (((q + 1 : Nat) : Int) - 1) = (q : Int) := by rw [Pl.w64 (by omega) (by omega)]; omega
              rw [e, Pl.rd_nat l q (by omega)]
              refine ⟨decide (l[q] > m), ?_, fun r hr => Pl.pos (by omega) (Pl.pos (by omega) (Pl.pos (by omega) hr))⟩
              rw [decide_eq_false_iff_not]
              refine ⟨fun hq n hn' => ?_, fun hall => ?_⟩
              · obtain ⟨i, hi, rfl⟩ := List.getElem_of_mem hn'
                have := srt_le h.2.2 (q - i) i (by omega)
                simp only [show i + (q - i) = q by omega] at this
                omega
              · have := hall l[q] (List.getElem_mem (by omega))
                omega
          obtain ⟨b, hbb, hgo⟩ := hlast
          refine hgo _ (Pl.succ ?_)
          simp only [impl_RoomLeft.j1]
          cases b with
          | true =>
            rw [if_neg (fun hh => by have := hbb.2 hh.2.2.2; cases this)]
            exact Pl.pos (by trivial) (Pl.ret rfl)
          | false =>
            have ha := hbb.1 rfl
            have hall : ∀ n ∈ l, 1 ≤ n ∧ n ≤ m := fun n hn => ⟨(h.2.1.2 n hn).1, ha n hn⟩
            rw [if_pos ⟨h, hf, hm, ha⟩]
            have h8 := pow8 hx.1 hx.2 (n := 8) (by omega)
            have hs := shares_bd hx.1 hx.2 l h.2.1.2
            have hp := pow8 hx.1 hx.2 (n := (8 - m).toNat) (by omega)
            have hpm := pow8 hx.1 hx.2 (n := m.toNat) (by omega)
            have hsa := sharesAt_bd hx.1 hx.2 hm.2 l hall
            refine Pl.neg (by simp) (Ev.bind (ipow hx.1 hx.2 (by omega) (by omega)) (Ev.bind (iparts hx.1 hx.2 l h.2.1) ?_))
            rw [Pl.w64 (n := 8 - m) (by omega) (by omega)]
            refine Ev.bind (ipow hx.1 hx.2 (by omega) (by omega)) (Pl.neg (by omega) (Pl.ret ?_))
            have e8 : x ^ (8 : Int).toNat = x ^ (8 - m).toNat * x ^ m.toNat := by
              rw [← Int.pow_add, show (8 - m).toNat + m.toNat = (8 : Int).toNat by omega]
            have h8' : x ^ (8 : Int).toNat = x ^ 8 := rfl
            have e : x ^ (8 : Int).toNat - shares x l = x ^ (8 - m).toNat * (x ^ m.toNat - sharesAt x m l) := by
              rw [e8, shares_mul hm.2 l hall, Int.mul_sub]
            have hl12 := h.2.1.1
            rw [Pl.w64 (n := x ^ (8 : Int).toNat - shares x l) (by omega) (by omega), e, Int.mul_tdiv_cancel_left _ (by omega), Pl.w64 (by omega) (by omega)]
        · rw [decide_eq_false hf, if_neg (fun hh => hf hh.2.1)]
          exact room_out x m l
      · rw [if_neg (fun hh => hm hh.2.2.1)]
        exact Pl.neg (by simp only [decide_eq_true_eq]; exact hm) (room_out x m l)
  · rw [if_neg (fun hh => hx hh.1.1)]
    exact Pl.neg (by simp only [decide_eq_true_eq]; exact hx) (room_out x m l)
theorem FnExactRoomLeft : laws_FnExactRoomLeft.Pure := by
  intro l x m _ _ _ _ _
  refine Ev.rounds ?_
  unfold laws_FnExactRoomLeft.f
  by_cases hb : (l.length : Int) > 1048576
  · exact Pl.pos hb (Pl.ret rfl)
  · have hl : l.length ≤ 1048576 := by omega
    refine Pl.neg hb (Ev.bind (toIntS l hl) (Ev.bind (specRoom x m l hl) (Ev.bind (toIntS l hl) (Ev.bind (implRoom x m l hl) ?_))))
    refine Pl.pos rfl (Pl.succ ?_)
    simp only [laws_FnExactRoomLeft.j0]
    refine Pl.neg (by simp) (Ev.bind (toIntS l hl) (Ev.bind (eqIntS l (by omega)) ?_))
    exact Pl.pos rfl (Pl.ret rfl)

end Go.Proofs.Ytnfpcgjdpcmkcaa.Pure

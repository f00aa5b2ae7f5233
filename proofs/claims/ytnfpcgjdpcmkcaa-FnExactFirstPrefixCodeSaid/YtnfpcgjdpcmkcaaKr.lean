/- Powers, shares, lengths: program and reference; no condition beyond sizes. -/
import Derived.Test.YtnfpcgjdpcmkcaaPl
import Derived.Test.YtnfpcgjdpcmkcaaXx1
import Derived.Test.YtnfpcgjdpcmkcaaXx2
import Derived.Test.YtnfpcgjdpcmkcaaXx3
import Derived.Test.YtnfpcgjdpcmkcaaXx4
import Derived.Test.YtnfpcgjdpcmkcaaXx5
namespace Go.Proofs.Ytnfpcgjdpcmkcaa.X
open Go.RowKit Go.Proofs.YtnfpcgjdpcmkcaaW.PrintWords Go.Proofs.YtnfpcgjdpcmkcaaW.PrintLast Go.Proofs.YtnfpcgjdpcmkcaaW.PrintMore Go.Proofs.Ytnfpcgjdpcmkcaa

theorem krPower_l (x : Int) (hx : 1 ≤ x) (n : Nat) : ∀ acc : Int, 0 ≤ acc → n ≤ 1000 → acc * x ^ n ≤ 4611686018427387904 → Ev (fun k => spec_krPower.l0 k x (n : Int) acc) (acc * x ^ n) := by
  induction n with
  | zero =>
    intro acc h0 _ hb
    refine Pl.succ ?_
    simp only [spec_krPower.l0]
    exact Pl.neg (by omega) (Pl.ret (by simp))
  | succ n ih =>
    intro acc h0 hn hb
    have hp : (1 : Int) ≤ x ^ n := by
      have : (0 : Int) < x ^ n := Int.pow_pos (by omega)
      omega
    have e : acc * x ^ (n + 1) = acc * x * x ^ n := by rw [Int.pow_succ, Int.mul_assoc, Int.mul_comm x, ← Int.mul_assoc]
    have h1 : 0 ≤ acc * x := Int.mul_nonneg h0 (by omega)
    have h2 : acc * x ≤ acc * x * x ^ n := by
      have := Int.mul_le_mul_of_nonneg_left hp h1
      omega
    rw [e] at hb ⊢
    refine Pl.succ ?_
    simp only [spec_krPower.l0]
    refine Pl.pos (by omega) ?_
    rw [Pl.w64 (n := ((n + 1 : Nat) : Int) - 1) (by omega) (by omega), Pl.w64 (n := acc * x) (by omega) (by omega), show (((n + 1 : Nat) : Int) - 1) = (n : Int) by omega]
    exact ih (acc * x) h1 (by omega) hb
theorem krPower (x : Int) (hx : 1 ≤ x) (n : Nat) (hn : n ≤ 1000) (hb : x ^ n ≤ 4611686018427387904) : Ev (fun k => spec_krPower.f k x (n : Int)) (x ^ n) := by
  unfold spec_krPower.f
  exact Pl.via (krPower_l x hx n 1 (by omega) hn (by omega)) (by omega)
theorem power_l (x : Int) (hx : 1 ≤ x) (m : Nat) (hm : m ≤ 1000) (n : Nat) : ∀ (i : Nat) (acc : Int), i + n = m → 0 ≤ acc → acc * x ^ n ≤ 4611686018427387904 → Ev (fun k => impl_power.l0 k x acc (m : Int) (i : Int)) (acc * x ^ n) := by
  induction n with
  | zero =>
    intro i acc hi h0 hb
    refine Pl.succ ?_
    simp only [impl_power.l0]
    exact Pl.neg (by omega) (Pl.ret (by simp))
  | succ n ih =>
    intro i acc hi h0 hb
    have hp : (1 : Int) ≤ x ^ n := by
      have : (0 : Int) < x ^ n := Int.pow_pos (by omega)
      omega
    have e : acc * x ^ (n + 1) = acc * x * x ^ n := by rw [Int.pow_succ, Int.mul_assoc, Int.mul_comm x, ← Int.mul_assoc]
    have h1 : 0 ≤ acc * x := Int.mul_nonneg h0 (by omega)
    have h2 : acc * x ≤ acc * x * x ^ n := by
      have := Int.mul_le_mul_of_nonneg_left hp h1
      omega
    rw [e] at hb ⊢
    refine Pl.succ ?_
    simp only [impl_power.l0]
    refine Pl.pos (by omega) ?_
    rw [Pl.w64 (n := (i : Int) + 1) (by omega) (by omega), Pl.w64 (n := acc * x) (by omega) (by omega)]
    exact ih (i + 1) (acc * x) (by omega) h1 hb
theorem power (x : Int) (hx : 1 ≤ x) (n : Nat) (hn : n ≤ 1000) (hb : x ^ n ≤ 4611686018427387904) : Ev (fun k => impl_power.f k x (n : Int)) (x ^ n) := by
  unfold impl_power.f
  exact Pl.via (power_l x hx n hn n 0 1 (by omega) (by omega) (by omega)) (by omega)
theorem pow8 {x : Int} (h2 : 2 ≤ x) (h3 : x ≤ 3) {n : Nat} (hn : n ≤ 8) : 1 ≤ x ^ n ∧ x ^ n ≤ 6561 := by
  have h : x = 2 ∨ x = 3 := by omega
  have hn' : n = 0 ∨ n = 1 ∨ n = 2 ∨ n = 3 ∨ n = 4 ∨ n = 5 ∨ n = 6 ∨ n = 7 ∨ n = 8 := by omega
  rcases h with rfl | rfl <;> rcases hn' with rfl | rfl | rfl | rfl | rfl | rfl | rfl | rfl | rfl <;> decide
theorem krPow {x : Int} (h2 : 2 ≤ x) (h3 : x ≤ 3) {n : Int} (h0 : 0 ≤ n) (hn : n ≤ 8) : Ev (fun k => spec_krPower.f k x n) (x ^ n.toNat) := by
  have := krPower x (by omega) n.toNat (by omega) (by have := pow8 h2 h3 (n := n.toNat) (by omega); omega)
  rwa [show ((n.toNat : Nat) : Int) = n by omega] at this
theorem ipow {x : Int} (h2 : 2 ≤ x) (h3 : x ≤ 3) {n : Int} (h0 : 0 ≤ n) (hn : n ≤ 8) : Ev (fun k => impl_power.f k x n) (x ^ n.toNat) := by
  have := power x (by omega) n.toNat (by omega) (by have := pow8 h2 h3 (n := n.toNat) (by omega); omega)
  rwa [show ((n.toNat : Nat) : Int) = n by omega] at this

/-- How many words of eight letters begin with words of these lengths. -/
def shares (x : Int) (l : List Int) : Int := (l.map fun n => x ^ (8 - n).toNat).sum
def okLen (l : List Int) : Prop := l.length ≤ 12 ∧ ∀ n ∈ l, 1 ≤ n ∧ n ≤ 8
theorem shares_nil (x : Int) : shares x [] = 0 := rfl
theorem shares_cons (x n : Int) (l : List Int) : shares x (n :: l) = x ^ (8 - n).toNat + shares x l := by simp [shares]
theorem shares_bd {x : Int} (h2 : 2 ≤ x) (h3 : x ≤ 3) (l : List Int) (h : ∀ n ∈ l, 1 ≤ n ∧ n ≤ 8) : 0 ≤ shares x l ∧ shares x l ≤ 6561 * l.length := by
  induction l with
  | nil => simp [shares]
  | cons a l ih =>
    have h1 := ih (fun n hn => h n (List.mem_cons_of_mem _ hn))
    have ha := h a List.mem_cons_self
    have hp := pow8 h2 h3 (n := (8 - a).toNat) (by omega)
    rw [shares_cons, List.length_cons]
    omega
theorem drop_cons {α : Type} (l : List α) (i : Nat) (h : i < l.length) : l.drop i = l[i] :: l.drop (i + 1) := List.drop_eq_getElem_cons h
theorem krShares_l {x : Int} (h2 : 2 ≤ x) (h3 : x ≤ 3) (l : List Int) (hl : okLen l) (d : Nat) : ∀ (i : Nat) (acc : Int), l.length - i = d → i ≤ l.length → 0 ≤ acc → acc ≤ 6561 * i →
    Ev (fun k => spec_krShares.l0 k x acc l (l.length : Int) (i : Int)) (acc + shares x (l.drop i)) := by
  have hl1 := hl.1
  induction d with
  | zero =>
    intro i acc hd hi h0 hb
    refine Pl.succ ?_
    simp only [spec_krShares.l0]
    exact Pl.neg (by omega) (Pl.ret (by rw [List.drop_of_length_le (by omega), shares_nil]; omega))
  | succ d ih =>
    intro i acc hd hi h0 hb
    have hm := hl.2 l[i] (List.getElem_mem (by omega))
    have hp := pow8 h2 h3 (n := (8 - l[i]).toNat) (by omega)
    refine Pl.succ ?_
    simp only [spec_krShares.l0]
    refine Pl.pos (by omega) (Pl.pos (by omega) (Pl.pos (by omega) ?_))
    rw [Pl.rd_nat _ _ (by omega), Pl.w64 (n := 8 - l[i]) (by omega) (by omega), Pl.w64 (n := (i : Int) + 1) (by omega) (by omega)]
    refine Ev.bind (krPow h2 h3 (by omega) (by omega)) ?_
    rw [Pl.w64 (by omega) (by omega)]
    refine Pl.via (ih (i + 1) _ (by omega) (by omega) (by omega) (by omega)) ?_
    rw [drop_cons l i (by omega), shares_cons]
    omega
theorem krShares {x : Int} (h2 : 2 ≤ x) (h3 : x ≤ 3) (l : List Int) (hl : okLen l) : Ev (fun k => spec_krShares.f k l x) (shares x l) := by
  unfold spec_krShares.f
  exact Pl.via (krShares_l h2 h3 l hl l.length 0 0 (by omega) (by omega) (by omega) (by omega)) (by simp)
theorem parts_l {x : Int} (h2 : 2 ≤ x) (h3 : x ≤ 3) (l : List Int) (hl : okLen l) (d : Nat) : ∀ (i : Nat) (acc : Int), l.length - i = d → i ≤ l.length → 0 ≤ acc → acc ≤ 6561 * i →
    Ev (fun k => impl_parts.l0 k x acc l (l.length : Int) (i : Int)) (acc + shares x (l.drop i)) := by
  have hl1 := hl.1
  induction d with
  | zero =>
    intro i acc hd hi h0 hb
    refine Pl.succ ?_
    simp only [impl_parts.l0]
    exact Pl.neg (by omega) (Pl.ret (by rw [List.drop_of_length_le (by omega), shares_nil]; omega))
  | succ d ih =>
    intro i acc hd hi h0 hb
    have hm := hl.2 l[i] (List.getElem_mem (by omega))
    have hp := pow8 h2 h3 (n := (8 - l[i]).toNat) (by omega)
    refine Pl.succ ?_
    simp only [impl_parts.l0]
    refine Pl.pos (by omega) (Pl.pos (by omega) (Pl.pos (by omega) ?_))
    rw [Pl.rd_nat _ _ (by omega), Pl.w64 (n := 8 - l[i]) (by omega) (by omega), Pl.w64 (n := (i : Int) + 1) (by omega) (by omega)]
    refine Ev.bind (ipow h2 h3 (by omega) (by omega)) ?_
    rw [Pl.w64 (by omega) (by omega)]
    refine Pl.via (ih (i + 1) _ (by omega) (by omega) (by omega) (by omega)) ?_
    rw [drop_cons l i (by omega), shares_cons]
    omega
theorem iparts {x : Int} (h2 : 2 ≤ x) (h3 : x ≤ 3) (l : List Int) (hl : okLen l) : Ev (fun k => impl_parts.f k l x) (shares x l) := by
  unfold impl_parts.f
  exact Pl.via (parts_l h2 h3 l hl l.length 0 0 (by omega) (by omega) (by omega) (by omega)) (by simp)
theorem krFits {x : Int} (h2 : 2 ≤ x) (h3 : x ≤ 3) (l : List Int) (hl : okLen l) : Ev (fun k => spec_krFits.f k l x) (decide (shares x l ≤ x ^ 8)) := by
  unfold spec_krFits.f
  exact Ev.bind (krShares h2 h3 l hl) (Ev.bind (krPow h2 h3 (by omega) (by omega)) (Pl.ret rfl))
theorem canBe {x : Int} (h2 : 2 ≤ x) (h3 : x ≤ 3) (l : List Int) (hl : okLen l) : Ev (fun k => impl_canBePrefix.f k l x) (decide (shares x l ≤ x ^ 8)) := by
  unfold impl_canBePrefix.f
  exact Ev.bind (iparts h2 h3 l hl) (Ev.bind (ipow h2 h3 (by omega) (by omega)) (Pl.ret rfl))

/-- None is less than the one before. -/
def srt (l : List Int) : Prop := ∀ i (h : i + 1 < l.length), l[i] ≤ l[i + 1]
def good (x : Int) (l : List Int) : Prop := (2 ≤ x ∧ x ≤ 3) ∧ okLen l ∧ srt l
noncomputable instance (x : Int) (l : List Int) : Decidable (good x l) := Classical.propDecidable _
theorem l1In_eq (a b c : Int) : spec_l1In.f a b c = some (decide (b ≤ a ∧ a ≤ c)) := by
  unfold spec_l1In.f
  by_cases h : b ≤ a
  · rw [if_pos h]; simp [h]
  · rw [if_neg h]; simp [h]
theorem in_eq (a b c : Int) : impl_in.f a b c = some (decide (b ≤ a ∧ a ≤ c)) := by
  unfold impl_in.f
  by_cases h : b ≤ a
  · rw [if_pos h]; simp [h]
  · rw [if_neg h]; simp [h]
theorem krLetters_eq (a : Int) : spec_krLetters.f a = some (decide (2 ≤ a ∧ a ≤ 3)) := by unfold spec_krLetters.f; rw [l1In_eq]; rfl
theorem areLetters_eq (a : Int) : impl_areLetters.f a = some (decide (2 ≤ a ∧ a ≤ 3)) := by unfold impl_areLetters.f; rw [in_eq]; rfl

theorem l1All_l (a b : Int) (l : List Int) (hl : l.length ≤ 1048576) (d : Nat) : ∀ (i : Nat), l.length - i = d → i ≤ l.length → (∀ j (h : j < l.length), j < i → a ≤ l[j] ∧ l[j] ≤ b) →
    Ev (fun k => spec_l1All.l0 k a b l (l.length : Int) (i : Int)) (decide (∀ n ∈ l, a ≤ n ∧ n ≤ b)) := by
  induction d with
  | zero =>
    intro i hd hi he
    refine Pl.succ ?_
    simp only [spec_l1All.l0]
    refine Pl.neg (by omega) (Pl.ret ?_)
    refine (decide_eq_true ?_).symm
    intro n hn
    obtain ⟨j, hj, rfl⟩ := List.getElem_of_mem hn
    exact he j hj (by omega)
  | succ d ih =>
    intro i hd hi he
    refine Pl.succ ?_
    simp only [spec_l1All.l0, l1In_eq, Option.bind_some]
    refine Pl.pos (by omega) (Pl.pos (by omega) (Pl.pos (by omega) ?_))
    rw [Pl.rd_nat _ _ (by omega), Pl.w64 (by omega) (by omega)]
    by_cases h : a ≤ l[i] ∧ l[i] ≤ b
    · refine Pl.pos (decide_eq_true h) (ih (i + 1) (by omega) (by omega) ?_)
      intro j hj hji
      by_cases e : j = i
      · subst e; exact h
      · exact he j hj (by omega)
    · refine Pl.neg (by simp only [decide_eq_true_eq]; exact h) (Pl.ret ?_)
      refine (decide_eq_false ?_).symm
      intro hall
      exact h (hall _ (List.getElem_mem (by omega)))
theorem l1All (a b : Int) (l : List Int) (hl : l.length ≤ 1048576) : Ev (fun k => spec_l1All.f k l a b) (decide (∀ n ∈ l, a ≤ n ∧ n ≤ b)) := by
  unfold spec_l1All.f
  exact l1All_l a b l hl l.length 0 (by omega) (by omega) (fun j _ hj => absurd hj (Nat.not_lt_zero _))
theorem krList_l (l : List Int) (hl : l.length ≤ 1048576) (d : Nat) : ∀ (i : Nat), l.length - i = d → 1 ≤ i → (∀ j (h : j + 1 < l.length), j + 1 < i → l[j] ≤ l[j + 1]) →
    ∃ b : Bool, (b = true ↔ srt l) ∧ Ev (fun k => spec_krList.l0 k l (i : Int)) b := by
  induction d with
  | zero =>
    intro i hd hi he
    refine ⟨true, ⟨fun _ j h => he j h (by omega), fun _ => rfl⟩, ?_⟩
    refine Pl.succ ?_
    simp only [spec_krList.l0]
    exact Pl.neg (by omega) (Pl.ret rfl)
  | succ d ih =>
    intro i hd hi he
    obtain ⟨m, rfl⟩ : ∃ m, i = m + 1 := ⟨i - 1, by omega⟩
    by_cases h : l[m + 1]'(by omega) < l[m]'(by omega)
    · refine ⟨false, ⟨nofun, fun hs => ?_⟩, ?_⟩
      · have := hs m (by omega); omega
      · refine Pl.succ ?_
        simp only [spec_krList.l0]
        rw [Pl.w64 (n := ((m + 1 : Nat) : Int) - 1) (by omega) (by omega), show ((m + 1 : Nat) : Int) - 1 = (m : Int) by omega, Pl.rd_nat _ (m + 1) (by omega), Pl.rd_nat _ m (by omega)]
        exact Pl.pos (by omega) (Pl.pos (by omega) (Pl.pos (by omega) (Pl.pos (by omega) (Pl.pos h (Pl.ret rfl)))))
    · obtain ⟨b, hb, he'⟩ := ih (m + 2) (by omega) (by omega) (by
        intro j hj hji
        by_cases e : j = m
        · subst e; omega
        · exact he j hj (by omega))
      refine ⟨b, hb, ?_⟩
      refine Pl.succ ?_
      simp only [spec_krList.l0]
      rw [Pl.w64 (n := ((m + 1 : Nat) : Int) - 1) (by omega) (by omega), show ((m + 1 : Nat) : Int) - 1 = (m : Int) by omega, Pl.rd_nat _ (m + 1) (by omega), Pl.rd_nat _ m (by omega), Pl.w64 (n := ((m + 1 : Nat) : Int) + 1) (by omega) (by omega)]
      exact Pl.pos (by omega) (Pl.pos (by omega) (Pl.pos (by omega) (Pl.pos (by omega) (Pl.neg h he'))))
theorem krList (x : Int) (l : List Int) (hl : l.length ≤ 1048576) : Ev (fun k => spec_krList.f k l x) (decide (good x l)) := by
  unfold spec_krList.f
  simp only [krLetters_eq, Option.bind_some]
  by_cases hx : 2 ≤ x ∧ x ≤ 3
  · refine Pl.pos (decide_eq_true hx) ?_
    by_cases h12 : l.length ≤ 12
    · refine Pl.neg (by omega) ?_
      refine Ev.bind (l1All 1 8 l hl) ?_
      refine Pl.succ ?_
      simp only [spec_krList.j0]
      by_cases ha : ∀ n ∈ l, 1 ≤ n ∧ n ≤ 8
      · rw [decide_eq_true ha]
        refine Pl.neg (by simp) ?_
        obtain ⟨b, hb, he⟩ := krList_l l hl (l.length - 1) 1 rfl (by omega) (fun j _ hj => by omega)
        refine Pl.via he ?_
        rw [Bool.eq_iff_iff, hb, decide_eq_true_eq]
        exact ⟨fun h => ⟨hx, ⟨h12, ha⟩, h⟩, fun h => h.2.2⟩
      · rw [decide_eq_false ha]
        exact Pl.pos (by first | rfl | trivial) (Pl.ret (decide_eq_false (fun h => ha h.2.1.2)).symm)
    · refine Pl.pos (by omega) (Pl.succ ?_)
      simp only [spec_krList.j0]
      exact Pl.pos (by first | rfl | trivial) (Pl.ret (decide_eq_false (fun h => h12 h.2.1.1)).symm)
  · refine Pl.neg (by simp only [decide_eq_true_eq]; exact hx) (Pl.succ ?_)
    simp only [spec_krList.j0]
    exact Pl.pos (by first | rfl | trivial) (Pl.ret (decide_eq_false (fun h => hx h.1)).symm)

theorem less_eq (a b : Int) : cmp_Less_int.f a b = some (decide (a < b)) := by
  simp [cmp_Less_int.f, cmp_isNaN_int.f]
theorem isSorted_l (l : List Int) (hl : l.length ≤ 1048576) (i : Nat) : i < l.length → (∀ j (h : j + 1 < l.length), i ≤ j → l[j] ≤ l[j + 1]) →
    ∃ b : Bool, (b = true ↔ srt l) ∧ Ev (fun k => slices_IsSorted_int_int.l0 k l (i : Int)) b := by
  induction i with
  | zero =>
    intro hi he
    refine ⟨true, ⟨fun _ j h => he j h (by omega), fun _ => rfl⟩, Pl.succ ?_⟩
    simp only [slices_IsSorted_int_int.l0]
    exact Pl.neg (by omega) (Pl.ret rfl)
  | succ m ih =>
    intro hi he
    have q : (((m + 1 : Nat) : Int) - 1) = (m : Int) := by omega
    by_cases h : l[m + 1]'(by omega) < l[m]'(by omega)
    · refine ⟨false, ⟨nofun, fun hs => ?_⟩, Pl.succ ?_⟩
      · have := hs m (by omega); omega
      · simp only [slices_IsSorted_int_int.l0, less_eq, Option.bind_some]
        rw [Pl.w64 (n := ((m + 1 : Nat) : Int) - 1) (by omega) (by omega), q, Pl.rd_nat _ (m + 1) (by omega), Pl.rd_nat _ m (by omega)]
        exact Pl.pos (by omega) (Pl.pos (by omega) (Pl.pos (by omega) (Pl.pos (by omega) (Pl.pos (by omega) (Pl.pos (decide_eq_true h) (Pl.ret rfl))))))
    · obtain ⟨b, hb, he'⟩ := ih (by omega) (by
        intro j hj hji
        by_cases e : j = m
        · subst e; omega
        · exact he j hj (by omega))
      refine ⟨b, hb, Pl.succ ?_⟩
      simp only [slices_IsSorted_int_int.l0, less_eq, Option.bind_some]
      rw [Pl.w64 (n := ((m + 1 : Nat) : Int) - 1) (by omega) (by omega), q, Pl.rd_nat _ (m + 1) (by omega), Pl.rd_nat _ m (by omega)]
      exact Pl.pos (by omega) (Pl.pos (by omega) (Pl.pos (by omega) (Pl.pos (by omega) (Pl.pos (by omega) (Pl.neg (by simp only [decide_eq_true_eq]; exact h) he')))))
theorem isSorted (l : List Int) (hl : l.length ≤ 1048576) : ∃ b : Bool, (b = true ↔ srt l) ∧ Ev (fun k => slices_IsSorted_int_int.f k l) b := by
  unfold slices_IsSorted_int_int.f
  cases hn : l.length with
  | zero =>
    refine ⟨true, ⟨fun _ j h => by omega, fun _ => rfl⟩, Pl.succ ?_⟩
    simp only [slices_IsSorted_int_int.l0]
    rw [Pl.w64 (by omega) (by omega)]
    exact Pl.neg (by omega) (Pl.ret rfl)
  | succ m =>
    rw [Pl.w64 (by omega) (by omega), show (((m + 1 : Nat) : Int) - 1) = (m : Int) by omega]
    exact isSorted_l l hl m (by omega) (fun j h hj => by omega)
theorem areLengths (l : List Int) (hl : l.length ≤ 1048576) : ∃ b : Bool, (b = true ↔ okLen l ∧ srt l) ∧ Ev (fun k => impl_areLengths.f k l) b := by
  unfold impl_areLengths.f
  by_cases h12 : l.length ≤ 12
  · obtain ⟨b, hb, he⟩ := isSorted l hl
    refine ⟨_, ?_, Pl.pos h12 (Ev.bind he (Pl.ret rfl))⟩
    simp only [Bool.and_eq_true, hb, Bool.not_eq_true', List.any_eq_false]
    have e : ∀ x : Int, (¬ (decide (1 ≤ x) && decide (x ≤ 8)) = false) ↔ (1 ≤ x ∧ x ≤ 8) := fun x => by simp
    simp only [e]
    exact ⟨fun ⟨h1, h2⟩ => ⟨⟨h12, h2⟩, h1⟩, fun ⟨h1, h2⟩ => ⟨h2, h1.2⟩⟩
  · exact ⟨false, ⟨nofun, fun h => absurd h.1.1 h12⟩, Pl.neg h12 (Pl.ret rfl)⟩

end Go.Proofs.Ytnfpcgjdpcmkcaa.X

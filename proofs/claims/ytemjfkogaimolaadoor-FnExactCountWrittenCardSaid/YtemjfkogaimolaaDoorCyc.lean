/- A relation on few points: what is reached in n steps repeats before long; plain lists, no program. -/
import Derived.Test.YtemjfkogaimolaaDoorPl
namespace Go.Proofs.YtemjfkogaimolaaDoor.X
section
variable {α : Type}
def Rch (E : α → α → Prop) : Nat → α → α → Prop
  | 0, x, y => x = y
  | n + 1, x, y => ∃ z, E x z ∧ Rch E n z y
theorem Rch.add {E : α → α → Prop} : ∀ {m n : Nat} {x y z : α}, Rch E m x y → Rch E n y z → Rch E (m + n) x z
  | 0, n, x, y, z, h1, h2 => by
    cases (show x = y from h1)
    rw [Nat.zero_add]; exact h2
  | m + 1, n, x, y, z, h1, h2 => by
    obtain ⟨q, h3, h4⟩ := h1
    rw [Nat.add_right_comm]
    exact ⟨q, h3, Rch.add h4 h2⟩
theorem Rch.loop {E : α → α → Prop} {l : Nat} {x : α} (h : Rch E l x x) : ∀ k, Rch E (k * l) x x
  | 0 => by rw [Nat.zero_mul]; exact rfl
  | k + 1 => by rw [Nat.succ_mul]; exact (Rch.loop h k).add h
theorem Rch.walk {E : α → α → Prop} : ∀ {n : Nat} {x y : α}, Rch E n x y → ∃ f : Nat → α, f 0 = x ∧ f n = y ∧ ∀ i, i < n → E (f i) (f (i + 1))
  | 0, x, y, h => ⟨fun _ => x, rfl, h, fun i hi => absurd hi (Nat.not_lt_zero _)⟩
  | n + 1, x, y, h => by
    obtain ⟨z, h1, h2⟩ := h
    obtain ⟨f, f0, fn, hf⟩ := Rch.walk h2
    refine ⟨fun i => if i = 0 then x else f (i - 1), rfl, by simp [fn], fun i hi => ?_⟩
    cases i with
    | zero => simp [f0]; exact h1
    | succ i => simpa using hf i (by omega)
theorem Rch.of_walk {E : α → α → Prop} (f : Nat → α) (d : Nat) : ∀ i, (∀ t, i ≤ t → t < i + d → E (f t) (f (t + 1))) → Rch E d (f i) (f (i + d)) := by
  induction d with
  | zero => intro i _; exact rfl
  | succ d ih =>
    intro i h
    refine ⟨f (i + 1), h i (Nat.le_refl _) (by omega), ?_⟩
    have := ih (i + 1) (fun t h1 h2 => h t (by omega) (by omega))
    rwa [show i + 1 + d = i + (d + 1) by omega] at this
theorem nodup_len : ∀ (l V : List α), l.Nodup → (∀ x, x ∈ l → x ∈ V) → l.length ≤ V.length
  | [], V, _, _ => Nat.zero_le _
  | x :: l, V, h, hs => by
    classical
    rw [List.nodup_cons] at h
    have hx := hs x List.mem_cons_self
    have h1 := nodup_len l (V.erase x) h.2 (fun y hy => (List.mem_erase_of_ne (fun e : y = x => h.1 (e ▸ hy))).2 (hs y (List.mem_cons_of_mem _ hy)))
    have h2 := List.length_erase_of_mem hx
    have h3 := List.length_pos_of_mem hx
    simp only [List.length_cons]
    omega
theorem range_nodup (f : Nat → α) : ∀ (n i : Nat), (∀ a b, i ≤ a → a < b → b < i + n → f a ≠ f b) → ((List.range n).map fun t => f (i + t)).Nodup := by
  intro n i h
  unfold List.Nodup
  rw [List.pairwise_map]
  refine List.pairwise_lt_range.imp_of_mem ?_
  intro a b ha hb hab
  rw [List.mem_range] at ha hb
  exact h (i + a) (i + b) (by omega) (by omega) (by omega)
theorem first_rep (f : Nat → α) : ∀ n, (∃ i j, i < j ∧ j ≤ n ∧ f i = f j) → ∃ i j, i < j ∧ j ≤ n ∧ f i = f j ∧ ∀ a b, a < b → b < j → f a ≠ f b
  | 0, ⟨i, j, h1, h2, _⟩ => by omega
  | n + 1, ⟨i, j, h1, h2, h3⟩ => by
    by_cases h : ∃ i j, i < j ∧ j ≤ n ∧ f i = f j
    · obtain ⟨a, b, q1, q2, q3, q4⟩ := first_rep f n h
      exact ⟨a, b, q1, by omega, q3, q4⟩
    · refine ⟨i, j, h1, h2, h3, fun a b q1 q2 e => h ⟨a, b, q1, ?_, e⟩⟩
      omega
theorem cover (E : α → α → Prop) : ∀ (n : Nat) (A : List α), A.length ≤ n → A.Nodup → ∃ D : List Nat, (∀ d, d ∈ D → 0 < d) ∧ D.sum ≤ A.length ∧ ∀ Z : List α, Z ≠ [] → Z.Nodup → (∀ x, x ∈ Z → x ∈ A) → (∀ x, x ∈ Z → Rch E Z.length x x) → ∃ x, x ∈ Z ∧ ∃ d, d ∈ D ∧ Rch E d x x := by
  classical
  intro n
  induction n with
  | zero =>
    intro A hA hn
    refine ⟨[], by simp, by simp, fun Z hz _ hs _ => ?_⟩
    obtain ⟨x, hx⟩ := List.exists_mem_of_ne_nil Z hz
    have := List.length_pos_of_mem (hs x hx)
    omega
  | succ n ih =>
    intro A hA hn
    by_cases hC : ∃ C : List α, C ≠ [] ∧ C.Nodup ∧ (∀ x, x ∈ C → x ∈ A) ∧ ∀ x, x ∈ C → Rch E C.length x x
    · obtain ⟨C, c1, c2, c3, c4⟩ := hC
      have hlen : (C ++ A.filter fun x => decide (x ∉ C)).length ≤ A.length := by
        refine nodup_len _ _ ?_ ?_
        · refine List.nodup_append.2 ⟨c2, List.Nodup.sublist List.filter_sublist hn, fun x hx y hy e => ?_⟩
          subst e
          rw [List.mem_filter] at hy
          exact absurd hx (by simpa using hy.2)
        · intro x hx
          rcases List.mem_append.1 hx with h | h
          · exact c3 x h
          · exact (List.mem_filter.1 h).1
      rw [List.length_append] at hlen
      have hpos : 0 < C.length := List.length_pos_iff.2 c1
      obtain ⟨D, d1, d2, d3⟩ := ih (A.filter fun x => decide (x ∉ C)) (by omega) (List.Nodup.sublist List.filter_sublist hn)
      refine ⟨C.length :: D, ?_, ?_, ?_⟩
      · intro d hd
        rcases List.mem_cons.1 hd with rfl | h
        · exact hpos
        · exact d1 d h
      · rw [List.sum_cons]; omega
      · intro Z z1 z2 z3 z4
        by_cases hx : ∃ x, x ∈ Z ∧ x ∈ C
        · obtain ⟨x, h1, h2⟩ := hx
          exact ⟨x, h1, C.length, List.mem_cons_self, c4 x h2⟩
        · obtain ⟨x, h1, d, h2, h3⟩ := d3 Z z1 z2 (fun x hz => List.mem_filter.2 ⟨z3 x hz, by simpa using fun hc => hx ⟨x, hz, hc⟩⟩) z4
          exact ⟨x, h1, d, List.mem_cons_of_mem _ h2, h3⟩
    · refine ⟨[], by simp, by simp, fun Z z1 z2 z3 z4 => absurd ⟨Z, z1, z2, z3, z4⟩ hC⟩
end
def prodD (D : List Nat) : Nat → Nat
  | 0 => 1
  | n + 1 => (if n ∈ D ∧ 0 < n then n else 1) * prodD D n
def sumD (D : List Nat) : Nat → Nat
  | 0 => 0
  | n + 1 => (if n ∈ D then n else 0) + sumD D n
def wt (n : Nat) : Nat := if n < 12 then [0, 0, 4, 7, 8, 9, 8, 8, 6, 5, 4, 2].getD n 0 else 0
def wsum : Nat → Nat
  | 0 => 0
  | n + 1 => wt n + wsum n
theorem prodD_pos (D : List Nat) : ∀ n, 0 < prodD D n
  | 0 => Nat.one_pos
  | n + 1 => by
    unfold prodD
    refine Nat.mul_pos ?_ (prodD_pos D n)
    split
    · rename_i h; exact h.2
    · exact Nat.one_pos
theorem prodD_dvd (D : List Nat) (d : Nat) (h1 : d ∈ D) (h2 : 0 < d) : ∀ n, d < n → d ∣ prodD D n
  | 0, h => absurd h (Nat.not_lt_zero _)
  | n + 1, h => by
    unfold prodD
    by_cases e : d = n
    · subst e
      rw [if_pos ⟨h1, h2⟩]
      exact Nat.dvd_mul_right _ _
    · exact Nat.dvd_trans (prodD_dvd D d h1 h2 n (by omega)) (Nat.dvd_mul_left _ _)
theorem pow_wt : ∀ n, n < 97 → n ^ 10 ≤ 2 ^ (3 * n + wt n) := by decide +kernel
theorem prodD_le (D : List Nat) : ∀ n, n ≤ 97 → prodD D n ^ 10 ≤ 2 ^ (3 * sumD D n + wsum n)
  | 0, _ => by rw [show prodD D 0 = 1 from rfl, Nat.one_pow]; exact Nat.one_le_two_pow
  | n + 1, h => by
    unfold prodD sumD wsum
    rw [Nat.mul_pow]
    have h1 := prodD_le D n (by omega)
    have h2 : (if n ∈ D ∧ 0 < n then n else 1) ^ 10 ≤ 2 ^ (3 * (if n ∈ D then n else 0) + wt n) := by
      by_cases hn : n ∈ D
      · by_cases h0 : 0 < n
        · rw [if_pos ⟨hn, h0⟩, if_pos hn]; exact pow_wt n (by omega)
        · rw [if_neg (fun q => h0 q.2), Nat.one_pow]; exact Nat.one_le_two_pow
      · rw [if_neg (fun q => hn q.1), Nat.one_pow]; exact Nat.one_le_two_pow
    refine Nat.le_trans (Nat.mul_le_mul h2 h1) ?_
    rw [← Nat.pow_add]
    exact Nat.pow_le_pow_right (by decide) (by omega)
theorem sumD_one (d : Nat) (D : List Nat) : ∀ n, sumD (d :: D) n ≤ (if d < n then d else 0) + sumD D n
  | 0 => by simp [sumD]
  | n + 1 => by
    have ih := sumD_one d D n
    unfold sumD
    by_cases e : n = d
    · subst e
      rw [if_pos List.mem_cons_self, if_pos (by omega)]
      rw [if_neg (by omega)] at ih
      split <;> omega
    · have hm : (n ∈ d :: D) ↔ n ∈ D := by rw [List.mem_cons]; exact ⟨fun h => h.resolve_left e, .inr⟩
      by_cases h1 : d < n
      · rw [if_pos (show d < n + 1 by omega)]
        rw [if_pos h1] at ih
        by_cases h2 : n ∈ D
        · rw [if_pos h2, if_pos (hm.2 h2)]; omega
        · rw [if_neg h2, if_neg (fun q => h2 (hm.1 q))]; omega
      · rw [if_neg (show ¬ d < n + 1 by omega)]
        rw [if_neg h1] at ih
        by_cases h2 : n ∈ D
        · rw [if_pos h2, if_pos (hm.2 h2)]; omega
        · rw [if_neg h2, if_neg (fun q => h2 (hm.1 q))]; omega
theorem sumD_nil : ∀ n, sumD [] n = 0
  | 0 => rfl
  | n + 1 => by unfold sumD; rw [sumD_nil n]; simp
theorem sumD_le : ∀ (D : List Nat) (n : Nat), sumD D n ≤ D.sum
  | [], n => by rw [sumD_nil]; simp
  | d :: D, n => by
    have h1 := sumD_one d D n
    have h2 := sumD_le D n
    rw [List.sum_cons]
    split at h1 <;> omega
theorem mem_le_sum (d : Nat) : ∀ l : List Nat, d ∈ l → d ≤ l.sum
  | [], h => by cases h
  | x :: l, h => by
    rw [List.sum_cons]
    rcases List.mem_cons.1 h with rfl | h
    · omega
    · have := mem_le_sum d l h; omega
theorem prodD_small (D : List Nat) (h : D.sum ≤ 84) : prodD D 97 ≤ 4294967296 := by
  refine Nat.le_of_not_lt fun hlt => ?_
  have h1 := prodD_le D 97 (Nat.le_refl _)
  have h2 := sumD_le D 97
  have h3 : wsum 97 = 61 := by decide
  obtain ⟨e, he⟩ : ∃ e : Nat, e = 313 := ⟨_, rfl⟩
  obtain ⟨a, ha⟩ : ∃ a : Nat, a = 32 := ⟨_, rfl⟩
  have h4 : (2 : Nat) ^ (3 * sumD D 97 + wsum 97) ≤ 2 ^ e := Nat.pow_le_pow_right (by decide) (by omega)
  have h5 : (2 ^ a) ^ 10 ≤ prodD D 97 ^ 10 := Nat.pow_le_pow_left (by rw [ha]; omega) 10
  have h6 : (2 : Nat) ^ e < (2 ^ a) ^ 10 := by
    rw [← Nat.pow_mul]
    exact Nat.pow_lt_pow_right (by decide) (by omega)
  exact Nat.lt_irrefl _ (Nat.lt_of_lt_of_le h6 (Nat.le_trans h5 (Nat.le_trans h1 h4)))
section
variable {α : Type}
theorem Rch.snoc {E : α → α → Prop} : ∀ {n : Nat} {x y z : α}, Rch E n x y → E y z → Rch E (n + 1) x z := fun h1 h2 => Rch.add h1 ⟨_, h2, rfl⟩
theorem U_Rch {E : α → α → Prop} {U : Nat → List α} (hU : ∀ n v, v ∈ U (n + 1) ↔ ∃ u, u ∈ U n ∧ E u v) : ∀ n v, v ∈ U n ↔ ∃ u, u ∈ U 0 ∧ Rch E n u v
  | 0, v => ⟨fun h => ⟨v, h, rfl⟩, fun ⟨u, h1, h2⟩ => (show u = v from h2) ▸ h1⟩
  | n + 1, v => by
    rw [hU n v]
    constructor
    · rintro ⟨u, h1, h2⟩
      obtain ⟨q, h3, h4⟩ := (U_Rch hU n u).1 h1
      exact ⟨q, h3, h4.snoc h2⟩
    · rintro ⟨q, h3, h4⟩
      obtain ⟨f, f0, fn, hf⟩ := Rch.walk h4
      refine ⟨f n, (U_Rch hU n (f n)).2 ⟨q, h3, ?_⟩, fn ▸ hf n (by omega)⟩
      have := Rch.of_walk (E := E) f n 0 (fun t _ h => hf t (by omega))
      rwa [Nat.zero_add, f0] at this
/-- What is reached in n steps, within few points, repeats before long. -/
theorem repeats (E : α → α → Prop) (U : Nat → List α) (V : List α) (hU : ∀ n v, v ∈ U (n + 1) ↔ ∃ u, u ∈ U n ∧ E u v) (hV : ∀ n v, v ∈ U n → v ∈ V) (hn : V.Nodup) (hl : V.length ≤ 84) :
    ∃ i j, i < j ∧ j ≤ 400000000000 ∧ ∀ v, v ∈ U i ↔ v ∈ U j := by
  classical
  obtain ⟨D, d1, d2, d3⟩ := cover E V.length V (Nat.le_refl _) hn
  have hL := prodD_small D (by omega)
  have hL0 := prodD_pos D 97
  have hdv : ∀ d, d ∈ D → d ∣ prodD D 97 := fun d hd => by
    refine prodD_dvd D d hd (d1 d hd) 97 ?_
    have : d ≤ D.sum := mem_le_sum d D hd
    omega
  generalize prodD D 97 = L at *
  have key : ∀ n v, V.length ≤ n → v ∈ U n → v ∈ U (n + L) := by
    intro n v hnl hv
    obtain ⟨u, hu, hr⟩ := (U_Rch hU n v).1 hv
    obtain ⟨f, f0, fn, hf⟩ := Rch.walk hr
    have hfV : ∀ i, i ≤ n → f i ∈ V := fun i hi => hV i _ ((U_Rch hU i (f i)).2 ⟨u, hu, by
      have := Rch.of_walk (E := E) f i 0 (fun t _ h => hf t (by omega))
      rwa [Nat.zero_add, f0] at this⟩)
    have hrep : ∃ i j, i < j ∧ j ≤ V.length ∧ f i = f j := by
      refine Classical.byContradiction fun hno => ?_
      have h1 := range_nodup f (V.length + 1) 0 (fun a b _ hab hb e => hno ⟨a, b, hab, by omega, e⟩)
      have h2 := nodup_len _ V h1 (fun x hx => by
        obtain ⟨t, ht, rfl⟩ := List.mem_map.1 hx
        rw [List.mem_range] at ht
        exact hfV _ (by omega))
      rw [List.length_map, List.length_range] at h2
      omega
    obtain ⟨i, j, hij, hj, hfe, hinj⟩ := first_rep f V.length hrep
    obtain ⟨x, hx, d, hd, hc⟩ := d3 ((List.range (j - i)).map fun t => f (i + t)) (by
        intro e
        have := congrArg List.length e
        rw [List.length_map, List.length_range] at this
        simp only [List.length_nil] at this
        omega) (range_nodup f (j - i) i (fun a b ha hab hb => hinj a b hab (by omega))) (fun x hx => by
        obtain ⟨t, ht, rfl⟩ := List.mem_map.1 hx
        rw [List.mem_range] at ht
        exact hfV _ (by omega)) (fun x hx => by
        obtain ⟨t, ht, rfl⟩ := List.mem_map.1 hx
        rw [List.mem_range] at ht
        rw [List.length_map, List.length_range]
        have h1 := Rch.of_walk (E := E) f (j - i - t) (i + t) (fun q _ h => hf q (by omega))
        have h2 := Rch.of_walk (E := E) f t i (fun q _ h => hf q (by omega))
        rw [show i + t + (j - i - t) = j by omega, ← hfe] at h1
        have := h1.add h2
        rwa [show j - i - t + t = j - i by omega] at this)
    obtain ⟨t, ht, rfl⟩ := List.mem_map.1 hx
    rw [List.mem_range] at ht
    obtain ⟨k, hk⟩ := hdv d hd
    have hc2 := hc.loop k
    rw [Nat.mul_comm, ← hk] at hc2
    refine (U_Rch hU (n + L) v).2 ⟨u, hu, ?_⟩
    have h1 := Rch.of_walk (E := E) f (i + t) 0 (fun q _ h => hf q (by omega))
    have h2 := Rch.of_walk (E := E) f (n - (i + t)) (i + t) (fun q _ h => hf q (by omega))
    rw [Nat.zero_add, f0] at h1
    rw [show i + t + (n - (i + t)) = n by omega, fn] at h2
    have := (h1.add hc2).add h2
    rwa [show i + t + L + (n - (i + t)) = n + L by omega] at this
  have hstep : ∃ q, q ≤ V.length ∧ ∀ v, v ∈ U (V.length + q * L) ↔ v ∈ U (V.length + (q + 1) * L) := by
    refine Classical.byContradiction fun hno => ?_
    have grow : ∀ q, q ≤ V.length + 1 → q ≤ (V.filter fun v => decide (v ∈ U (V.length + q * L))).length := by
      intro q
      induction q with
      | zero => intro _; exact Nat.zero_le _
      | succ q ih =>
        intro hq
        have h1 := ih (by omega)
        have hsub : ∀ v, v ∈ U (V.length + q * L) → v ∈ U (V.length + (q + 1) * L) := fun v hv => by
          have := key _ v (by omega) hv
          rwa [Nat.succ_mul, ← Nat.add_assoc]
        have hex : ∃ v, v ∈ U (V.length + (q + 1) * L) ∧ v ∉ U (V.length + q * L) := by
          refine Classical.byContradiction fun hall => hno ⟨q, by omega, fun v => ⟨hsub v, fun hv => ?_⟩⟩
          refine Classical.byContradiction fun h => hall ⟨v, hv, h⟩
        obtain ⟨v, hv1, hv2⟩ := hex
        have h2 := nodup_len (v :: V.filter fun v => decide (v ∈ U (V.length + q * L))) (V.filter fun v => decide (v ∈ U (V.length + (q + 1) * L))) (by
          rw [List.nodup_cons]
          exact ⟨fun h => hv2 (by simpa using (List.mem_filter.1 h).2), List.Nodup.sublist List.filter_sublist hn⟩) (by
          intro x hx
          rcases List.mem_cons.1 hx with rfl | h
          · exact List.mem_filter.2 ⟨hV _ _ hv1, by simpa using hv1⟩
          · have h3 := List.mem_filter.1 h
            exact List.mem_filter.2 ⟨h3.1, by simpa using hsub x (by simpa using h3.2)⟩)
        rw [List.length_cons] at h2
        omega
    have h1 := grow (V.length + 1) (Nat.le_refl _)
    have h2 : (V.filter fun v => decide (v ∈ U (V.length + (V.length + 1) * L))).length ≤ V.length := List.length_filter_le _ _
    omega
  obtain ⟨q, hq, he⟩ := hstep
  refine ⟨V.length + q * L, V.length + (q + 1) * L, ?_, ?_, he⟩
  · rw [Nat.succ_mul]; omega
  · have : (q + 1) * L ≤ 85 * 4294967296 := Nat.mul_le_mul (by omega) hL
    omega
end

end Go.Proofs.YtemjfkogaimolaaDoor.X

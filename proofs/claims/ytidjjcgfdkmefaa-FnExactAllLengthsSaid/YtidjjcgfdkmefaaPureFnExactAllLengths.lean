/- AllLengths: the program's answer is the reference's, for all arguments; no condition. (All that the proof needs of plain lists stands ahead.) -/
import Derived.Test.YtidjjcgfdkmefaaPl
import Derived.Test.YtidjjcgfdkmefaaXx0
import Derived.Test.YtidjjcgfdkmefaaXx1
import Derived.Test.YtidjjcgfdkmefaaXx2
import Derived.Test.YtidjjcgfdkmefaaXx3
import Derived.Test.YtidjjcgfdkmefaaXx4
import Derived.Test.YtidjjcgfdkmefaaXx5
import Derived.Test.YtidjjcgfdkmefaaXx6
import Derived.Test.YtidjjcgfdkmefaaXx7
import Derived.Test.YtidjjcgfdkmefaaXx8
namespace Go.Proofs.Ytidjjcgfdkmefaa.X
open Go.RowKit Go.Proofs.YtidjjcgfdkmefaaW.PrintWords Go.Proofs.YtidjjcgfdkmefaaW.PrintLast Go.Proofs.YtidjjcgfdkmefaaW.PrintMore Go.Proofs.Ytidjjcgfdkmefaa

theorem eqIntS_l (l : List Int) (hl : l.length ≤ 4611686018427387904) (d : Nat) : ∀ (i : Nat), l.length - i = d → i ≤ l.length → Ev (fun k => laws_eqIntS.l0 k l l (i : Int)) true := by
  induction d with
  | zero =>
    intro i hd hi
    refine Pl.succ ?_
    simp only [laws_eqIntS.l0]
    exact Pl.neg (by omega) (Pl.ret rfl)
  | succ d ih =>
    intro i hd hi
    refine Pl.succ ?_
    simp only [laws_eqIntS.l0]
    refine Pl.pos (by omega) (Pl.pos (by omega) (Pl.pos (by omega) (Pl.pos trivial ?_)))
    rw [Pl.w64 (by omega) (by omega)]
    exact ih (i + 1) (by omega) (by omega)
theorem eqIntS (l : List Int) (hl : l.length ≤ 4611686018427387904) : Ev (fun k => laws_eqIntS.f k l l) true := by
  unfold laws_eqIntS.f
  exact Pl.pos rfl (eqIntS_l l hl l.length 0 (by omega) (by omega))


end Go.Proofs.Ytidjjcgfdkmefaa.X
namespace Go.Proofs.Ytidjjcgfdkmefaa.X
open Go.RowKit Go.Proofs.YtidjjcgfdkmefaaW.PrintWords Go.Proofs.YtidjjcgfdkmefaaW.PrintLast Go.Proofs.YtidjjcgfdkmefaaW.PrintMore Go.Proofs.Ytidjjcgfdkmefaa

theorem rdLL (l : List (List Int)) (i : Nat) (h : i < l.length) : rd_L1 l (i : Int) = l[i] := by
  simp [rd_L1, List.getD_eq_getElem?_getD, h]
theorem eqIntSS_l (l : List (List Int)) (hl : l.length ≤ 1000000) (hr : ∀ r ∈ l, r.length ≤ 1000000) (d : Nat) : ∀ (i : Nat), l.length - i = d → i ≤ l.length → Ev (fun k => laws_eqIntSS.l0 k l l (i : Int)) true := by
  induction d with
  | zero =>
    intro i hd hi
    refine Pl.succ ?_
    simp only [laws_eqIntSS.l0]
    exact Pl.neg (by omega) (Pl.ret rfl)
  | succ d ih =>
    intro i hd hi
    have hil : i < l.length := by omega
    refine Pl.succ ?_
    simp only [laws_eqIntSS.l0]
    rw [rdLL l i hil]
    refine Pl.pos (by omega) (Pl.pos (by omega) (Pl.pos (by omega) (Ev.bind (eqIntS _ (by have := hr _ (List.getElem_mem hil); omega)) (Pl.pos rfl ?_))))
    rw [Pl.w64 (by omega) (by omega)]
    exact ih (i + 1) (by omega) (by omega)
theorem eqIntSS (l : List (List Int)) (hl : l.length ≤ 1000000) (hr : ∀ r ∈ l, r.length ≤ 1000000) : Ev (fun k => laws_eqIntSS.f k l l) true := by
  unfold laws_eqIntSS.f
  exact Pl.pos rfl (eqIntSS_l l hl hr l.length 0 (by omega) (by omega))
theorem markIntS_a (a : Int) (ha : 0 ≤ a ∧ a ≤ 1000000000000000) (n : Nat) (hn : n ≤ 1000000) (d : Nat) : ∀ (i : Nat) (x : List Int), n - i = d → i ≤ n → x.length = n → (∀ j, j < i → x[j]? = some (a + (j : Int))) →
    ∃ l', l'.length = n ∧ (∀ j, j < n → l'[j]? = some (a + (j : Int))) ∧ Ev (fun k => laws_markIntS.l0 k x (a + (i : Int)) (i : Int)) (a + (n : Int), l') := by
  induction d with
  | zero =>
    intro i x hd hi hx he
    refine ⟨x, hx, fun j hj => he j (by omega), ?_⟩
    refine Pl.succ ?_
    simp only [laws_markIntS.l0]
    obtain rfl : i = n := by omega
    exact Pl.neg (by omega) (Pl.ret rfl)
  | succ d ih =>
    intro i x hd hi hx he
    obtain ⟨l', h1, h2, h3⟩ := ih (i + 1) (x.set i (a + (i : Int))) (by omega) (by omega) (by simpa using hx) (by
      intro j hj
      rw [List.getElem?_set]
      by_cases e : i = j
      · subst e
        rw [if_pos rfl, if_pos (by omega)]
      · rw [if_neg e]
        exact he j (by omega))
    refine ⟨l', h1, h2, ?_⟩
    refine Pl.succ ?_
    simp only [laws_markIntS.l0]
    refine Pl.pos (by omega) (Pl.pos (by omega) ?_)
    rw [Pl.w64 (n := (i : Int) + 1) (by omega) (by omega), Pl.w64 (n := a + (i : Int) + 1) (by omega) (by omega), Int.toNat_natCast]
    have e : (a + (i : Int) + 1) = a + ((i + 1 : Nat) : Int) := by omega
    rw [e]
    exact h3
theorem heldIntS_a (a : Int) (ha : 0 ≤ a ∧ a ≤ 1000000000000000) (n : Nat) (hn : n ≤ 1000000) (l' : List Int) (h1 : l'.length = n) (h2 : ∀ j, j < n → l'[j]? = some (a + (j : Int))) (d : Nat) : ∀ (i : Nat), n - i = d → i ≤ n →
    Ev (fun k => laws_heldIntS.l0 k l' (a + (i : Int)) (i : Int)) (a + (n : Int)) := by
  induction d with
  | zero =>
    intro i hd hi
    refine Pl.succ ?_
    simp only [laws_heldIntS.l0]
    obtain rfl : i = n := by omega
    exact Pl.neg (by omega) (Pl.ret rfl)
  | succ d ih =>
    intro i hd hi
    refine Pl.succ ?_
    simp only [laws_heldIntS.l0]
    have hr : rd l' (i : Int) = a + (i : Int) := by
      have := h2 i (by omega)
      rw [List.getElem?_eq_getElem (by omega)] at this
      rw [Pl.rd_nat _ _ (by omega)]
      exact Option.some.inj this
    refine Pl.pos (by omega) (Pl.pos (by omega) (Pl.pos hr ?_))
    rw [Pl.w64 (n := a + (i : Int) + 1) (by omega) (by omega), Pl.w64 (n := (i : Int) + 1) (by omega) (by omega)]
    have e : (a + (i : Int) + 1) = a + ((i + 1 : Nat) : Int) := by omega
    rw [e]
    exact ih (i + 1) (by omega) (by omega)
theorem markIa (l : List Int) (a : Int) (ha : 0 ≤ a ∧ a ≤ 1000000000000000) (hn : l.length ≤ 1000000) : ∃ l', Ev (fun k => laws_markIntS.f k l a) (a + (l.length : Int), l') ∧ Ev (fun k => laws_heldIntS.f k l' a) (a + (l.length : Int)) := by
  obtain ⟨l', h1, h2, h3⟩ := markIntS_a a ha l.length hn l.length 0 l (by omega) (by omega) rfl (fun j hj => absurd hj (Nat.not_lt_zero _))
  refine ⟨l', ?_, ?_⟩
  · have : a + ((0 : Nat) : Int) = a := by omega
    rw [this] at h3
    exact h3
  · have := heldIntS_a a ha l.length hn l' h1 h2 l.length 0 (by omega) (by omega)
    have e : a + ((0 : Nat) : Int) = a := by omega
    rw [e] at this
    exact this
/-- The rows hold the marks from a on; e: what is next. -/
def HeldI : List (List Int) → Int → Int → Prop
  | [], a, e => e = a
  | x :: xs, a, e => ∃ b, 0 ≤ b ∧ Ev (fun k => laws_heldIntS.f k x a) b ∧ HeldI xs b e
theorem marksI_l : ∀ (l : List (List Int)) (a : Int), 0 ≤ a → a + (l.length : Int) * 1000000 ≤ 1000000000000000 → (∀ r ∈ l, r.length ≤ 1000000) → ∃ (l' : List (List Int)) (e : Int), 0 ≤ e ∧ l'.length = l.length ∧ Ev (fun k => mSSI k l a) (e, l') ∧ HeldI l' a e
  | [], a, h0, _, _ => ⟨[], a, h0, rfl, Ev.now _, rfl⟩
  | x :: xs, a, h0, h1, h2 => by
    have hx := h2 x List.mem_cons_self
    rw [List.length_cons] at h1
    obtain ⟨x', q1, q2⟩ := markIa x a ⟨h0, by omega⟩ hx
    obtain ⟨l', e, e0, e1, e2, e3⟩ := marksI_l xs (a + (x.length : Int)) (by omega) (by omega) (fun r hr => h2 r (List.mem_cons_of_mem _ hr))
    refine ⟨x' :: l', e, e0, by rw [List.length_cons, List.length_cons, e1], ?_, ⟨_, by omega, q2, e3⟩⟩
    unfold mSSI
    exact Ev.bind q1 (Ev.bind e2 (Ev.now _))
theorem heldIntSS_l (l : List (List Int)) (hl : l.length ≤ 1000000) : ∀ (suf pre : List (List Int)) (a e : Int), l = pre ++ suf → HeldI suf a e → Ev (fun k => laws_heldIntSS.l0 k l a (pre.length : Int)) e
  | [], pre, a, e, hp, h => by
    refine Pl.succ ?_
    simp only [laws_heldIntSS.l0]
    have : l.length = pre.length := by rw [hp]; simp
    exact Pl.neg (by omega) (Pl.ret h.symm)
  | x :: xs, pre, a, e, hp, h => by
    obtain ⟨b, hb, h1, h2⟩ := h
    have hlen : l.length = pre.length + (xs.length + 1) := by rw [hp]; simp
    have hx : rd_L1 l (pre.length : Int) = x := by rw [rdLL l pre.length (by omega)]; simp [hp]
    refine Pl.succ ?_
    simp only [laws_heldIntSS.l0]
    rw [hx, Pl.w64 (n := (pre.length : Int) + 1) (by omega) (by omega)]
    refine Pl.pos (by omega) (Pl.pos (by omega) (Ev.bind h1 (Pl.neg (by omega) ?_)))
    have := heldIntSS_l l hl xs (pre ++ [x]) b e (by rw [hp]; simp) h2
    rw [List.length_append, List.length_singleton] at this
    exact this
/-- Marked, and held: the marks stand. -/
theorem marksII (l : List (List Int)) (hl : l.length ≤ 1000000) (hr : ∀ r ∈ l, r.length ≤ 1000000) : ∃ (l' : List (List Int)) (e : Int), 0 ≤ e ∧ Ev (fun k => laws_markIntSS.f k l 1) (e, l') ∧ Ev (fun k => laws_heldIntSS.f k l' 1) e := by
  obtain ⟨l', e, e0, e1, e2, e3⟩ := marksI_l l 1 (by omega) (by omega) hr
  exact ⟨l', e, e0, e2, heldIntSS_l l' (by omega) l' [] 1 e rfl e3⟩

end Go.Proofs.Ytidjjcgfdkmefaa.X
namespace Go.Proofs.Ytidjjcgfdkmefaa.X
open Go.RowKit Go.Proofs.YtidjjcgfdkmefaaW.PrintWords Go.Proofs.YtidjjcgfdkmefaaW.PrintLast Go.Proofs.YtidjjcgfdkmefaaW.PrintMore Go.Proofs.Ytidjjcgfdkmefaa

theorem krPower_l (x : Int) (hx : 1 ≤ x) (n : Nat) : ∀ acc : Int, 0 ≤ acc → n ≤ 1000 → acc * x ^ n ≤ 4611686018427387904 → Ev (fun k => spec_krPower.l0 k x (n : Int) acc) (acc * x ^ n) := by
  induction n with
  | zero =>
    intro acc h0 _ hb
    refine Pl.succ ?_
    simp only [spec_krPower.l0]
    exact Pl.neg (by omega) (Pl.ret (by simp))
  | succ n ih =>
    intro acc h0 hn hb
    have hp : (1 : Int) ≤ x ^ n := by
      have : (0 : Int) < x ^ n := Int.pow_pos (by omega)
      omega
    have e : acc * x ^ (n + 1) = acc * x * x ^ n := by rw [Int.pow_succ, Int.mul_assoc, Int.mul_comm x, ← Int.mul_assoc]
    have h1 : 0 ≤ acc * x := Int.mul_nonneg h0 (by omega)
    have h2 : acc * x ≤ acc * x * x ^ n := by
      have := Int.mul_le_mul_of_nonneg_left hp h1
      omega
    rw [e] at hb ⊢
    refine Pl.succ ?_
    simp only [spec_krPower.l0]
    refine Pl.pos (by omega) ?_
    rw [Pl.w64 (n := ((n + 1 : Nat) : Int) - 1) (by omega) (by omega), Pl.w64 (n := acc * x) (by omega) (by omega), show (((n + 1 : Nat) : Int) - 1) = (n : Int) by omega]
    exact ih (acc * x) h1 (by omega) hb
theorem krPower (x : Int) (hx : 1 ≤ x) (n : Nat) (hn : n ≤ 1000) (hb : x ^ n ≤ 4611686018427387904) : Ev (fun k => spec_krPower.f k x (n : Int)) (x ^ n) := by
  unfold spec_krPower.f
  exact Pl.via (krPower_l x hx n 1 (by omega) hn (by omega)) (by omega)
theorem power_l (x : Int) (hx : 1 ≤ x) (m : Nat) (hm : m ≤ 1000) (n : Nat) : ∀ (i : Nat) (acc : Int), i + n = m → 0 ≤ acc → acc * x ^ n ≤ 4611686018427387904 → Ev (fun k => impl_power.l0 k x acc (m : Int) (i : Int)) (acc * x ^ n) := by
  induction n with
  | zero =>
    intro i acc hi h0 hb
    refine Pl.succ ?_
    simp only [impl_power.l0]
    exact Pl.neg (by omega) (Pl.ret (by simp))
  | succ n ih =>
    intro i acc hi h0 hb
    have hp : (1 : Int) ≤ x ^ n := by
      have : (0 : Int) < x ^ n := Int.pow_pos (by omega)
      omega
    have e : acc * x ^ (n + 1) = acc * x * x ^ n := by rw [Int.pow_succ, Int.mul_assoc, Int.mul_comm x, ← Int.mul_assoc]
    have h1 : 0 ≤ acc * x := Int.mul_nonneg h0 (by omega)
    have h2 : acc * x ≤ acc * x * x ^ n := by
      have := Int.mul_le_mul_of_nonneg_left hp h1
      omega
    rw [e] at hb ⊢
    refine Pl.succ ?_
    simp only [impl_power.l0]
    refine Pl.pos (by omega) ?_
    rw [Pl.w64 (n := (i : Int) + 1) (by omega) (by omega), Pl.w64 (n := acc * x) (by omega) (by omega)]
    exact ih (i + 1) (acc * x) (by omega) h1 hb
theorem power (x : Int) (hx : 1 ≤ x) (n : Nat) (hn : n ≤ 1000) (hb : x ^ n ≤ 4611686018427387904) : Ev (fun k => impl_power.f k x (n : Int)) (x ^ n) := by
  unfold impl_power.f
  exact Pl.via (power_l x hx n hn n 0 1 (by omega) (by omega) (by omega)) (by omega)
theorem pow8 {x : Int} (h2 : 2 ≤ x) (h3 : x ≤ 3) {n : Nat} (hn : n ≤ 8) : 1 ≤ x ^ n ∧ x ^ n ≤ 6561 := by
  have h : x = 2 ∨ x = 3 := by omega
  have hn' : n = 0 ∨ n = 1 ∨ n = 2 ∨ n = 3 ∨ n = 4 ∨ n = 5 ∨ n = 6 ∨ n = 7 ∨ n = 8 := by omega
  rcases h with rfl | rfl <;> rcases hn' with rfl | rfl | rfl | rfl | rfl | rfl | rfl | rfl | rfl <;> decide
theorem krPow {x : Int} (h2 : 2 ≤ x) (h3 : x ≤ 3) {n : Int} (h0 : 0 ≤ n) (hn : n ≤ 8) : Ev (fun k => spec_krPower.f k x n) (x ^ n.toNat) := by
  have := krPower x (by omega) n.toNat (by omega) (by have := pow8 h2 h3 (n := n.toNat) (by omega); omega)
  rwa [show ((n.toNat : Nat) : Int) = n by omega] at this
theorem ipow {x : Int} (h2 : 2 ≤ x) (h3 : x ≤ 3) {n : Int} (h0 : 0 ≤ n) (hn : n ≤ 8) : Ev (fun k => impl_power.f k x n) (x ^ n.toNat) := by
  have := power x (by omega) n.toNat (by omega) (by have := pow8 h2 h3 (n := n.toNat) (by omega); omega)
  rwa [show ((n.toNat : Nat) : Int) = n by omega] at this

theorem l1In_eq (a b c : Int) : spec_l1In.f a b c = some (decide (b ≤ a ∧ a ≤ c)) := by
  unfold spec_l1In.f
  by_cases h : b ≤ a
  · rw [if_pos h]; simp [h]
  · rw [if_neg h]; simp [h]

def allL (F : Int → Int → List Int → List (List Int)) (x : Int) (r : Nat) (left : Int) (done : List Int) : Nat → Int → List (List Int)
  | 0, _ => []
  | d + 1, l => (if x ^ (8 - l).toNat ≤ left ∧ left ≤ ((r + 1 : Nat) : Int) * x ^ (8 - l).toNat then F l (left - x ^ (8 - l).toNat) (done ++ [l]) else []) ++ allL F x r left done d (l + 1)
def allK (x most : Int) : Nat → Int → Int → List Int → List (List Int)
  | 0, _, left, done => if left = 0 then [done] else []
  | r + 1, l, left, done => allL (allK x most r) x r left done (most - l + 1).toNat l
def BdW (F : Nat → Nat) : Nat → Nat
  | 0 => 0
  | w + 1 => F (w + 1) + BdW F w
def Bd : Nat → Nat → Nat
  | 0 => fun _ => 1
  | r + 1 => BdW (Bd r)
theorem Bd_le : ∀ n < 13, ∀ w < 9, Bd n w ≤ 1000000 := by decide +kernel
theorem allK_len (x most : Int) : ∀ (r : Nat) (l left : Int) (done : List Int), (allK x most r l left done).length ≤ Bd r (most - l + 1).toNat := by
  intro r
  induction r with
  | zero =>
    intro l left done
    unfold allK Bd
    split <;> simp
  | succ r ih =>
    intro l left done
    unfold allK Bd
    generalize he : (most - l + 1).toNat = e
    induction e generalizing l with
    | zero => simp [allL]
    | succ e ih2 =>
      unfold allL BdW
      rw [List.length_append]
      have h2 := ih2 (l + 1) (by omega)
      have h1 := ih l (left - x ^ (8 - l).toNat) (done ++ [l])
      rw [he] at h1
      split
      · omega
      · simp only [List.length_nil]; omega
theorem allK_bd (x most : Int) (r : Nat) (l left : Int) (done : List Int) (hr : r ≤ 12) (h1 : 1 ≤ l) (h2 : most ≤ 8) : (allK x most r l left done).length ≤ 1000000 :=
  Nat.le_trans (allK_len x most r l left done) (Bd_le r (by omega) _ (by omega))
theorem pow_le {x : Int} (hx : 2 ≤ x) {a b : Nat} (h : a ≤ b) : x ^ a ≤ x ^ b := by
  obtain ⟨c, rfl⟩ := Nat.exists_eq_add_of_le h
  rw [Int.pow_add]
  have h1 : 0 < x ^ a := Int.pow_pos (by omega)
  have h2 : 0 < x ^ c := Int.pow_pos (by omega)
  have := Int.mul_le_mul_of_nonneg_left (show (1 : Int) ≤ x ^ c by omega) (show 0 ≤ x ^ a by omega)
  omega
theorem allK_nil {x : Int} (hx : 2 ≤ x) (most : Int) : ∀ (r : Nat) (l left : Int) (done : List Int), left < (r : Int) * x ^ (8 - most).toNat → allK x most r l left done = [] := by
  intro r
  induction r with
  | zero =>
    intro l left done h
    unfold allK
    rw [if_neg (by simp at h; omega)]
  | succ r ih =>
    intro l left done h
    unfold allK
    generalize he : (most - l + 1).toNat = e
    induction e generalizing l with
    | zero => rfl
    | succ e ih2 =>
      unfold allL
      rw [ih2 (l + 1) (by omega), List.append_nil]
      split
      · refine ih _ _ _ ?_
        have hp := pow_le hx (show (8 - most).toNat ≤ (8 - l).toNat by omega)
        have e1 : ((r + 1 : Nat) : Int) * x ^ (8 - most).toNat = (r : Int) * x ^ (8 - most).toNat + x ^ (8 - most).toNat := by rw [Int.natCast_add, Int.add_mul]; simp
        omega
      · rfl
theorem mul_bd {r : Nat} {p : Int} (hr : r ≤ 12) (h1 : 1 ≤ p) (h2 : p ≤ 6561) : 0 ≤ (r : Int) * p ∧ (r : Int) * p ≤ 78732 := by
  have a := Int.mul_nonneg (show (0 : Int) ≤ (r : Int) by omega) (show (0 : Int) ≤ p by omega)
  have b := Int.mul_le_mul (show (r : Int) ≤ 12 by omega) h2 (by omega) (by omega)
  omega
theorem whF_eq (G : List Int → Int → Int → List (List Int) → Option (List (List Int))) (pw : Int → Option Int) {x most left : Int} (n : Int) (done : List Int) (r : Nat) (hx2 : 2 ≤ x) (hx3 : x ≤ 3) (hm1 : 1 ≤ most) (hm8 : most ≤ 8) (hl : 0 ≤ left ∧ left ≤ 1000000) (_hr : r < 12)
    (hp : ∀ e, 0 ≤ e → e ≤ 8 → pw e = some (x ^ e.toNat)) (hn : n - (done.length : Int) - 1 = (r : Int))
    (hG : ∀ l left' Ls, 1 ≤ l → l ≤ most → 0 ≤ left' → left' ≤ 1000000 → Ls.length + (allK x most r l left' (done ++ [l])).length ≤ 1000000 → G (done ++ [l]) l left' Ls = some (Ls ++ allK x most r l left' (done ++ [l]))) :
    ∀ (e d : Nat) (l : Int) (Ls : List (List Int)), e < d → (most - l + 1).toNat = e → 1 ≤ l → Ls.length + (allL (allK x most r) x r left done e l).length ≤ 1000000 → whF G pw n most done left d l Ls = some (Ls ++ allL (allK x most r) x r left done e l) := by
  intro e
  induction e with
  | zero =>
    intro d l Ls hd he h1 hb
    obtain ⟨d, rfl⟩ : ∃ q, d = q + 1 := ⟨d - 1, by omega⟩
    unfold whF allL
    rw [if_neg (by omega), List.append_nil]
  | succ e ih =>
    intro d l Ls hd he h1 hb
    obtain ⟨d, rfl⟩ : ∃ q, d = q + 1 := ⟨d - 1, by omega⟩
    unfold whF
    unfold allL at hb ⊢
    rw [if_pos (by omega), hp (8 - l) (by omega) (by omega), hp (8 - most) (by omega) (by omega)]
    simp only [Option.bind_some]
    have hq := pow8 hx2 hx3 (n := (8 - l).toNat) (by omega)
    have hq2 := pow8 hx2 hx3 (n := (8 - most).toNat) (by omega)
    rw [if_pos (by omega)]
    have hnil := allK_nil hx2 most r l (left - x ^ (8 - l).toNat) (done ++ [l])
    generalize x ^ (8 - l).toNat = p at *
    generalize x ^ (8 - most).toNat = q at *
    have hc : p * (n - (done.length : Int) - 1 + 1) = ((r + 1 : Nat) : Int) * p := by rw [hn, Int.mul_comm]; rfl
    rw [hc, hn]
    rw [List.length_append] at hb
    by_cases h3 : p ≤ left ∧ left ≤ ((r + 1 : Nat) : Int) * p
    · rw [if_pos h3] at hb
      by_cases h4 : (r : Int) * q ≤ left - p
      · rw [if_pos ⟨h3.1, h3.2, h4⟩, hG l (left - p) Ls (by omega) (by omega) (by omega) (by omega) (by omega), Option.bind_some, ih d (l + 1) _ (by omega) (by omega) (by omega) (by rw [List.length_append]; omega), if_pos h3, List.append_assoc]
      · rw [if_neg (fun hh => h4 hh.2.2), if_pos h3, hnil (by omega), List.nil_append]
        exact ih d (l + 1) Ls (by omega) (by omega) (by omega) (by omega)
    · rw [if_neg (fun hh => h3 ⟨hh.1, hh.2.1⟩), if_neg h3, List.nil_append]
      exact ih d (l + 1) Ls (by omega) (by omega) (by omega) (by omega)
theorem whL_eq (k : Nat) {x most : Int} (n : Nat) (hn : n ≤ 12) (hx2 : 2 ≤ x) (hx3 : x ≤ 3) (hm1 : 1 ≤ most) (hm8 : most ≤ 8) (hp : ∀ e, 0 ≤ e → e ≤ 8 → impl_power.f k x e = some (x ^ e.toNat)) :
    ∀ (r R : Nat) (done : List Int) (l left : Int) (Ls : List (List Int)), r < R → done.length + r = n → 1 ≤ l → l ≤ 9 → 0 ≤ left → left ≤ 1000000 → Ls.length + (allK x most r l left done).length ≤ 1000000 → whL k (n : Int) most x R done l left Ls = some (Ls ++ allK x most r l left done) := by
  intro r
  induction r with
  | zero =>
    intro R done l left Ls hR hd h1 h9 h0 hl hb
    obtain ⟨R, rfl⟩ : ∃ q, R = q + 1 := ⟨R - 1, by omega⟩
    unfold whL allK
    rw [if_pos (by omega), if_pos (by omega)]
    by_cases hz : left = 0
    · rw [if_pos hz, if_pos hz]
    · rw [if_neg hz, if_neg hz, List.append_nil]
  | succ r ih =>
    intro R done l left Ls hR hd h1 h9 h0 hl hb
    obtain ⟨R, rfl⟩ : ∃ q, R = q + 1 := ⟨R - 1, by omega⟩
    unfold whL
    rw [if_pos (by omega), if_neg (by omega)]
    unfold allK at hb ⊢
    exact whF_eq _ _ (n : Int) done r hx2 hx3 hm1 hm8 ⟨h0, hl⟩ (by omega) hp (by omega) (fun l' left' Ls' a1 a2 a3 a4 a5 => ih R (done ++ [l']) l' left' Ls' (by omega) (by simp; omega) (by omega) (by omega) a3 a4 a5) _ 10 l Ls (by omega) rfl h1 hb
theorem ipow_all {x : Int} (h2 : 2 ≤ x) (h3 : x ≤ 3) : ∃ K, ∀ k, K ≤ k → ∀ e, 0 ≤ e → e ≤ 8 → impl_power.f k x e = some (x ^ e.toNat) := by
  have h : ∀ B : Nat, B ≤ 9 → ∃ K, ∀ k, K ≤ k → ∀ e : Nat, e < B → impl_power.f k x (e : Int) = some (x ^ e) := by
    intro B
    induction B with
    | zero => intro _; exact ⟨0, fun k _ e he => absurd he (by omega)⟩
    | succ B ih =>
      intro hB
      obtain ⟨K1, hK1⟩ := ih (by omega)
      obtain ⟨K2, hK2⟩ := ipow h2 h3 (n := (B : Int)) (by omega) (by omega)
      refine ⟨max K1 K2, fun k hk e he => ?_⟩
      by_cases heq : e = B
      · subst heq
        have := hK2 k (by omega)
        rwa [Int.toNat_natCast] at this
      · exact hK1 k (by omega) e (by omega)
  obtain ⟨K, hK⟩ := h 9 (by omega)
  refine ⟨K, fun k hk e h0 h8 => ?_⟩
  have := hK k hk e.toNat (by omega)
  rwa [show ((e.toNat : Nat) : Int) = e by omega] at this
theorem whA_ev {x most : Int} (n : Nat) (hn : n ≤ 12) (hx2 : 2 ≤ x) (hx3 : x ≤ 3) (hm1 : 1 ≤ most) (hm8 : most ≤ 8) : Ev (fun k => whA k (n : Int) most x []) (allK x most n 1 (x ^ 8) []) := by
  obtain ⟨K, hK⟩ := ipow_all hx2 hx3
  refine ⟨max K 14, fun k hk => ?_⟩
  have h8 := pow8 hx2 hx3 (n := 8) (by omega)
  show whA k (n : Int) most x [] = _
  unfold whA
  rw [hK k (by omega) 8 (by omega) (by omega), Option.bind_some]
  have hb := allK_bd x most n 1 (x ^ 8) [] (by omega) (by omega) hm8
  have := whL_eq k n hn hx2 hx3 hm1 hm8 (hK k (by omega)) n k [] 1 (x ^ 8) [] (by omega) (by simp) (by omega) (by omega) (by omega) (by omega) (by simpa using hb)
  rwa [List.nil_append] at this
theorem l1Own_ret (l : List Int) (h : l.length ≤ 100) : spec_l1Own.f l = some l := by
  unfold spec_l1Own.f
  simp only [Option.bind_some, List.length_nil, List.nil_append]
  rw [if_pos (by omega)]
theorem krAll_ev {x most : Int} (hx2 : 2 ≤ x) (hx3 : x ≤ 3) (hm1 : 1 ≤ most) (hm8 : most ≤ 8) : ∀ (r : Nat) (l left : Int) (done : List Int), r ≤ 12 → 1 ≤ l → 0 ≤ left → left ≤ 1000000 → done.length + r ≤ 12 → Ev (fun k => spec_krAll.f k (r : Int) l most x left done) (allK x most r l left done) := by
  intro r
  induction r with
  | zero =>
    intro l left done hr h1 h0 hl hd
    refine Pl.succ ?_
    simp only [spec_krAll.f]
    unfold allK
    refine Pl.pos (by simp) ?_
    rw [l1Own_ret done (by omega)]
    by_cases hz : left = 0
    · exact Pl.pos hz (Ev.bind (Ev.now _) (Pl.ret (by simp [hz])))
    · exact Pl.neg hz (Pl.ret (by simp [hz]))
  | succ r ih =>
    intro l left done hr h1 h0 hl hd
    refine Pl.succ ?_
    simp only [spec_krAll.f]
    refine Pl.neg (by omega) ?_
    have hbd := allK_bd x most (r + 1) l left done (by omega) h1 hm8
    unfold allK at hbd ⊢
    have main : ∀ (e : Nat) (l : Int) (acc : List (List Int)), (most - l + 1).toNat = e → 1 ≤ l → acc.length + (allL (allK x most r) x r left done e l).length ≤ 1000000 → Ev (fun k => spec_krAll.l0 k ((r + 1 : Nat) : Int) most x left done acc l) (acc ++ allL (allK x most r) x r left done e l) := by
      intro e
      induction e with
      | zero =>
        intro l acc he h1 hb
        refine Pl.succ ?_
        simp only [spec_krAll.l0]
        unfold allL
        rw [List.append_nil]
        exact Pl.neg (by omega) (Pl.ret rfl)
      | succ e ih2 =>
        intro l acc he h1 hb
        refine Pl.succ ?_
        simp only [spec_krAll.l0]
        unfold allL at hb ⊢
        rw [Pl.w64 (n := 8 - l) (by omega) (by omega)]
        refine Pl.pos (by omega) (Ev.bind (krPow hx2 hx3 (by omega) (by omega)) ?_)
        have hq := pow8 hx2 hx3 (n := (8 - l).toNat) (by omega)
        have hi := ih l (left - x ^ (8 - l).toNat) (done ++ [l]) (by omega) h1
        generalize x ^ (8 - l).toNat = p at *
        have hmb := mul_bd (r := r + 1) (by omega) hq.1 hq.2
        rw [List.length_append] at hb
        have hskip : ¬ (p ≤ left ∧ left ≤ ((r + 1 : Nat) : Int) * p) → Ev (fun k => spec_krAll.j1 k ((r + 1 : Nat) : Int) most x left done acc l p true) (acc ++ ((if p ≤ left ∧ left ≤ ((r + 1 : Nat) : Int) * p then allK x most r l (left - p) (done ++ [l]) else []) ++ allL (allK x most r) x r left done e (l + 1))) := by
          intro hc
          rw [if_neg hc] at hb ⊢
          rw [List.nil_append]
          refine Pl.succ ?_
          simp only [spec_krAll.j1]
          rw [Pl.w64 (n := l + 1) (by omega) (by omega)]
          exact Pl.pos trivial (ih2 (l + 1) acc (by omega) (by omega) (by simp at hb; omega))
        by_cases hg : p > left
        · exact Pl.pos hg (hskip (by omega))
        · refine Pl.neg hg ?_
          rw [Pl.w64 (n := ((r + 1 : Nat) : Int) * p) (by omega) (by omega)]
          by_cases hs : ((r + 1 : Nat) : Int) * p < left
          · rw [decide_eq_true hs]
            exact hskip (by omega)
          · rw [decide_eq_false hs]
            rw [if_pos (by omega)] at hb ⊢
            refine Pl.succ ?_
            simp only [spec_krAll.j1]
            refine Pl.neg (by simp) ?_
            rw [l1Own_ret done (by omega), Pl.w64 (n := ((r + 1 : Nat) : Int) - 1) (by omega) (by omega), Pl.w64 (n := left - p) (by omega) (by omega), Pl.w64 (n := l + 1) (by omega) (by omega), show (((r + 1 : Nat) : Int) - 1) = (r : Int) by omega]
            refine Ev.bind (Ev.now _) (Pl.pos (by omega) (Ev.bind (hi (by omega) (by omega) (by simp; omega)) (Pl.pos (by omega) ?_)))
            have := ih2 (l + 1) (acc ++ allK x most r l (left - p) (done ++ [l])) (by omega) (by omega) (by rw [List.length_append]; omega)
            rwa [List.append_assoc] at this
    have := main _ l [] rfl h1 (by simpa using hbd)
    rwa [List.nil_append] at this
theorem krAsked_eq (a b c d : Int) : spec_krAsked.f a b c d = some (decide ((0 ≤ a ∧ a ≤ d) ∧ (1 ≤ b ∧ b ≤ 8) ∧ (2 ≤ c ∧ c ≤ 3))) := by
  unfold spec_krAsked.f spec_krLetters.f
  simp only [l1In_eq, Option.bind_some]
  by_cases h1 : 0 ≤ a ∧ a ≤ d
  · by_cases h2 : 1 ≤ b ∧ b ≤ 8
    · simp [h1, h2]
    · simp [h1, h2]
  · simp [h1]
theorem in_eq (a b c : Int) : impl_in.f a b c = some (decide (b ≤ a ∧ a ≤ c)) := by
  unfold impl_in.f
  by_cases h : b ≤ a
  · rw [if_pos h]; simp [h]
  · rw [if_neg h]; simp [h]
theorem areLetters_eq (a : Int) : impl_areLetters.f a = some (decide (2 ≤ a ∧ a ≤ 3)) := by
  unfold impl_areLetters.f
  rw [in_eq]
  rfl
theorem allK_row (x most : Int) : ∀ (r : Nat) (l left : Int) (done : List Int), ∀ q ∈ allK x most r l left done, q.length = done.length + r := by
  intro r
  induction r with
  | zero =>
    intro l left done q hq
    unfold allK at hq
    split at hq
    · rw [List.mem_singleton.1 hq]; rfl
    · cases hq
  | succ r ih =>
    intro l left done
    unfold allK
    generalize (most - l + 1).toNat = e
    induction e generalizing l with
    | zero => intro q hq; cases hq
    | succ e ih2 =>
      intro q hq
      unfold allL at hq
      rcases List.mem_append.1 hq with h | h
      · split at h
        · have := ih _ _ _ q h
          simp only [List.length_append, List.length_singleton] at this
          omega
        · cases h
      · exact ih2 (l + 1) q h

end Go.Proofs.Ytidjjcgfdkmefaa.X
namespace Go.Proofs.Ytidjjcgfdkmefaa.Pure
open Go.RowKit Go.Proofs.Ytidjjcgfdkmefaa.X Go.Proofs.YtidjjcgfdkmefaaW.PrintWords Go.Proofs.YtidjjcgfdkmefaaW.PrintLast Go.Proofs.Ytidjjcgfdkmefaa

theorem both (a b c : Int) : ∃ v : List (List Int) × Bool, v.1.length ≤ 1000000 ∧ (∀ r ∈ v.1, r.length ≤ 1000000) ∧ Ev (fun k => spec_AllLengths.f k a b c) v ∧ Ev (fun k => impl_AllLengths.f k a b c) v := by
  unfold spec_AllLengths.f impl_AllLengths.f
  rw [krAsked_eq, in_eq, in_eq, areLetters_eq]
  simp only [Option.bind_some]
  by_cases h1 : 0 ≤ a ∧ a ≤ 8
  · by_cases h2 : 1 ≤ b ∧ b ≤ 8
    · by_cases h3 : 2 ≤ c ∧ c ≤ 3
      · obtain ⟨n, rfl⟩ : ∃ n : Nat, a = (n : Int) := ⟨a.toNat, by omega⟩
        have h8 := pow8 h3.1 h3.2 (n := 8) (by omega)
        exact ⟨(allK c b n 1 (c ^ 8) [], true), allK_bd _ _ _ _ _ _ (by omega) (by omega) h2.2, fun r hr => by
          have := allK_row _ _ _ _ _ _ r hr
          simp only [List.length_nil] at this
          omega, Pl.pos (by simp [h1, h2, h3]) (Ev.bind (krPow h3.1 h3.2 (by omega) (by omega)) (Ev.bind (krAll_ev h3.1 h3.2 h2.1 h2.2 n 1 (c ^ 8) [] (by omega) (by omega) (by omega) (by omega) (by simp; omega)) (Pl.ret rfl))), Pl.pos (by simp [h1]) (Pl.pos (by simp [h2]) (Pl.pos (by simp [h3]) (Ev.bind (whA_ev n (by omega) h3.1 h3.2 h2.1 h2.2) (Pl.ret rfl))))⟩
      · exact ⟨([], false), by simp, by simp, Pl.neg (by simp [h3]) (Pl.ret rfl), Pl.pos (by simp [h1]) (Pl.pos (by simp [h2]) (Pl.neg (by simp [h3]) (Pl.ret rfl)))⟩
    · exact ⟨([], false), by simp, by simp, Pl.neg (by simp [h2]) (Pl.ret rfl), Pl.pos (by simp [h1]) (Pl.neg (by simp [h2]) (Pl.ret rfl))⟩
  · exact ⟨([], false), by simp, by simp, Pl.neg (by simp [h1]) (Pl.ret rfl), Pl.neg (by simp [h1]) (Pl.ret rfl)⟩
theorem FnExactAllLengths (a b c : Int) (_ : (Lit.int .i64 a).wf = true) (_ : (Lit.int .i64 b).wf = true) (_ : (Lit.int .i64 c).wf = true) : ∃ k, laws_FnExactAllLengths.f k a b c = some true := by
  refine Ev.rounds ?_
  unfold laws_FnExactAllLengths.f
  obtain ⟨⟨g, q⟩, hlen, hrow, h1, h2⟩ := both a b c
  simp only at hlen hrow
  obtain ⟨mg, e, e0, hm1, hm2⟩ := marksII g hlen hrow
  exact Ev.bind h1 (Ev.bind h2 (Ev.bind (eqIntSS g hlen hrow) (Ev.bind hm1 (Ev.bind hm2 (Pl.pos ⟨rfl, rfl, e0, rfl⟩ (Pl.ret rfl))))))

end Go.Proofs.Ytidjjcgfdkmefaa.Pure

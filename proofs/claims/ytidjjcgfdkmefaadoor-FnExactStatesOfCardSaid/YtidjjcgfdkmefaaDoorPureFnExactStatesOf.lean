/- StatesOf: the program's answer is the reference's, for all arguments; no condition. (All that the proof needs of plain lists stands ahead.) -/
import Derived.Test.YtidjjcgfdkmefaaDoorPl
import Derived.Lib.Bytealg
import Derived.Lib.SlicesCompact
import Derived.Sort.Statements
import Derived.Lib.SlicesS
import Derived.Test.YtidjjcgfdkmefaaDoorXx1
import Derived.Test.YtidjjcgfdkmefaaDoorXx2
import Derived.Test.YtidjjcgfdkmefaaDoorXx3
import Derived.Test.YtidjjcgfdkmefaaDoorXx4
import Derived.Test.YtidjjcgfdkmefaaDoorXx5
import Derived.Test.YtidjjcgfdkmefaaDoorXx6
import Derived.Test.YtidjjcgfdkmefaaDoorXx7
import Derived.Test.YtidjjcgfdkmefaaDoorXx8
import Derived.Test.YtidjjcgfdkmefaaDoorXx9
import Derived.Test.YtidjjcgfdkmefaaDoorXx10
import Derived.Test.YtidjjcgfdkmefaaDoorXx11
import Derived.Test.YtidjjcgfdkmefaaDoorXx12
import Derived.Test.YtidjjcgfdkmefaaDoorXx13
import Derived.Test.YtidjjcgfdkmefaaDoorXx14
namespace Go.Proofs.YtidjjcgfdkmefaaDoor.X
open Go.RowKit Go.Proofs.YtidjjcgfdkmefaaDoorW.PrintWords Go.Proofs.YtidjjcgfdkmefaaDoorW.PrintLast Go.Proofs.YtidjjcgfdkmefaaDoorW.PrintMore Go.Proofs.YtidjjcgfdkmefaaDoor

theorem power_l (x : Int) (hx : 1 ≤ x) (m : Nat) (hm : m ≤ 1000) (n : Nat) : ∀ (i : Nat) (acc : Int), i + n = m → 0 ≤ acc → acc * x ^ n ≤ 4611686018427387904 → Ev (fun k => impl_power.l0 k x acc (m : Int) (i : Int)) (acc * x ^ n) := by
  induction n with
  | zero =>
    intro i acc hi h0 hb
    refine Pl.succ ?_
    simp only [impl_power.l0]
    exact Pl.neg (by omega) (Pl.ret (by simp))
  | succ n ih =>
    intro i acc hi h0 hb
    have hp : (1 : Int) ≤ x ^ n := by
      have : (0 : Int) < x ^ n := Int.pow_pos (by omega)
      omega
    have e : acc * x ^ (n + 1) = acc * x * x ^ n := by rw [Int.pow_succ, Int.mul_assoc, Int.mul_comm x, ← Int.mul_assoc]
    have h1 : 0 ≤ acc * x := Int.mul_nonneg h0 (by omega)
    have h2 : acc * x ≤ acc * x * x ^ n := by
      have := Int.mul_le_mul_of_nonneg_left hp h1
      omega
    rw [e] at hb ⊢
    refine Pl.succ ?_
    simp only [impl_power.l0]
    refine Pl.pos (by omega) ?_
    rw [Pl.w64 (n := (i : Int) + 1) (by omega) (by omega), Pl.w64 (n := acc * x) (by omega) (by omega)]
    exact ih (i + 1) (acc * x) (by omega) h1 hb
theorem power (x : Int) (hx : 1 ≤ x) (n : Nat) (hn : n ≤ 1000) (hb : x ^ n ≤ 4611686018427387904) : Ev (fun k => impl_power.f k x (n : Int)) (x ^ n) := by
  unfold impl_power.f
  exact Pl.via (power_l x hx n hn n 0 1 (by omega) (by omega) (by omega)) (by omega)
theorem pow8 {x : Int} (h2 : 2 ≤ x) (h3 : x ≤ 3) {n : Nat} (hn : n ≤ 8) : 1 ≤ x ^ n ∧ x ^ n ≤ 6561 := by
  have h : x = 2 ∨ x = 3 := by omega
  have hn' : n = 0 ∨ n = 1 ∨ n = 2 ∨ n = 3 ∨ n = 4 ∨ n = 5 ∨ n = 6 ∨ n = 7 ∨ n = 8 := by omega
  rcases h with rfl | rfl <;> rcases hn' with rfl | rfl | rfl | rfl | rfl | rfl | rfl | rfl | rfl <;> decide
theorem ipow {x : Int} (h2 : 2 ≤ x) (h3 : x ≤ 3) {n : Int} (h0 : 0 ≤ n) (hn : n ≤ 8) : Ev (fun k => impl_power.f k x n) (x ^ n.toNat) := by
  have := power x (by omega) n.toNat (by omega) (by have := pow8 h2 h3 (n := n.toNat) (by omega); omega)
  rwa [show ((n.toNat : Nat) : Int) = n by omega] at this

def shares (x : Int) (l : List Int) : Int := (l.map fun n => x ^ (8 - n).toNat).sum
def okLen (l : List Int) : Prop := l.length ≤ 12 ∧ ∀ n ∈ l, 1 ≤ n ∧ n ≤ 8
theorem shares_nil (x : Int) : shares x [] = 0 := rfl
theorem shares_cons (x n : Int) (l : List Int) : shares x (n :: l) = x ^ (8 - n).toNat + shares x l := by simp [shares]
theorem shares_bd {x : Int} (h2 : 2 ≤ x) (h3 : x ≤ 3) (l : List Int) (h : ∀ n ∈ l, 1 ≤ n ∧ n ≤ 8) : 0 ≤ shares x l ∧ shares x l ≤ 6561 * l.length := by
  induction l with
  | nil => simp [shares]
  | cons a l ih =>
    have h1 := ih (fun n hn => h n (List.mem_cons_of_mem _ hn))
    have ha := h a List.mem_cons_self
    have hp := pow8 h2 h3 (n := (8 - a).toNat) (by omega)
    rw [shares_cons, List.length_cons]
    omega
theorem drop_cons {α : Type} (l : List α) (i : Nat) (h : i < l.length) : l.drop i = l[i] :: l.drop (i + 1) := List.drop_eq_getElem_cons h
theorem parts_l {x : Int} (h2 : 2 ≤ x) (h3 : x ≤ 3) (l : List Int) (hl : okLen l) (d : Nat) : ∀ (i : Nat) (acc : Int), l.length - i = d → i ≤ l.length → 0 ≤ acc → acc ≤ 6561 * i →
    Ev (fun k => impl_parts.l0 k x acc l (l.length : Int) (i : Int)) (acc + shares x (l.drop i)) := by
  have hl1 := hl.1
  induction d with
  | zero =>
    intro i acc hd hi h0 hb
    refine Pl.succ ?_
    simp only [impl_parts.l0]
    exact Pl.neg (by omega) (Pl.ret (by rw [List.drop_of_length_le (by omega), shares_nil]; omega))
  | succ d ih =>
    intro i acc hd hi h0 hb
    have hm := hl.2 l[i] (List.getElem_mem (by omega))
    have hp := pow8 h2 h3 (n := (8 - l[i]).toNat) (by omega)
    refine Pl.succ ?_
    simp only [impl_parts.l0]
    refine Pl.pos (by omega) (Pl.pos (by omega) (Pl.pos (by omega) ?_))
    rw [Pl.rd_nat _ _ (by omega), Pl.w64 (n := 8 - l[i]) (by omega) (by omega), Pl.w64 (n := (i : Int) + 1) (by omega) (by omega)]
    refine Ev.bind (ipow h2 h3 (by omega) (by omega)) ?_
    rw [Pl.w64 (by omega) (by omega)]
    refine Pl.via (ih (i + 1) _ (by omega) (by omega) (by omega) (by omega)) ?_
    rw [drop_cons l i (by omega), shares_cons]
    omega
theorem iparts {x : Int} (h2 : 2 ≤ x) (h3 : x ≤ 3) (l : List Int) (hl : okLen l) : Ev (fun k => impl_parts.f k l x) (shares x l) := by
  unfold impl_parts.f
  exact Pl.via (parts_l h2 h3 l hl l.length 0 0 (by omega) (by omega) (by omega) (by omega)) (by simp)

end Go.Proofs.YtidjjcgfdkmefaaDoor.X
namespace Go.Proofs.YtidjjcgfdkmefaaDoor.X

/-- Words that go on with one letter, without it. -/
def der (c : UInt8) (L : List (List UInt8)) : List (List UInt8) := L.filterMap fun s => match s with
  | [] => none
  | a :: t => if a = c then some t else none
def PF (L : List (List UInt8)) : Prop := L.Pairwise fun a b => ¬ a <+: b ∧ ¬ b <+: a
def kr (x : Int) (d : Nat) (L : List (List UInt8)) : Int := (L.map fun s => x ^ (d - s.length)).sum
def comp (C : List UInt8) : Nat → List (List UInt8) → Prop
  | 0, L => [] ∈ L
  | d + 1, L => [] ∈ L ∨ ∀ c ∈ C, comp C d (der c L)
def inn (L : List (List UInt8)) (u : List UInt8) : Prop := ∃ t, t ≠ [] ∧ u ++ t ∈ L
def closed (C : List UInt8) (L : List (List UInt8)) : Prop := L ≠ [] ∧ ∀ u c, c ∈ C → inn L u → (inn L (u ++ [c]) ∨ u ++ [c] ∈ L)
theorem mem_der (c : UInt8) (L : List (List UInt8)) (t : List UInt8) : t ∈ der c L ↔ c :: t ∈ L := by
  unfold der
  rw [List.mem_filterMap]
  constructor
  · rintro ⟨s, hs, h⟩
    cases s with
    | nil => cases h
    | cons a r =>
      simp only at h
      split at h
      · rename_i e
        obtain rfl := Option.some.inj h
        rw [← e]; exact hs
      · cases h
  · intro h
    exact ⟨c :: t, h, by simp⟩
theorem der_cons_eq (c : UInt8) (t : List UInt8) (L : List (List UInt8)) : der c ((c :: t) :: L) = t :: der c L := by simp [der]
theorem der_cons_ne {c a : UInt8} (h : a ≠ c) (t : List UInt8) (L : List (List UInt8)) : der c ((a :: t) :: L) = der c L := by simp [der, h]
theorem pf_der (c : UInt8) : ∀ {L : List (List UInt8)}, PF L → PF (der c L)
  | [], _ => List.Pairwise.nil
  | s :: L, h => by
    have h1 := List.pairwise_cons.1 h
    have ih := pf_der c h1.2
    cases s with
    | nil => simpa [der] using ih
    | cons a t =>
      by_cases e : a = c
      · subst e
        rw [der_cons_eq]
        refine List.pairwise_cons.2 ⟨fun b hb => ?_, ih⟩
        have := h1.1 _ ((mem_der _ _ _).1 hb)
        rw [List.prefix_cons_inj, List.prefix_cons_inj] at this
        exact this
      · rw [der_cons_ne e]; exact ih
theorem pf_nil : ∀ {L : List (List UInt8)}, PF L → [] ∈ L → L = [[]]
  | [], _, h => by cases h
  | s :: L, h, hm => by
    have h1 := List.pairwise_cons.1 h
    rcases List.mem_cons.1 hm with rfl | hm
    · cases L with
      | nil => rfl
      | cons b L => exact absurd (List.nil_prefix) (h1.1 b List.mem_cons_self).1
    · exact absurd (List.nil_prefix) (h1.1 _ hm).2
theorem sum_upd (a : UInt8) (v : Int) (f g : UInt8 → Int) (hg : ∀ c, c ≠ a → g c = f c) (ha : g a = v + f a) : ∀ (C : List UInt8), C.Nodup → a ∈ C → (C.map g).sum = v + (C.map f).sum
  | [], _, h => by cases h
  | c :: C, hn, hm => by
    have hn' := List.nodup_cons.1 hn
    rw [List.map_cons, List.map_cons, List.sum_cons, List.sum_cons]
    by_cases e : c = a
    · subst e
      have : C.map g = C.map f := List.map_congr_left fun q hq => hg q (fun e => hn'.1 (e ▸ hq))
      rw [this, ha]; omega
    · rw [sum_upd a v f g hg ha C hn'.2 ((List.mem_cons.1 hm).resolve_left (Ne.symm e)), hg c e]; omega
theorem sum_all (f : UInt8 → Int) (B : Int) : ∀ (C : List UInt8), (∀ c ∈ C, f c ≤ B) → (C.map f).sum ≤ (C.length : Int) * B ∧ ((C.map f).sum = (C.length : Int) * B ↔ ∀ c ∈ C, f c = B)
  | [], _ => by simp
  | c :: C, h => by
    have ih := sum_all f B C fun q hq => h q (List.mem_cons_of_mem _ hq)
    have hc := h c List.mem_cons_self
    have e : ((c :: C).length : Int) * B = B + (C.length : Int) * B := by rw [List.length_cons, Int.natCast_add, Int.add_mul]; simp; omega
    rw [List.map_cons, List.sum_cons, e]
    refine ⟨by omega, fun he q hq => ?_, fun ha => ?_⟩
    · rcases List.mem_cons.1 hq with rfl | hq
      · omega
      · exact ih.2.1 (by omega) q hq
    · have := ih.2.2 fun q hq => ha q (List.mem_cons_of_mem _ hq)
      have := ha c List.mem_cons_self
      omega
theorem kr_split (x : Int) (d : Nat) (C : List UInt8) (hC : C.Nodup) : ∀ (L : List (List UInt8)), [] ∉ L → (∀ s ∈ L, ∀ b ∈ s, b ∈ C) → kr x (d + 1) L = (C.map fun c => kr x d (der c L)).sum
  | [], _, _ => by
    have : ∀ C : List UInt8, (C.map fun c => kr x d (der c [])).sum = 0 := by
      intro C
      induction C with
      | nil => rfl
      | cons c C ih => rw [List.map_cons, List.sum_cons, ih]; rfl
    rw [this]; rfl
  | s :: L, h0, hl => by
    have ih := kr_split x d C hC L (fun h => h0 (List.mem_cons_of_mem _ h)) (fun s hs => hl s (List.mem_cons_of_mem _ hs))
    cases s with
    | nil => exact absurd List.mem_cons_self h0
    | cons a t =>
      have ha : a ∈ C := hl _ List.mem_cons_self a List.mem_cons_self
      rw [sum_upd a (x ^ (d - t.length)) (fun c => kr x d (der c L)) (fun c => kr x d (der c ((a :: t) :: L))) (fun c hc => by simp only [der_cons_ne (Ne.symm hc)]) (by simp only [der_cons_eq]; unfold kr; rw [List.map_cons, List.sum_cons]) C hC ha, ← ih]
      unfold kr
      rw [List.map_cons, List.sum_cons, List.length_cons, Nat.add_sub_add_right]
theorem comp_ne {C : List UInt8} (hC : C ≠ []) : ∀ d, ¬ comp C d []
  | 0, h => by cases h
  | d + 1, h => by
    rcases h with h | h
    · cases h
    · cases C with
      | nil => exact hC rfl
      | cons c C => exact comp_ne hC d (h c List.mem_cons_self)
theorem kraft {C : List UInt8} (hC : C.Nodup) (hC0 : C ≠ []) : ∀ (d : Nat) (L : List (List UInt8)), PF L → (∀ s ∈ L, s.length ≤ d) → (∀ s ∈ L, ∀ b ∈ s, b ∈ C) → kr (C.length : Int) d L ≤ (C.length : Int) ^ d ∧ (kr (C.length : Int) d L = (C.length : Int) ^ d ↔ comp C d L)
  | 0, L, hp, hd, hl => by
    cases L with
    | nil => exact ⟨by simp [kr], by simp [kr, comp]⟩
    | cons s L =>
      have hs : s = [] := List.eq_nil_of_length_eq_zero (by have := hd s List.mem_cons_self; omega)
      subst hs
      have := pf_nil hp List.mem_cons_self
      rw [this]
      simp [kr, comp]
  | d + 1, L, hp, hd, hl => by
    by_cases h0 : [] ∈ L
    · have := pf_nil hp h0
      subst this
      exact ⟨by simp [kr], by simp [kr, comp]⟩
    · have ih := fun c => kraft hC hC0 d (der c L) (pf_der c hp) (fun t ht => by
        have := hd _ ((mem_der _ _ _).1 ht)
        rw [List.length_cons] at this
        omega) (fun t ht b hb => hl _ ((mem_der _ _ _).1 ht) b (List.mem_cons_of_mem _ hb))
      have hs := sum_all (fun c => kr (C.length : Int) d (der c L)) ((C.length : Int) ^ d) C (fun c _ => (ih c).1)
      rw [kr_split _ d C hC L h0 hl, Int.pow_succ, Int.mul_comm]
      refine ⟨hs.1, hs.2.trans ?_⟩
      unfold comp
      exact ⟨fun h => .inr fun c hc => (ih c).2.1 (h c hc), fun h c hc => (ih c).2.2 (h.resolve_left h0 c hc)⟩
theorem comp_closed {C : List UInt8} (hC0 : C ≠ []) : ∀ (d : Nat) (L : List (List UInt8)), PF L → (∀ s ∈ L, s.length ≤ d) → (∀ s ∈ L, ∀ b ∈ s, b ∈ C) → (comp C d L ↔ closed C L)
  | 0, L, hp, hd, hl => by
    unfold comp closed
    constructor
    · intro h
      refine ⟨fun e => absurd h (by rw [e]; exact List.not_mem_nil), fun u c _ hu => ?_⟩
      obtain ⟨t, ht, hm⟩ := hu
      have := hd _ hm
      rw [List.length_append] at this
      exact absurd (List.eq_nil_of_length_eq_zero (by omega)) ht
    · rintro ⟨h, _⟩
      cases L with
      | nil => exact absurd rfl h
      | cons s L =>
        have hs : s = [] := List.eq_nil_of_length_eq_zero (by have := hd s List.mem_cons_self; omega)
        rw [hs]; exact List.mem_cons_self
  | d + 1, L, hp, hd, hl => by
    have ih := fun c => comp_closed hC0 d (der c L) (pf_der c hp) (fun t ht => by
        have := hd _ ((mem_der _ _ _).1 ht)
        rw [List.length_cons] at this
        omega) (fun t ht b hb => hl _ ((mem_der _ _ _).1 ht) b (List.mem_cons_of_mem _ hb))
    by_cases h0 : [] ∈ L
    · have := pf_nil hp h0
      subst this
      refine ⟨fun _ => ⟨by simp, fun u c _ hu => ?_⟩, fun _ => .inl h0⟩
      obtain ⟨t, ht, hm⟩ := hu
      have := List.mem_singleton.1 hm
      exact absurd (List.append_eq_nil_iff.1 this).2 ht
    · unfold comp
      constructor
      · intro h
        have h := h.resolve_left h0
        have hne : L ≠ [] := fun e => by
          subst e
          cases C with
          | nil => exact hC0 rfl
          | cons c C => exact comp_ne hC0 d (h c List.mem_cons_self)
        refine ⟨hne, fun u c hc hu => ?_⟩
        cases u with
        | nil =>
          have := ((ih c).1 (h c hc)).1
          cases hq : der c L with
          | nil => exact absurd hq this
          | cons t T =>
            have hm := (mem_der c L t).1 (by rw [hq]; exact List.mem_cons_self)
            cases t with
            | nil => exact .inr hm
            | cons b t => exact .inl ⟨b :: t, by simp, hm⟩
        | cons a u =>
          obtain ⟨t, ht, hm⟩ := hu
          have ha : a ∈ C := hl _ hm a (by simp)
          rcases ((ih a).1 (h a ha)).2 u c hc ⟨t, ht, (mem_der _ _ _).2 hm⟩ with ⟨t', ht', hm'⟩ | hm'
          · exact .inl ⟨t', ht', (mem_der _ _ _).1 hm'⟩
          · exact .inr ((mem_der _ _ _).1 hm')
      · rintro ⟨hne, hcl⟩
        refine .inr fun c hc => (ih c).2 ⟨?_, fun u c' hc' hu => ?_⟩
        · have hin : inn L [] := by
            cases L with
            | nil => exact absurd rfl hne
            | cons s L => exact ⟨s, fun e => h0 (by rw [e]; exact List.mem_cons_self), List.mem_cons_self⟩
          rcases hcl [] c hc hin with ⟨t, _, hm⟩ | hm
          · intro e
            have := (mem_der c L t).2 hm
            rw [e] at this; cases this
          · intro e
            have := (mem_der c L []).2 hm
            rw [e] at this; cases this
        · obtain ⟨t, ht, hm⟩ := hu
          rcases hcl (c :: u) c' hc' ⟨t, ht, (mem_der _ _ _).1 hm⟩ with ⟨t', ht', hm'⟩ | hm'
          · exact .inl ⟨t', ht', (mem_der _ _ _).2 hm'⟩
          · exact .inr ((mem_der _ _ _).2 hm')
/-- The shares of a set without beginnings fill all up iff each inner word has all its letters. -/
theorem kraft_closed {C : List UInt8} (hC : C.Nodup) (hC0 : C ≠ []) (d : Nat) (L : List (List UInt8)) (hp : PF L) (hd : ∀ s ∈ L, s.length ≤ d) (hl : ∀ s ∈ L, ∀ b ∈ s, b ∈ C) : kr (C.length : Int) d L = (C.length : Int) ^ d ↔ closed C L :=
  (kraft hC hC0 d L hp hd hl).2.trans (comp_closed hC0 d L hp hd hl)

end Go.Proofs.YtidjjcgfdkmefaaDoor.X
namespace Go.Proofs.YtidjjcgfdkmefaaDoor.X
open Go.RowKit Go.Proofs.YtidjjcgfdkmefaaDoorW.PrintWords Go.Proofs.YtidjjcgfdkmefaaDoorW.PrintLast Go.Proofs.YtidjjcgfdkmefaaDoorW.PrintMore Go.Proofs.YtidjjcgfdkmefaaDoor

/-- A text's bytes. -/
abbrev bts (s : ByteArray) : List UInt8 := s.data.toList
theorem bts_len (s : ByteArray) : (bts s).length = s.size := by rw [bts, Array.length_toList]; rfl
theorem bt_nat (s : ByteArray) (i : Nat) (h : i < s.size) : bt s (i : Int) = (((bts s)[i]'(by rw [bts_len]; exact h)).toNat : Int) := by
  unfold bt
  rw [dif_pos (by simpa using h)]
  simp only [Int.toNat_natCast, bts, Array.getElem_toList]
  rfl
theorem isL_iff (b : UInt8) : isL b = true ↔ 97 ≤ b.toNat ∧ b.toNat ≤ 99 := by
  simp only [isL, Bool.or_eq_true, beq_iff_eq, ← UInt8.toNat_inj]
  show ((b.toNat = 97 ∨ b.toNat = 98) ∨ b.toNat = 99) ↔ _
  omega
theorem drop_cons' {α : Type} (l : List α) (i : Nat) (h : i < l.length) : l.drop i = l[i] :: l.drop (i + 1) := List.drop_eq_getElem_cons h
theorem wdIs_l (s : ByteArray) (hs : s.size ≤ 4611686018427387904) (d : Nat) : ∀ i : Nat, s.size - i = d → i ≤ s.size → Ev (fun k => spec_wdIs.l0 k s (i : Int)) (((bts s).drop i).all isL) := by
  induction d with
  | zero =>
    intro i hd hi
    refine Pl.succ ?_
    simp only [spec_wdIs.l0]
    exact Pl.neg (by omega) (Pl.ret (by rw [List.drop_of_length_le (by rw [bts_len]; omega)]; rfl))
  | succ d ih =>
    intro i hd hi
    have hl : i < (bts s).length := by rw [bts_len]; omega
    rw [drop_cons' _ i hl, List.all_cons]
    refine Pl.succ ?_
    simp only [spec_wdIs.l0]
    rw [bt_nat s i (by omega), Pl.w64 (by omega) (by omega)]
    have hb : ((bts s)[i]).toNat < 256 := UInt8.toNat_lt _
    have hL := isL_iff ((bts s)[i])
    refine Pl.pos (by omega) (Pl.pos (by omega) ?_)
    cases hq : isL ((bts s)[i]) with
    | true =>
      have := hL.1 hq
      exact Pl.neg (by omega) (Pl.neg (by omega) (ih (i + 1) (by omega) (by omega)))
    | false =>
      have hn : ¬ (97 ≤ ((bts s)[i]).toNat ∧ ((bts s)[i]).toNat ≤ 99) := fun h => by rw [hL.2 h] at hq; cases hq
      rw [Bool.false_and]
      by_cases h1 : (((bts s)[i]).toNat : Int) < 97
      · exact Pl.pos h1 (Pl.ret rfl)
      · exact Pl.neg h1 (Pl.pos (by omega) (Pl.ret rfl))
theorem wdIs (s : ByteArray) (hs : s.size ≤ 4611686018427387904) : Ev (fun k => spec_wdIs.f k s) ((bts s).all isL) := by
  unfold spec_wdIs.f
  exact wdIs_l s hs s.size 0 (by omega) (by omega)
/-- The text is a word. -/
def wgood (s : ByteArray) : Bool := decide (s.size ≤ 60) && (bts s).all isL
theorem isWord_eq (s : ByteArray) : impl_isWord.f s = some (wgood s) := rfl
theorem wgood_size {s : ByteArray} (h : wgood s = true) : s.size ≤ 60 := by
  simp only [wgood, Bool.and_eq_true, decide_eq_true_eq] at h
  exact h.1

end Go.Proofs.YtidjjcgfdkmefaaDoor.X
namespace Go.Proofs.YtidjjcgfdkmefaaDoor.X
open Go.RowKit Go.Proofs.YtidjjcgfdkmefaaDoorW.PrintWords Go.Proofs.YtidjjcgfdkmefaaDoorW.PrintLast Go.Proofs.YtidjjcgfdkmefaaDoorW.PrintMore Go.Proofs.YtidjjcgfdkmefaaDoor

/-- One word comes before another one. -/
def wless (s t : ByteArray) : Bool := decide (s.size < t.size) || (decide (s.size = t.size) && Op.bytesLess (bts s) (bts t))
/-- The comparison as a number. -/
def cmpW (s t : ByteArray) : Int := if s.size < t.size then -1 else if t.size < s.size then 1 else Lib.compareBytes (bts s) (bts t)
theorem u8_lt_iff (a b : UInt8) : a < b ↔ a.toNat < b.toNat := UInt8.lt_iff_toNat_lt
theorem cmpB_neg : ∀ x y : List UInt8, decide (Lib.compareBytes x y < 0) = Op.bytesLess x y
  | [], [] => by simp [Lib.compareBytes, Op.bytesLess]
  | [], _ :: _ => by simp [Lib.compareBytes, Op.bytesLess]
  | _ :: _, [] => by simp [Lib.compareBytes, Op.bytesLess]
  | a :: x, b :: y => by
    have ih := cmpB_neg x y
    rw [Lib.compareBytes, Op.bytesLess]
    by_cases h1 : a < b
    · simp [h1]
    · by_cases h2 : b < a
      · have h3 : ¬ a = b := by
          rintro rfl
          rw [u8_lt_iff] at h2
          omega
        simp [h1, h2, h3]
      · have h3 : a = b := by
          rw [u8_lt_iff] at h1 h2
          exact UInt8.toNat_inj.1 (by omega)
        subst h3
        simp only [h1, if_false, ih, beq_self_eq_true, Bool.true_and, decide_false, Bool.false_or]
theorem cmpW_neg (s t : ByteArray) : decide (cmpW s t < 0) = wless s t := by
  unfold cmpW wless
  by_cases h1 : s.size < t.size
  · simp [h1]
  · by_cases h2 : t.size < s.size
    · have : ¬ s.size = t.size := by omega
      simp [h1, h2, this]
    · have : s.size = t.size := by omega
      rw [if_neg h1, if_neg h2, cmpB_neg, decide_eq_false h1, decide_eq_true this]
      rfl
theorem wdLess_eq (s t : ByteArray) : spec_wdLess.f s t = some (wless s t) := by
  unfold spec_wdLess.f wless
  by_cases h1 : s.size < t.size
  · rw [if_pos (by omega), decide_eq_true h1]; rfl
  · rw [if_neg (by omega), decide_eq_false h1]
    by_cases h2 : s.size = t.size
    · rw [if_pos (by omega), decide_eq_true h2, Pl.toL, Pl.toL]; rfl
    · rw [if_neg (by omega), decide_eq_false h2]; rfl
theorem cmpInt_eq (a b : Int) : cmp_Compare_int.f a b = some (if a < b then -1 else if a > b then 1 else 0) := by
  unfold cmp_Compare_int.f cmp_isNaN_int.f
  by_cases h1 : a < b
  · simp [h1]
  · by_cases h2 : a > b
    · simp [h1, h2]
    · simp [h1, h2]
theorem cmpOr (a b : Int) : Ev (fun k => cmp_Or_int.f k [a, b]) (if a = 0 then b else a) := by
  have r0 : rd [a, b] (0 : Int) = a := rfl
  have r1 : rd [a, b] (1 : Int) = b := rfl
  unfold cmp_Or_int.f
  refine Pl.succ ?_
  simp only [cmp_Or_int.l0, List.length_cons, List.length_nil, r0]
  refine Pl.pos (by omega) (Pl.pos (by omega) (Pl.pos (by omega) ?_))
  by_cases h : a = 0
  · rw [if_pos h]
    refine Pl.pos h (Pl.succ ?_)
    rw [Pl.w64 (by omega) (by omega)]
    simp only [cmp_Or_int.l0, Int.zero_add, r1, List.length_cons, List.length_nil]
    refine Pl.pos (by omega) (Pl.pos (by omega) (Pl.pos (by omega) ?_))
    by_cases h2 : b = 0
    · refine Pl.pos h2 (Pl.succ ?_)
      rw [Pl.w64 (by omega) (by omega)]
      simp only [cmp_Or_int.l0]
      exact Pl.neg (by omega) (Pl.ret h2.symm)
    · exact Pl.neg h2 (Pl.ret rfl)
  · rw [if_neg h]
    exact Pl.neg h (Pl.ret rfl)
theorem compareWords (s t : ByteArray) : Ev (fun k => impl_compareWords.f k s t) (cmpW s t) := by
  unfold impl_compareWords.f cmpW
  simp only [cmpInt_eq, strings_Compare.f, Option.bind_some]
  refine Ev.bind (cmpOr _ _) (Pl.ret ?_)
  by_cases h1 : s.size < t.size
  · have e1 : (s.size : Int) < t.size := by omega
    simp [h1, e1]
  · have e1 : ¬ (s.size : Int) < t.size := by omega
    by_cases h2 : t.size < s.size
    · have e2 : (t.size : Int) < s.size := by omega
      simp [h1, e1, h2, e2]
    · have e2 : ¬ (t.size : Int) < s.size := by omega
      simp [h1, e1, h2, e2]

end Go.Proofs.YtidjjcgfdkmefaaDoor.X
namespace Go.Proofs.YtidjjcgfdkmefaaDoor.X
open Go.RowKit Go.Proofs.YtidjjcgfdkmefaaDoorW.PrintWords Go.Proofs.YtidjjcgfdkmefaaDoorW.PrintLast Go.Proofs.YtidjjcgfdkmefaaDoorW.PrintMore Go.Proofs.YtidjjcgfdkmefaaDoor

theorem l1In_eq' (a b c : Int) : spec_l1In.f a b c = some (decide (b ≤ a ∧ a ≤ c)) := by
  unfold spec_l1In.f
  by_cases h : b ≤ a
  · rw [if_pos h]; simp [h]
  · rw [if_neg h]; simp [h]
theorem in_eq' (a b c : Int) : impl_in.f a b c = some (decide (b ≤ a ∧ a ≤ c)) := by
  unfold impl_in.f
  by_cases h : b ≤ a
  · rw [if_pos h]; simp [h]
  · rw [if_neg h]; simp [h]
/-- The text may be in a set. -/
def wshort (s : ByteArray) : Bool := decide (1 ≤ s.size ∧ s.size ≤ 8) && (bts s).all isL
theorem wdShort (s : ByteArray) : Ev (fun k => spec_wdShort.f k s) (wshort s) := by
  unfold spec_wdShort.f wshort
  simp only [l1In_eq', Option.bind_some]
  by_cases h : 1 ≤ s.size ∧ s.size ≤ 8
  · rw [decide_eq_true h, Bool.true_and]
    exact Pl.pos (decide_eq_true (by omega)) (Ev.bind (wdIs s (by omega)) (Pl.ret rfl))
  · rw [decide_eq_false h, Bool.false_and]
    exact Pl.neg (by rw [decide_eq_false (by omega)]; decide) (Pl.ret rfl)
theorem isShort_eq (s : ByteArray) : impl_isShort.f s = some (wshort s) := by
  unfold impl_isShort.f wshort
  rw [isWord_eq]
  simp only [in_eq', Option.bind_some]
  unfold wgood
  cases h1 : (bts s).all isL
  · simp
  · by_cases h : 1 ≤ s.size ∧ s.size ≤ 8
    · rw [decide_eq_true h, decide_eq_true (show s.size ≤ 60 by omega)]
      rw [if_pos (by rfl), decide_eq_true (by omega)]; rfl
    · rw [decide_eq_false h]
      by_cases h60 : s.size ≤ 60
      · rw [decide_eq_true h60, if_pos (by rfl), decide_eq_false (by omega)]; rfl
      · rw [decide_eq_false h60, if_neg (by decide)]; rfl
/-- The list is a set. -/
def wset (l : List ByteArray) : Prop := l.length ≤ 12 ∧ (∀ i (h : i < l.length), wshort l[i] = true) ∧ ∀ i (h : i + 1 < l.length), wless l[i] l[i + 1] = true
noncomputable instance (l : List ByteArray) : Decidable (wset l) := Classical.propDecidable _
theorem wdSet_l (l : List ByteArray) (hl : l.length ≤ 12) (d : Nat) : ∀ i, l.length - i = d → i ≤ l.length → (∀ j (h : j < l.length), j < i → wshort l[j] = true) → (∀ j (h : j + 1 < l.length), j + 1 < i → wless l[j] l[j + 1] = true) →
    Ev (fun k => spec_wdSet.l0 k l l (l.length : Int) (i : Int)) (decide (wset l)) := by
  induction d with
  | zero =>
    intro i hd hi h1 h2
    refine Pl.succ ?_
    simp only [spec_wdSet.l0]
    exact Pl.neg (by omega) (Pl.ret (decide_eq_true ⟨hl, fun j h => h1 j h (by omega), fun j h => h2 j h (by omega)⟩).symm)
  | succ d ih =>
    intro i hd hi h1 h2
    have hil : i < l.length := by omega
    refine Pl.succ ?_
    simp only [spec_wdSet.l0, wdLess_eq, Option.bind_some]
    rw [Pl.rdS_nat _ i hil]
    refine Pl.pos (by omega) (Pl.pos (by omega) (Pl.pos (by omega) (Ev.bind (wdShort l[i]) ?_)))
    cases hs : wshort l[i] with
    | false => exact Pl.neg (by decide) (Pl.ret (decide_eq_false (fun h => by rw [h.2.1 i hil] at hs; cases hs)).symm)
    | true =>
      refine Pl.pos rfl ?_
      rw [Pl.w64 (n := (i : Int) + 1) (by omega) (by omega)]
      have hnext : (∀ j (h : j < l.length), j < i + 1 → wshort l[j] = true) := fun j h hj => by
        by_cases e : j = i
        · subst e; exact hs
        · exact h1 j h (by omega)
      cases i with
      | zero =>
        exact Pl.neg (by omega) (ih 1 (by omega) (by omega) hnext (fun j h hj => by omega))
      | succ m =>
        rw [Pl.w64 (n := ((m + 1 : Nat) : Int) - 1) (by omega) (by omega), show ((m + 1 : Nat) : Int) - 1 = (m : Int) by omega, Pl.rdS_nat _ m (by omega)]
        refine Pl.pos (by omega) (Pl.pos (by omega) (Pl.pos (by omega) ?_))
        cases hw : wless l[m] l[m + 1] with
        | false => exact Pl.neg (by decide) (Pl.ret (decide_eq_false (fun h => by rw [h.2.2 m hil] at hw; cases hw)).symm)
        | true =>
          refine Pl.pos rfl (ih (m + 1 + 1) (by omega) (by omega) hnext (fun j h hj => ?_))
          by_cases e : j = m
          · subst e; exact hw
          · exact h2 j h (by omega)
theorem wdSet (l : List ByteArray) : Ev (fun k => spec_wdSet.f k l) (decide (wset l)) := by
  unfold spec_wdSet.f
  by_cases h : l.length ≤ 12
  · exact Pl.neg (by omega) (wdSet_l l h l.length 0 (by omega) (by omega) (fun j _ hj => absurd hj (Nat.not_lt_zero _)) (fun j _ hj => absurd hj (Nat.not_lt_zero _)))
  · exact Pl.pos (by omega) (Pl.ret (decide_eq_false (fun hh => h hh.1)).symm)
theorem isSet_l (l : List ByteArray) (hl : l.length ≤ 4611686018427387904) (d : Nat) : ∀ i, l.length - i = d → i ≤ l.length → (∀ j (h : j < l.length), j < i → wshort l[j] = true) → (∀ j (h : j + 1 < l.length), j + 1 < i → wless l[j] l[j + 1] = true) →
    Ev (fun k => impl_isSet.l0 k l l (l.length : Int) (i : Int)) (decide (wset l)) := by
  induction d with
  | zero =>
    intro i hd hi h1 h2
    refine Pl.succ ?_
    simp only [impl_isSet.l0]
    refine Pl.neg (by omega) (Pl.ret ?_)
    by_cases h : l.length ≤ 12
    · rw [decide_eq_true (show (l.length : Int) ≤ 12 by omega)]
      exact (decide_eq_true ⟨h, fun j h => h1 j h (by omega), fun j h => h2 j h (by omega)⟩).symm
    · rw [decide_eq_false (show ¬ (l.length : Int) ≤ 12 by omega)]
      exact (decide_eq_false (fun hh => h hh.1)).symm
  | succ d ih =>
    intro i hd hi h1 h2
    have hil : i < l.length := by omega
    refine Pl.succ ?_
    simp only [impl_isSet.l0, isShort_eq, Option.bind_some]
    rw [Pl.rdS_nat _ i hil]
    refine Pl.pos (by omega) (Pl.pos (by omega) (Pl.pos (by omega) ?_))
    cases hs : wshort l[i] with
    | false => exact Pl.neg (by decide) (Pl.ret (decide_eq_false (fun h => by rw [h.2.1 i hil] at hs; cases hs)).symm)
    | true =>
      refine Pl.pos rfl ?_
      rw [Pl.w64 (n := (i : Int) + 1) (by omega) (by omega)]
      have hnext : (∀ j (h : j < l.length), j < i + 1 → wshort l[j] = true) := fun j h hj => by
        by_cases e : j = i
        · subst e; exact hs
        · exact h1 j h (by omega)
      cases i with
      | zero =>
        exact Pl.neg (by omega) (ih 1 (by omega) (by omega) hnext (fun j h hj => by omega))
      | succ m =>
        rw [Pl.w64 (n := ((m + 1 : Nat) : Int) - 1) (by omega) (by omega), show ((m + 1 : Nat) : Int) - 1 = (m : Int) by omega, Pl.rdS_nat _ m (by omega)]
        refine Pl.pos (by omega) (Pl.pos (by omega) (Pl.pos (by omega) (Ev.bind (compareWords _ _) ?_)))
        have hc := cmpW_neg l[m] l[m + 1]
        cases hw : wless l[m] l[m + 1] with
        | false =>
          rw [hw, decide_eq_false_iff_not] at hc
          exact Pl.pos (by omega) (Pl.ret (decide_eq_false (fun h => by rw [h.2.2 m hil] at hw; cases hw)).symm)
        | true =>
          rw [hw, decide_eq_true_eq] at hc
          refine Pl.neg (by omega) (ih (m + 1 + 1) (by omega) (by omega) hnext (fun j h hj => ?_))
          by_cases e : j = m
          · subst e; exact hw
          · exact h2 j h (by omega)
theorem isSet (l : List ByteArray) (hl : l.length ≤ 4611686018427387904) : Ev (fun k => impl_isSet.f k l) (decide (wset l)) := by
  unfold impl_isSet.f
  exact isSet_l l hl l.length 0 (by omega) (by omega) (fun j _ hj => absurd hj (Nat.not_lt_zero _)) (fun j _ hj => absurd hj (Nat.not_lt_zero _))

end Go.Proofs.YtidjjcgfdkmefaaDoor.X
namespace Go.Proofs.YtidjjcgfdkmefaaDoor.X
open Go.RowKit Go.Proofs.YtidjjcgfdkmefaaDoorW.PrintWords Go.Proofs.YtidjjcgfdkmefaaDoorW.PrintLast Go.Proofs.YtidjjcgfdkmefaaDoorW.PrintMore Go.Proofs.YtidjjcgfdkmefaaDoor

theorem bytesLess_irrefl : ∀ x : List UInt8, Op.bytesLess x x = false
  | [] => rfl
  | a :: x => by
    rw [Op.bytesLess, bytesLess_irrefl x]
    simp
theorem bytesLess_trans : ∀ x y z : List UInt8, Op.bytesLess x y = true → Op.bytesLess y z = true → Op.bytesLess x z = true
  | [], [], _, h, _ => by cases h
  | [], _ :: _, [], _, h => by cases h
  | [], _ :: _, _ :: _, _, _ => rfl
  | _ :: _, [], _, h, _ => by cases h
  | _ :: _, _ :: _, [], _, h => by cases h
  | a :: x, b :: y, c :: z, h1, h2 => by
    rw [Op.bytesLess] at h1 h2 ⊢
    simp only [Bool.or_eq_true, Bool.and_eq_true, decide_eq_true_eq, beq_iff_eq] at h1 h2 ⊢
    rcases h1 with h1 | ⟨rfl, h1⟩
    · rcases h2 with h2 | ⟨rfl, h2⟩
      · left
        rw [u8_lt_iff] at h1 h2 ⊢
        omega
      · exact .inl h1
    · rcases h2 with h2 | ⟨rfl, h2⟩
      · exact .inl h2
      · exact .inr ⟨rfl, bytesLess_trans x y z h1 h2⟩
theorem wless_irrefl (s : ByteArray) : wless s s = false := by
  unfold wless
  rw [bytesLess_irrefl]
  simp
theorem wless_trans {s t u : ByteArray} (h1 : wless s t = true) (h2 : wless t u = true) : wless s u = true := by
  unfold wless at *
  simp only [Bool.or_eq_true, Bool.and_eq_true, decide_eq_true_eq] at *
  rcases h1 with h1 | ⟨e1, h1⟩ <;> rcases h2 with h2 | ⟨e2, h2⟩
  · left; omega
  · left; omega
  · left; omega
  · right; exact ⟨by omega, bytesLess_trans _ _ _ h1 h2⟩
theorem wless_size {s t : ByteArray} (h : wless s t = true) : s.size ≤ t.size := by
  unfold wless at h
  simp only [Bool.or_eq_true, Bool.and_eq_true, decide_eq_true_eq] at h
  omega
theorem wset_less {l : List ByteArray} (h : wset l) (d : Nat) : ∀ i (hi : i + d + 1 < l.length), wless (l[i]'(by omega)) l[i + d + 1] = true := by
  induction d with
  | zero => intro i hi; exact h.2.2 i hi
  | succ d ih =>
    intro i hi
    exact wless_trans (ih i (by omega)) (h.2.2 (i + d + 1) hi)
theorem wset_lt {l : List ByteArray} (h : wset l) {i k : Nat} (hik : i < k) (hk : k < l.length) : wless (l[i]'(by omega)) l[k] = true := by
  have := wset_less h (k - i - 1) i (by omega)
  simpa only [show i + (k - i - 1) + 1 = k by omega] using this

end Go.Proofs.YtidjjcgfdkmefaaDoor.X
namespace Go.Proofs.YtidjjcgfdkmefaaDoor.X
open Go.RowKit Go.Proofs.YtidjjcgfdkmefaaDoorW.PrintWords Go.Proofs.YtidjjcgfdkmefaaDoorW.PrintLast Go.Proofs.YtidjjcgfdkmefaaDoorW.PrintMore Go.Proofs.YtidjjcgfdkmefaaDoor

theorem toL_ex (s : ByteArray) (a b : Nat) : (s.extract a b).toList = ((bts s).drop a).take (b - a) := by
  rw [Pl.toL, ByteArray.data_extract, Array.toList_extract]
/-- A word put into an ordered list. -/
def put : List ByteArray → ByteArray → List ByteArray
  | [], x => [x]
  | y :: l, x => if wless y x = true then y :: put l x else if y.toList = x.toList then y :: l else x :: y :: l
theorem wdPut_l (l : List ByteArray) (x : ByteArray) (hl : l.length ≤ 1048576) (d : Nat) : ∀ i : Nat, i + d = l.length → Ev (fun k => spec_wdPut.l0 k l x (i : Int)) (l.take i ++ put (l.drop i) x) := by
  induction d with
  | zero =>
    intro i hd
    obtain rfl : i = l.length := by omega
    refine Pl.succ ?_
    simp only [spec_wdPut.l0, Option.bind_some]
    rw [Int.toNat_natCast]
    refine Pl.neg (by omega) (Pl.pos (by omega) (Pl.pos (by omega) (Pl.pos ?_ (Pl.pos ?_ (Pl.pos ?_ (Pl.ret ?_))))))
    · simp only [List.length_nil, List.length_take]; omega
    · simp only [List.nil_append, List.length_take]; omega
    · simp only [List.nil_append, List.length_append, List.length_take, List.length_drop, List.length_cons, List.length_nil]; omega
    · simp [put]
  | succ d ih =>
    intro i hd
    have hil : i < l.length := by omega
    have hdr : l.drop i = l[i] :: l.drop (i + 1) := List.drop_eq_getElem_cons hil
    refine Pl.succ ?_
    simp only [spec_wdPut.l0, wdLess_eq, Option.bind_some]
    rw [Pl.rdS_nat _ i hil, Int.toNat_natCast, Pl.w64 (by omega) (by omega)]
    refine Pl.pos (by omega) (Pl.pos (by omega) ?_)
    by_cases h1 : wless l[i] x = true
    · have hp : put (l.drop i) x = l[i] :: put (l.drop (i + 1)) x := by rw [hdr, put, if_pos h1]
      rw [hp]
      refine Pl.pos h1 (Pl.via (ih (i + 1) (by omega)) ?_)
      rw [List.take_succ_eq_append_getElem hil, List.append_assoc]
      rfl
    · refine Pl.neg h1 ?_
      by_cases h2 : l[i].toList = x.toList
      · have hp : put (l.drop i) x = l.drop i := by rw [hdr, put, if_neg h1, if_pos h2]
        rw [hp, List.take_append_drop]
        exact Pl.pos h2 (Pl.ret rfl)
      · have hp : put (l.drop i) x = x :: l.drop i := by rw [hdr, put, if_neg h1, if_neg h2]
        rw [hp]
        refine Pl.neg h2 (Pl.pos (by omega) (Pl.pos ?_ (Pl.pos ?_ (Pl.pos ?_ (Pl.ret ?_)))))
        · simp only [List.length_nil, List.length_take]; omega
        · simp only [List.nil_append, List.length_take]; omega
        · simp only [List.nil_append, List.length_append, List.length_take, List.length_drop, List.length_cons, List.length_nil]; omega
        · simp
theorem wdPut (l : List ByteArray) (x : ByteArray) (hl : l.length ≤ 1048576) : Ev (fun k => spec_wdPut.f k l x) (put l x) :=
  Pl.via (wdPut_l l x hl l.length 0 (by omega)) (by simp)
theorem bytesLess_total : ∀ x y : List UInt8, x ≠ y → Op.bytesLess x y = false → Op.bytesLess y x = true
  | [], [], h, _ => absurd rfl h
  | [], _ :: _, _, h => by cases h
  | _ :: _, [], _, _ => rfl
  | a :: x, b :: y, h, h1 => by
    rw [Op.bytesLess] at h1 ⊢
    simp only [Bool.or_eq_false_iff, Bool.and_eq_false_iff, decide_eq_false_iff_not, beq_eq_false_iff_ne, Bool.or_eq_true, Bool.and_eq_true, decide_eq_true_eq, beq_iff_eq] at h1 ⊢
    by_cases e : a = b
    · subst e
      refine .inr ⟨rfl, bytesLess_total x y (fun e => h (by rw [e])) ?_⟩
      rcases h1.2 with h2 | h2
      · exact absurd rfl h2
      · exact h2
    · left
      have hn : a.toNat ≠ b.toNat := fun h => e (UInt8.toNat_inj.1 h)
      have h2 := h1.1
      rw [u8_lt_iff] at h2 ⊢
      omega
theorem wless_total {s t : ByteArray} (h1 : ¬ wless s t = true) (h2 : s.toList ≠ t.toList) : wless t s = true := by
  rw [Bool.not_eq_true] at h1
  unfold wless at h1 ⊢
  simp only [Bool.or_eq_false_iff, Bool.and_eq_false_iff, decide_eq_false_iff_not, Bool.or_eq_true, Bool.and_eq_true, decide_eq_true_eq] at h1 ⊢
  rcases h1.2 with h3 | h3
  · left; omega
  · by_cases e : s.size = t.size
    · right
      refine ⟨e.symm, bytesLess_total _ _ ?_ h3⟩
      rw [Pl.toL, Pl.toL] at h2
      exact h2
    · left; omega
theorem put_mem (l : List ByteArray) (x z : ByteArray) : z ∈ put l x ↔ z = x ∨ z ∈ l := by
  induction l with
  | nil => simp [put]
  | cons y l ih =>
    rw [put]
    split
    · rw [List.mem_cons, ih, List.mem_cons]
      constructor
      · rintro (h | h | h)
        · exact .inr (.inl h)
        · exact .inl h
        · exact .inr (.inr h)
      · rintro (h | h | h)
        · exact .inr (.inl h)
        · exact .inl h
        · exact .inr (.inr h)
    · split
      · rename_i h
        have e : y = x := Pl.ba_ext h
        subst e
        rw [List.mem_cons]
        constructor
        · exact .inr
        · rintro (h | h)
          · exact .inl h
          · exact h
      · rw [List.mem_cons]
theorem put_srt (l : List ByteArray) (x : ByteArray) (h : l.Pairwise (fun a b => wless a b = true)) : (put l x).Pairwise (fun a b => wless a b = true) := by
  induction l with
  | nil => exact List.pairwise_singleton _ _
  | cons y l ih =>
    rw [List.pairwise_cons] at h
    rw [put]
    split
    · rename_i h1
      refine List.pairwise_cons.2 ⟨fun z hz => ?_, ih h.2⟩
      rcases (put_mem l x z).1 hz with rfl | hz
      · exact h1
      · exact h.1 z hz
    · rename_i h1
      split
      · exact List.pairwise_cons.2 h
      · rename_i h2
        have hxy := wless_total h1 h2
        refine List.pairwise_cons.2 ⟨fun z hz => ?_, List.pairwise_cons.2 h⟩
        rcases List.mem_cons.1 hz with rfl | hz
        · exact hxy
        · exact wless_trans hxy (h.1 z hz)
theorem put_len (l : List ByteArray) (x : ByteArray) : (put l x).length ≤ l.length + 1 := by
  induction l with
  | nil => simp [put]
  | cons y l ih =>
    rw [put]
    split
    · simp only [List.length_cons]; omega
    · split <;> simp
theorem wset_short {l : List ByteArray} (h : wset l) : ∀ s ∈ l, wshort s = true := fun s hs => by
  obtain ⟨i, hi, rfl⟩ := List.getElem_of_mem hs
  exact h.2.1 i hi
theorem wshort_size {s : ByteArray} (h : wshort s = true) : 1 ≤ s.size ∧ s.size ≤ 8 := by
  unfold wshort at h
  simp only [Bool.and_eq_true, decide_eq_true_eq] at h
  exact h.1
theorem wset_of {l : List ByteArray} (h1 : l.length ≤ 12) (h2 : ∀ s ∈ l, wshort s = true) (h3 : l.Pairwise (fun a b => wless a b = true)) : wset l :=
  ⟨h1, fun i hi => h2 _ (List.getElem_mem hi), fun i hi => List.pairwise_iff_getElem.1 h3 i (i + 1) (by omega) hi (by omega)⟩

end Go.Proofs.YtidjjcgfdkmefaaDoor.X
namespace Go.Proofs.YtidjjcgfdkmefaaDoor.X
open Go.RowKit Go.Proofs.YtidjjcgfdkmefaaDoorW.PrintWords Go.Proofs.YtidjjcgfdkmefaaDoorW.PrintLast Go.Proofs.YtidjjcgfdkmefaaDoorW.PrintMore Go.Proofs.YtidjjcgfdkmefaaDoor Go.Lib Go.Sort
section
variable {α : Type} [Inhabited α] [DecidableEq α]
theorem cu_mem (d : Array α) (m : Nat) (z : α) : z ∈ compactUpTo d m ↔ ∃ j, j < m ∧ keeps d j = true ∧ d[j]! = z := by
  unfold compactUpTo
  rw [List.mem_map]
  constructor
  · rintro ⟨j, hj, h⟩
    rw [List.mem_filter, List.mem_range] at hj
    exact ⟨j, hj.1, hj.2, h⟩
  · rintro ⟨j, h1, h2, h3⟩
    exact ⟨j, List.mem_filter.2 ⟨List.mem_range.2 h1, h2⟩, h3⟩
theorem cu_run (d : Array α) : ∀ j, ∃ i, i ≤ j ∧ keeps d i = true ∧ d[i]! = d[j]! := by
  intro j
  induction j with
  | zero => exact ⟨0, Nat.le_refl _, keeps_lt_one d 0 (by omega), rfl⟩
  | succ j ih =>
    by_cases h : d[j + 1]! = d[j]!
    · obtain ⟨i, h1, h2, h3⟩ := ih
      exact ⟨i, by omega, h2, h3.trans h.symm⟩
    · exact ⟨j + 1, Nat.le_refl _, keeps_pos (by simpa using h), rfl⟩
omit [DecidableEq α] in
theorem toA_get (zs : List α) (j : Nat) (h : j < zs.length) : zs.toArray[j]! = zs[j] := by
  rw [getElem!_pos zs.toArray j (by simpa using h), List.getElem_toArray]
theorem compact_mem (zs : List α) (z : α) : z ∈ compact zs ↔ z ∈ zs := by
  unfold compact
  rw [cu_mem]
  constructor
  · rintro ⟨j, h1, _, rfl⟩
    rw [toA_get zs j h1]
    exact List.getElem_mem h1
  · intro h
    obtain ⟨j, hj, rfl⟩ := List.getElem_of_mem h
    obtain ⟨i, h1, h2, h3⟩ := cu_run zs.toArray j
    exact ⟨i, by omega, h2, by rw [h3, toA_get zs j hj]⟩
theorem compact_len (zs : List α) : (compact zs).length ≤ zs.length := by
  unfold compact compactUpTo
  rw [List.length_map]
  exact Nat.le_trans (List.length_filter_le _ _) (by simp)
theorem compact_srt (lt : α → α → Bool) (hO : SWO lt) (hT : ∀ x y, lt x y = false → lt y x = false → x = y) (zs : List α) (hs : zs.Pairwise fun x y => lt y x = false) : (compact zs).Pairwise fun x y => lt x y = true := by
  unfold compact compactUpTo
  rw [List.pairwise_map]
  have h1 : ((List.range zs.length).filter (keeps zs.toArray)).Pairwise (· < ·) := List.pairwise_lt_range.filter _
  refine h1.imp_of_mem ?_
  intro i j hi hj hij
  rw [List.mem_filter, List.mem_range] at hi hj
  have hle : ∀ a b (_ : a < b) (hb : b < zs.length), lt zs[b] (zs[a]'(by omega)) = false := fun a b hab hb => List.pairwise_iff_getElem.1 hs a b (by omega) hb hab
  have hk := hj.2
  unfold keeps at hk
  rw [decide_eq_true_eq] at hk
  have hne : zs.toArray[j]! ≠ zs.toArray[j - 1]! := by
    rcases hk with h | h
    · omega
    · exact h
  rw [toA_get zs j hj.1, toA_get zs (j - 1) (by omega)] at hne
  rw [toA_get zs i hi.1, toA_get zs j hj.1]
  have hlt : lt (zs[j - 1]'(by omega)) zs[j] = true := by
    cases hc : lt (zs[j - 1]'(by omega)) zs[j] with
    | true => rfl
    | false => exact absurd (hT _ _ (hle (j - 1) j (by omega) hj.1) hc) hne
  by_cases e : i = j - 1
  · subst e; exact hlt
  · cases hc : lt zs[i] zs[j] with
    | true => rfl
    | false =>
      have := hO.ntrans _ _ _ (hle i (j - 1) (by omega) (by omega)) hc
      rw [hlt] at this
      cases this
omit [Inhabited α] [DecidableEq α] in
theorem srt_ext (lt : α → α → Bool) (hi : ∀ x, lt x x = false) (ht : ∀ x y, lt x y = true → lt y x = false) : ∀ l1 l2 : List α, l1.Pairwise (fun x y => lt x y = true) → l2.Pairwise (fun x y => lt x y = true) → (∀ z, z ∈ l1 ↔ z ∈ l2) → l1 = l2
  | [], [], _, _, _ => rfl
  | [], b :: l2, _, _, h => absurd ((h b).2 List.mem_cons_self) (by simp)
  | a :: l1, [], _, _, h => absurd ((h a).1 List.mem_cons_self) (by simp)
  | a :: l1, b :: l2, h1, h2, h => by
    rw [List.pairwise_cons] at h1 h2
    have hab : a = b := by
      rcases List.mem_cons.1 ((h a).1 List.mem_cons_self) with e | ha
      · exact e
      · rcases List.mem_cons.1 ((h b).2 List.mem_cons_self) with e | hb
        · exact e.symm
        · have := ht _ _ (h1.1 b hb)
          rw [h2.1 a ha] at this
          cases this
    subst hab
    congr 1
    refine srt_ext lt hi ht l1 l2 h1.2 h2.2 fun z => ?_
    constructor
    · intro hz
      rcases List.mem_cons.1 ((h z).1 (List.mem_cons_of_mem _ hz)) with e | h3
      · subst e; have := h1.1 z hz; rw [hi] at this; cases this
      · exact h3
    · intro hz
      rcases List.mem_cons.1 ((h z).2 (List.mem_cons_of_mem _ hz)) with e | h3
      · subst e; have := h2.1 z hz; rw [hi] at this; cases this
      · exact h3
omit [Inhabited α] [DecidableEq α] in
theorem msort_srt (lt : α → α → Bool) (hO : SWO lt) (zs : List α) : (zs.mergeSort fun x y => !lt y x).Pairwise fun x y => lt y x = false := by
  refine (List.pairwise_mergeSort (le := fun x y => !lt y x) ?_ ?_ zs).imp fun h => by simpa using h
  · intro a b c h1 h2
    simp only [Bool.not_eq_true'] at h1 h2 ⊢
    exact hO.ntrans _ _ _ h2 h1
  · intro a b
    cases h : lt b a with
    | false => rfl
    | true =>
      cases h2 : lt a b with
      | false => rfl
      | true => have := hO.trans _ _ _ h h2; rw [hO.irrefl] at this; cases this
omit [Inhabited α] [DecidableEq α] in
theorem msort_mem (le : α → α → Bool) (zs : List α) (z : α) : z ∈ zs.mergeSort le ↔ z ∈ zs := (List.mergeSort_perm zs le).mem_iff
end
theorem bytesLess_lt : ∀ x y : List UInt8, Op.bytesLess x y = true ↔ x < y
  | [], [] => by simp [Op.bytesLess]
  | [], _ :: _ => by simp [Op.bytesLess]
  | _ :: _, [] => by simp [Op.bytesLess]
  | a :: x, b :: y => by
    rw [Op.bytesLess, List.cons_lt_cons_iff, ← bytesLess_lt x y]
    simp
theorem wless_cf (s t : ByteArray) : wless s t = ltOf cfW s.data.toList t.data.toList := by
  unfold ltOf
  rw [Bool.eq_iff_iff, decide_eq_true_eq, cfW_lt]
  unfold wless
  simp only [Bool.or_eq_true, Bool.and_eq_true, decide_eq_true_eq]
  rw [bytesLess_lt]
  exact Iff.rfl
theorem ordB_mem (l : List ByteArray) (z : ByteArray) : z ∈ ordB l ↔ z ∈ l := by
  unfold ordB sortW
  rw [List.mem_map]
  constructor
  · rintro ⟨x, hx, rfl⟩
    rw [compact_mem, msort_mem, List.mem_map] at hx
    obtain ⟨y, hy, rfl⟩ := hx
    exact hy
  · intro hz
    refine ⟨z.data.toList, ?_, rfl⟩
    rw [compact_mem, msort_mem, List.mem_map]
    exact ⟨z, hz, rfl⟩
theorem ordB_len (l : List ByteArray) : (ordB l).length ≤ l.length := by
  unfold ordB sortW
  rw [List.length_map]
  refine Nat.le_trans (compact_len _) ?_
  rw [List.length_mergeSort, List.length_map]
  exact Nat.le_refl _
theorem ordB_srt (l : List ByteArray) : (ordB l).Pairwise (fun a b => wless a b = true) := by
  unfold ordB sortW
  rw [List.pairwise_map]
  refine (compact_srt (ltOf cfW) swoW totW _ (msort_srt (ltOf cfW) swoW _)).imp fun h => ?_
  rw [wless_cf]
  exact h
theorem wless_asymm {x y : ByteArray} (h : wless x y = true) : wless y x = false := by
  cases h2 : wless y x with
  | false => rfl
  | true => have := wless_trans h h2; rw [wless_irrefl] at this; cases this
theorem ordB_eq (l r : List ByteArray) (hr : r.Pairwise (fun a b => wless a b = true)) (hm : ∀ z, z ∈ r ↔ z ∈ l) : ordB l = r :=
  srt_ext wless wless_irrefl (fun _ _ h => wless_asymm h) _ _ (ordB_srt l) hr fun z => (ordB_mem l z).trans (hm z).symm
/-- Words put into an ordered list, one after another. -/
def puts (l out : List ByteArray) : List ByteArray := l.foldl put out
theorem puts_ok (l : List ByteArray) : ∀ out : List ByteArray, out.Pairwise (fun a b => wless a b = true) →
    (puts l out).Pairwise (fun a b => wless a b = true) ∧ (∀ z, z ∈ puts l out ↔ z ∈ out ∨ z ∈ l) ∧ (puts l out).length ≤ out.length + l.length := by
  induction l with
  | nil => intro out h; exact ⟨h, fun z => by simp [puts], by simp [puts]⟩
  | cons x l ih =>
    intro out h
    obtain ⟨h1, h2, h3⟩ := ih (put out x) (put_srt out x h)
    have e : puts (x :: l) out = puts l (put out x) := rfl
    refine ⟨h1, fun z => ?_, ?_⟩
    · rw [e, h2 z, put_mem, List.mem_cons]
      constructor
      · rintro ((h | h) | h)
        · exact .inr (.inl h)
        · exact .inl h
        · exact .inr (.inr h)
      · rintro (h | h | h)
        · exact .inl (.inr h)
        · exact .inl (.inl h)
        · exact .inr h
    · have := put_len out x
      rw [e, List.length_cons]
      omega
theorem ordB_puts (l : List ByteArray) : ordB l = puts l [] := by
  obtain ⟨h1, h2, _⟩ := puts_ok l [] List.Pairwise.nil
  exact ordB_eq l _ h1 fun z => by simpa using h2 z
theorem ordered_eq (l : List ByteArray) (hl : l.length ≤ 1048576) : impl_ordered.f l = some (puts l []) := by
  unfold impl_ordered.f
  rw [if_pos (by omega), ordB_puts]
end Go.Proofs.YtidjjcgfdkmefaaDoor.X
namespace Go.Proofs.YtidjjcgfdkmefaaDoor.X
open Go.RowKit Go.Proofs.YtidjjcgfdkmefaaDoorW.PrintWords Go.Proofs.YtidjjcgfdkmefaaDoorW.PrintLast Go.Proofs.YtidjjcgfdkmefaaDoorW.PrintMore Go.Proofs.YtidjjcgfdkmefaaDoor

def innerW (s : ByteArray) : List ByteArray := (List.range' 0 s.size).map fun n => s.extract 0 n
theorem puts_app (a b out : List ByteArray) : puts (a ++ b) out = puts b (puts a out) := List.foldl_append
theorem pfInner_l (l : List ByteArray) (hl : l.length ≤ 12) (hs : ∀ s ∈ l, s.size ≤ 8) (d : Nat) : ∀ (i : Nat) (out : List ByteArray), i + d = l.length → out.length ≤ 8 * i →
    Ev (fun k => spec_pfInner.l0 k out l (l.length : Int) (i : Int)) (puts ((l.drop i).flatMap innerW) out) := by
  induction d with
  | zero =>
    intro i out hd ho
    refine Pl.succ ?_
    simp only [spec_pfInner.l0]
    exact Pl.neg (by omega) (Pl.ret (by rw [List.drop_of_length_le (by omega)]; rfl))
  | succ d ih =>
    intro i out hd ho
    have hil : i < l.length := by omega
    have h8 := hs _ (List.getElem_mem hil)
    have hin : ∀ (e n : Nat) (out : List ByteArray), n + e = l[i].size → out.length ≤ 8 * i + n → Ev (fun k => spec_pfInner.l1 k out l[i] (n : Int) l (l.length : Int) (i : Int)) (puts ((l.drop (i + 1)).flatMap innerW) (puts ((List.range' n e).map fun n => l[i].extract 0 n) out)) := by
      intro e
      induction e with
      | zero =>
        intro n out hn ho
        refine Pl.succ ?_
        simp only [spec_pfInner.l1]
        rw [Pl.w64 (n := (i : Int) + 1) (by omega) (by omega)]
        exact Pl.neg (by omega) (Pl.via (ih (i + 1) out (by omega) (by omega)) rfl)
      | succ e ihe =>
        intro n out hn ho
        have hp := put_len out (l[i].extract 0 n)
        refine Pl.succ ?_
        simp only [spec_pfInner.l1]
        rw [Pl.w64 (by omega) (by omega), Int.toNat_natCast]
        refine Pl.pos (by omega) (Pl.pos (by omega) (Pl.pos (by omega) (Ev.bind (wdPut out (l[i].extract 0 n) (by omega)) ?_)))
        exact Pl.via (ihe (n + 1) _ (by omega) (by omega)) (by rw [List.range'_succ]; rfl)
    refine Pl.succ ?_
    simp only [spec_pfInner.l0]
    rw [Pl.rdS_nat _ i hil]
    refine Pl.pos (by omega) (Pl.pos (by omega) (Pl.pos (by omega) ?_))
    refine Pl.via (hin l[i].size 0 out (by omega) (by omega)) ?_
    rw [List.drop_eq_getElem_cons hil, List.flatMap_cons, puts_app]
    rfl
theorem innerWords_l (l : List ByteArray) (hl : l.length ≤ 12) (hs : ∀ s ∈ l, s.size ≤ 8) (d : Nat) : ∀ (i : Nat) (out : List ByteArray), i + d = l.length → out.length ≤ 8 * i →
    Ev (fun k => impl_innerWords.l0 k out l (l.length : Int) (i : Int)) (puts (out ++ (l.drop i).flatMap innerW) []) := by
  induction d with
  | zero =>
    intro i out hd ho
    refine Pl.succ ?_
    simp only [impl_innerWords.l0, ordered_eq out (by omega), Option.bind_some]
    exact Pl.neg (by omega) (Pl.ret (by rw [List.drop_of_length_le (by omega), List.flatMap_nil, List.append_nil]))
  | succ d ih =>
    intro i out hd ho
    have hil : i < l.length := by omega
    have h8 := hs _ (List.getElem_mem hil)
    have hin : ∀ (e n : Nat) (out : List ByteArray), n + e = l[i].size → out.length ≤ 8 * i + n → Ev (fun k => impl_innerWords.l1 k out l[i] l (l.length : Int) (i : Int) (l[i].size : Int) (n : Int)) (puts (out ++ ((List.range' n e).map fun n => l[i].extract 0 n) ++ (l.drop (i + 1)).flatMap innerW) []) := by
      intro e
      induction e with
      | zero =>
        intro n out hn ho
        refine Pl.succ ?_
        simp only [impl_innerWords.l1]
        rw [Pl.w64 (n := (i : Int) + 1) (by omega) (by omega)]
        exact Pl.neg (by omega) (Pl.via (ih (i + 1) out (by omega) (by omega)) (by simp))
      | succ e ihe =>
        intro n out hn ho
        refine Pl.succ ?_
        simp only [impl_innerWords.l1]
        rw [Pl.w64 (by omega) (by omega), Int.toNat_natCast]
        refine Pl.pos (by omega) (Pl.pos (by omega) (Pl.pos (by omega) (Pl.pos (by omega) ?_)))
        exact Pl.via (ihe (n + 1) _ (by omega) (by simp; omega)) (by rw [List.range'_succ]; simp)
    refine Pl.succ ?_
    simp only [impl_innerWords.l0]
    rw [Pl.rdS_nat _ i hil]
    refine Pl.pos (by omega) (Pl.pos (by omega) (Pl.pos (by omega) ?_))
    refine Pl.via (hin l[i].size 0 out (by omega) (by omega)) ?_
    rw [List.drop_eq_getElem_cons hil, List.flatMap_cons, List.append_assoc]
    rfl
theorem innerW_len (l : List ByteArray) (hs : ∀ s ∈ l, s.size ≤ 8) : (l.flatMap innerW).length ≤ 8 * l.length := by
  induction l with
  | nil => simp
  | cons x l ih =>
    have h1 := hs x List.mem_cons_self
    have h2 := ih fun s h => hs s (List.mem_cons_of_mem _ h)
    rw [List.flatMap_cons, List.length_append, List.length_cons]
    have : (innerW x).length = x.size := by simp [innerW]
    omega
/-- The inner words, in order. -/
def innerS (l : List ByteArray) : List ByteArray := puts (l.flatMap innerW) []
theorem pfInner (l : List ByteArray) (hl : l.length ≤ 12) (hs : ∀ s ∈ l, s.size ≤ 8) : Ev (fun k => spec_pfInner.f k l) (innerS l) := by
  have h1 := pfInner_l l hl hs l.length 0 [] (by omega) (by simp)
  rw [List.drop_zero] at h1
  exact h1
theorem innerWords (l : List ByteArray) (hl : l.length ≤ 12) (hs : ∀ s ∈ l, s.size ≤ 8) : Ev (fun k => impl_innerWords.f k l) (innerS l) := by
  have h1 := innerWords_l l hl hs l.length 0 [] (by omega) (by simp)
  rw [List.drop_zero, List.nil_append] at h1
  exact h1
theorem innerS_len (l : List ByteArray) (hl : l.length ≤ 12) (hs : ∀ s ∈ l, s.size ≤ 8) : (innerS l).length ≤ 96 := by
  have h1 := innerW_len l hs
  have h2 := (puts_ok (l.flatMap innerW) [] List.Pairwise.nil).2.2
  simp only [List.length_nil] at h2
  unfold innerS
  omega
theorem innerS_mem (l : List ByteArray) (z : ByteArray) : z ∈ innerS l ↔ ∃ s ∈ l, ∃ n, n < s.size ∧ z = s.extract 0 n := by
  have h2 := (puts_ok (l.flatMap innerW) [] List.Pairwise.nil).2.1 z
  have h3 : z ∈ innerS l ↔ z ∈ l.flatMap innerW := by
    unfold innerS
    rw [h2]
    simp
  rw [h3, List.mem_flatMap]
  unfold innerW
  constructor
  · rintro ⟨s, hs, hz⟩
    obtain ⟨n, hn, rfl⟩ := List.mem_map.1 hz
    rw [List.mem_range'_1] at hn
    exact ⟨s, hs, n, by omega, rfl⟩
  · rintro ⟨s, hs, n, hn, rfl⟩
    exact ⟨s, hs, List.mem_map.2 ⟨n, by rw [List.mem_range'_1]; omega, rfl⟩⟩

end Go.Proofs.YtidjjcgfdkmefaaDoor.X
namespace Go.Proofs.YtidjjcgfdkmefaaDoor.X
open Go.RowKit Go.Proofs.YtidjjcgfdkmefaaDoorW.PrintWords Go.Proofs.YtidjjcgfdkmefaaDoorW.PrintLast Go.Proofs.YtidjjcgfdkmefaaDoorW.PrintMore Go.Proofs.YtidjjcgfdkmefaaDoor

def lens (l : List ByteArray) : List Int := l.map fun s => (s.size : Int)
theorem lengthsOf_l (l : List ByteArray) (hl : l.length ≤ 1048576) (d : Nat) : ∀ (i : Nat) (out : List Int), l.length - i = d → i ≤ l.length → out.length = i →
    Ev (fun k => impl_lengthsOf.l0 k out l (l.length : Int) (i : Int)) (out ++ lens (l.drop i)) := by
  induction d with
  | zero =>
    intro i out hd hi ho
    refine Pl.succ ?_
    simp only [impl_lengthsOf.l0]
    exact Pl.neg (by omega) (Pl.ret (by rw [List.drop_of_length_le (by omega)]; simp [lens]))
  | succ d ih =>
    intro i out hd hi ho
    refine Pl.succ ?_
    simp only [impl_lengthsOf.l0]
    rw [Pl.rdS_nat _ i (by omega), Pl.w64 (by omega) (by omega)]
    refine Pl.pos (by omega) (Pl.pos (by omega) (Pl.pos (by omega) (Pl.pos (by omega) ?_)))
    refine Pl.via (ih (i + 1) _ (by omega) (by omega) (by simp [ho])) ?_
    rw [drop_cons' l i (by omega)]
    simp only [lens, List.map_cons, List.append_assoc, List.cons_append, List.nil_append]
theorem lengthsOf (l : List ByteArray) (hl : l.length ≤ 1048576) : Ev (fun k => impl_lengthsOf.f k l) (lens l) := by
  unfold impl_lengthsOf.f
  exact Pl.via (lengthsOf_l l hl l.length 0 [] (by omega) (by omega) rfl) (by simp)

end Go.Proofs.YtidjjcgfdkmefaaDoor.X
namespace Go.Proofs.YtidjjcgfdkmefaaDoor.X
open Go.RowKit Go.Proofs.YtidjjcgfdkmefaaDoorW.PrintWords Go.Proofs.YtidjjcgfdkmefaaDoorW.PrintLast Go.Proofs.YtidjjcgfdkmefaaDoorW.PrintMore Go.Proofs.YtidjjcgfdkmefaaDoor

theorem wdBegins_eq (s t : ByteArray) : spec_wdBegins.f s t = some (begB s t) := by
  unfold spec_wdBegins.f begB
  by_cases h : t.size ≤ s.size
  · rw [if_pos (by omega), if_pos (by omega), decide_eq_true h]; rfl
  · rw [if_neg (by omega), decide_eq_false h]; rfl
theorem begB_eq {s t : ByteArray} (h : begB s t = true) (hs : s.size = t.size) : s = t := by
  unfold begB at h
  simp only [Bool.and_eq_true, decide_eq_true_eq, beq_iff_eq] at h
  have e : s.extract 0 t.size = s := by rw [← hs]; exact ByteArray.extract_zero_size
  rw [e] at h
  exact Pl.ba_ext h.2
theorem begB_size {s t : ByteArray} (h : begB s t = true) : t.size ≤ s.size := by
  unfold begB at h
  simp only [Bool.and_eq_true, decide_eq_true_eq] at h
  exact h.1
/-- Of a set it's enough that no later word begins with an earlier one. -/
theorem noTwo_iff {l : List ByteArray} (h : wset l) : noTwo begB l ↔ ∀ i k (hik : i < k) (hk : k < l.length), begB l[k] (l[i]'(by omega)) = false := by
  constructor
  · intro hn i k hik hk
    exact hn k hk i (by omega) (by omega)
  · intro hn i hi k hk hne
    by_cases hlt : k < i
    · exact hn k i hlt hi
    · have hik : i < k := by omega
      have hw := wset_lt h hik hk
      cases hb : begB l[i] l[k] with
      | false => rfl
      | true =>
        have h1 := begB_size hb
        have h2 := wless_size hw
        have e := begB_eq hb (by omega)
        rw [e, wless_irrefl] at hw
        cases hw
theorem krPrefix_l1 (l : List ByteArray) (hl : l.length ≤ 12) (i : Nat) (hi : i < l.length) (r : Bool)
    (hrest : (∀ j (hj : j < l.length), i < j → begB l[j] l[i] = false) → Ev (fun k => spec_krPrefix.l0 k l l (l.length : Int) (((i + 1 : Nat)) : Int)) r)
    (hno : (∃ j, ∃ hj : j < l.length, i < j ∧ begB l[j] l[i] = true) → r = false)
    (d : Nat) : ∀ j, i + 1 + j + d = l.length → (∀ q (hq : q < l.length), i < q → q < i + 1 + j → begB l[q] l[i] = false) →
    Ev (fun k => spec_krPrefix.l1 k l l[i] l (l.length : Int) (i : Int) (l.drop (i + 1)) ((l.drop (i + 1)).length : Int) (j : Int)) r := by
  have hdl : (l.drop (i + 1)).length = l.length - (i + 1) := List.length_drop
  induction d with
  | zero =>
    intro j hj hq
    refine Pl.succ ?_
    simp only [spec_krPrefix.l1]
    refine Pl.neg (by omega) ?_
    rw [Pl.w64 (by omega) (by omega)]
    exact hrest (fun q hq' hiq => hq q hq' hiq (by omega))
  | succ d ih =>
    intro j hj hq
    have hjl : i + 1 + j < l.length := by omega
    have hrd : rdOf ByteArray.empty (l.drop (i + 1)) (j : Int) = l[i + 1 + j] := by
      rw [Pl.rdS_nat _ j (by omega)]; simp
    refine Pl.succ ?_
    simp only [spec_krPrefix.l1, wdBegins_eq, Option.bind_some]
    rw [hrd]
    refine Pl.pos (by omega) (Pl.pos (by omega) (Pl.pos (by omega) ?_))
    cases hb : begB l[i + 1 + j] l[i] with
    | true =>
      rw [hno ⟨i + 1 + j, hjl, by omega, hb⟩]
      exact Pl.pos rfl (Pl.ret rfl)
    | false =>
      refine Pl.neg (by decide) ?_
      rw [Pl.w64 (by omega) (by omega)]
      refine ih (j + 1) (by omega) (fun q hq' hiq hlt => ?_)
      by_cases e : q = i + 1 + j
      · subst e; exact hb
      · exact hq q hq' hiq (by omega)
theorem krPrefix_l (l : List ByteArray) (hl : l.length ≤ 12) (r : Bool) (hr : r = true ↔ ∀ i k (hik : i < k) (hk : k < l.length), begB l[k] (l[i]'(by omega)) = false) (d : Nat) : ∀ i, i + d = l.length → (∀ q k (hqk : q < k) (hk : k < l.length), q < i → begB l[k] (l[q]'(by omega)) = false) →
    Ev (fun k => spec_krPrefix.l0 k l l (l.length : Int) (i : Int)) r := by
  induction d with
  | zero =>
    intro i hi hq
    refine Pl.succ ?_
    simp only [spec_krPrefix.l0]
    exact Pl.neg (by omega) (Pl.ret (hr.2 (fun q k hqk hk => hq q k hqk hk (by omega))).symm)
  | succ d ih =>
    intro i hi hq
    have hil : i < l.length := by omega
    refine Pl.succ ?_
    simp only [spec_krPrefix.l0]
    rw [Pl.rdS_nat _ i hil, Pl.w64 (n := (i : Int) + 1) (by omega) (by omega), show ((i : Int) + 1).toNat = i + 1 by omega]
    refine Pl.pos (by omega) (Pl.pos (by omega) (Pl.pos (by omega) (Pl.pos (by omega) (Pl.pos (by omega) ?_))))
    refine krPrefix_l1 l hl i hil r (fun hall => ih (i + 1) (by omega) (fun q k hqk hk hlt => ?_)) (fun ⟨j, hj, hij, hb⟩ => ?_) (l.length - (i + 1)) 0 (by omega) (fun q hq' h1 h2 => by omega)
    · by_cases e : q = i
      · subst e; exact hall k hk hqk
      · exact hq q k hqk hk (by omega)
    · cases r with
      | false => rfl
      | true =>
        have := hr.1 rfl i j hij hj
        rw [hb] at this
        cases this
theorem krPrefix (l : List ByteArray) (h : wset l) : Ev (fun k => spec_krPrefix.f k l) (decide (noTwo begB l)) := by
  unfold spec_krPrefix.f
  exact krPrefix_l l h.1 _ (by rw [decide_eq_true_eq]; exact noTwo_iff h) l.length 0 (by omega) (fun q k _ _ hlt => absurd hlt (Nat.not_lt_zero _))

end Go.Proofs.YtidjjcgfdkmefaaDoor.X
namespace Go.Proofs.YtidjjcgfdkmefaaDoor.X
open Go.RowKit Go.Proofs.YtidjjcgfdkmefaaDoorW.PrintWords Go.Proofs.YtidjjcgfdkmefaaDoorW.PrintLast Go.Proofs.YtidjjcgfdkmefaaDoorW.PrintMore Go.Proofs.YtidjjcgfdkmefaaDoor

theorem wdHas_l (l : List ByteArray) (w : ByteArray) (hl : l.length ≤ 1048576) (d : Nat) : ∀ i : Nat, i + d = l.length → Ev (fun k => spec_wdHas.l0 k w l (l.length : Int) (i : Int)) (Lib.containsS (l.drop i) w) := by
  induction d with
  | zero =>
    intro i hd
    refine Pl.succ ?_
    simp only [spec_wdHas.l0]
    rw [List.drop_of_length_le (by omega)]
    exact Pl.neg (by omega) (Pl.ret (by
      cases hq : Lib.containsS ([] : List ByteArray) w with
      | false => rfl
      | true => exact absurd ((Lib.containsS_iff _ _).1 hq) (by simp)))
  | succ d ih =>
    intro i hd
    have hil : i < l.length := by omega
    refine Pl.succ ?_
    simp only [spec_wdHas.l0]
    rw [Pl.rdS_nat _ i hil, Pl.w64 (n := (i : Int) + 1) (by omega) (by omega), List.drop_eq_getElem_cons hil]
    refine Pl.pos (by omega) (Pl.pos (by omega) (Pl.pos (by omega) ?_))
    by_cases h : w.toList = l[i].toList
    · exact Pl.pos h (Pl.ret ((Lib.containsS_iff _ _).2 (Pl.ba_ext h ▸ List.mem_cons_self)).symm)
    · refine Pl.neg h (Pl.via (ih (i + 1) (by omega)) ?_)
      have hne : w ≠ l[i] := fun e => h (by rw [e])
      exact Bool.eq_iff_iff.2 ((Lib.containsS_iff _ _).trans (Iff.trans ⟨List.mem_cons_of_mem _, fun q => (List.mem_cons.1 q).resolve_left hne⟩ (Lib.containsS_iff _ _).symm))
theorem wdHas (l : List ByteArray) (w : ByteArray) (hl : l.length ≤ 1048576) : Ev (fun k => spec_wdHas.f k l w) (Lib.containsS l w) :=
  Pl.via (wdHas_l l w hl l.length 0 (by omega)) (by rw [List.drop_zero])

end Go.Proofs.YtidjjcgfdkmefaaDoor.X
namespace Go.Proofs.YtidjjcgfdkmefaaDoor.X
open Go.RowKit Go.Proofs.YtidjjcgfdkmefaaDoorW.PrintWords Go.Proofs.YtidjjcgfdkmefaaDoorW.PrintLast Go.Proofs.YtidjjcgfdkmefaaDoorW.PrintMore Go.Proofs.YtidjjcgfdkmefaaDoor

theorem hasC_iff (s : ByteArray) : hasC s = true ↔ (99 : UInt8) ∈ bts s := by
  unfold hasC Lib.contains
  rw [decide_eq_true_eq]
  show 0 ≤ Lib.index (bts s) [99] ↔ _
  rcases Lib.index_spec (bts s) [99] with ⟨h1, h2⟩ | ⟨i, h1, h2, h3, _⟩
  · rw [h1]
    refine ⟨fun h => absurd h (by decide), fun h => ?_⟩
    obtain ⟨i, hi, e⟩ := List.getElem_of_mem h
    have := h2 i (by omega)
    unfold Lib.occAt at this
    rw [List.drop_eq_getElem_cons hi, e] at this
    simp [List.isPrefixOf] at this
  · refine ⟨fun _ => ?_, fun _ => by rw [h1]; omega⟩
    unfold Lib.occAt at h3
    rw [List.isPrefixOf_iff_prefix] at h3
    exact List.mem_of_mem_drop (h3.subset List.mem_cons_self)
theorem krWord_l (s : ByteArray) (ha : (bts s).all isL = true) (hs : s.size ≤ 1000) (d : Nat) : ∀ i : Nat, i + d = s.size → (∀ j, j < i → (bts s)[j]? ≠ some 99) → Ev (fun k => spec_krWord.l0 k s 2 (i : Int)) (!(hasC s)) := by
  induction d with
  | zero =>
    intro i hi hn
    refine Pl.succ ?_
    simp only [spec_krWord.l0]
    refine Pl.neg (by omega) (Pl.ret ?_)
    have : hasC s = false := by
      rw [← Bool.not_eq_true, hasC_iff]
      intro h
      obtain ⟨j, hj, e⟩ := List.getElem_of_mem h
      have hj' := hj
      rw [bts_len] at hj'
      exact hn j (by omega) (by rw [List.getElem?_eq_getElem hj, e])
    rw [this]; rfl
  | succ d ih =>
    intro i hi hn
    have hil : i < s.size := by omega
    have hib : i < (bts s).length := by rw [bts_len]; exact hil
    refine Pl.succ ?_
    simp only [spec_krWord.l0]
    rw [bt_nat s i hil, Pl.w64 (n := (i : Int) + 1) (by omega) (by omega)]
    have hL := List.all_eq_true.1 ha _ (List.getElem_mem hib)
    refine Pl.pos (by omega) (Pl.pos (by omega) ?_)
    by_cases h99 : (bts s)[i] = 99
    · rw [h99]
      refine Pl.pos (by decide) (Pl.ret ?_)
      have : hasC s = true := (hasC_iff s).2 (h99 ▸ List.getElem_mem hib)
      rw [this]; rfl
    · have hb : (bts s)[i] = 97 ∨ (bts s)[i] = 98 := by
        unfold isL at hL
        simp only [Bool.or_eq_true, beq_iff_eq] at hL
        rcases hL with (h | h) | h
        · exact .inl h
        · exact .inr h
        · exact absurd h h99
      refine Pl.neg (by rcases hb with h | h <;> rw [h] <;> decide) (ih (i + 1) (by omega) fun j hj => ?_)
      by_cases e : j = i
      · subst e
        rw [List.getElem?_eq_getElem hib]
        exact fun q => h99 (Option.some.inj q)
      · exact hn j (by omega)
theorem krWord (s : ByteArray) (ha : (bts s).all isL = true) (hs : s.size ≤ 1000) : Ev (fun k => spec_krWord.f k s 2) (!(hasC s)) := by
  unfold spec_krWord.f
  exact krWord_l s ha hs s.size 0 (by omega) (fun j hj => absurd hj (Nat.not_lt_zero _))
def lc (l : List ByteArray) : Nat := if l.any hasC = true then 3 else 2
theorem sy0 (l : List ByteArray) (h : wset l) (R : Int × Bool) (hn : Ev (fun k => (spec_pfInner.f k l).bind fun t => spec_syLetters.l1 k l (lc l : Int) t t (t.length : Int) 0) R) (d : Nat) : ∀ i : Nat, i + d = l.length → Ev (fun k => spec_syLetters.l0 k l (lc (l.take i) : Int) l (l.length : Int) (i : Int)) R := by
  have h12 := h.1
  induction d with
  | zero =>
    intro i hi
    refine Pl.succ ?_
    simp only [spec_syLetters.l0]
    rw [List.take_of_length_le (by omega)]
    exact Pl.neg (by omega) hn
  | succ d ih =>
    intro i hi
    have hil : i < l.length := by omega
    have hsh := h.2.1 i hil
    unfold wshort at hsh
    simp only [Bool.and_eq_true, decide_eq_true_eq] at hsh
    refine Pl.succ ?_
    simp only [spec_syLetters.l0]
    rw [Pl.rdS_nat _ i hil, Pl.w64 (n := (i : Int) + 1) (by omega) (by omega)]
    refine Pl.pos (by omega) (Pl.pos (by omega) (Pl.pos (by omega) (Ev.bind (krWord _ hsh.2 (by omega)) ?_)))
    have hi1 := ih (i + 1) (by omega)
    have hany : (l.take (i + 1)).any hasC = ((l.take i).any hasC || hasC l[i]) := by rw [List.take_succ_eq_append_getElem hil, List.any_append]; simp
    cases hc : hasC l[i] with
    | true =>
      rw [hc, Bool.or_true] at hany
      have e : lc (l.take (i + 1)) = 3 := by unfold lc; rw [if_pos hany]
      rw [e] at hi1
      exact Pl.neg (by decide) hi1
    | false =>
      rw [hc, Bool.or_false] at hany
      have e : lc (l.take (i + 1)) = lc (l.take i) := by unfold lc; rw [hany]
      rw [e] at hi1
      exact Pl.pos rfl hi1
def hasT (l inn : List ByteArray) (s : ByteArray) (j : Nat) : Bool := Lib.containsS inn (s ++ abcAt j) || Lib.containsS l (s ++ abcAt j)
def hasA (l inn : List ByteArray) (m j : Nat) (s : ByteArray) : Bool := (List.range' j (m - j)).all fun j => hasT l inn s j
theorem abcAt_size (j : Nat) : (abcAt j).size ≤ 3 := by
  unfold abcAt
  rw [ByteArray.size_extract]
  show min (j + 1) 3 - j ≤ 3
  omega
theorem sy2 (l inn : List ByteArray) (hl : l.length ≤ 12) (hi : inn.length ≤ 1000) (m : Nat) (hm : m ≤ 3) (kk : Nat) (hk : kk ≤ 1000) (s : ByteArray) (hs : s.size ≤ 1000) (b : Bool)
    (hnext : Ev (fun k => spec_syLetters.l1 k l (m : Int) inn inn (inn.length : Int) ((kk + 1 : Nat) : Int)) (if b = true then ((m : Int), true) else (0, false))) (d : Nat) : ∀ j : Nat, j + d = m → Ev (fun k => spec_syLetters.l2 k l (m : Int) inn s (j : Int) inn (inn.length : Int) (kk : Int)) (if (hasA l inn m j s && b) = true then ((m : Int), true) else (0, false)) := by
  induction d with
  | zero =>
    intro j hj
    refine Pl.succ ?_
    simp only [spec_syLetters.l2]
    obtain rfl : j = m := by omega
    rw [Pl.w64 (n := (kk : Int) + 1) (by omega) (by omega)]
    unfold hasA
    rw [Nat.sub_self]
    exact Pl.neg (by omega) hnext
  | succ d ih =>
    intro j hj
    have hsz := abcAt_size j
    have hn := ih (j + 1) (by omega)
    have hA : hasA l inn m j s = (hasT l inn s j && hasA l inn m (j + 1) s) := by
      unfold hasA
      rw [show m - j = (m - (j + 1)) + 1 by omega, List.range'_succ, List.all_cons]
    refine Pl.succ ?_
    simp only [spec_syLetters.l2]
    rw [Pl.w64 (n := (j : Int) + 1) (by omega) (by omega), Int.toNat_natCast, show (((j : Int) + 1).toNat) = j + 1 by omega]
    show Ev (fun k => if (j : Int) < (m : Int) then if 0 ≤ (j : Int) then if (j : Int) ≤ (j : Int) + 1 then if (j : Int) + 1 ≤ 3 then if s.size + (abcAt j).size ≤ 9223372036854775807 then (spec_wdHas.f k inn (s ++ abcAt j)).bind fun t168 => if t168 = true then spec_syLetters.l2 k l (m : Int) inn s ((j : Int) + 1) inn (inn.length : Int) (kk : Int) else (spec_wdHas.f k l (s ++ abcAt j)).bind fun t169 => if t169 = true then spec_syLetters.l2 k l (m : Int) inn s ((j : Int) + 1) inn (inn.length : Int) (kk : Int) else some (0, false) else none else none else none else none else spec_syLetters.l1 k l (m : Int) inn inn (inn.length : Int) (wrap64 ((kk : Int) + 1))) _
    refine Pl.pos (by omega) (Pl.pos (by omega) (Pl.pos (by omega) (Pl.pos (by omega) (Pl.pos (by omega) (Ev.bind (wdHas inn (s ++ abcAt j) (by omega)) ?_)))))
    rw [hA]
    unfold hasT
    cases h1 : Lib.containsS inn (s ++ abcAt j) with
    | true =>
      rw [Bool.true_or, Bool.true_and]
      exact Pl.pos rfl hn
    | false =>
      refine Pl.neg (by decide) (Ev.bind (wdHas l (s ++ abcAt j) (by omega)) ?_)
      cases h2 : Lib.containsS l (s ++ abcAt j) with
      | true =>
        rw [Bool.or_true, Bool.true_and]
        exact Pl.pos rfl hn
      | false =>
        rw [Bool.or_false, Bool.false_and, Bool.false_and]
        exact Pl.neg (by decide) (Pl.ret (by rw [if_neg (by decide)]))
theorem sy1 (l inn : List ByteArray) (hl : l.length ≤ 12) (hi : inn.length ≤ 1000) (hs : ∀ s ∈ inn, s.size ≤ 1000) (m : Nat) (hm : m ≤ 3) (d : Nat) : ∀ kk : Nat, kk + d = inn.length → Ev (fun k => spec_syLetters.l1 k l (m : Int) inn inn (inn.length : Int) (kk : Int)) (if (inn.drop kk).all (hasA l inn m 0) = true then ((m : Int), true) else (0, false)) := by
  induction d with
  | zero =>
    intro kk hk
    refine Pl.succ ?_
    simp only [spec_syLetters.l1]
    rw [List.drop_of_length_le (by omega)]
    exact Pl.neg (by omega) (Pl.ret (by simp))
  | succ d ih =>
    intro kk hk
    have hil : kk < inn.length := by omega
    refine Pl.succ ?_
    simp only [spec_syLetters.l1]
    rw [Pl.rdS_nat _ kk hil, List.drop_eq_getElem_cons hil, List.all_cons]
    exact Pl.pos (by omega) (Pl.pos (by omega) (Pl.pos (by omega) (sy2 l inn hl hi m hm kk (by omega) _ (hs _ (List.getElem_mem hil)) _ (ih (kk + 1) (by omega)) m 0 (by omega))))

end Go.Proofs.YtidjjcgfdkmefaaDoor.X
namespace Go.Proofs.YtidjjcgfdkmefaaDoor.X
open Go.RowKit Go.Proofs.YtidjjcgfdkmefaaDoorW.PrintWords Go.Proofs.YtidjjcgfdkmefaaDoorW.PrintLast Go.Proofs.YtidjjcgfdkmefaaDoorW.PrintMore Go.Proofs.YtidjjcgfdkmefaaDoor

theorem toStringS_l (l : List ByteArray) (hl : l.length ≤ 1048576) (d : Nat) : ∀ (i : Nat) (x : List ByteArray), l.length - i = d → i ≤ l.length → x.length = l.length → (∀ j, j < i → x[j]? = l[j]?) →
    Ev (fun k => laws_toStringS.l0 k l x (i : Int)) l := by
  induction d with
  | zero =>
    intro i x hd hi hx he
    refine Pl.succ ?_
    simp only [laws_toStringS.l0]
    refine Pl.neg (by omega) (Pl.ret ?_)
    apply List.ext_getElem?
    intro j
    by_cases hj : j < i
    · exact he j hj
    · rw [List.getElem?_eq_none (by omega), List.getElem?_eq_none (by omega)]
  | succ d ih =>
    intro i x hd hi hx he
    refine Pl.succ ?_
    simp only [laws_toStringS.l0]
    refine Pl.pos (by omega) (Pl.pos (by omega) (Pl.pos (by omega) ?_))
    rw [Pl.w64 (by omega) (by omega), Int.toNat_natCast, Pl.rdS_nat _ _ (by omega)]
    refine ih (i + 1) _ (by omega) (by omega) (by simpa using hx) ?_
    intro j hj
    rw [List.getElem?_set]
    by_cases e : i = j
    · subst e
      rw [if_pos rfl, if_pos (by omega), List.getElem?_eq_getElem (by omega)]
    · rw [if_neg e]
      exact he j (by omega)
theorem toStringS (l : List ByteArray) (hl : l.length ≤ 1048576) : Ev (fun k => laws_toStringS.f k l) l := by
  unfold laws_toStringS.f
  refine Pl.pos (by omega) (Pl.pos (by omega) ?_)
  exact toStringS_l l hl l.length 0 _ (by omega) (by omega) (by simp) (fun j hj => absurd hj (Nat.not_lt_zero _))
theorem szStringS_l (l : List ByteArray) (hl : l.length ≤ 1048576) (hs : ∀ s ∈ l, s.size ≤ 9223372036854775807) (d : Nat) : ∀ (i : Nat) (left : Int), l.length - i = d → i ≤ l.length → 0 ≤ left → left ≤ 1048576 →
    ∃ r, Ev (fun k => laws_szStringS.l0 k l left (i : Int)) r ∧ (0 ≤ r → r ≤ left ∧ ∀ j (h : j < l.length), i ≤ j → (l[j].size : Int) ≤ left) := by
  induction d with
  | zero =>
    intro i left hd hi h0 hb
    refine ⟨left, Pl.succ ?_, fun _ => ⟨Int.le_refl _, fun j h hj => by omega⟩⟩
    simp only [laws_szStringS.l0]
    exact Pl.neg (by omega) (Pl.ret rfl)
  | succ d ih =>
    intro i left hd hi h0 hb
    have hil : i < l.length := by omega
    have hsz := hs l[i] (List.getElem_mem hil)
    by_cases hc : left - (l[i].size : Int) < 0
    · refine ⟨-1, Pl.succ ?_, fun h => by omega⟩
      simp only [laws_szStringS.l0]
      rw [Pl.rdS_nat _ i hil, Pl.w64 (n := left - (l[i].size : Int)) (by omega) (by omega)]
      exact Pl.pos (by omega) (Pl.pos (by omega) (Pl.pos hc (Pl.ret rfl)))
    · obtain ⟨r, hr, hq⟩ := ih (i + 1) (left - (l[i].size : Int)) (by omega) (by omega) (by omega) (by omega)
      refine ⟨r, Pl.succ ?_, fun h => ⟨by have := (hq h).1; omega, fun j hj hij => ?_⟩⟩
      · simp only [laws_szStringS.l0]
        rw [Pl.rdS_nat _ i hil, Pl.w64 (n := left - (l[i].size : Int)) (by omega) (by omega), Pl.w64 (n := (i : Int) + 1) (by omega) (by omega)]
        exact Pl.pos (by omega) (Pl.pos (by omega) (Pl.neg hc hr))
      · by_cases e : j = i
        · subst e; omega
        · have := (hq h).2 j hj (by omega); omega
/-- What the size tells: all is small, or the law has nothing to say. -/
theorem szStringS (l : List ByteArray) (hl : l.length * 16 ≤ 140737488351232) (hs : ∀ s ∈ l, s.size ≤ maxLen) (left : Int) (h0 : 0 ≤ left) (hb : left ≤ 1048576) :
    ∃ r, Ev (fun k => laws_szStringS.f k l left) r ∧ (0 ≤ r → r ≤ left ∧ l.length ≤ 1048576 ∧ ∀ s ∈ l, s.size ≤ 1048576) := by
  unfold laws_szStringS.f
  by_cases hc : left - (l.length : Int) < 0
  · refine ⟨-1, ?_, fun h => by omega⟩
    rw [Pl.w64 (by omega) (by omega)]
    exact Pl.pos hc (Pl.ret rfl)
  · have hm : ∀ s ∈ l, s.size ≤ 9223372036854775807 := fun s h => by have := hs s h; unfold maxLen at this; exact this
    obtain ⟨r, hr, hq⟩ := szStringS_l l (by omega) hm l.length 0 (left - (l.length : Int)) (by omega) (by omega) (by omega) (by omega)
    refine ⟨r, ?_, fun h => ⟨by have := (hq h).1; omega, by omega, fun s hs' => ?_⟩⟩
    · rw [Pl.w64 (by omega) (by omega)]
      exact Pl.neg hc hr
    · obtain ⟨j, hj, rfl⟩ := List.getElem_of_mem hs'
      have := (hq h).2 j hj (Nat.zero_le _)
      omega

end Go.Proofs.YtidjjcgfdkmefaaDoor.X
namespace Go.Proofs.YtidjjcgfdkmefaaDoor.X
open Go.RowKit Go.Proofs.YtidjjcgfdkmefaaDoorW.PrintWords Go.Proofs.YtidjjcgfdkmefaaDoorW.PrintLast Go.Proofs.YtidjjcgfdkmefaaDoorW.PrintMore Go.Proofs.YtidjjcgfdkmefaaDoor

theorem eqStringS_l (l : List ByteArray) (hl : l.length ≤ 4611686018427387904) (d : Nat) : ∀ (i : Nat), l.length - i = d → i ≤ l.length → Ev (fun k => laws_eqStringS.l0 k l l (i : Int)) true := by
  induction d with
  | zero =>
    intro i hd hi
    refine Pl.succ ?_
    simp only [laws_eqStringS.l0]
    exact Pl.neg (by omega) (Pl.ret rfl)
  | succ d ih =>
    intro i hd hi
    refine Pl.succ ?_
    simp only [laws_eqStringS.l0]
    refine Pl.pos (by omega) (Pl.pos (by omega) (Pl.pos (by omega) (Pl.pos (by first | rfl | trivial) ?_)))
    rw [Pl.w64 (by omega) (by omega)]
    exact ih (i + 1) (by omega) (by omega)
theorem eqStringS (l : List ByteArray) (hl : l.length ≤ 4611686018427387904) : Ev (fun k => laws_eqStringS.f k l l) true := by
  unfold laws_eqStringS.f
  exact Pl.pos rfl (eqStringS_l l hl l.length 0 (by omega) (by omega))


end Go.Proofs.YtidjjcgfdkmefaaDoor.X
namespace Go.Proofs.YtidjjcgfdkmefaaDoor.X
open Go.RowKit Go.Proofs.YtidjjcgfdkmefaaDoorW.PrintWords Go.Proofs.YtidjjcgfdkmefaaDoorW.PrintLast Go.Proofs.YtidjjcgfdkmefaaDoorW.PrintMore Go.Proofs.YtidjjcgfdkmefaaDoor

theorem markText_l (d : Nat) : ∀ (n : Nat) (acc : ByteArray), n < 10 ^ d → n ≤ 1099511627776 → acc.size + d ≤ 1000 → ∃ t, Ev (fun k => laws_markText.l0 k (n : Int) acc) t := by
  induction d with
  | zero =>
    intro n acc hn hq hs
    refine ⟨(⟨#[109]⟩ : ByteArray) ++ acc, Pl.succ ?_⟩
    simp only [laws_markText.l0]
    exact Pl.neg (by omega) (Pl.pos (by omega) (Pl.ret rfl))
  | succ d ih =>
    intro n acc hn hq hs
    by_cases h0 : n = 0
    · refine ⟨(⟨#[109]⟩ : ByteArray) ++ acc, Pl.succ ?_⟩
      simp only [laws_markText.l0]
      exact Pl.neg (by omega) (Pl.pos (by omega) (Pl.ret rfl))
    · have hsz : ∀ y : Int, (strOfNums [y]).size = 1 := fun y => by rw [strOfNums_size]; rfl
      obtain ⟨t, ht⟩ := ih (n / 10) (strOfNums [(wrap64 (48 + (Int.tmod (n : Int) 10))) % 256] ++ acc) (by rw [Nat.pow_succ] at hn; omega) (by omega) (by rw [ByteArray.size_append, hsz]; omega)
      refine ⟨t, Pl.succ ?_⟩
      simp only [laws_markText.l0, Option.bind_some]
      refine Pl.pos (by omega) (Pl.pos (by rw [hsz]; omega) ?_)
      have e : Int.tdiv (n : Int) 10 = ((n / 10 : Nat) : Int) := (Int.ofNat_tdiv n 10).symm
      rw [e, Pl.w64 (by omega) (by omega)]
      exact ht
theorem markText (n : Nat) (h1 : 1 ≤ n) (hn : n ≤ 1099511627776) : ∃ t, Ev (fun k => laws_markText.f k (n : Int)) t := by
  obtain ⟨t, ht⟩ := markText_l 13 n ⟨#[]⟩ (by omega) hn (by decide)
  refine ⟨t, ?_⟩
  unfold laws_markText.f
  exact Pl.neg (by omega) ht

theorem markStringS_l (n : Nat) (hn : n ≤ 1073741824) (d : Nat) : ∀ (i : Nat) (x : List ByteArray), n - i = d → i ≤ n → x.length = n → (∀ j, j < i → ∃ t, x[j]? = some t ∧ Ev (fun k => laws_markText.f k (1 + (j : Int))) t) →
    ∃ l', l'.length = n ∧ (∀ j, j < n → ∃ t, l'[j]? = some t ∧ Ev (fun k => laws_markText.f k (1 + (j : Int))) t) ∧ Ev (fun k => laws_markStringS.l0 k x (1 + (i : Int)) (i : Int)) (1 + (n : Int), l') := by
  induction d with
  | zero =>
    intro i x hd hi hx he
    refine ⟨x, hx, fun j hj => he j (by omega), ?_⟩
    refine Pl.succ ?_
    simp only [laws_markStringS.l0]
    obtain rfl : i = n := by omega
    exact Pl.neg (by omega) (Pl.ret rfl)
  | succ d ih =>
    intro i x hd hi hx he
    obtain ⟨t, ht⟩ := markText (1 + i) (by omega) (by omega)
    have e1 : ((1 + i : Nat) : Int) = 1 + (i : Int) := by omega
    rw [e1] at ht
    obtain ⟨l', h1, h2, h3⟩ := ih (i + 1) (x.set i t) (by omega) (by omega) (by simpa using hx) (by
      intro j hj
      rw [List.getElem?_set]
      by_cases e : i = j
      · subst e
        exact ⟨t, by rw [if_pos rfl, if_pos (by omega)], ht⟩
      · rw [if_neg e]
        exact he j (by omega))
    refine ⟨l', h1, h2, ?_⟩
    refine Pl.succ ?_
    simp only [laws_markStringS.l0]
    refine Pl.pos (by omega) (Ev.bind ht (Pl.pos (by omega) ?_))
    rw [Pl.w64 (by omega) (by omega), Pl.w64 (by omega) (by omega), Int.toNat_natCast]
    have e : (1 + (i : Int) + 1) = 1 + ((i + 1 : Nat) : Int) := by omega
    rw [e]
    exact h3
theorem marksO (l : List ByteArray) (hn : l.length ≤ 1073741824) : ∃ l', Ev (fun k => laws_markStringS.f k l 1) (1 + (l.length : Int), l') := by
  obtain ⟨l', h1, h2, h3⟩ := markStringS_l l.length hn l.length 0 l (by omega) (by omega) rfl (fun j hj => absurd hj (Nat.not_lt_zero _))
  exact ⟨l', h3⟩

end Go.Proofs.YtidjjcgfdkmefaaDoor.X
namespace Go.Proofs.YtidjjcgfdkmefaaDoor.X
open Go.RowKit Go.Proofs.YtidjjcgfdkmefaaDoorW.PrintWords Go.Proofs.YtidjjcgfdkmefaaDoorW.PrintLast Go.Proofs.YtidjjcgfdkmefaaDoorW.PrintMore Go.Proofs.YtidjjcgfdkmefaaDoor

theorem heldStringS_l (n : Nat) (hn : n ≤ 1073741824) (l' : List ByteArray) (h1 : l'.length = n) (h2 : ∀ j, j < n → ∃ t, l'[j]? = some t ∧ Ev (fun k => laws_markText.f k (1 + (j : Int))) t) (d : Nat) : ∀ (i : Nat), n - i = d → i ≤ n →
    Ev (fun k => laws_heldStringS.l0 k l' (1 + (i : Int)) (i : Int)) (1 + (n : Int)) := by
  induction d with
  | zero =>
    intro i hd hi
    refine Pl.succ ?_
    simp only [laws_heldStringS.l0]
    obtain rfl : i = n := by omega
    exact Pl.neg (by omega) (Pl.ret rfl)
  | succ d ih =>
    intro i hd hi
    obtain ⟨t, hti, ht⟩ := h2 i (by omega)
    refine Pl.succ ?_
    simp only [laws_heldStringS.l0]
    have hr : rdOf ByteArray.empty l' (i : Int) = t := by
      rw [List.getElem?_eq_getElem (by omega)] at hti
      rw [Pl.rdS_nat _ _ (by omega)]
      exact Option.some.inj hti
    refine Pl.pos (by omega) (Pl.pos (by omega) (Ev.bind ht (Pl.pos (by rw [hr]) ?_)))
    rw [Pl.w64 (by omega) (by omega), Pl.w64 (by omega) (by omega)]
    have e : (1 + (i : Int) + 1) = 1 + ((i + 1 : Nat) : Int) := by omega
    rw [e]
    exact ih (i + 1) (by omega) (by omega)
/-- Marked, and held: the marks stand. -/
theorem marksS (l : List ByteArray) (hn : l.length ≤ 1073741824) : ∃ l', Ev (fun k => laws_markStringS.f k l 1) (1 + (l.length : Int), l') ∧ Ev (fun k => laws_heldStringS.f k l' 1) (1 + (l.length : Int)) := by
  obtain ⟨l', h1, h2, h3⟩ := markStringS_l l.length hn l.length 0 l (by omega) (by omega) rfl (fun j hj => absurd hj (Nat.not_lt_zero _))
  exact ⟨l', h3, heldStringS_l l.length hn l' h1 h2 l.length 0 (by omega) (by omega)⟩

end Go.Proofs.YtidjjcgfdkmefaaDoor.X
namespace Go.Proofs.YtidjjcgfdkmefaaDoor.Pure
open Go.RowKit Go.Proofs.YtidjjcgfdkmefaaDoor.X Go.Proofs.YtidjjcgfdkmefaaDoorW.PrintWords Go.Proofs.YtidjjcgfdkmefaaDoorW.PrintLast Go.Proofs.YtidjjcgfdkmefaaDoor

theorem idx_l (l : List ByteArray) (w : ByteArray) (hl : l.length ≤ 1000) (d : Nat) : ∀ i : Nat, i + d = l.length → ∃ r, Ev (fun k => slices_Index_string_string.l0 k l w (l.length : Int) (i : Int)) r := by
  induction d with
  | zero =>
    intro i hi
    refine ⟨-1, Pl.succ ?_⟩
    simp only [slices_Index_string_string.l0]
    exact Pl.neg (by omega) (Pl.ret rfl)
  | succ d ih =>
    intro i hi
    have hil : i < l.length := by omega
    by_cases he : w.toList = (rdOf ByteArray.empty l (i : Int)).toList
    · refine ⟨(i : Int), Pl.succ ?_⟩
      simp only [slices_Index_string_string.l0]
      exact Pl.pos (by omega) (Pl.pos (by omega) (Pl.pos (by omega) (Pl.pos he (Pl.ret rfl))))
    · obtain ⟨r, hr⟩ := ih (i + 1) (by omega)
      refine ⟨r, Pl.succ ?_⟩
      simp only [slices_Index_string_string.l0]
      rw [Pl.w64 (n := (i : Int) + 1) (by omega) (by omega)]
      exact Pl.pos (by omega) (Pl.pos (by omega) (Pl.pos (by omega) (Pl.neg he hr)))
theorem uni {α : Type} (p : Nat → α → Prop) : ∀ L : List α, (∀ a ∈ L, ∃ K, ∀ k, K ≤ k → p k a) → ∃ K, ∀ k, K ≤ k → ∀ a ∈ L, p k a
  | [], _ => ⟨0, fun _ _ a ha => by cases ha⟩
  | x :: L, h => by
    obtain ⟨K1, h1⟩ := h x List.mem_cons_self
    obtain ⟨K2, h2⟩ := uni p L fun a ha => h a (List.mem_cons_of_mem _ ha)
    refine ⟨max K1 K2, fun k hk a ha => ?_⟩
    rcases List.mem_cons.1 ha with rfl | ha
    · exact h1 k (by omega)
    · exact h2 k (by omega) a ha
theorem stOk_ev (inn : List ByteArray) (hl : inn.length ≤ 1000) (hs : ∀ s ∈ inn, s.size ≤ 1000) (m : Nat) (hm : m ≤ 3) : ∃ K, ∀ k, K ≤ k → stOk k inn (m : Int) = true := by
  obtain ⟨K, hK⟩ := uni (fun k s => ∀ j ∈ List.range m, (slices_Index_string_string.f k inn (s ++ abcAt j)).isSome = true) inn fun s _ => uni (fun k j => (slices_Index_string_string.f k inn (s ++ abcAt j)).isSome = true) (List.range m) fun j _ => by
    obtain ⟨r, K, hr⟩ := idx_l inn (s ++ abcAt j) hl inn.length 0 (by omega)
    refine ⟨K, fun k hk => ?_⟩
    have e : slices_Index_string_string.f k inn (s ++ abcAt j) = some r := hr k hk
    rw [e]; rfl
  refine ⟨K, fun k hk => ?_⟩
  unfold stOk
  rw [Int.toNat_natCast, decide_eq_true hl, decide_eq_true (show 0 ≤ (m : Int) ∧ (m : Int) ≤ 3 by omega)]
  rw [Bool.true_and, Bool.true_and]
  refine List.all_eq_true.2 fun s hsm => ?_
  rw [decide_eq_true (hs s hsm), Bool.true_and]
  exact List.all_eq_true.2 (hK k hk s hsm)
theorem bts_take (s : ByteArray) (n : Nat) : bts (s.extract 0 n) = (bts s).take n := by
  show (s.extract 0 n).data.toList = _
  rw [ByteArray.data_extract, Array.toList_extract, List.extract_eq_take_drop, List.drop_zero, Nat.sub_zero]
theorem bts_appS (a b : ByteArray) : bts (a ++ b) = bts a ++ bts b := by
  show (a ++ b).data.toList = _
  rw [ByteArray.data_append, Array.toList_append]
theorem bts_injS {a b : ByteArray} (h : bts a = bts b) : a = b := ByteArray.ext (Array.toList_inj.1 h)
theorem begB_of {s t : ByteArray} (h : bts t <+: bts s) : begB s t = true := by
  have h1 := h.length_le
  rw [bts_len, bts_len] at h1
  have h2 := List.prefix_iff_eq_take.1 h
  rw [bts_len] at h2
  unfold begB
  rw [decide_eq_true h1, Bool.true_and, beq_iff_eq, Pl.toL, Pl.toL]
  exact (bts_take s t.size).trans h2.symm
theorem pf_of {l : List ByteArray} (h : noTwo begB l) : PF (l.map bts) := by
  unfold PF
  rw [List.pairwise_map, List.pairwise_iff_getElem]
  intro i j hi hj hij
  refine ⟨fun q => ?_, fun q => ?_⟩
  · have := h j hj i hi (by omega)
    rw [begB_of q] at this; cases this
  · have := h i hi j hj (by omega)
    rw [begB_of q] at this; cases this
def Cs (m : Nat) : List UInt8 := if m = 3 then [97, 98, 99] else [97, 98]
theorem Cs_len {m : Nat} (hm : m = 2 ∨ m = 3) : (Cs m).length = m ∧ (Cs m).Nodup ∧ Cs m ≠ [] := by
  rcases hm with rfl | rfl <;> decide
theorem Cs_mem {m : Nat} (hm : m = 2 ∨ m = 3) (c : UInt8) : c ∈ Cs m ↔ ∃ j, j < m ∧ bts (abcAt j) = [c] := by
  have e0 : bts (abcAt 0) = [97] := by decide
  have e1 : bts (abcAt 1) = [98] := by decide
  have e2 : bts (abcAt 2) = [99] := by decide
  rcases hm with rfl | rfl
  · show c ∈ [97, 98] ↔ _
    constructor
    · intro h
      simp only [List.mem_cons, List.not_mem_nil, or_false] at h
      rcases h with rfl | rfl
      · exact ⟨0, by omega, e0⟩
      · exact ⟨1, by omega, e1⟩
    · rintro ⟨j, hj, h⟩
      have : j = 0 ∨ j = 1 := by omega
      rcases this with rfl | rfl
      · rw [e0] at h; cases h; decide
      · rw [e1] at h; cases h; decide
  · show c ∈ [97, 98, 99] ↔ _
    constructor
    · intro h
      simp only [List.mem_cons, List.not_mem_nil, or_false] at h
      rcases h with rfl | rfl | rfl
      · exact ⟨0, by omega, e0⟩
      · exact ⟨1, by omega, e1⟩
      · exact ⟨2, by omega, e2⟩
    · rintro ⟨j, hj, h⟩
      have : j = 0 ∨ j = 1 ∨ j = 2 := by omega
      rcases this with rfl | rfl | rfl
      · rw [e0] at h; cases h; decide
      · rw [e1] at h; cases h; decide
      · rw [e2] at h; cases h; decide
theorem inn_iff (l : List ByteArray) (u : List UInt8) : inn (l.map bts) u ↔ ∃ z ∈ innerS l, bts z = u := by
  constructor
  · rintro ⟨t, ht, hm⟩
    obtain ⟨s, hs, e⟩ := List.mem_map.1 hm
    have hlen := congrArg List.length e
    rw [bts_len, List.length_append] at hlen
    have : t.length ≠ 0 := fun q => ht (List.eq_nil_of_length_eq_zero q)
    refine ⟨s.extract 0 u.length, (innerS_mem l _).2 ⟨s, hs, u.length, by omega, rfl⟩, ?_⟩
    rw [bts_take, e, List.take_left]
  · rintro ⟨z, hz, rfl⟩
    obtain ⟨s, hs, n, hn, rfl⟩ := (innerS_mem l z).1 hz
    refine ⟨(bts s).drop n, fun q => ?_, ?_⟩
    · have := congrArg List.length q
      rw [List.length_drop, bts_len] at this
      simp at this
      omega
    · rw [bts_take, List.take_append_drop]
      exact List.mem_map.2 ⟨s, hs, rfl⟩
theorem closed_iff (l : List ByteArray) {m : Nat} (hm : m = 2 ∨ m = 3) : closed (Cs m) (l.map bts) ↔ l ≠ [] ∧ (innerS l).all (hasA l (innerS l) m 0) = true := by
  unfold closed
  refine and_congr (by simp) ?_
  have hA : (innerS l).all (hasA l (innerS l) m 0) = true ↔ ∀ z ∈ innerS l, ∀ j, j < m → (z ++ abcAt j ∈ innerS l ∨ z ++ abcAt j ∈ l) := by
    rw [List.all_eq_true]
    refine forall_congr' fun z => forall_congr' fun _ => ?_
    unfold hasA hasT
    rw [List.all_eq_true]
    simp only [Bool.or_eq_true, Lib.containsS_iff, List.mem_range'_1]
    exact ⟨fun h j hj => h j (by omega), fun h j hj => h j (by omega)⟩
  rw [hA]
  have hml : ∀ (z : ByteArray) (j : Nat) (c : UInt8), bts (abcAt j) = [c] → ((bts z ++ [c] ∈ l.map bts ↔ z ++ abcAt j ∈ l) ∧ (inn (l.map bts) (bts z ++ [c]) ↔ z ++ abcAt j ∈ innerS l)) := by
    intro z j c hc
    have e : bts z ++ [c] = bts (z ++ abcAt j) := by rw [bts_appS, hc]
    rw [e]
    refine ⟨⟨fun h => ?_, fun h => List.mem_map.2 ⟨_, h, rfl⟩⟩, (inn_iff l _).trans ⟨fun h => ?_, fun h => ⟨_, h, rfl⟩⟩⟩
    · obtain ⟨s, hs, e⟩ := List.mem_map.1 h
      rw [← bts_injS e]; exact hs
    · obtain ⟨s, hs, e⟩ := h
      rw [← bts_injS e]; exact hs
  constructor
  · intro h z hz j hj
    obtain ⟨c, hc⟩ : ∃ c, bts (abcAt j) = [c] := by
      have : j = 0 ∨ j = 1 ∨ j = 2 := by omega
      rcases this with rfl | rfl | rfl
      · exact ⟨97, by decide⟩
      · exact ⟨98, by decide⟩
      · exact ⟨99, by decide⟩
    have := h (bts z) c ((Cs_mem hm c).2 ⟨j, hj, hc⟩) ((inn_iff l _).2 ⟨z, hz, rfl⟩)
    rcases this with q | q
    · exact .inl ((hml z j c hc).2.1 q)
    · exact .inr ((hml z j c hc).1.1 q)
  · intro h u c hc hu
    obtain ⟨z, hz, rfl⟩ := (inn_iff l u).1 hu
    obtain ⟨j, hj, hcj⟩ := (Cs_mem hm c).1 hc
    rcases h z hz j hj with q | q
    · exact .inl ((hml z j c hcj).2.2 q)
    · exact .inr ((hml z j c hcj).1.2 q)
theorem kr_shares (x : Int) (l : List ByteArray) : kr x 8 (l.map bts) = shares x (lens l) := by
  unfold kr shares lens
  rw [List.map_map, List.map_map]
  congr 1
  refine List.map_congr_left fun s _ => ?_
  show x ^ (8 - (bts s).length) = x ^ (8 - (s.size : Int)).toNat
  rw [bts_len, show (8 - (s.size : Int)).toNat = 8 - s.size by omega]
theorem lc_two (l : List ByteArray) : lc l = 2 ∨ lc l = 3 := by unfold lc; split <;> simp
theorem full_iff {l : List ByteArray} (h : wset l) (hp : noTwo begB l) : shares (lc l : Int) (lens l) = (lc l : Int) ^ 8 ↔ (l ≠ [] ∧ (innerS l).all (hasA l (innerS l) (lc l) 0) = true) := by
  have hc := Cs_len (lc_two l)
  have hsh := fun s (hs : s ∈ l) => by
    have := wset_short h s hs
    unfold wshort at this
    simp only [Bool.and_eq_true, decide_eq_true_eq] at this
    exact this
  rw [← closed_iff l (lc_two l), ← kraft_closed hc.2.1 hc.2.2 8 (l.map bts) (pf_of hp) (fun s hs => by
    obtain ⟨t, ht, rfl⟩ := List.mem_map.1 hs
    rw [bts_len]
    exact (hsh t ht).1.2) (fun s hs b hb => by
    obtain ⟨t, ht, rfl⟩ := List.mem_map.1 hs
    have hL := List.all_eq_true.1 (hsh t ht).2 b hb
    unfold isL at hL
    simp only [Bool.or_eq_true, beq_iff_eq] at hL
    unfold Cs lc
    by_cases hany : l.any hasC = true
    · rw [if_pos hany, if_pos rfl]
      simp only [List.mem_cons, List.not_mem_nil, or_false]
      rcases hL with (q | q) | q
      · exact .inl q
      · exact .inr (.inl q)
      · exact .inr (.inr q)
    · rw [if_neg hany, if_neg (by decide)]
      simp only [List.mem_cons, List.not_mem_nil, or_false]
      rcases hL with (q | q) | q
      · exact .inl q
      · exact .inr q
      · exact absurd (List.any_eq_true.2 ⟨t, ht, (hasC_iff t).2 (q ▸ hb)⟩) hany), hc.1, kr_shares]
theorem both (l : List ByteArray) (hl : l.length ≤ 1048576) : ∃ v : List ByteArray × Bool, v.1.length ≤ 1048576 ∧ Ev (fun k => spec_StatesOf.f k l) v ∧ Ev (fun k => impl_StatesOf.f k l) v := by
  unfold spec_StatesOf.f impl_StatesOf.f spec_syLetters.f impl_stepperOf.f
  by_cases h : wset l
  · have h12 := h.1
    have hsh := fun s (hs : s ∈ l) => by
      have := wset_short h s hs
      unfold wshort at this
      simp only [Bool.and_eq_true, decide_eq_true_eq] at this
      exact this
    have hs : ∀ s ∈ l, s.size ≤ 8 := fun s q => (hsh s q).1.2
    have hil := innerS_len l h.1 hs
    have his : ∀ s ∈ innerS l, s.size ≤ 1000 := fun z hz => by
      obtain ⟨s, q, n, hn, rfl⟩ := (innerS_mem l z).1 hz
      have := hs s q
      rw [ByteArray.size_extract]
      omega
    have hm := lc_two l
    have hlc : impl_letterCount.f l = some ((lc l : Nat) : Int) := by
      unfold impl_letterCount.f lc
      rw [if_pos (show l.all sz1000c = true from List.all_eq_true.2 fun s q => decide_eq_true (by have := hs s q; omega))]
      split <;> rfl
    have hok : okLen (lens l) := ⟨by unfold lens; rw [List.length_map]; omega, fun n hn => by
      obtain ⟨s, q, rfl⟩ := List.mem_map.1 hn
      have := (hsh s q).1
      omega⟩
    have hx2 : (2 : Int) ≤ ((lc l : Nat) : Int) := by omega
    have hx3 : ((lc l : Nat) : Int) ≤ 3 := by omega
    by_cases hp : noTwo begB l
    · have hmax : Ev (fun k => impl_isMaximalPrefix.f k l ((lc l : Nat) : Int)) (shares ((lc l : Nat) : Int) (lens l) == ((lc l : Nat) : Int) ^ 8) := by
        unfold impl_isMaximalPrefix.f impl_isPrefixSet.f
        exact Ev.bind (Ev.now _) (Pl.pos (decide_eq_true hp) (Ev.bind (lengthsOf l (by omega)) (Ev.bind (iparts hx2 hx3 _ hok) (Ev.bind (ipow hx2 hx3 (by omega) (by omega)) (Pl.ret rfl)))))
      have hfull := full_iff h hp
      by_cases hne : l = []
      · have hf : ¬ shares ((lc l : Nat) : Int) (lens l) = ((lc l : Nat) : Int) ^ 8 := fun q => (hfull.1 q).1 hne
        have hb : (shares ((lc l : Nat) : Int) (lens l) == ((lc l : Nat) : Int) ^ 8) = false := by rw [beq_eq_false_iff_ne]; exact hf
        rw [hb] at hmax
        refine ⟨([], false), by simp, Ev.bind (a := (0, false)) (Ev.bind (wdSet l) (Pl.pos (decide_eq_true h) (Pl.pos (by rw [hne]; rfl) (Pl.succ ?_)))) (Pl.neg (by decide) (Pl.ret rfl)), Ev.bind (a := none) (Ev.bind (isSet l (by omega)) (Pl.pos (decide_eq_true h) (Pl.pos (by omega) ?_))) (Pl.ret rfl)⟩
        · simp only [spec_syLetters.j0]
          exact Pl.pos (by first | rfl | trivial) (Pl.ret rfl)
        · rw [hlc]
          exact Ev.bind (Ev.now _) (Ev.bind (innerWords l h.1 hs) (Ev.bind hmax (Pl.neg (by decide) (Pl.ret rfl))))
      · have hl0 : ¬ ((l.length : Int) = 0) := by
          intro q
          exact hne (List.eq_nil_of_length_eq_zero (by omega))
        have e1 := sy1 l (innerS l) h.1 (by omega) his (lc l) (by omega) (innerS l).length 0 (by omega)
        rw [List.drop_zero] at e1
        have e0 := sy0 l h _ (Ev.bind (pfInner l h.1 hs) e1) l.length 0 (by omega)
        have hstart : ((lc (l.take 0) : Nat) : Int) = 2 := by rw [List.take_zero]; rfl
        rw [hstart] at e0
        by_cases hf : (innerS l).all (hasA l (innerS l) (lc l) 0) = true
        · have hb : (shares ((lc l : Nat) : Int) (lens l) == ((lc l : Nat) : Int) ^ 8) = true := by rw [beq_iff_eq]; exact hfull.2 ⟨hne, hf⟩
          rw [hb] at hmax
          rw [if_pos hf] at e0
          obtain ⟨K, hK⟩ := stOk_ev (innerS l) (by omega) his (lc l) (by omega)
          refine ⟨(innerS l, true), by show (innerS l).length ≤ _; omega, Ev.bind (a := (((lc l : Nat) : Int), true)) (Ev.bind (wdSet l) (Pl.pos (decide_eq_true h) (Pl.neg hl0 (Pl.neg (by omega) (Ev.bind (krPrefix l h) (Pl.succ ?_)))))) (Pl.pos rfl (Ev.bind (pfInner l h.1 hs) (Pl.ret rfl))), Ev.bind (a := some (innerS l)) (Ev.bind (isSet l (by omega)) (Pl.pos (decide_eq_true h) (Pl.pos (by omega) ?_))) (Pl.ret rfl)⟩
          · rw [decide_eq_true hp]
            simp only [spec_syLetters.j0]
            exact Pl.neg (by decide) e0
          · rw [hlc]
            exact Ev.bind (Ev.now _) (Ev.bind (innerWords l h.1 hs) (Ev.bind hmax (Pl.pos rfl ⟨K, fun k hk => by show (if stOk k (innerS l) ((lc l : Nat) : Int) = true then _ else _) = _; rw [if_pos (hK k hk)]⟩)))
        · have hb : (shares ((lc l : Nat) : Int) (lens l) == ((lc l : Nat) : Int) ^ 8) = false := by rw [beq_eq_false_iff_ne]; exact fun q => hf (hfull.1 q).2
          rw [hb] at hmax
          rw [if_neg hf] at e0
          refine ⟨([], false), by simp, Ev.bind (a := (0, false)) (Ev.bind (wdSet l) (Pl.pos (decide_eq_true h) (Pl.neg hl0 (Pl.neg (by omega) (Ev.bind (krPrefix l h) (Pl.succ ?_)))))) (Pl.neg (by decide) (Pl.ret rfl)), Ev.bind (a := none) (Ev.bind (isSet l (by omega)) (Pl.pos (decide_eq_true h) (Pl.pos (by omega) ?_))) (Pl.ret rfl)⟩
          · rw [decide_eq_true hp]
            simp only [spec_syLetters.j0]
            exact Pl.neg (by decide) e0
          · rw [hlc]
            exact Ev.bind (Ev.now _) (Ev.bind (innerWords l h.1 hs) (Ev.bind hmax (Pl.neg (by decide) (Pl.ret rfl))))
    · have hmax : Ev (fun k => impl_isMaximalPrefix.f k l ((lc l : Nat) : Int)) false := by
        unfold impl_isMaximalPrefix.f impl_isPrefixSet.f
        exact Ev.bind (Ev.now _) (Pl.neg (by rw [decide_eq_true_eq]; exact hp) (Pl.ret rfl))
      have hi : Ev (fun k => (impl_letterCount.f l).bind fun many => (impl_innerWords.f k l).bind fun inn => (impl_isMaximalPrefix.f k l many).bind fun mp => if mp = true then (if stOk k inn many = true then some (some inn) else none) else some none) none := by
        rw [hlc]
        exact Ev.bind (Ev.now _) (Ev.bind (innerWords l h.1 hs) (Ev.bind hmax (Pl.neg (by decide) (Pl.ret rfl))))
      refine ⟨([], false), by simp, Ev.bind (a := (0, false)) (Ev.bind (wdSet l) (Pl.pos (decide_eq_true h) ?_)) (Pl.neg (by decide) (Pl.ret rfl)), Ev.bind (a := none) (Ev.bind (isSet l (by omega)) (Pl.pos (decide_eq_true h) (Pl.pos (by omega) hi))) (Pl.ret rfl)⟩
      have hj : Ev (fun k => spec_syLetters.j0 k l true) (0, false) := by
        refine Pl.succ ?_
        simp only [spec_syLetters.j0]
        exact Pl.pos (by first | rfl | trivial) (Pl.ret rfl)
      by_cases hl0 : (l.length : Int) = 0
      · exact Pl.pos hl0 hj
      · refine Pl.neg hl0 (Pl.neg (by omega) (Ev.bind (krPrefix l h) ?_))
        rw [decide_eq_false hp]
        exact hj
  · refine ⟨([], false), by simp, Ev.bind (a := (0, false)) (Ev.bind (wdSet l) (Pl.neg (by simp [h]) (Pl.succ ?_))) (Pl.neg (by decide) (Pl.ret rfl)), Ev.bind (a := none) (Ev.bind (isSet l (by omega)) (Pl.neg (by simp [h]) (Pl.ret rfl))) (Pl.ret rfl)⟩
    simp only [spec_syLetters.j0]
    exact Pl.pos (by first | rfl | trivial) (Pl.ret rfl)
theorem FnExactStatesOf (l : List ByteArray) (hb : l.length * 16 ≤ 140737488351232) (hs : ∀ s ∈ l, s.size ≤ maxLen) : ∃ k, laws_FnExactStatesOf.f k l = some true := by
  refine Ev.rounds ?_
  unfold laws_FnExactStatesOf.f
  obtain ⟨r, hr, hq⟩ := szStringS l hb hs 1048576 (by omega) (by omega)
  refine Ev.bind hr ?_
  by_cases hc : r < 0
  · exact Pl.pos hc (Pl.ret rfl)
  obtain ⟨_, hl, _⟩ := hq (by omega)
  obtain ⟨⟨g, b⟩, hlen, h1, h2⟩ := both l hl
  simp only at hlen
  obtain ⟨mg, hm1, hm2⟩ := marksS g (by omega)
  obtain ⟨ms, hs1, hs2⟩ := marksS l (by omega)
  refine Pl.neg hc (Ev.bind (toStringS l hl) (Ev.bind h1 (Ev.bind (toStringS l hl) (Ev.bind h2 (Ev.bind (eqStringS g (by omega)) (Pl.pos rfl (Pl.succ ?_)))))))
  simp only [laws_FnExactStatesOf.j0]
  refine Pl.neg (by simp) (Ev.bind (toStringS l hl) (Ev.bind (eqStringS l (by omega)) (Pl.pos rfl (Ev.bind hs1 (Pl.neg (by show ¬ (1 + (l.length : Int)) < 0; omega) (Ev.bind (eqStringS g (by omega)) (Pl.pos rfl (Pl.succ ?_))))))))
  simp only [laws_FnExactStatesOf.j1]
  refine Pl.neg (by simp) (Ev.bind hm1 (Ev.bind hm2 (Pl.neg (by omega) (Pl.pos rfl (Ev.bind (toStringS l hl) (Ev.bind h2 (Ev.bind (eqStringS g (by omega)) (Pl.pos rfl (Pl.succ ?_)))))))))
  simp only [laws_FnExactStatesOf.j2]
  exact Pl.neg (by simp) (Ev.bind hm2 (Pl.neg (by omega) (Pl.pos rfl (Pl.ret rfl))))

end Go.Proofs.YtidjjcgfdkmefaaDoor.Pure

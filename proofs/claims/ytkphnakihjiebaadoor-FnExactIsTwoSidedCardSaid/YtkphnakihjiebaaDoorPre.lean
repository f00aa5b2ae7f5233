/- Prefix sets: program and reference; no condition beyond being a set. -/
import Derived.Test.YtkphnakihjiebaaDoorSt
import Derived.Test.YtkphnakihjiebaaDoorXx10
import Derived.Test.YtkphnakihjiebaaDoorXx11
import Derived.Test.YtkphnakihjiebaaDoorXx14
namespace Go.Proofs.YtkphnakihjiebaaDoor.X
open Go.RowKit Go.Proofs.YtkphnakihjiebaaDoorW.PrintWords Go.Proofs.YtkphnakihjiebaaDoorW.PrintLast Go.Proofs.YtkphnakihjiebaaDoorW.PrintMore Go.Proofs.YtkphnakihjiebaaDoor

theorem wdBegins_eq (s t : ByteArray) : spec_wdBegins.f s t = some (begB s t) := by
  unfold spec_wdBegins.f begB
  by_cases h : t.size ≤ s.size
  · rw [if_pos (by omega), if_pos (by omega), decide_eq_true h]; rfl
  · rw [if_neg (by omega), decide_eq_false h]; rfl
theorem bytesLess_irrefl : ∀ x : List UInt8, Op.bytesLess x x = false
  | [] => rfl
  | a :: x => by
    rw [Op.bytesLess, bytesLess_irrefl x]
    simp
theorem bytesLess_trans : ∀ x y z : List UInt8, Op.bytesLess x y = true → Op.bytesLess y z = true → Op.bytesLess x z = true
  | [], [], _, h, _ => by cases h
  | [], _ :: _, [], _, h => by cases h
  | [], _ :: _, _ :: _, _, _ => rfl
  | _ :: _, [], _, h, _ => by cases h
  | _ :: _, _ :: _, [], _, h => by cases h
  | a :: x, b :: y, c :: z, h1, h2 => by
    rw [Op.bytesLess] at h1 h2 ⊢
    simp only [Bool.or_eq_true, Bool.and_eq_true, decide_eq_true_eq, beq_iff_eq] at h1 h2 ⊢
    rcases h1 with h1 | ⟨rfl, h1⟩
    · rcases h2 with h2 | ⟨rfl, h2⟩
      · left
        rw [u8_lt_iff] at h1 h2 ⊢
        omega
      · exact .inl h1
    · rcases h2 with h2 | ⟨rfl, h2⟩
      · exact .inl h2
      · exact .inr ⟨rfl, bytesLess_trans x y z h1 h2⟩
theorem wless_irrefl (s : ByteArray) : wless s s = false := by
  unfold wless
  rw [bytesLess_irrefl]
  simp
theorem wless_trans {s t u : ByteArray} (h1 : wless s t = true) (h2 : wless t u = true) : wless s u = true := by
  unfold wless at *
  simp only [Bool.or_eq_true, Bool.and_eq_true, decide_eq_true_eq] at *
  rcases h1 with h1 | ⟨e1, h1⟩ <;> rcases h2 with h2 | ⟨e2, h2⟩
  · left; omega
  · left; omega
  · left; omega
  · right; exact ⟨by omega, bytesLess_trans _ _ _ h1 h2⟩
theorem wless_size {s t : ByteArray} (h : wless s t = true) : s.size ≤ t.size := by
  unfold wless at h
  simp only [Bool.or_eq_true, Bool.and_eq_true, decide_eq_true_eq] at h
  omega
theorem wset_less {l : List ByteArray} (h : wset l) (d : Nat) : ∀ i (hi : i + d + 1 < l.length), wless (l[i]'(by omega)) l[i + d + 1] = true := by
  induction d with
  | zero => intro i hi; exact h.2.2 i hi
  | succ d ih =>
    intro i hi
    exact wless_trans (ih i (by omega)) (h.2.2 (i + d + 1) hi)
theorem wset_lt {l : List ByteArray} (h : wset l) {i k : Nat} (hik : i < k) (hk : k < l.length) : wless (l[i]'(by omega)) l[k] = true := by
  have := wset_less h (k - i - 1) i (by omega)
  simpa only [show i + (k - i - 1) + 1 = k by omega] using this
theorem begB_eq {s t : ByteArray} (h : begB s t = true) (hs : s.size = t.size) : s = t := by
  unfold begB at h
  simp only [Bool.and_eq_true, decide_eq_true_eq, beq_iff_eq] at h
  have e : s.extract 0 t.size = s := by rw [← hs]; exact ByteArray.extract_zero_size
  rw [e] at h
  exact Pl.ba_ext h.2
theorem begB_size {s t : ByteArray} (h : begB s t = true) : t.size ≤ s.size := by
  unfold begB at h
  simp only [Bool.and_eq_true, decide_eq_true_eq] at h
  exact h.1
/-- Of a set it's enough that no later word begins with an earlier one. -/
theorem noTwo_iff {l : List ByteArray} (h : wset l) : noTwo begB l ↔ ∀ i k (hik : i < k) (hk : k < l.length), begB l[k] (l[i]'(by omega)) = false := by
  constructor
  · intro hn i k hik hk
    exact hn k hk i (by omega) (by omega)
  · intro hn i hi k hk hne
    by_cases hlt : k < i
    · exact hn k i hlt hi
    · have hik : i < k := by omega
      have hw := wset_lt h hik hk
      cases hb : begB l[i] l[k] with
      | false => rfl
      | true =>
        have h1 := begB_size hb
        have h2 := wless_size hw
        have e := begB_eq hb (by omega)
        rw [e, wless_irrefl] at hw
        cases hw
theorem krPrefix_l1 (l : List ByteArray) (hl : l.length ≤ 12) (i : Nat) (hi : i < l.length) (r : Bool)
    (hrest : (∀ j (hj : j < l.length), i < j → begB l[j] l[i] = false) → Ev (fun k => spec_krPrefix.l0 k l l (l.length : Int) (((i + 1 : Nat)) : Int)) r)
    (hno : (∃ j, ∃ hj : j < l.length, i < j ∧ begB l[j] l[i] = true) → r = false)
    (d : Nat) : ∀ j, i + 1 + j + d = l.length → (∀ q (hq : q < l.length), i < q → q < i + 1 + j → begB l[q] l[i] = false) →
    Ev (fun k => spec_krPrefix.l1 k l l[i] l (l.length : Int) (i : Int) (l.drop (i + 1)) ((l.drop (i + 1)).length : Int) (j : Int)) r := by
  have hdl : (l.drop (i + 1)).length = l.length - (i + 1) := List.length_drop
  induction d with
  | zero =>
    intro j hj hq
    refine Pl.succ ?_
    simp only [spec_krPrefix.l1]
    refine Pl.neg (by omega) ?_
    rw [Pl.w64 (by omega) (by omega)]
    exact hrest (fun q hq' hiq => hq q hq' hiq (by omega))
  | succ d ih =>
    intro j hj hq
    have hjl : i + 1 + j < l.length := by omega
    have hrd : rdOf ByteArray.empty (l.drop (i + 1)) (j : Int) = l[i + 1 + j] := by
      rw [Pl.rdS_nat _ j (by omega)]; simp
    refine Pl.succ ?_
    simp only [spec_krPrefix.l1, wdBegins_eq, Option.bind_some]
    rw [hrd]
    refine Pl.pos (by omega) (Pl.pos (by omega) (Pl.pos (by omega) ?_))
    cases hb : begB l[i + 1 + j] l[i] with
    | true =>
      rw [hno ⟨i + 1 + j, hjl, by omega, hb⟩]
      exact Pl.pos rfl (Pl.ret rfl)
    | false =>
      refine Pl.neg (by decide) ?_
      rw [Pl.w64 (by omega) (by omega)]
      refine ih (j + 1) (by omega) (fun q hq' hiq hlt => ?_)
      by_cases e : q = i + 1 + j
      · subst e; exact hb
      · exact hq q hq' hiq (by omega)
theorem krPrefix_l (l : List ByteArray) (hl : l.length ≤ 12) (r : Bool) (hr : r = true ↔ ∀ i k (hik : i < k) (hk : k < l.length), begB l[k] (l[i]'(by omega)) = false) (d : Nat) : ∀ i, i + d = l.length → (∀ q k (hqk : q < k) (hk : k < l.length), q < i → begB l[k] (l[q]'(by omega)) = false) →
    Ev (fun k => spec_krPrefix.l0 k l l (l.length : Int) (i : Int)) r := by
  induction d with
  | zero =>
    intro i hi hq
    refine Pl.succ ?_
    simp only [spec_krPrefix.l0]
    exact Pl.neg (by omega) (Pl.ret (hr.2 (fun q k hqk hk => hq q k hqk hk (by omega))).symm)
  | succ d ih =>
    intro i hi hq
    have hil : i < l.length := by omega
    refine Pl.succ ?_
    simp only [spec_krPrefix.l0]
    rw [Pl.rdS_nat _ i hil, Pl.w64 (n := (i : Int) + 1) (by omega) (by omega), show ((i : Int) + 1).toNat = i + 1 by omega]
    refine Pl.pos (by omega) (Pl.pos (by omega) (Pl.pos (by omega) (Pl.pos (by omega) (Pl.pos (by omega) ?_))))
    refine krPrefix_l1 l hl i hil r (fun hall => ih (i + 1) (by omega) (fun q k hqk hk hlt => ?_)) (fun ⟨j, hj, hij, hb⟩ => ?_) (l.length - (i + 1)) 0 (by omega) (fun q hq' h1 h2 => by omega)
    · by_cases e : q = i
      · subst e; exact hall k hk hqk
      · exact hq q k hqk hk (by omega)
    · cases r with
      | false => rfl
      | true =>
        have := hr.1 rfl i j hij hj
        rw [hb] at this
        cases this
theorem krPrefix (l : List ByteArray) (h : wset l) : Ev (fun k => spec_krPrefix.f k l) (decide (noTwo begB l)) := by
  unfold spec_krPrefix.f
  exact krPrefix_l l h.1 _ (by rw [decide_eq_true_eq]; exact noTwo_iff h) l.length 0 (by omega) (fun q k _ _ hlt => absurd hlt (Nat.not_lt_zero _))

end Go.Proofs.YtkphnakihjiebaaDoor.X

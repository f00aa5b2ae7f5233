/- Prefix sets: program and reference; no condition beyond being a set. -/
import Derived.Test.YtmgankgjjnegaaaDoorWl
import Derived.Test.YtmgankgjjnegaaaDoorXx1
import Derived.Test.YtmgankgjjnegaaaDoorXx6
namespace Go.Proofs.YtmgankgjjnegaaaDoor.X
open Go.RowKit Go.Proofs.YtmgankgjjnegaaaDoorW.PrintWords Go.Proofs.YtmgankgjjnegaaaDoorW.PrintLast Go.Proofs.YtmgankgjjnegaaaDoorW.PrintMore Go.Proofs.YtmgankgjjnegaaaDoor

theorem wdBegins_eq (s t : ByteArray) : spec_wdBegins.f s t = some (begB s t) := by
  unfold spec_wdBegins.f begB
  by_cases h : t.size ≤ s.size
  · rw [if_pos (by omega), if_pos (by omega), decide_eq_true h]; rfl
  · rw [if_neg (by omega), decide_eq_false h]; rfl
theorem begB_eq {s t : ByteArray} (h : begB s t = true) (hs : s.size = t.size) : s = t := by
  unfold begB at h
  simp only [Bool.and_eq_true, decide_eq_true_eq, beq_iff_eq] at h
  have e : s.extract 0 t.size = s := by rw [← hs]; exact ByteArray.extract_zero_size
  rw [e] at h
  exact Pl.ba_ext h.2
theorem begB_size {s t : ByteArray} (h : begB s t = true) : t.size ≤ s.size := by
  unfold begB at h
  simp only [Bool.and_eq_true, decide_eq_true_eq] at h
  exact h.1
/-- Of a set it's enough that no later word begins with an earlier one. -/
theorem noTwo_iff {l : List ByteArray} (h : wset l) : noTwo begB l ↔ ∀ i k (hik : i < k) (hk : k < l.length), begB l[k] (l[i]'(by omega)) = false := by
  constructor
  · intro hn i k hik hk
    exact hn k hk i (by omega) (by omega)
  · intro hn i hi k hk hne
    by_cases hlt : k < i
    · exact hn k i hlt hi
    · have hik : i < k := by omega
      have hw := wset_lt h hik hk
      cases hb : begB l[i] l[k] with
      | false => rfl
      | true =>
        have h1 := begB_size hb
        have h2 := wless_size hw
        have e := begB_eq hb (by omega)
        rw [e, wless_irrefl] at hw
        cases hw
theorem krPrefix_l1 (l : List ByteArray) (hl : l.length ≤ 12) (i : Nat) (hi : i < l.length) (r : Bool)
    (hrest : (∀ j (hj : j < l.length), i < j → begB l[j] l[i] = false) → Ev (fun k => spec_krPrefix.l0 k l l (l.length : Int) (((i + 1 : Nat)) : Int)) r)
    (hno : (∃ j, ∃ hj : j < l.length, i < j ∧ begB l[j] l[i] = true) → r = false)
    (d : Nat) : ∀ j, i + 1 + j + d = l.length → (∀ q (hq : q < l.length), i < q → q < i + 1 + j → begB l[q] l[i] = false) →
    Ev (fun k => spec_krPrefix.l1 k l l[i] l (l.length : Int) (i : Int) (l.drop (i + 1)) ((l.drop (i + 1)).length : Int) (j : Int)) r := by
  have hdl : (l.drop (i + 1)).length = l.length - (i + 1) := List.length_drop
  induction d with
  | zero =>
    intro j hj hq
    refine Pl.succ ?_
    simp only [spec_krPrefix.l1]
    refine Pl.neg (by omega) ?_
    rw [Pl.w64 (by omega) (by omega)]
    exact hrest (fun q hq' hiq => hq q hq' hiq (by omega))
  | succ d ih =>
    intro j hj hq
    have hjl : i + 1 + j < l.length := by omega
    have hrd : rdOf ByteArray.empty (l.drop (i + 1)) (j : Int) = l[i + 1 + j] := by
      rw [Pl.rdS_nat _ j (by omega)]; simp
    refine Pl.succ ?_
    simp only [spec_krPrefix.l1, wdBegins_eq, Option.bind_some]
    rw [hrd]
    refine Pl.pos (by omega) (Pl.pos (by omega) (Pl.pos (by omega) ?_))
    cases hb : begB l[i + 1 + j] l[i] with
    | true =>
      rw [hno ⟨i + 1 + j, hjl, by omega, hb⟩]
      exact Pl.pos rfl (Pl.ret rfl)
    | false =>
      refine Pl.neg (by decide) ?_
      rw [Pl.w64 (by omega) (by omega)]
      refine ih (j + 1) (by omega) (fun q hq' hiq hlt => ?_)
      by_cases e : q = i + 1 + j
      · subst e; exact hb
      · exact hq q hq' hiq (by omega)
theorem krPrefix_l (l : List ByteArray) (hl : l.length ≤ 12) (r : Bool) (hr : r = true ↔ ∀ i k (hik : i < k) (hk : k < l.length), begB l[k] (l[i]'(by omega)) = false) (d : Nat) : ∀ i, i + d = l.length → (∀ q k (hqk : q < k) (hk : k < l.length), q < i → begB l[k] (l[q]'(by omega)) = false) →
    Ev (fun k => spec_krPrefix.l0 k l l (l.length : Int) (i : Int)) r := by
  induction d with
  | zero =>
    intro i hi hq
    refine Pl.succ ?_
    simp only [spec_krPrefix.l0]
    exact Pl.neg (by omega) (Pl.ret (hr.2 (fun q k hqk hk => hq q k hqk hk (by omega))).symm)
  | succ d ih =>
    intro i hi hq
    have hil : i < l.length := by omega
    refine Pl.succ ?_
    simp only [spec_krPrefix.l0]
    rw [Pl.rdS_nat _ i hil, Pl.w64 (n := (i : Int) + 1) (by omega) (by omega), show ((i : Int) + 1).toNat = i + 1 by omega]
    refine Pl.pos (by omega) (Pl.pos (by omega) (Pl.pos (by omega) (Pl.pos (by omega) (Pl.pos (by omega) ?_))))
    refine krPrefix_l1 l hl i hil r (fun hall => ih (i + 1) (by omega) (fun q k hqk hk hlt => ?_)) (fun ⟨j, hj, hij, hb⟩ => ?_) (l.length - (i + 1)) 0 (by omega) (fun q hq' h1 h2 => by omega)
    · by_cases e : q = i
      · subst e; exact hall k hk hqk
      · exact hq q k hqk hk (by omega)
    · cases r with
      | false => rfl
      | true =>
        have := hr.1 rfl i j hij hj
        rw [hb] at this
        cases this
theorem krPrefix (l : List ByteArray) (h : wset l) : Ev (fun k => spec_krPrefix.f k l) (decide (noTwo begB l)) := by
  unfold spec_krPrefix.f
  exact krPrefix_l l h.1 _ (by rw [decide_eq_true_eq]; exact noTwo_iff h) l.length 0 (by omega) (fun q k _ _ hlt => absurd hlt (Nat.not_lt_zero _))

end Go.Proofs.YtmgankgjjnegaaaDoor.X

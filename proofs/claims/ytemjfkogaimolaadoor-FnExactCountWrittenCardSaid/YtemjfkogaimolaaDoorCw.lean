/- Words merged in order as texts, each once; words that a set writes; plain lists, no program. -/
import Derived.Test.YtemjfkogaimolaaDoorSt
import Derived.Test.YtemjfkogaimolaaDoorCyc
import Derived.Test.YtemjfkogaimolaaDoorXx2
namespace Go.Proofs.YtemjfkogaimolaaDoor.X
open Go.RowKit Go.Proofs.YtemjfkogaimolaaDoorW.PrintWords Go.Proofs.YtemjfkogaimolaaDoorW.PrintLast Go.Proofs.YtemjfkogaimolaaDoorW.PrintMore Go.Proofs.YtemjfkogaimolaaDoor

theorem wset_short {l : List ByteArray} (h : wset l) : ∀ s ∈ l, wshort s = true := fun s hs => by
  obtain ⟨i, hi, rfl⟩ := List.getElem_of_mem hs
  exact h.2.1 i hi
theorem wshort_size {s : ByteArray} (h : wshort s = true) : 1 ≤ s.size ∧ s.size ≤ 8 := by
  unfold wshort at h
  simp only [Bool.and_eq_true, decide_eq_true_eq] at h
  exact h.1
theorem byteLt : ∀ x y : List UInt8, Op.bytesLess x y = true ↔ x < y
  | [], [] => by simp [Op.bytesLess]
  | [], _ :: _ => by simp [Op.bytesLess]
  | _ :: _, [] => by simp [Op.bytesLess]
  | a :: x, b :: y => by
    rw [Op.bytesLess, List.cons_lt_cons_iff, ← byteLt x y]
    simp
theorem byteTotal : ∀ x y : List UInt8, x ≠ y → Op.bytesLess x y = false → Op.bytesLess y x = true
  | [], [], h, _ => absurd rfl h
  | [], _ :: _, _, h => by cases h
  | _ :: _, [], _, _ => rfl
  | a :: x, b :: y, h, h1 => by
    rw [Op.bytesLess] at h1 ⊢
    simp only [Bool.or_eq_false_iff, Bool.and_eq_false_iff, decide_eq_false_iff_not, beq_eq_false_iff_ne, Bool.or_eq_true, Bool.and_eq_true, decide_eq_true_eq, beq_iff_eq] at h1 ⊢
    by_cases e : a = b
    · subst e
      refine .inr ⟨rfl, byteTotal x y (fun e => h (by rw [e])) ?_⟩
      rcases h1.2 with h2 | h2
      · exact absurd rfl h2
      · exact h2
    · left
      have hn : a.toNat ≠ b.toNat := fun h => e (UInt8.toNat_inj.1 h)
      have h2 := h1.1
      rw [UInt8.lt_iff_toNat_lt] at h2 ⊢
      omega
/-- Ahead of another one, as texts. -/
def tlt (x y : ByteArray) : Prop := Op.bytesLess x.toList y.toList = true
theorem tlt_irrefl (x : ByteArray) : ¬ tlt x x := by unfold tlt; rw [byteLt]; exact List.lt_irrefl _
theorem tlt_trans {x y z : ByteArray} (h1 : tlt x y) (h2 : tlt y z) : tlt x z := by
  unfold tlt at *; rw [byteLt] at *; exact List.lt_trans h1 h2
theorem tlt_total {x y : ByteArray} (h1 : ¬ tlt x y) (h2 : ¬ tlt y x) : x = y := by
  unfold tlt at h1 h2
  refine ba_extS (Classical.byContradiction fun hne => ?_)
  exact h2 (byteTotal x.toList y.toList hne (by simpa using h1))
theorem tlt_asymm {x y : ByteArray} (h : tlt x y) : ¬ tlt y x := fun q => tlt_irrefl x (tlt_trans h q)
theorem addD_ok {out : List ByteArray} {s : ByteArray} (h1 : out.Pairwise tlt) (h2 : ∀ o ∈ out, ¬ tlt s o) : (addD out s).Pairwise tlt ∧ ∀ z, z ∈ addD out s ↔ z ∈ out ∨ z = s := by
  unfold addD
  by_cases hl : out.getLast? = some s
  · rw [if_pos hl]
    exact ⟨h1, fun z => ⟨.inl, fun h => h.elim id (fun e => e ▸ List.mem_of_getLast? hl)⟩⟩
  · rw [if_neg hl]
    refine ⟨List.pairwise_append.2 ⟨h1, List.pairwise_singleton _ _, fun o ho q hq => ?_⟩, fun z => by simp⟩
    rw [List.mem_singleton] at hq
    subst hq
    refine Classical.byContradiction fun hn => ?_
    have e := tlt_total hn (h2 o ho)
    subst e
    rcases (show out = [] ∨ ∃ o' x0, out = o' ++ [x0] from by simpa only [List.concat_eq_append] using List.eq_nil_or_concat out) with e | ⟨o', x0, e⟩
    · subst e; cases ho
    · subst e
      rcases List.mem_append.1 ho with h | h
      · exact h2 x0 (by simp) ((List.pairwise_append.1 h1).2.2 _ h x0 (by simp))
      · rw [List.mem_singleton] at h
        subst h
        exact hl (by simp)
theorem mrg_ok : ∀ (n : Nat) (a b out : List ByteArray), a.length + b.length ≤ n → a.Pairwise tlt → b.Pairwise tlt → out.Pairwise tlt → (∀ o ∈ out, ∀ z, z ∈ a ∨ z ∈ b → ¬ tlt z o) →
    (mrg n a b out).Pairwise tlt ∧ ∀ z, z ∈ mrg n a b out ↔ z ∈ out ∨ z ∈ a ∨ z ∈ b := by
  intro n
  induction n with
  | zero =>
    intro a b out hn _ _ ho _
    have ha : a = [] := List.length_eq_zero_iff.1 (by omega)
    have hb : b = [] := List.length_eq_zero_iff.1 (by omega)
    subst ha hb
    exact ⟨ho, fun z => by simp [mrg]⟩
  | succ n ih =>
    intro a b out hn ha hb ho hz
    cases a with
    | nil =>
      cases b with
      | nil => exact ⟨ho, fun z => by simp [mrg]⟩
      | cons y b =>
        rw [List.pairwise_cons] at hb
        obtain ⟨p1, p2⟩ := addD_ok ho (fun o q => hz o q y (.inr List.mem_cons_self))
        obtain ⟨q1, q2⟩ := ih [] b (addD out y) (by simp at hn ⊢; omega) List.Pairwise.nil hb.2 p1 (fun o q z h => by
          rcases h with h | h
          · cases h
          · rcases (p2 o).1 q with q | q
            · exact hz o q z (.inr (List.mem_cons_of_mem _ h))
            · subst q; exact tlt_asymm (hb.1 z h))
        refine ⟨q1, fun z => ?_⟩
        rw [mrg, q2 z, p2 z]
        simp only [List.not_mem_nil, List.mem_cons, false_or, or_assoc]
    | cons x a =>
      cases b with
      | nil =>
        rw [List.pairwise_cons] at ha
        obtain ⟨p1, p2⟩ := addD_ok ho (fun o q => hz o q x (.inl List.mem_cons_self))
        obtain ⟨q1, q2⟩ := ih a [] (addD out x) (by simp at hn ⊢; omega) ha.2 List.Pairwise.nil p1 (fun o q z h => by
          rcases h with h | h
          · rcases (p2 o).1 q with q | q
            · exact hz o q z (.inl (List.mem_cons_of_mem _ h))
            · subst q; exact tlt_asymm (ha.1 z h)
          · cases h)
        refine ⟨q1, fun z => ?_⟩
        rw [mrg, q2 z, p2 z]
        simp only [List.not_mem_nil, List.mem_cons, or_false, or_assoc]
      | cons y b =>
        rw [mrg]
        by_cases hle : (Op.bytesLess x.toList y.toList || x.toList == y.toList) = true
        · rw [if_pos hle]
          have hxy : ¬ tlt y x := by
            rw [Bool.or_eq_true, beq_iff_eq] at hle
            rcases hle with h | h
            · exact tlt_asymm h
            · rw [ba_extS h]; exact tlt_irrefl _
          rw [List.pairwise_cons] at ha
          obtain ⟨p1, p2⟩ := addD_ok ho (fun o q => hz o q x (.inl List.mem_cons_self))
          obtain ⟨q1, q2⟩ := ih a (y :: b) (addD out x) (by simp at hn ⊢; omega) ha.2 hb p1 (fun o q z h => by
            rcases (p2 o).1 q with q | q
            · exact hz o q z (h.elim (fun h => .inl (List.mem_cons_of_mem _ h)) .inr)
            · subst q
              rcases h with h | h
              · exact tlt_asymm (ha.1 z h)
              · rcases List.mem_cons.1 h with e | h
                · subst e; exact hxy
                · exact fun hq => hxy (tlt_trans ((List.pairwise_cons.1 hb).1 z h) hq))
          refine ⟨q1, fun z => ?_⟩
          rw [q2 z, p2 z]
          simp only [List.mem_cons, or_assoc]
        · rw [if_neg hle]
          have hyx : ¬ tlt x y := by
            rw [Bool.or_eq_true] at hle
            exact fun h => hle (.inl h)
          have hb' := List.pairwise_cons.1 hb
          obtain ⟨p1, p2⟩ := addD_ok ho (fun o q => hz o q y (.inr List.mem_cons_self))
          obtain ⟨q1, q2⟩ := ih (x :: a) b (addD out y) (by simp at hn ⊢; omega) ha hb'.2 p1 (fun o q z h => by
            rcases (p2 o).1 q with q | q
            · exact hz o q z (h.elim .inl (fun h => .inr (List.mem_cons_of_mem _ h)))
            · subst q
              rcases h with h | h
              · rcases List.mem_cons.1 h with e | h
                · subst e; exact hyx
                · exact fun hq => hyx (tlt_trans ((List.pairwise_cons.1 ha).1 z h) hq)
              · exact tlt_asymm (hb'.1 z h))
          refine ⟨q1, fun z => ?_⟩
          rw [q2 z, p2 z]
          simp only [List.mem_cons]
          constructor
          · rintro ((h | h) | h | h)
            · exact .inl h
            · exact .inr (.inr (.inl h))
            · exact .inr (.inl h)
            · exact .inr (.inr (.inr h))
          · rintro (h | h | h | h)
            · exact .inl (.inl h)
            · exact .inr (.inl h)
            · exact .inl (.inr h)
            · exact .inr (.inr h)
theorem tlt_nodup {l : List ByteArray} (h : l.Pairwise tlt) : l.Nodup := h.imp (fun hab e => by subst e; exact tlt_irrefl _ hab)

end Go.Proofs.YtemjfkogaimolaaDoor.X

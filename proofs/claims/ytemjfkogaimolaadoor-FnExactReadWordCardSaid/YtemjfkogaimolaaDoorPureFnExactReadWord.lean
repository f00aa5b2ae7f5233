/- ReadWord: the program's answer is the reference's, for all arguments; no condition. -/
import Derived.Test.YtemjfkogaimolaaDoorLwZ
import Derived.Test.YtemjfkogaimolaaDoorLwM
import Derived.Test.YtemjfkogaimolaaDoorLwI
import Derived.Test.YtemjfkogaimolaaDoorRd
import Derived.Test.YtemjfkogaimolaaDoorXx3
import Derived.Test.YtemjfkogaimolaaDoorXx9
namespace Go.Proofs.YtemjfkogaimolaaDoor.Pure
open Go.RowKit Go.Proofs.YtemjfkogaimolaaDoor.X Go.Proofs.YtemjfkogaimolaaDoorW.PrintWords Go.Proofs.YtemjfkogaimolaaDoorW.PrintLast Go.Proofs.YtemjfkogaimolaaDoor

theorem both (l : List ByteArray) (s : ByteArray) (hl : l.length ≤ 1048576) : ∃ v : List Int × Bool, v.1.length ≤ 1000 ∧ Ev (fun k => spec_ReadWord.f k l s) v ∧ Ev (fun k => impl_ReadWord.f k l s) v := by
  unfold spec_ReadWord.f impl_ReadWord.f
  by_cases h : wset l
  · cases g : wgood s with
    | false =>
      exact ⟨([], false), by simp, Ev.bind (dcAsked l s) (Pl.neg (by simp [g]) (Pl.ret rfl)), Ev.bind (isSet l (by omega)) (Pl.pos (decide_eq_true h) (Ev.bind (a := false) ⟨0, fun _ _ => by rw [isWord_eq, g]⟩ (Pl.neg (by decide) (Pl.ret rfl))))⟩
    | true =>
      have h60 : s.size ≤ 60 := by unfold wgood at g; simp only [Bool.and_eq_true, decide_eq_true_eq] at g; exact g.1
      have hc1 := dcCount s l h60 hl (set_pos h)
      have hc2 := countReadings s l h60 hl (set_pos h)
      rw [cnt_all h s h60] at hc1 hc2
      have hf1 := dcReadings h s.size s 1 (Nat.le_refl _) h60 (Nat.le_refl _) (by omega)
      have hf2 := X.firstReadings h s h60 1 (Nat.le_refl _) (by omega)
      have hrow := rds_row (set_pos h) s.size s (Nat.le_refl _)
      cases hr : rds l s with
      | nil =>
        rw [hr] at hc1 hc2
        exact ⟨([], false), by simp, Ev.bind (dcAsked l s) (Pl.pos (by simp [g, h]) (Ev.bind hc1 (Pl.pos rfl (Pl.ret rfl)))), Ev.bind (isSet l (by omega)) (Pl.pos (decide_eq_true h) (Ev.bind (a := true) ⟨0, fun _ _ => by rw [isWord_eq, g]⟩ (Pl.pos rfl (Ev.bind hc2 (Pl.pos rfl (Pl.ret rfl))))))⟩
      | cons r rs =>
        rw [hr] at hc1 hc2 hf1 hf2 hrow
        have hl0 := (hrow r List.mem_cons_self).1
        exact ⟨(r, true), by show r.length ≤ 1000; omega, Ev.bind (dcAsked l s) (Pl.pos (by simp [g, h]) (Ev.bind hc1 (Pl.neg (by rw [List.length_cons]; omega) (Ev.bind hf1 (Pl.pos (by simp) (Pl.ret rfl)))))),
          Ev.bind (isSet l (by omega)) (Pl.pos (decide_eq_true h) (Ev.bind (a := true) ⟨0, fun _ _ => by rw [isWord_eq, g]⟩ (Pl.pos rfl (Ev.bind hc2 (Pl.neg (by rw [List.length_cons]; omega) (Ev.bind hf2 (Pl.pos (by simp) (Pl.ret rfl))))))))⟩
  · exact ⟨([], false), by simp, Ev.bind (dcAsked l s) (Pl.neg (by simp [h]) (Pl.ret rfl)), Ev.bind (isSet l (by omega)) (Pl.neg (by simp [h]) (Pl.ret rfl))⟩
theorem FnExactReadWord (l : List ByteArray) (s : ByteArray) (hb : l.length * 16 ≤ 140737488351232) (hs : ∀ s ∈ l, s.size ≤ maxLen) (_ : s.size ≤ 140737488351232) : ∃ k, laws_FnExactReadWord.f k l s = some true := by
  refine Ev.rounds ?_
  unfold laws_FnExactReadWord.f
  by_cases h0 : (s.size : Int) > 1048576
  · exact Pl.pos h0 (Pl.ret rfl)
  obtain ⟨r, hr, hq⟩ := szStringS l hb hs 1048576 (by omega) (by omega)
  refine Pl.neg h0 (Ev.bind hr ?_)
  by_cases hc : r < 0
  · exact Pl.pos hc (Pl.ret rfl)
  obtain ⟨_, hl, _⟩ := hq (by omega)
  obtain ⟨⟨g, b⟩, hlen, h1, h2⟩ := both l s hl
  simp only at hlen
  obtain ⟨mg, hm1, hm2⟩ := marksI g (by omega)
  obtain ⟨ms, hs1⟩ := marksO l (by omega)
  refine Pl.neg hc (Ev.bind (toStringS l hl) (Ev.bind h1 (Ev.bind (toStringS l hl) (Ev.bind h2 (Ev.bind (eqIntS g (by omega)) (Pl.pos rfl (Pl.succ ?_)))))))
  simp only [laws_FnExactReadWord.j0]
  refine Pl.neg (by simp) (Ev.bind (toStringS l hl) (Ev.bind (eqStringS l (by omega)) (Pl.pos rfl (Ev.bind hs1 (Pl.neg (by show ¬ (1 + (l.length : Int)) < 0; omega) (Ev.bind (eqIntS g (by omega)) (Pl.pos rfl (Pl.succ ?_))))))))
  simp only [laws_FnExactReadWord.j1]
  refine Pl.neg (by simp) (Ev.bind hm1 (Ev.bind hm2 (Pl.neg (by omega) (Pl.pos rfl (Ev.bind (toStringS l hl) (Ev.bind h2 (Ev.bind (eqIntS g (by omega)) (Pl.pos rfl (Pl.succ ?_)))))))))
  simp only [laws_FnExactReadWord.j2]
  exact Pl.neg (by simp) (Ev.bind hm2 (Pl.neg (by omega) (Pl.pos rfl (Pl.ret rfl))))

end Go.Proofs.YtemjfkogaimolaaDoor.Pure

/- AllReadings: the program's answer is the reference's, for all arguments; no condition. -/
import Derived.Test.YtidjjcgfdkmefaaDoorLwZ
import Derived.Test.YtidjjcgfdkmefaaDoorLwM
import Derived.Test.YtidjjcgfdkmefaaDoorLwII
import Derived.Test.YtidjjcgfdkmefaaDoorRd
import Derived.Test.YtidjjcgfdkmefaaDoorXx3
import Derived.Test.YtidjjcgfdkmefaaDoorXx9
import Derived.Test.YtidjjcgfdkmefaaDoorXx12
namespace Go.Proofs.YtidjjcgfdkmefaaDoor.Pure
open Go.RowKit Go.Proofs.YtidjjcgfdkmefaaDoor.X Go.Proofs.YtidjjcgfdkmefaaDoorW.PrintWords Go.Proofs.YtidjjcgfdkmefaaDoorW.PrintLast Go.Proofs.YtidjjcgfdkmefaaDoor

theorem both (l : List ByteArray) (s : ByteArray) (hl : l.length ≤ 1048576) : ∃ v : List (List Int) × Bool, v.1.length ≤ 1000 ∧ (∀ r ∈ v.1, r.length ≤ 1000) ∧ Ev (fun k => spec_AllReadings.f k l s) v ∧ Ev (fun k => impl_AllReadings.f k l s) v := by
  unfold spec_AllReadings.f impl_AllReadings.f
  by_cases h : wset l
  · cases g : wgood s with
    | false =>
      exact ⟨([], false), by simp, by simp, Ev.bind (dcAsked l s) (Pl.neg (by simp [g]) (Pl.ret rfl)), Ev.bind (isSet l (by omega)) (Pl.pos (decide_eq_true h) (Ev.bind (a := false) ⟨0, fun _ _ => by rw [isWord_eq, g]⟩ (Pl.neg (by decide) (Pl.ret rfl))))⟩
    | true =>
      have h60 : s.size ≤ 60 := by unfold wgood at g; simp only [Bool.and_eq_true, decide_eq_true_eq] at g; exact g.1
      have hc1 := dcCount s l h60 hl (set_pos h)
      have hc2 := countReadings s l h60 hl (set_pos h)
      rw [cnt_all h s h60] at hc1 hc2
      have hf1 := dcReadings h s.size s 100 (Nat.le_refl _) h60 (by omega) (by omega)
      have hf2 := X.firstReadings h s h60 100 (by omega) (by omega)
      have hrow := rds_row (set_pos h) s.size s (Nat.le_refl _)
      by_cases hm : ((rds l s).length : Int) > 100
      · exact ⟨([], false), by simp, by simp, Ev.bind (dcAsked l s) (Pl.pos (by simp [g, h]) (Ev.bind hc1 (Pl.pos hm (Pl.ret rfl)))), Ev.bind (isSet l (by omega)) (Pl.pos (decide_eq_true h) (Ev.bind (a := true) ⟨0, fun _ _ => by rw [isWord_eq, g]⟩ (Pl.pos rfl (Ev.bind hc2 (Pl.pos hm (Pl.ret rfl))))))⟩
      · exact ⟨((rds l s).take 100, true), by show ((rds l s).take 100).length ≤ 1000; rw [List.length_take]; omega, fun r hr => by have := (hrow r (List.mem_of_mem_take hr)).1; omega, Ev.bind (dcAsked l s) (Pl.pos (by simp [g, h]) (Ev.bind hc1 (Pl.neg hm (Ev.bind hf1 (Pl.ret rfl))))),
          Ev.bind (isSet l (by omega)) (Pl.pos (decide_eq_true h) (Ev.bind (a := true) ⟨0, fun _ _ => by rw [isWord_eq, g]⟩ (Pl.pos rfl (Ev.bind hc2 (Pl.neg hm (Ev.bind hf2 (Pl.ret rfl)))))))⟩
  · exact ⟨([], false), by simp, by simp, Ev.bind (dcAsked l s) (Pl.neg (by simp [h]) (Pl.ret rfl)), Ev.bind (isSet l (by omega)) (Pl.neg (by simp [h]) (Pl.ret rfl))⟩
theorem FnExactAllReadings (l : List ByteArray) (s : ByteArray) (hb : l.length * 16 ≤ 140737488351232) (hs : ∀ s ∈ l, s.size ≤ maxLen) (_ : s.size ≤ 140737488351232) : ∃ k, laws_FnExactAllReadings.f k l s = some true := by
  refine Ev.rounds ?_
  unfold laws_FnExactAllReadings.f
  by_cases h0 : 1048576 < (s.size : Int)
  · exact Pl.pos h0 (Pl.ret rfl)
  obtain ⟨r, hr, hq⟩ := szStringS l hb hs 1048576 (by omega) (by omega)
  refine Pl.neg h0 (Ev.bind hr ?_)
  by_cases hc : r < 0
  · exact Pl.pos hc (Pl.ret rfl)
  obtain ⟨_, hl, _⟩ := hq (by omega)
  obtain ⟨⟨g, b⟩, hlen, hrow, h1, h2⟩ := both l s hl
  simp only at hlen hrow
  obtain ⟨mg, e, e0, hm1, hm2⟩ := marksII g (by omega) (fun r hr => by have := hrow r hr; omega)
  obtain ⟨ms, hs1⟩ := marksO l (by omega)
  refine Pl.neg hc (Ev.bind (toStringS l hl) (Ev.bind h1 (Ev.bind h2 (Ev.bind (eqIntSS g (by omega) (fun r hr => by have := hrow r hr; omega)) (Ev.bind (eqStringS l (by omega)) (Ev.bind hs1 (Ev.bind hm1 (Ev.bind hm2 (Pl.pos ⟨rfl, rfl, rfl, by show (0 : Int) ≤ 1 + (l.length : Int); omega, e0, rfl⟩ (Pl.ret rfl))))))))))

end Go.Proofs.YtidjjcgfdkmefaaDoor.Pure

-- WRITTEN by xprint.py of this repo: the kit's print.py with contracts given by hand (given.py). Lean checks it.
import Derived.Test.YtidjjcgfdkmefaaDoorXx0
namespace Go.Proofs.YtidjjcgfdkmefaaDoor.X
open Go.RowKit Go.Proofs.YtidjjcgfdkmefaaDoorW.PrintWords Go.Proofs.YtidjjcgfdkmefaaDoorW.PrintLast Go.Proofs.YtidjjcgfdkmefaaDoorW.PrintMore
attribute [local go_sem] max2_int min2_int max_two min_two max_three min_three max_four min_four   -- for this text's walks alone
set_option linter.unusedVariables false
set_option linter.unusedSimpArgs false

/-! ### GIVEN slices_Max_int_int: function 47 -/
theorem C_addr {α : Type} {enc : α → Value} {h1 : ∀ x, (enc x).oneCell' = true} {w : World} {ad : Addr} {n : Nat} {xs : List α} (h : Kd.C (Kd.scalar enc h1) w (some ad) n xs) (hn : 0 < n) :
    ∃ b o, ad = ⟨b, o, none⟩ ∧ b < w.heap.size ∧ ∀ (j : Nat) x, xs[j]? = some x → w.cell? ⟨b, o + j, none⟩ = some (enc x) := by
  obtain ⟨hl, _, hh⟩ := h
  obtain ⟨ad', e, hc⟩ := hh hn
  cases e
  have cell : ∀ (j : Nat) x, xs[j]? = some x → w.cell? (ad.add j) = some (enc x) := fun j x hx => by
    obtain ⟨c, _, rfl, hcell⟩ := hc j x hx
    have := hcell 0 (enc x) rfl
    rwa [show j * (Kd.scalar enc h1).sz + 0 = j from Nat.mul_one j] at this
  have h0 : xs[0]? = some (xs[0]'(by omega)) := List.getElem?_eq_getElem (by omega)
  have c0 := cell 0 _ h0
  obtain ⟨b, o, sp⟩ := ad
  have c0' : w.cell? ⟨b, o, sp⟩ = some (enc (xs[0]'(by omega))) := by simpa [Addr.add] using c0
  have hsp : sp = none := by
    cases sp with
    | none => rfl
    | some q =>
      simp only [World.cell?] at c0'
      split at c0' <;> simp at c0'
  subst hsp
  refine ⟨b, o, rfl, ?_, fun j x hx => ?_⟩
  · simp only [World.cell?] at c0'
    split at c0'
    · rename_i hg
      exact (Array.getElem?_eq_some_iff.1 hg).1
    · cases c0'
  · have := cell j x hx
    by_cases hj : j = 0
    · subst hj
      simpa [Addr.add] using this
    · simpa [Addr.add, hj] using this

def slices_Max_int_int.f (l0 : List Int) : Option Int := if 0 < l0.length then some (Lib.maxOf l0) else none
theorem slices_Max_int_int.calls (A0 : Option Addr) (c0 : Nat) (l0 : List Int) (r : Int) (w : World) (hr0 : Kd.C (Kd.int .i64) w A0 l0.length l0) (hc0 : l0.length ≤ c0) (h : slices_Max_int_int.f l0 = some r) :
    Calls Tryd.prog 47 #[.slice A0 l0.length c0] w fun e w' => e = .returned (.int .i64 r) ∧ Drawn0 w w' := by
  unfold slices_Max_int_int.f at h
  by_cases hp : 0 < l0.length
  case neg => rw [if_neg hp] at h; cases h
  rw [if_pos hp] at h
  obtain rfl := Option.some.inj h
  obtain ⟨ad, e1, _⟩ := Kd.at_int hr0 0 (by omega) (by omega)
  subst e1
  obtain ⟨b, o, rfl, _, hc⟩ := C_addr hr0 hp
  have := Tryd.slices_Max_int b o l0.length c0 l0 w hp (Nat.le_refl _) hr0.2.1 (fun j hj => by rw [hc j _ (List.getElem?_eq_getElem hj), List.getD_eq_getElem?_getD, List.getElem?_eq_getElem hj]; rfl)
  rw [List.take_length] at this
  exact this.mono fun _ _ ⟨he, hw⟩ => ⟨he, by subst hw; exact Drawn0.refl _⟩

end Go.Proofs.YtidjjcgfdkmefaaDoor.X

-- WRITTEN by xprint.py of this repo: the kit's print.py with contracts given by hand (given.py). Lean checks it.
import Derived.Test.YtgokegndboknfaaDoorXx0
import Derived.Test.YtgokegndboknfaaDoorXx6
namespace Go.Proofs.YtgokegndboknfaaDoor.X
open Go.RowKit Go.Proofs.YtgokegndboknfaaDoorW.PrintWords Go.Proofs.YtgokegndboknfaaDoorW.PrintLast Go.Proofs.YtgokegndboknfaaDoorW.PrintMore
attribute [local go_sem] max2_int min2_int max_two min_two max_three min_three max_four min_four   -- for this text's walks alone
set_option linter.unusedVariables false
set_option linter.unusedSimpArgs false

/-! ### GIVEN impl_isPrefixSet: function 33 -/
/-- What a function value of two texts tells of each two elements, in whatever world that keeps what lay. -/
def FnP2 (P : Program) (g : Nat) (cb : Array Value) {α : Type} (enc : α → Value) (p : α → α → Bool) (l : List α) (w : World) : Prop :=
  ∀ (W : World) (x y : α), x ∈ l → y ∈ l → Below w.heap.size w W → Calls P g (#[enc x, enc y] ++ cb) W fun e w' => e = .returned (.bool (p x y)) ∧ Below W.heap.size W w'
/-- No two different elements are so. -/
def noTwo {α : Type} (p : α → α → Bool) (l : List α) : Prop := ∀ i (hi : i < l.length) k (hk : k < l.length), i ≠ k → p l[i] l[k] = false
instance {α : Type} (p : α → α → Bool) (l : List α) : Decidable (noTwo p l) := by unfold noTwo; infer_instance
set_option maxHeartbeats 4000000 in
theorem impl_isFree.calls_g (g : Nat) (cb : Array Value) (p : ByteArray → ByteArray → Bool) (eg : ∀ args w, (callFunc g args).run Tryd.prog w = .ok (.enter g args) w) (A0 : Option Addr) (c0 : Nat) (l0 : List ByteArray) (w : World) (hr0 : Kd.C Kd.string w A0 l0.length l0) (_ : l0.length ≤ c0)
    (hp : FnP2 Tryd.prog g cb Value.string p l0 w) (r : Bool) (hr : r = true ↔ noTwo p l0) :
    Calls Tryd.prog 54 #[.slice A0 l0.length c0, .func (.func g) #[] cb] w fun e w' => e = .returned (.bool r) ∧ Below w.heap.size w w' := by
  have hbig := hr0.2.1
  have HR0 := Aside0.mk hr0
  clear hr0
  have HP := Aside0.mk hp
  clear hp
  have HR := Aside0.mk hr
  clear hr
  go_enter Tryd.func54, Tryd.ntmps54
  go_wp2
  go_loopg [11] l0.length (fun gg s11 wr => ∃ i : Nat, i ≤ l0.length ∧ l0.length - i ≤ gg ∧ s11 = .int .i64 i ∧ Aside0 (Below w.heap.size w wr) ∧ Aside0 (∀ j (hj : j < l0.length), j < i → ∀ k (hk : k < l0.length), j ≠ k → p l0[j] l0[k] = false))
  case atStart => exact ⟨0, Nat.zero_le _, by omega, rfl, ⟨Below.refl _ _⟩, ⟨fun j _ hj => absurd hj (Nat.not_lt_zero _)⟩⟩
  case round =>
    obtain ⟨i, hi, hg, rfl, HB, HN⟩ := hrel
    by_cases hlt : i < l0.length
    · have hltz : (i : Int) < (l0.length : Int) := by omega
      obtain ⟨ad, e1, hcell⟩ := Kd.at_string (Kd.C_below HR0.out HB.out) i (by omega) hltz
      have hrd : rdOf ByteArray.empty l0 (i : Int) = l0[i] := by simp [rdOf, List.getD_eq_getElem?_getD, hlt]
      rw [hrd] at hcell
      clear hrd
      simp only [Int.toNat_natCast] at hcell
      subst e1
      obtain ⟨y, hy⟩ : ∃ y, l0[i] = y := ⟨_, rfl⟩
      rw [hy] at hcell
      have BY := Aside0.mk hy
      clear hy
      go_wp2
      go_loopg [18] l0.length (fun gk s18 wi => ∃ k : Nat, k ≤ l0.length ∧ l0.length - k ≤ gk ∧ s18 = .int .i64 k ∧ Aside0 (Below w.heap.size w wi) ∧ Aside0 (∀ j (hj : j < l0.length), j < k → i ≠ j → p y l0[j] = false))
      case atStart => exact ⟨0, Nat.zero_le _, by omega, rfl, HB, ⟨fun j _ hj => absurd hj (Nat.not_lt_zero _)⟩⟩
      case round =>
        clear hcell HB
        obtain ⟨k, hk, hgk, rfl, HBk, HNk⟩ := hrel
        by_cases hltk : k < l0.length
        · have hltzk : (k : Int) < (l0.length : Int) := by omega
          obtain ⟨ad2, e2, hcell⟩ := Kd.at_string (Kd.C_below HR0.out HBk.out) k (by omega) hltzk
          cases e2
          have hrd : rdOf ByteArray.empty l0 (k : Int) = l0[k] := by simp [rdOf, List.getD_eq_getElem?_getD, hltk]
          rw [hrd] at hcell
          clear hrd
          simp only [Int.toNat_natCast] at hcell
          by_cases hik : i = k
          · have n1 : ((i : Int) != (k : Int)) = false := by simp [hik]
            have n2 : ((i : Int) == (k : Int)) = true := by simp [hik]
            have HIK := Aside0.mk hik
            clear hik
            go_wp2
            go_roundg (l0.length - (k + 1))
            case measure => omega
            case rel =>
              refine ⟨k + 1, by omega, by omega, by go_num, HBk, ⟨fun j hj hjk hij => ?_⟩⟩
              exact HNk.out j hj (by have := HIK.out; omega) hij
          · have n1 : ((i : Int) != (k : Int)) = true := by simp; omega
            have n2 : ((i : Int) == (k : Int)) = false := by simp; omega
            have hcall := HP.out
            have HIK := Aside0.mk hik
            clear hik
            have hcall := HP.out _ y l0[k] (by rw [← BY.out]; exact List.getElem_mem hlt) (List.getElem_mem hltk) HBk.out
            obtain ⟨z, hz⟩ : ∃ z, l0[k] = z := ⟨_, rfl⟩
            rw [hz] at hcell hcall
            have BZ := Aside0.mk hz
            clear hz
            cases hq : p y z with
            | true =>
              rw [hq] at hcall
              have HQ := Aside0.mk hq
              clear hq
              obtain rfl : r = false := by
                cases r with
                | false => rfl
                | true =>
                  have := HR.out.1 rfl i hlt k hltk HIK.out
                  rw [BY.out, BZ.out, HQ.out] at this
                  cases this
              go_wp2_with (go_at_fn g; refine hcall.mono ?_; rintro e w' ⟨rfl, hb⟩)
              go_ret
              exact ⟨rfl, HBk.out.trans (hb.mono HBk.out.size)⟩
            | false =>
              rw [hq] at hcall
              have HQ := Aside0.mk hq
              clear hq
              go_wp2_with (go_at_fn g; refine hcall.mono ?_; rintro e w' ⟨rfl, hb⟩)
              go_roundg (l0.length - (k + 1))
              case measure => omega
              case rel =>
                refine ⟨k + 1, by omega, by omega, by go_num, ⟨HBk.out.trans (hb.mono HBk.out.size)⟩, ⟨fun j hj hjk hij => ?_⟩⟩
                by_cases e : j = k
                · subst e; rw [BZ.out]; exact HQ.out
                · exact HNk.out j hj (by omega) hij
        · have hltzk : ¬ (k : Int) < (l0.length : Int) := by omega
          go_wp2
          go_roundg (l0.length - (i + 1))
          case measure => omega
          case rel =>
            refine ⟨i + 1, by omega, by omega, by go_num, HBk, ⟨fun j hj hji k' hk' hjk => ?_⟩⟩
            by_cases e : j = i
            · subst e; rw [BY.out]; exact HNk.out k' hk' (by omega) hjk
            · exact HN.out j hj (by omega) k' hk' hjk
    · have hltz : ¬ (i : Int) < (l0.length : Int) := by omega
      obtain rfl : r = true := HR.out.2 (fun j hj k hk hjk => HN.out j hj (by omega) k hk hjk)
      go_wp2
      go_ret
      exact ⟨rfl, HB.out⟩

/-- One text begins with another one. -/
def begB (s t : ByteArray) : Bool := decide (t.size ≤ s.size) && ((s.extract 0 t.size).toList == t.toList)
theorem hasPrefix_f (s t : ByteArray) : strings_HasPrefix.f s t = some (begB s t) := by
  unfold strings_HasPrefix.f stringslite_HasPrefix.f begB
  by_cases h : t.size ≤ s.size
  · rw [if_pos (by omega), if_pos (by omega), if_pos (by omega), decide_eq_true h]; rfl
  · rw [if_neg (by omega), decide_eq_false h]; rfl
def impl_isPrefixSet.f (l0 : List ByteArray) : Option Bool := some (decide (noTwo begB l0))
theorem impl_isPrefixSet.calls (A0 : Option Addr) (c0 : Nat) (l0 : List ByteArray) (r : Bool) (w : World) (hr0 : Kd.C Kd.string w A0 l0.length l0) (hc0 : l0.length ≤ c0) (h : impl_isPrefixSet.f l0 = some r) :
    Calls Tryd.prog 33 #[.slice A0 l0.length c0] w fun e w' => e = .returned (.bool r) ∧ Below w.heap.size w w' := by
  have hr : r = true ↔ noTwo begB l0 := by rw [← Option.some.inj h, decide_eq_true_eq]
  have eg := enters_of Tryd.func42 (by kernel_rfl) rfl
  have hc := fun (W : World) (hW : Below w.heap.size w W) => impl_isFree.calls_g _ #[] begB eg A0 c0 l0 W (Kd.C_below hr0 hW) hc0 (fun W' x y _ _ _ => (strings_HasPrefix.calls x y _ W' (hasPrefix_f x y)).mono fun _ _ ⟨he, hd⟩ => ⟨he, hd.below⟩) r hr
  clear h hr hr0 hc0
  go_enter Tryd.func33, Tryd.ntmps33
  go_wp2_with (go_at_call 54; refine (hc _ (Below.refl _ _)).mono ?_; rintro e w' ⟨rfl, hb⟩)
  go_ret
  exact ⟨rfl, hb⟩

end Go.Proofs.YtgokegndboknfaaDoor.X

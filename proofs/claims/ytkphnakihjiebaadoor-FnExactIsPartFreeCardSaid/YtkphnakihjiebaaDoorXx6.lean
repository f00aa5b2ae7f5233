-- WRITTEN by xprint.py of this repo: the kit's print.py with contracts given by hand (given.py). Lean checks it.
import Derived.Test.YtkphnakihjiebaaDoorXx0
import Derived.Test.YtkphnakihjiebaaDoorXx5
namespace Go.Proofs.YtkphnakihjiebaaDoor.X
open Go.RowKit Go.Proofs.YtkphnakihjiebaaDoorW.PrintWords Go.Proofs.YtkphnakihjiebaaDoorW.PrintLast Go.Proofs.YtkphnakihjiebaaDoorW.PrintMore
attribute [local go_sem] max2_int min2_int max_two min_two max_three min_three max_four min_four   -- for this text's walks alone
set_option linter.unusedVariables false
set_option linter.unusedSimpArgs false

/-! ### GIVEN impl_IsPartFree: function 22 -/
/-- What a function value of two texts tells of each two elements, in whatever world that keeps what lay. -/
def FnP2 (P : Program) (g : Nat) (cb : Array Value) {α : Type} (enc : α → Value) (p : α → α → Bool) (l : List α) (w : World) : Prop :=
  ∀ (W : World) (x y : α), x ∈ l → y ∈ l → Below w.heap.size w W → Calls P g (#[enc x, enc y] ++ cb) W fun e w' => e = .returned (.bool (p x y)) ∧ Below W.heap.size W w'
/-- No two different elements are so. -/
def noTwo {α : Type} (p : α → α → Bool) (l : List α) : Prop := ∀ i (hi : i < l.length) k (hk : k < l.length), i ≠ k → p l[i] l[k] = false
instance {α : Type} (p : α → α → Bool) (l : List α) : Decidable (noTwo p l) := by unfold noTwo; infer_instance
set_option maxHeartbeats 4000000 in
theorem impl_isFree.calls_g (g : Nat) (cb : Array Value) (p : ByteArray → ByteArray → Bool) (eg : ∀ args w, (callFunc g args).run Tryd.prog w = .ok (.enter g args) w) (A0 : Option Addr) (c0 : Nat) (l0 : List ByteArray) (w : World) (hr0 : Kd.C Kd.string w A0 l0.length l0) (_ : l0.length ≤ c0)
    (hp : FnP2 Tryd.prog g cb Value.string p l0 w) (r : Bool) (hr : r = true ↔ noTwo p l0) :
    Calls Tryd.prog 45 #[.slice A0 l0.length c0, .func (.func g) #[] cb] w fun e w' => e = .returned (.bool r) ∧ Below w.heap.size w w' := by
  have hbig := hr0.2.1
  have HR0 := Aside0.mk hr0
  clear hr0
  have HP := Aside0.mk hp
  clear hp
  have HR := Aside0.mk hr
  clear hr
  go_enter Tryd.func45, Tryd.ntmps45
  go_wp2
  go_loopg [11] l0.length (fun gg s11 wr => ∃ i : Nat, i ≤ l0.length ∧ l0.length - i ≤ gg ∧ s11 = .int .i64 i ∧ Aside0 (Below w.heap.size w wr) ∧ Aside0 (∀ j (hj : j < l0.length), j < i → ∀ k (hk : k < l0.length), j ≠ k → p l0[j] l0[k] = false))
  case atStart => exact ⟨0, Nat.zero_le _, by omega, rfl, ⟨Below.refl _ _⟩, ⟨fun j _ hj => absurd hj (Nat.not_lt_zero _)⟩⟩
  case round =>
    obtain ⟨i, hi, hg, rfl, HB, HN⟩ := hrel
    by_cases hlt : i < l0.length
    · have hltz : (i : Int) < (l0.length : Int) := by omega
      obtain ⟨ad, e1, hcell⟩ := Kd.at_string (Kd.C_below HR0.out HB.out) i (by omega) hltz
      have hrd : rdOf ByteArray.empty l0 (i : Int) = l0[i] := by simp [rdOf, List.getD_eq_getElem?_getD, hlt]
      rw [hrd] at hcell
      clear hrd
      simp only [Int.toNat_natCast] at hcell
      subst e1
      obtain ⟨y, hy⟩ : ∃ y, l0[i] = y := ⟨_, rfl⟩
      rw [hy] at hcell
      have BY := Aside0.mk hy
      clear hy
      go_wp2
      go_loopg [18] l0.length (fun gk s18 wi => ∃ k : Nat, k ≤ l0.length ∧ l0.length - k ≤ gk ∧ s18 = .int .i64 k ∧ Aside0 (Below w.heap.size w wi) ∧ Aside0 (∀ j (hj : j < l0.length), j < k → i ≠ j → p y l0[j] = false))
      case atStart => exact ⟨0, Nat.zero_le _, by omega, rfl, HB, ⟨fun j _ hj => absurd hj (Nat.not_lt_zero _)⟩⟩
      case round =>
        clear hcell HB
        obtain ⟨k, hk, hgk, rfl, HBk, HNk⟩ := hrel
        by_cases hltk : k < l0.length
        · have hltzk : (k : Int) < (l0.length : Int) := by omega
          obtain ⟨ad2, e2, hcell⟩ := Kd.at_string (Kd.C_below HR0.out HBk.out) k (by omega) hltzk
          cases e2
          have hrd : rdOf ByteArray.empty l0 (k : Int) = l0[k] := by simp [rdOf, List.getD_eq_getElem?_getD, hltk]
          rw [hrd] at hcell
          clear hrd
          simp only [Int.toNat_natCast] at hcell
          by_cases hik : i = k
          · have n1 : ((i : Int) != (k : Int)) = false := by simp [hik]
            have n2 : ((i : Int) == (k : Int)) = true := by simp [hik]
            have HIK := Aside0.mk hik
            clear hik
            go_wp2
            go_roundg (l0.length - (k + 1))
            case measure => omega
            case rel =>
              refine ⟨k + 1, by omega, by omega, by go_num, HBk, ⟨fun j hj hjk hij => ?_⟩⟩
              exact HNk.out j hj (by have := HIK.out; omega) hij
          · have n1 : ((i : Int) != (k : Int)) = true := by simp; omega
            have n2 : ((i : Int) == (k : Int)) = false := by simp; omega
            have hcall := HP.out
            have HIK := Aside0.mk hik
            clear hik
            have hcall := HP.out _ y l0[k] (by rw [← BY.out]; exact List.getElem_mem hlt) (List.getElem_mem hltk) HBk.out
            obtain ⟨z, hz⟩ : ∃ z, l0[k] = z := ⟨_, rfl⟩
            rw [hz] at hcell hcall
            have BZ := Aside0.mk hz
            clear hz
            cases hq : p y z with
            | true =>
              rw [hq] at hcall
              have HQ := Aside0.mk hq
              clear hq
              obtain rfl : r = false := by
                cases r with
                | false => rfl
                | true =>
                  have := HR.out.1 rfl i hlt k hltk HIK.out
                  rw [BY.out, BZ.out, HQ.out] at this
                  cases this
              go_wp2_with (go_at_fn g; refine hcall.mono ?_; rintro e w' ⟨rfl, hb⟩)
              go_ret
              exact ⟨rfl, HBk.out.trans (hb.mono HBk.out.size)⟩
            | false =>
              rw [hq] at hcall
              have HQ := Aside0.mk hq
              clear hq
              go_wp2_with (go_at_fn g; refine hcall.mono ?_; rintro e w' ⟨rfl, hb⟩)
              go_roundg (l0.length - (k + 1))
              case measure => omega
              case rel =>
                refine ⟨k + 1, by omega, by omega, by go_num, ⟨HBk.out.trans (hb.mono HBk.out.size)⟩, ⟨fun j hj hjk hij => ?_⟩⟩
                by_cases e : j = k
                · subst e; rw [BZ.out]; exact HQ.out
                · exact HNk.out j hj (by omega) hij
        · have hltzk : ¬ (k : Int) < (l0.length : Int) := by omega
          go_wp2
          go_roundg (l0.length - (i + 1))
          case measure => omega
          case rel =>
            refine ⟨i + 1, by omega, by omega, by go_num, HBk, ⟨fun j hj hji k' hk' hjk => ?_⟩⟩
            by_cases e : j = i
            · subst e; rw [BY.out]; exact HNk.out k' hk' (by omega) hjk
            · exact HN.out j hj (by omega) k' hk' hjk
    · have hltz : ¬ (i : Int) < (l0.length : Int) := by omega
      obtain rfl : r = true := HR.out.2 (fun j hj k hk hjk => HN.out j hj (by omega) k hk hjk)
      go_wp2
      go_ret
      exact ⟨rfl, HB.out⟩

/-- The cell of internal/bytealg.MaxLen holds some number. -/
def MaxAt (w : World) : Prop := ∃ m, w.cell? ⟨0, 0, none⟩ = some (.int .i64 m)
theorem maxAt_below {w W : World} (h : MaxAt w) (hb : Below w.heap.size w W) : MaxAt W := by
  obtain ⟨m, hm⟩ := h
  exact ⟨m, (hb.cell (World.block_lt_of_cell? w _ hm)).trans hm⟩

/-- One text is within another one. -/
def conB (s t : ByteArray) : Bool := Lib.contains s.data.toList t.data.toList
def sz1000 (s : ByteArray) : Bool := decide (s.size ≤ 1000)
def impl_IsPartFree.f (k : Nat) (l0 : List ByteArray) : Option (Bool × Bool) := (impl_isSet.f k l0).bind fun b => if b = true then (if l0.all sz1000 = true then some (decide (noTwo conB l0), true) else none) else some (false, false)
theorem impl_IsPartFree.mono : ∀ a0 k, LeO (impl_IsPartFree.f k a0) (impl_IsPartFree.f (k + 1) a0) := by
  intro a0 k
  unfold impl_IsPartFree.f
  exact LeO.bind (impl_isSet.mono _ _) (fun _ => LeO.refl _)
set_option maxRecDepth 100000 in
set_option maxHeartbeats 4000000 in
theorem impl_IsPartFree.calls (k : Nat) (A0 : Option Addr) (c0 : Nat) (l0 : List ByteArray) (r1 : Bool) (r2 : Bool) (w : World) (hr0 : Kd.C Kd.string w A0 l0.length l0) (hc0 : l0.length ≤ c0) (h : impl_IsPartFree.f k l0 = some (r1, r2)) (hm : MaxAt w) :
    Calls Tryd.prog 22 #[.slice A0 l0.length c0] w fun e w' => e = .returned (.tuple #[.bool r1, .bool r2]) ∧ Below w.heap.size w w' := by
  unfold impl_IsPartFree.f at h
  obtain ⟨b, hb, h⟩ := Option.bind_eq_some_iff.mp h
  have hset := fun (W : World) (hW : Below w.heap.size w W) => impl_isSet.calls k A0 c0 l0 b W (Kd.C_below hr0 hW) hc0 hb
  have HSET := Aside0.mk hset
  clear hb hset
  cases b with
  | false =>
    rw [if_neg (by decide)] at h
    obtain ⟨rfl, rfl⟩ := Prod.mk.inj (Option.some.inj h)
    clear h hr0 hc0 hm
    go_enter Tryd.func22, Tryd.ntmps22
    go_wp2_with (go_at_call 44; refine (HSET.out _ (Below.refl _ _)).mono ?_; rintro e w1 ⟨rfl, hb1⟩)
    go_ret2
    exact ⟨rfl, hb1⟩
  | true =>
    rw [if_pos rfl] at h
    by_cases hs : l0.all sz1000 = true
    · rw [if_pos hs] at h
      obtain ⟨rfl, rfl⟩ := Prod.mk.inj (Option.some.inj h)
      have hsz : ∀ x ∈ l0, x.size ≤ 1000 := fun x hx => of_decide_eq_true (List.all_eq_true.1 hs x hx)
      have eg := enters_of Tryd.func49 (by kernel_rfl) rfl
      obtain ⟨r, hr⟩ : ∃ r, decide (noTwo conB l0) = r := ⟨_, rfl⟩
      have hr2 : r = true ↔ noTwo conB l0 := by rw [← hr, decide_eq_true_eq]
      have hc := fun (W : World) (hW : Below w.heap.size w W) => impl_isFree.calls_g _ #[] conB eg A0 c0 l0 W (Kd.C_below hr0 hW) hc0 (fun W' x y hx _ hW' => by
        obtain ⟨m, hm'⟩ := maxAt_below hm (hW.trans (hW'.mono hW.size))
        exact (Tryd.strings_Contains x y m W' (by have := hsz x hx; omega) hm').mono fun e w' ⟨he, hw⟩ => ⟨he, by rw [hw]; exact Below.refl _ _⟩) r hr2
      rw [hr]
      have HC := Aside0.mk hc
      clear h hr0 hc0 hr hr2 hsz hs hc hm
      go_enter Tryd.func22, Tryd.ntmps22
      go_wp2_with (first | (go_at_call 44; refine (HSET.out _ (Below.refl _ _)).mono ?_; rintro e w1 ⟨rfl, hb1⟩; have HB1 := Aside0.mk hb1; clear hb1) | (go_at_call 45; refine (HC.out _ HB1.out).mono ?_; rintro e w2 ⟨rfl, hb2⟩; have HB2 := Aside0.mk hb2; clear hb2))
      go_ret2
      exact ⟨rfl, HB1.out.trans (HB2.out.mono HB1.out.size)⟩
    · rw [if_neg hs] at h; cases h

end Go.Proofs.YtkphnakihjiebaaDoor.X

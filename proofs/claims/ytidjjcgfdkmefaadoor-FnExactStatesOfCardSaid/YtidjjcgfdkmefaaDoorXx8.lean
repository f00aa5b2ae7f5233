-- WRITTEN by xprint.py of this repo: the kit's print.py with contracts given by hand (given.py). Lean checks it.
import Derived.Test.YtidjjcgfdkmefaaDoorXx0
namespace Go.Proofs.YtidjjcgfdkmefaaDoor.X
open Go.RowKit Go.Proofs.YtidjjcgfdkmefaaDoorW.PrintWords Go.Proofs.YtidjjcgfdkmefaaDoorW.PrintLast Go.Proofs.YtidjjcgfdkmefaaDoorW.PrintMore
attribute [local go_sem] max2_int min2_int max_two min_two max_three min_three max_four min_four   -- for this text's walks alone
set_option linter.unusedVariables false
set_option linter.unusedSimpArgs false

/-! ### GIVEN impl_letterCount: function 65 -/
/-- What a function value tells of each element, in whatever world that keeps what lay. -/
def FnP (P : Program) (g : Nat) (cb : Array Value) {α : Type} (enc : α → Value) (p : α → Bool) (l : List α) (w : World) : Prop :=
  ∀ (W : World) (x : α), x ∈ l → Below w.heap.size w W → Calls P g (#[enc x] ++ cb) W fun e w' => e = .returned (.bool (p x)) ∧ Below W.heap.size W w'
def idxG {α : Type} (p : α → Bool) (l : List α) : Int := if l.any p then (l.findIdx p : Int) else -1

theorem idxG_hit {α : Type} {p : α → Bool} {l : List α} {k : Nat} (hk : k < l.length) (h : p l[k] = true) (hn : ∀ j (hj : j < k), p (l[j]'(by omega)) = false) : idxG p l = (k : Int) := by
  unfold idxG
  rw [if_pos (List.any_eq_true.2 ⟨_, List.getElem_mem hk, h⟩)]
  congr 1
  exact List.findIdx_eq hk |>.2 ⟨h, fun j hj => hn j hj⟩
theorem idxG_miss {α : Type} {p : α → Bool} {l : List α} (hn : ∀ j (hj : j < l.length), p l[j] = false) : idxG p l = -1 := by
  unfold idxG
  rw [if_neg]
  intro h
  obtain ⟨x, hx, hp⟩ := List.any_eq_true.1 h
  obtain ⟨j, hj, rfl⟩ := List.getElem_of_mem hx
  rw [hn j hj] at hp
  exact absurd hp (by simp)


theorem idxG_nonneg {α : Type} (p : α → Bool) (l : List α) : decide (0 ≤ idxG p l) = l.any p := by
  unfold idxG
  cases h : l.any p
  · simp
  · simp

set_option maxHeartbeats 2000000 in
theorem slices_IndexFunc_string.calls_g (g : Nat) (cb : Array Value) (p : ByteArray → Bool) (eg : ∀ args w, (callFunc g args).run Tryd.prog w = .ok (.enter g args) w) (A0 : Option Addr) (c0 : Nat) (l0 : List ByteArray) (w : World) (hr0 : Kd.C Kd.string w A0 l0.length l0) (hc0 : l0.length ≤ c0)
    (hp : FnP Tryd.prog g cb Value.string p l0 w) :
    Calls Tryd.prog 80 #[.slice A0 l0.length c0, .func (.func g) #[] cb] w fun e w' => e = .returned (.int .i64 (idxG p l0)) ∧ Below w.heap.size w w' := by
  have hbig := hr0.2.1
  have HR0 := Aside0.mk hr0
  clear hr0
  have HP := Aside0.mk hp
  clear hp
  go_enter Tryd.func80, Tryd.ntmps80
  go_wp2
  go_loopg [5, 8] l0.length (fun gg _ s8 wr => ∃ kk : Nat, kk ≤ l0.length ∧ l0.length - kk ≤ gg ∧ s8 = .int .i64 kk ∧ Aside0 (Below w.heap.size w wr) ∧ Aside0 (∀ j (hj : j < kk) (hl : j < l0.length), p l0[j] = false))
  case atStart => exact ⟨0, Nat.zero_le _, by omega, rfl, ⟨Below.refl _ _⟩, ⟨fun j hj => absurd hj (Nat.not_lt_zero _)⟩⟩
  case round =>
    obtain ⟨kk, hkk, hg, rfl, HB, HN⟩ := hrel
    by_cases hlt : kk < l0.length
    · have hltz : (kk : Int) < (l0.length : Int) := by omega
      obtain ⟨ad, e1, hcell⟩ := Kd.at_string (Kd.C_below HR0.out HB.out) kk (by omega) hltz
      have hrd : rdOf ByteArray.empty l0 (kk : Int) = l0[kk] := by simp [rdOf, List.getD_eq_getElem?_getD, hlt]
      rw [hrd] at hcell
      clear hrd
      simp only [Int.toNat_natCast] at hcell
      subst e1
      have hcall := HP.out wr l0[kk] (List.getElem_mem hlt) HB.out
      generalize hy : l0[kk] = y at hcell hcall
      have B := Aside0.mk hy
      clear hy
      cases hq : p y with
      | true =>
        have hq' := Aside0.mk hq
        rw [hq] at hcall
        clear hq
        go_wp2_with (go_at_fn g; refine hcall.mono ?_; rintro e w' ⟨rfl, hb⟩)
        go_ret
        exact ⟨by rw [idxG_hit hlt (by rw [B.out]; exact hq'.out) (fun j hj => HN.out j hj (by omega))]; rfl, HB.out.trans (hb.mono HB.out.size)⟩
      | false =>
        have hq' := Aside0.mk hq
        rw [hq] at hcall
        clear hq
        go_wp2_with (go_at_fn g; refine hcall.mono ?_; rintro e w' ⟨rfl, hb⟩)
        go_roundg (l0.length - (kk + 1))
        case measure => omega
        case rel =>
          refine ⟨kk + 1, by omega, by omega, by go_num, ⟨HB.out.trans (hb.mono HB.out.size)⟩, ⟨fun j hj hl => ?_⟩⟩
          by_cases e : j = kk
          · subst e
            rw [B.out]; exact hq'.out
          · exact HN.out j (by omega) hl
    · have hltz : ¬ (kk : Int) < (l0.length : Int) := by omega
      go_wp2
      go_ret
      exact ⟨by rw [idxG_miss (fun j hj => HN.out j (by omega) hj)]; rfl, HB.out⟩

set_option maxHeartbeats 2000000 in
theorem slices_ContainsFunc_string.calls_g (g : Nat) (cb : Array Value) (p : ByteArray → Bool) (eg : ∀ args w, (callFunc g args).run Tryd.prog w = .ok (.enter g args) w) (A0 : Option Addr) (c0 : Nat) (l0 : List ByteArray) (w : World) (hr0 : Kd.C Kd.string w A0 l0.length l0) (hc0 : l0.length ≤ c0)
    (hp : FnP Tryd.prog g cb Value.string p l0 w) :
    Calls Tryd.prog 56 #[.slice A0 l0.length c0, .func (.func g) #[] cb] w fun e w' => e = .returned (.bool (l0.any p)) ∧ Below w.heap.size w w' := by
  rw [← idxG_nonneg]
  go_enter Tryd.func56, Tryd.ntmps56
  go_wp2_with (go_at_call 80; refine (slices_IndexFunc_string.calls_g g cb p eg A0 c0 l0 _ hr0 hc0 hp).mono ?_; rintro e w' ⟨rfl, hb⟩)
  go_ret
  exact ⟨rfl, hb⟩

/-- The cell of internal/bytealg.MaxLen holds some number. -/
def MaxAt (w : World) : Prop := ∃ m, w.cell? ⟨0, 0, none⟩ = some (.int .i64 m)
theorem maxAt_below {w W : World} (h : MaxAt w) (hb : Below w.heap.size w W) : MaxAt W := by
  obtain ⟨m, hm⟩ := h
  exact ⟨m, (hb.cell (World.block_lt_of_cell? w _ hm)).trans hm⟩

def hasC (s : ByteArray) : Bool := Lib.contains s.data.toList [99]
def sz1000c (s : ByteArray) : Bool := decide (s.size ≤ 1000)
set_option maxRecDepth 100000 in
set_option maxHeartbeats 4000000 in
theorem impl_letterCount_1.calls (x : ByteArray) (hx : x.size ≤ 1000) (m : Int) (W : World) (hm : W.cell? ⟨0, 0, none⟩ = some (.int .i64 m)) : Calls Tryd.prog 87 #[.string x] W fun e w' => e = .returned (.bool (hasC x)) ∧ Below W.heap.size W w' := by
  have HC := Aside0.mk (Tryd.strings_Contains x ⟨#[99]⟩ m W (by omega) hm)
  clear hx hm
  go_enter Tryd.func87, Tryd.ntmps87
  go_wp2_with (go_at_call 58; refine HC.out.mono ?_; rintro e w' ⟨rfl, rfl⟩)
  go_ret
  exact ⟨rfl, Below.refl _ _⟩
def impl_letterCount.f (l0 : List ByteArray) : Option Int := if l0.all sz1000c = true then some (if l0.any hasC = true then 3 else 2) else none
set_option maxRecDepth 100000 in
set_option maxHeartbeats 4000000 in
theorem impl_letterCount.calls (A0 : Option Addr) (c0 : Nat) (l0 : List ByteArray) (r : Int) (w : World) (hr0 : Kd.C Kd.string w A0 l0.length l0) (hc0 : l0.length ≤ c0) (h : impl_letterCount.f l0 = some r) (hm : MaxAt w) :
    Calls Tryd.prog 65 #[.slice A0 l0.length c0] w fun e w' => e = .returned (.int .i64 r) ∧ Below w.heap.size w w' := by
  unfold impl_letterCount.f at h
  by_cases hs : l0.all sz1000c = true
  case neg => rw [if_neg hs] at h; cases h
  rw [if_pos hs] at h
  obtain rfl := Option.some.inj h
  have hsz : ∀ x ∈ l0, x.size ≤ 1000 := fun x hx => of_decide_eq_true (List.all_eq_true.1 hs x hx)
  have eg := enters_of Tryd.func87 (by kernel_rfl) rfl
  have HCON := Aside0.mk (slices_ContainsFunc_string.calls_g _ #[] hasC eg A0 c0 l0 w hr0 hc0 (fun W x hx hW => by
    obtain ⟨m, hm'⟩ := maxAt_below hm hW
    exact impl_letterCount_1.calls x (hsz x hx) m W hm'))
  clear h hs hsz eg hr0 hc0 hm
  obtain ⟨b, hb⟩ : ∃ b, l0.any hasC = b := ⟨_, rfl⟩
  rw [hb] at HCON ⊢
  cases b with
  | true =>
    rw [if_pos rfl]
    go_enter Tryd.func65, Tryd.ntmps65
    go_wp2_with (go_at_call 56; refine HCON.out.mono ?_; rintro e w' ⟨rfl, hb1⟩; have HB1 := Aside0.mk hb1; clear hb1)
    go_ret
    exact ⟨rfl, HB1.out⟩
  | false =>
    rw [if_neg (by decide)]
    go_enter Tryd.func65, Tryd.ntmps65
    go_wp2_with (go_at_call 56; refine HCON.out.mono ?_; rintro e w' ⟨rfl, hb1⟩; have HB1 := Aside0.mk hb1; clear hb1)
    go_ret
    exact ⟨rfl, HB1.out⟩

end Go.Proofs.YtidjjcgfdkmefaaDoor.X

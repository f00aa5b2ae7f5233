-- WRITTEN by xprint.py of this repo: the kit's print.py with contracts given by hand (given.py). Lean checks it.
import Derived.Test.YtkphnakihjiebaaDoorXx0
import Derived.Test.YtkphnakihjiebaaDoorXx2
import Derived.Test.YtkphnakihjiebaaDoorXx3
import Derived.Test.YtkphnakihjiebaaDoorXx6
namespace Go.Proofs.YtkphnakihjiebaaDoor.X
open Go.RowKit Go.Proofs.YtkphnakihjiebaaDoorW.PrintWords Go.Proofs.YtkphnakihjiebaaDoorW.PrintLast Go.Proofs.YtkphnakihjiebaaDoorW.PrintMore
attribute [local go_sem] max2_int min2_int max_two min_two max_three min_three max_four min_four   -- for this text's walks alone
set_option linter.unusedVariables false
set_option linter.unusedSimpArgs false

/-! ### GIVEN impl_SetOf: function 30 -/
/-- What a function value tells of each element, in whatever world that keeps what lay. -/
def FnP (P : Program) (g : Nat) (cb : Array Value) {α : Type} (enc : α → Value) (p : α → Bool) (l : List α) (w : World) : Prop :=
  ∀ (W : World) (x : α), x ∈ l → Below w.heap.size w W → Calls P g (#[enc x] ++ cb) W fun e w' => e = .returned (.bool (p x)) ∧ Below W.heap.size W w'
def idxG {α : Type} (p : α → Bool) (l : List α) : Int := if l.any p then (l.findIdx p : Int) else -1

theorem idxG_hit {α : Type} {p : α → Bool} {l : List α} {k : Nat} (hk : k < l.length) (h : p l[k] = true) (hn : ∀ j (hj : j < k), p (l[j]'(by omega)) = false) : idxG p l = (k : Int) := by
  unfold idxG
  rw [if_pos (List.any_eq_true.2 ⟨_, List.getElem_mem hk, h⟩)]
  congr 1
  exact List.findIdx_eq hk |>.2 ⟨h, fun j hj => hn j hj⟩
theorem idxG_miss {α : Type} {p : α → Bool} {l : List α} (hn : ∀ j (hj : j < l.length), p l[j] = false) : idxG p l = -1 := by
  unfold idxG
  rw [if_neg]
  intro h
  obtain ⟨x, hx, hp⟩ := List.any_eq_true.1 h
  obtain ⟨j, hj, rfl⟩ := List.getElem_of_mem hx
  rw [hn j hj] at hp
  exact absurd hp (by simp)


theorem idxG_nonneg {α : Type} (p : α → Bool) (l : List α) : decide (0 ≤ idxG p l) = l.any p := by
  unfold idxG
  cases h : l.any p
  · simp
  · simp

set_option maxHeartbeats 2000000 in
theorem slices_IndexFunc_string.calls_g (g : Nat) (cb : Array Value) (p : ByteArray → Bool) (eg : ∀ args w, (callFunc g args).run Tryd.prog w = .ok (.enter g args) w) (A0 : Option Addr) (c0 : Nat) (l0 : List ByteArray) (w : World) (hr0 : Kd.C Kd.string w A0 l0.length l0) (hc0 : l0.length ≤ c0)
    (hp : FnP Tryd.prog g cb Value.string p l0 w) :
    Calls Tryd.prog 81 #[.slice A0 l0.length c0, .func (.func g) #[] cb] w fun e w' => e = .returned (.int .i64 (idxG p l0)) ∧ Below w.heap.size w w' := by
  have hbig := hr0.2.1
  have HR0 := Aside0.mk hr0
  clear hr0
  have HP := Aside0.mk hp
  clear hp
  go_enter Tryd.func81, Tryd.ntmps81
  go_wp2
  go_loopg [5, 8] l0.length (fun gg _ s8 wr => ∃ kk : Nat, kk ≤ l0.length ∧ l0.length - kk ≤ gg ∧ s8 = .int .i64 kk ∧ Aside0 (Below w.heap.size w wr) ∧ Aside0 (∀ j (hj : j < kk) (hl : j < l0.length), p l0[j] = false))
  case atStart => exact ⟨0, Nat.zero_le _, by omega, rfl, ⟨Below.refl _ _⟩, ⟨fun j hj => absurd hj (Nat.not_lt_zero _)⟩⟩
  case round =>
    obtain ⟨kk, hkk, hg, rfl, HB, HN⟩ := hrel
    by_cases hlt : kk < l0.length
    · have hltz : (kk : Int) < (l0.length : Int) := by omega
      obtain ⟨ad, e1, hcell⟩ := Kd.at_string (Kd.C_below HR0.out HB.out) kk (by omega) hltz
      have hrd : rdOf ByteArray.empty l0 (kk : Int) = l0[kk] := by simp [rdOf, List.getD_eq_getElem?_getD, hlt]
      rw [hrd] at hcell
      clear hrd
      simp only [Int.toNat_natCast] at hcell
      subst e1
      have hcall := HP.out wr l0[kk] (List.getElem_mem hlt) HB.out
      generalize hy : l0[kk] = y at hcell hcall
      have B := Aside0.mk hy
      clear hy
      cases hq : p y with
      | true =>
        have hq' := Aside0.mk hq
        rw [hq] at hcall
        clear hq
        go_wp2_with (go_at_fn g; refine hcall.mono ?_; rintro e w' ⟨rfl, hb⟩)
        go_ret
        exact ⟨by rw [idxG_hit hlt (by rw [B.out]; exact hq'.out) (fun j hj => HN.out j hj (by omega))]; rfl, HB.out.trans (hb.mono HB.out.size)⟩
      | false =>
        have hq' := Aside0.mk hq
        rw [hq] at hcall
        clear hq
        go_wp2_with (go_at_fn g; refine hcall.mono ?_; rintro e w' ⟨rfl, hb⟩)
        go_roundg (l0.length - (kk + 1))
        case measure => omega
        case rel =>
          refine ⟨kk + 1, by omega, by omega, by go_num, ⟨HB.out.trans (hb.mono HB.out.size)⟩, ⟨fun j hj hl => ?_⟩⟩
          by_cases e : j = kk
          · subst e
            rw [B.out]; exact hq'.out
          · exact HN.out j (by omega) hl
    · have hltz : ¬ (kk : Int) < (l0.length : Int) := by omega
      go_wp2
      go_ret
      exact ⟨by rw [idxG_miss (fun j hj => HN.out j (by omega) hj)]; rfl, HB.out⟩

set_option maxHeartbeats 2000000 in
theorem slices_ContainsFunc_string.calls_g (g : Nat) (cb : Array Value) (p : ByteArray → Bool) (eg : ∀ args w, (callFunc g args).run Tryd.prog w = .ok (.enter g args) w) (A0 : Option Addr) (c0 : Nat) (l0 : List ByteArray) (w : World) (hr0 : Kd.C Kd.string w A0 l0.length l0) (hc0 : l0.length ≤ c0)
    (hp : FnP Tryd.prog g cb Value.string p l0 w) :
    Calls Tryd.prog 57 #[.slice A0 l0.length c0, .func (.func g) #[] cb] w fun e w' => e = .returned (.bool (l0.any p)) ∧ Below w.heap.size w w' := by
  rw [← idxG_nonneg]
  go_enter Tryd.func57, Tryd.ntmps57
  go_wp2_with (go_at_call 81; refine (slices_IndexFunc_string.calls_g g cb p eg A0 c0 l0 _ hr0 hc0 hp).mono ?_; rintro e w' ⟨rfl, hb⟩)
  go_ret
  exact ⟨rfl, hb⟩

def shortB (x : ByteArray) : Bool := decide (x.size ≤ 60) && x.data.toList.all isL && decide (1 ≤ x.size ∧ x.size ≤ 8)
theorem isShort_b (x : ByteArray) : impl_isShort.f x = some (shortB x) := by
  unfold impl_isShort.f impl_isWord.f shortB
  rw [Option.bind_some]
  cases decide (x.size ≤ 60) && x.data.toList.all isL with
  | false => rfl
  | true =>
    rw [if_pos rfl]
    unfold impl_in.f
    by_cases h : 1 ≤ x.size
    · rw [if_pos (by omega)]; simp [h]; omega
    · rw [if_neg (by omega)]; simp [h]
set_option maxHeartbeats 1000000 in
theorem impl_SetOf_1.calls (x : ByteArray) (w : World) : Calls Tryd.prog 58 #[.string x] w fun e w' => e = .returned (.bool (!(shortB x))) ∧ Below w.heap.size w w' := by
  go_enter Tryd.func58, Tryd.ntmps58
  go_wp2_with (go_at_call 59; refine (impl_isShort.calls x _ _ (isShort_b x)).mono ?_; rintro e w' ⟨rfl, hb⟩)
  go_ret
  exact ⟨rfl, hb⟩
def notShort (x : ByteArray) : Bool := !(shortB x)
def impl_SetOf.f (l0 : List ByteArray) : Option (List ByteArray × Bool) := if l0.length ≤ 40 then (if l0.any notShort = true then some ([], false) else (impl_ordered.f l0).bind fun out => (if out.length ≤ 12 then some (out, true) else some ([], false))) else some ([], false)
set_option maxHeartbeats 4000000 in
theorem impl_SetOf.calls (A0 : Option Addr) (c0 : Nat) (l0 : List ByteArray) (r1 : List ByteArray) (r2 : Bool) (w : World) (hr0 : Kd.C Kd.string w A0 l0.length l0) (hc0 : l0.length ≤ c0) (h : impl_SetOf.f l0 = some (r1, r2)) :
    Calls Tryd.prog 30 #[.slice A0 l0.length c0] w fun e w' => ∃ v0_ : Value, e = .returned (.tuple #[v0_, .bool r2]) ∧ Kd.R Kd.string 9 w' w.heap.size (fun _ => True) v0_ r1 ∧ Below w.heap.size w w' := by
  have HR0 := Aside0.mk hr0
  have HC0 := Aside0.mk hc0
  clear hr0 hc0
  have eg := enters_of Tryd.func58 (by kernel_rfl) rfl
  have hcon := fun (W : World) (hW : Below w.heap.size w W) => slices_ContainsFunc_string.calls_g _ #[] notShort eg A0 c0 l0 W (Kd.C_below HR0.out hW) HC0.out (fun W' x _ _ => impl_SetOf_1.calls x W')
  unfold impl_SetOf.f at h
  by_cases h40 : l0.length ≤ 40
  · rw [if_pos h40] at h
    have d40 : decide (40 < (l0.length : Int)) = false := decide_eq_false (by omega)
    have d40' : decide (40 < l0.length) = false := decide_eq_false (by omega)
    cases hany : l0.any notShort with
    | true =>
      rw [hany, if_pos rfl] at h
      obtain ⟨rfl, rfl⟩ := Prod.mk.inj (Option.some.inj h)
      rw [hany] at hcon
      clear hany h
      go_enter Tryd.func30, Tryd.ntmps30
      go_wp2_with (go_at_call 57; refine (hcon _ (Below.refl _ _)).mono ?_; rintro e w' ⟨rfl, hb⟩)
      go_ret2
      exact ⟨_, rfl, Kd.R_nil _ _ _ _ _, hb⟩
    | false =>
      rw [hany, if_neg (by decide)] at h
      rw [hany] at hcon
      clear hany
      obtain ⟨out, ho, h⟩ := Option.bind_eq_some_iff.mp h
      have HO := Aside0.mk ho
      clear ho
      by_cases h12 : out.length ≤ 12
      · rw [if_pos h12] at h
        obtain ⟨e1, rfl⟩ := Prod.mk.inj (Option.some.inj h)
        subst e1
        have d12 : decide (12 < (out.length : Int)) = false := decide_eq_false (by omega)
        have d12' : decide (12 < out.length) = false := decide_eq_false (by omega)
        clear h
        go_enter Tryd.func30, Tryd.ntmps30
        go_wp2_with fail
        go_at_call 57
        refine (hcon _ (Below.refl _ _)).mono ?_
        rintro e w1 ⟨rfl, hb1⟩
        have HB1 := Aside0.mk hb1
        clear hb1 hcon
        go_wp2_with fail
        go_at_call 60
        refine (impl_ordered.calls A0 c0 l0 out _ (Kd.C_below HR0.out HB1.out) HC0.out HO.out).mono ?_
        rintro e w2 ⟨v, rfl, hR, hb2⟩
        have HB2 := Aside0.mk hb2
        have HRR := Aside0.mk hR
        obtain ⟨A1, c1, hv⟩ := Kd.R_slice hR
        subst hv
        clear hb2 hR
        go_wp2
        go_ret2
        exact ⟨_, rfl, Kd.R_lower HRR.out HB1.out.size, HB1.out.trans (HB2.out.mono HB1.out.size)⟩
      · rw [if_neg h12] at h
        obtain ⟨rfl, rfl⟩ := Prod.mk.inj (Option.some.inj h)
        have d12 : decide (12 < (out.length : Int)) = true := decide_eq_true (by omega)
        have d12' : decide (12 < out.length) = true := decide_eq_true (by omega)
        clear h
        go_enter Tryd.func30, Tryd.ntmps30
        go_wp2_with fail
        go_at_call 57
        refine (hcon _ (Below.refl _ _)).mono ?_
        rintro e w1 ⟨rfl, hb1⟩
        have HB1 := Aside0.mk hb1
        clear hb1 hcon
        go_wp2_with fail
        go_at_call 60
        refine (impl_ordered.calls A0 c0 l0 out _ (Kd.C_below HR0.out HB1.out) HC0.out HO.out).mono ?_
        rintro e w2 ⟨v, rfl, hR, hb2⟩
        have HB2 := Aside0.mk hb2
        have HRR := Aside0.mk hR
        obtain ⟨A1, c1, hv⟩ := Kd.R_slice hR
        subst hv
        clear hb2 hR
        go_wp2
        go_ret2
        exact ⟨_, rfl, Kd.R_nil _ _ _ _ _, HB1.out.trans (HB2.out.mono HB1.out.size)⟩
  · rw [if_neg h40] at h
    obtain ⟨rfl, rfl⟩ := Prod.mk.inj (Option.some.inj h)
    have d40 : decide (40 < (l0.length : Int)) = true := decide_eq_true (by omega)
    have d40' : decide (40 < l0.length) = true := decide_eq_true (by omega)
    clear h
    go_enter Tryd.func30, Tryd.ntmps30
    go_wp2
    go_ret2
    exact ⟨_, rfl, Kd.R_nil _ _ _ _ _, Below.refl _ _⟩

end Go.Proofs.YtkphnakihjiebaaDoor.X

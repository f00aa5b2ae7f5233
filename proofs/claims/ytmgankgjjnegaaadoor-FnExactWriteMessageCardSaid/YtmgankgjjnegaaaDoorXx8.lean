-- WRITTEN by xprint.py of this repo: the kit's print.py with contracts given by hand (given.py). Lean checks it.
import Derived.Test.YtmgankgjjnegaaaDoorXx0
import Derived.Test.YtmgankgjjnegaaaDoorXx3
import Derived.Test.YtmgankgjjnegaaaDoorXx4
import Derived.Test.YtmgankgjjnegaaaDoorXx7
namespace Go.Proofs.YtmgankgjjnegaaaDoor.X
open Go.RowKit Go.Proofs.YtmgankgjjnegaaaDoorW.PrintWords Go.Proofs.YtmgankgjjnegaaaDoorW.PrintLast Go.Proofs.YtmgankgjjnegaaaDoorW.PrintMore
attribute [local go_sem] max2_int min2_int max_two min_two max_three min_three max_four min_four   -- for this text's walks alone
set_option linter.unusedVariables false
set_option linter.unusedSimpArgs false

/-! ### GIVEN impl_WriteMessage: function 41 -/
/-- What a function value tells of each element, in whatever world that keeps what lay. -/
def FnP (P : Program) (g : Nat) (cb : Array Value) {α : Type} (enc : α → Value) (p : α → Bool) (l : List α) (w : World) : Prop :=
  ∀ (W : World) (x : α), x ∈ l → Below w.heap.size w W → Calls P g (#[enc x] ++ cb) W fun e w' => e = .returned (.bool (p x)) ∧ Below W.heap.size W w'
def idxG {α : Type} (p : α → Bool) (l : List α) : Int := if l.any p then (l.findIdx p : Int) else -1

theorem idxG_hit {α : Type} {p : α → Bool} {l : List α} {k : Nat} (hk : k < l.length) (h : p l[k] = true) (hn : ∀ j (hj : j < k), p (l[j]'(by omega)) = false) : idxG p l = (k : Int) := by
  unfold idxG
  rw [if_pos (List.any_eq_true.2 ⟨_, List.getElem_mem hk, h⟩)]
  congr 1
  exact List.findIdx_eq hk |>.2 ⟨h, fun j hj => hn j hj⟩
theorem idxG_miss {α : Type} {p : α → Bool} {l : List α} (hn : ∀ j (hj : j < l.length), p l[j] = false) : idxG p l = -1 := by
  unfold idxG
  rw [if_neg]
  intro h
  obtain ⟨x, hx, hp⟩ := List.any_eq_true.1 h
  obtain ⟨j, hj, rfl⟩ := List.getElem_of_mem hx
  rw [hn j hj] at hp
  exact absurd hp (by simp)


theorem idxG_nonneg {α : Type} (p : α → Bool) (l : List α) : decide (0 ≤ idxG p l) = l.any p := by
  unfold idxG
  cases h : l.any p
  · simp
  · simp

set_option maxHeartbeats 2000000 in
theorem slices_IndexFunc_int.calls_g (g : Nat) (cb : Array Value) (p : Int → Bool) (eg : ∀ args w, (callFunc g args).run Tryd.prog w = .ok (.enter g args) w) (A0 : Option Addr) (c0 : Nat) (l0 : List Int) (w : World) (hr0 : Kd.C (Kd.int .i64) w A0 l0.length l0) (hc0 : l0.length ≤ c0)
    (hp : FnP Tryd.prog g cb (Value.int .i64) p l0 w) :
    Calls Tryd.prog 88 #[.slice A0 l0.length c0, .func (.func g) #[] cb] w fun e w' => e = .returned (.int .i64 (idxG p l0)) ∧ Below w.heap.size w w' := by
  have hbig := hr0.2.1
  have HR0 := Aside0.mk hr0
  clear hr0
  have HP := Aside0.mk hp
  clear hp
  go_enter Tryd.func88, Tryd.ntmps88
  go_wp2
  go_loopg [5, 8] l0.length (fun gg _ s8 wr => ∃ kk : Nat, kk ≤ l0.length ∧ l0.length - kk ≤ gg ∧ s8 = .int .i64 kk ∧ Aside0 (Below w.heap.size w wr) ∧ Aside0 (∀ j (hj : j < kk) (hl : j < l0.length), p l0[j] = false))
  case atStart => exact ⟨0, Nat.zero_le _, by omega, rfl, ⟨Below.refl _ _⟩, ⟨fun j hj => absurd hj (Nat.not_lt_zero _)⟩⟩
  case round =>
    obtain ⟨kk, hkk, hg, rfl, HB, HN⟩ := hrel
    by_cases hlt : kk < l0.length
    · have hltz : (kk : Int) < (l0.length : Int) := by omega
      obtain ⟨ad, e1, hcell⟩ := Kd.at_int (Kd.C_below HR0.out HB.out) kk (by omega) hltz
      have hrd : rd l0 (kk : Int) = l0[kk] := by simp [rd, List.getD_eq_getElem?_getD, hlt]
      rw [hrd] at hcell
      clear hrd
      simp only [Int.toNat_natCast] at hcell
      subst e1
      have hcall := HP.out wr l0[kk] (List.getElem_mem hlt) HB.out
      generalize hy : l0[kk] = y at hcell hcall
      have B := Aside0.mk hy
      clear hy
      cases hq : p y with
      | true =>
        have hq' := Aside0.mk hq
        rw [hq] at hcall
        clear hq
        go_wp2_with (go_at_fn g; refine hcall.mono ?_; rintro e w' ⟨rfl, hb⟩)
        go_ret
        exact ⟨by rw [idxG_hit hlt (by rw [B.out]; exact hq'.out) (fun j hj => HN.out j hj (by omega))]; rfl, HB.out.trans (hb.mono HB.out.size)⟩
      | false =>
        have hq' := Aside0.mk hq
        rw [hq] at hcall
        clear hq
        go_wp2_with (go_at_fn g; refine hcall.mono ?_; rintro e w' ⟨rfl, hb⟩)
        go_roundg (l0.length - (kk + 1))
        case measure => omega
        case rel =>
          refine ⟨kk + 1, by omega, by omega, by go_num, ⟨HB.out.trans (hb.mono HB.out.size)⟩, ⟨fun j hj hl => ?_⟩⟩
          by_cases e : j = kk
          · subst e
            rw [B.out]; exact hq'.out
          · exact HN.out j (by omega) hl
    · have hltz : ¬ (kk : Int) < (l0.length : Int) := by omega
      go_wp2
      go_ret
      exact ⟨by rw [idxG_miss (fun j hj => HN.out j (by omega) hj)]; rfl, HB.out⟩

set_option maxHeartbeats 2000000 in
theorem slices_ContainsFunc_int.calls_g (g : Nat) (cb : Array Value) (p : Int → Bool) (eg : ∀ args w, (callFunc g args).run Tryd.prog w = .ok (.enter g args) w) (A0 : Option Addr) (c0 : Nat) (l0 : List Int) (w : World) (hr0 : Kd.C (Kd.int .i64) w A0 l0.length l0) (hc0 : l0.length ≤ c0)
    (hp : FnP Tryd.prog g cb (Value.int .i64) p l0 w) :
    Calls Tryd.prog 66 #[.slice A0 l0.length c0, .func (.func g) #[] cb] w fun e w' => e = .returned (.bool (l0.any p)) ∧ Below w.heap.size w w' := by
  rw [← idxG_nonneg]
  go_enter Tryd.func66, Tryd.ntmps66
  go_wp2_with (go_at_call 88; refine (slices_IndexFunc_int.calls_g g cb p eg A0 c0 l0 _ hr0 hc0 hp).mono ?_; rintro e w' ⟨rfl, hb⟩)
  go_ret
  exact ⟨rfl, hb⟩

theorem heap_new (w : World) (o : Obj) : (w.alloc o).heap[w.heap.size]? = some o := by
  have h : (w.alloc o).heap = w.heap.push o := rfl
  rw [h, Array.getElem?_push, if_pos rfl]
/-- A value that has been put into a box of its own. -/
theorem box_new (w : World) (v : Value) (e : Nat) : (w.alloc (.cells #[v] e)).cell? ⟨w.heap.size, 0, none⟩ = some v := by
  unfold World.cell?
  rw [show (w.alloc (.cells #[v] e)).heap[(⟨w.heap.size, 0, none⟩ : Addr).block]? = some (.cells #[v] e) from heap_new w _]
  rfl

def inB (n : Nat) (i : Int) : Bool := decide (0 ≤ i ∧ i < (n : Int))
set_option maxRecDepth 100000 in
set_option maxHeartbeats 2000000 in
theorem impl_WriteMessage_1.calls (B : Nat) (A0 : Option Addr) (n c0 : Nat) (hn : n ≤ 9223372036854775807) (i : Int) (W : World) (hB : W.cell? ⟨B, 0, none⟩ = some (.slice A0 n c0)) :
    Calls Tryd.prog 67 (#[.int .i64 i] ++ #[.pointer (some ⟨B, 0, none⟩)]) W fun e w' => e = .returned (.bool (!(inB n i))) ∧ Below W.heap.size W w' := by
  have e1 : wrap64 ((n : Int) - 1) = (n : Int) - 1 := by unfold wrap64; omega
  have hin : impl_in.f i 0 (wrap64 ((n : Int) - 1)) = some (inB n i) := by
    rw [e1]
    unfold impl_in.f inB
    by_cases h : 0 ≤ i
    · rw [if_pos h]; congr 1; simp [h]; omega
    · rw [if_neg h]; simp [h]
  have hw : IntKind.i64.wrap ((n : Int) - 1) = wrap64 ((n : Int) - 1) := i64_w _
  have HIN := Aside0.mk hin
  clear hin e1
  go_enter Tryd.func67, Tryd.ntmps67
  go_wp2_with (go_at_call 54; refine (impl_in.calls i 0 (wrap64 ((n : Int) - 1)) _ _ HIN.out).mono ?_; rintro e w' ⟨rfl, hd⟩)
  go_ret
  exact ⟨rfl, by first | exact hd | exact hd.below⟩
/-- The words of a message, one behind the other. -/
def wmL (l0 : List ByteArray) (l1 : List Int) : ByteArray := l1.foldl (fun out i => out ++ rdOf ByteArray.empty l0 i) ⟨#[]⟩
def sz60 (x : ByteArray) : Bool := decide (x.size ≤ 60)
theorem wmL_size (l0 : List ByteArray) (h : ∀ x ∈ l0, x.size ≤ 60) (l1 : List Int) (kk : Nat) (hk : kk ≤ l1.length) : (wmL l0 (l1.take kk)).size ≤ 60 * kk := by
  induction kk with
  | zero => exact Nat.le_refl 0
  | succ kk ih =>
    have hk' : kk < l1.length := by omega
    have := ih (by omega)
    have hx : (rdOf ByteArray.empty l0 l1[kk]).size ≤ 60 := by
      unfold rdOf
      rw [List.getD_eq_getElem?_getD]
      cases hq : l0[l1[kk].toNat]? with
      | none => simp
      | some x => exact h x (List.mem_of_getElem? hq)
    rw [List.take_succ_eq_append_getElem hk']
    unfold wmL at *
    rw [List.foldl_append, List.foldl_cons, List.foldl_nil, ByteArray.size_append]
    omega
def impl_WriteMessage.f (k : Nat) (l0 : List ByteArray) (l1 : List Int) : Option (ByteArray × Bool) := (impl_isSet.f k l0).bind fun b => if b = true then (if l1.length ≤ 60 then (if l1.any (fun i => !(inB l0.length i)) = true then some (⟨#[]⟩, false) else (if l0.all sz60 = true then (impl_isWord.f (wmL l0 l1)).bind fun c => (if c = true then some (wmL l0 l1, true) else some (⟨#[]⟩, false)) else none)) else some (⟨#[]⟩, false)) else some (⟨#[]⟩, false)
theorem impl_WriteMessage.mono : ∀ a0 a1 k, LeO (impl_WriteMessage.f k a0 a1) (impl_WriteMessage.f (k + 1) a0 a1) := by
  intro a0 a1 k
  unfold impl_WriteMessage.f
  exact LeO.bind (impl_isSet.mono _ _) (fun _ => LeO.refl _)
set_option maxRecDepth 100000 in
set_option maxHeartbeats 8000000 in
theorem impl_WriteMessage.calls (k : Nat) (A0 : Option Addr) (c0 : Nat) (l0 : List ByteArray) (A1 : Option Addr) (c1 : Nat) (l1 : List Int) (r1 : ByteArray) (r2 : Bool) (w : World) (hr0 : Kd.C Kd.string w A0 l0.length l0) (hc0 : l0.length ≤ c0) (hr1 : Kd.C (Kd.int .i64) w A1 l1.length l1) (hc1 : l1.length ≤ c1) (h : impl_WriteMessage.f k l0 l1 = some (r1, r2)) :
    Calls Tryd.prog 41 #[.slice A0 l0.length c0, .slice A1 l1.length c1] w fun e w' => e = .returned (.tuple #[.string r1, .bool r2]) ∧ Below w.heap.size w w' := by
  unfold impl_WriteMessage.f at h
  obtain ⟨b, hb, h⟩ := Option.bind_eq_some_iff.mp h
  obtain ⟨W0, hW0⟩ : ∃ W0, w.alloc (.cells #[.slice A0 l0.length c0] 22) = W0 := ⟨_, rfl⟩
  have hb0 : Below w.heap.size w W0 := by rw [← hW0]; exact (Below.refl _ w).alloc (Nat.le_refl _) _
  have hs0 : w.heap.size < W0.heap.size := by rw [← hW0]; simp
  have hcell : W0.cell? ⟨w.heap.size, 0, none⟩ = some (.slice A0 l0.length c0) := by
    rw [← hW0]
    exact box_new w _ _
  have hbig := hr0.2.1
  have hset := impl_isSet.calls k A0 c0 l0 b W0 (Kd.C_below hr0 hb0) hc0 hb
  have HSET := Aside0.mk hset
  have HB0 := Aside0.mk hb0
  have HS0 := Aside0.mk hs0
  have HCELL := Aside0.mk hcell
  clear hb hset hb0 hs0 hcell
  cases b with
  | false =>
    rw [if_neg (by decide)] at h
    obtain ⟨rfl, rfl⟩ := Prod.mk.inj (Option.some.inj h)
    have hcell := HCELL.out
    clear h hr0 hc0 hr1 hc1 hbig
    go_enter Tryd.func41, Tryd.ntmps41
    go_wp2_with (go_at_call 53; refine HSET.out.mono ?_; rintro e w1 ⟨rfl, hb1⟩; have HB1 := Aside0.mk hb1; clear hb1)
    go_ret2
    exact ⟨rfl, HB0.out.trans (HB1.out.mono HB0.out.size)⟩
  | true =>
    rw [if_pos rfl] at h
    have hcell := HCELL.out
    by_cases h60 : l1.length ≤ 60
    · rw [if_pos h60] at h
      have d60 : decide (60 < (l1.length : Int)) = false := decide_eq_false (by omega)
      have d60' : decide (60 < l1.length) = false := decide_eq_false (by omega)
      have eg := enters_of Tryd.func67 (by kernel_rfl) rfl
      have hcon := fun (W : World) (hW : Below w.heap.size w W) (hcl : W.cell? ⟨w.heap.size, 0, none⟩ = some (.slice A0 l0.length c0)) (hlt : w.heap.size < W.heap.size) => slices_ContainsFunc_int.calls_g _ #[.pointer (some ⟨w.heap.size, 0, none⟩)] (fun i => !(inB l0.length i)) eg A1 c1 l1 W (Kd.C_below hr1 hW) hc1
        (fun W' x _ hW' => impl_WriteMessage_1.calls w.heap.size A0 l0.length c0 (by omega) x W' ((hW'.cell (p := ⟨w.heap.size, 0, none⟩) hlt).trans hcl))
      have HCON := Aside0.mk hcon
      have hir1 := fun (W : World) (hW : Below w.heap.size w W) => Kd.C_below hr1 hW
      have HR0 := Aside0.mk hr0
      have HR1 := Aside0.mk hr1
      clear hcon hr0 hr1 hc0 hc1 hbig hir1
      cases hany : l1.any (fun i => !(inB l0.length i)) with
      | true =>
        rw [hany, if_pos rfl] at h
        obtain ⟨rfl, rfl⟩ := Prod.mk.inj (Option.some.inj h)
        rw [hany] at HCON
        clear h hany
        go_enter Tryd.func41, Tryd.ntmps41
        go_wp2_with (first | (go_at_call 53; refine HSET.out.mono ?_; rintro e w1 ⟨rfl, hb1⟩; have HB1 := Aside0.mk hb1; clear hb1) | (go_at_call 66; refine (HCON.out _ (HB0.out.trans (HB1.out.mono HB0.out.size)) ((HB1.out.cell (p := ⟨w.heap.size, 0, none⟩) HS0.out).trans HCELL.out) (Nat.lt_of_lt_of_le HS0.out HB1.out.size)).mono ?_; rintro e w2 ⟨rfl, hb2⟩; have HB2 := Aside0.mk hb2; clear hb2))
        go_ret2
        have hb := HB0.out.trans (HB1.out.mono HB0.out.size)
        exact ⟨rfl, hb.trans (HB2.out.mono hb.size)⟩
      | false =>
        rw [hany, if_neg (by decide)] at h
        rw [hany] at HCON
        have hall : ∀ i ∈ l1, 0 ≤ i ∧ i < (l0.length : Int) := fun i hi => by
          have := List.any_eq_false.1 hany i hi
          simp only [inB, Bool.not_eq_true', decide_eq_false_iff_not, Decidable.not_not] at this
          simpa using this
        by_cases hs : l0.all sz60 = true
        · rw [if_pos hs] at h
          obtain ⟨c, hw, h⟩ := Option.bind_eq_some_iff.mp h
          have hsz : ∀ x ∈ l0, x.size ≤ 60 := fun x hx => of_decide_eq_true (List.all_eq_true.1 hs x hx)
          have HALL := Aside0.mk hall
          have HSZ := Aside0.mk hsz
          have H60 := Aside0.mk h60
          have HW := Aside0.mk hw
          have HH := Aside0.mk h
          clear hany hs h hw hall hsz h60
          go_enter Tryd.func41, Tryd.ntmps41
          go_wp2_with (first | (go_at_call 53; refine HSET.out.mono ?_; rintro e w1 ⟨rfl, hb1⟩; have HB1 := Aside0.mk hb1; clear hb1) | (go_at_call 66; refine (HCON.out _ (HB0.out.trans (HB1.out.mono HB0.out.size)) ((HB1.out.cell (p := ⟨w.heap.size, 0, none⟩) HS0.out).trans HCELL.out) (Nat.lt_of_lt_of_le HS0.out HB1.out.size)).mono ?_; rintro e w2 ⟨rfl, hb2⟩; have HB2 := Aside0.mk (HB1.out.trans (hb2.mono HB1.out.size)); clear hb2))
          go_loopg [6, 24] l1.length (fun gg v6 v24 wr => ∃ kk : Nat, v24 = .int .i64 kk ∧ v6 = .string (wmL l0 (l1.take kk)) ∧ Aside0 (kk ≤ l1.length) ∧ Aside0 (l1.length - kk ≤ gg) ∧ Aside0 (Below W0.heap.size W0 wr))
          case atStart => exact ⟨0, rfl, rfl, ⟨by omega⟩, ⟨by omega⟩, HB2⟩
          case round =>
            clear HB1 HB2 HSET HCON
            obtain ⟨kk, rfl, rfl, HK, HM, HB⟩ := hrel
            have hb := HB0.out.trans (HB.out.mono HB0.out.size)
            by_cases hlt : kk < l1.length
            · have hltz : (kk : Int) < (l1.length : Int) := by omega
              obtain ⟨ad1, e1, hx1⟩ := Kd.at_int (Kd.C_below HR1.out hb) kk (by omega) hltz
              have hrd : rd l1 (kk : Int) = l1[kk] := by simp [rd, List.getD_eq_getElem?_getD, hlt]
              rw [hrd] at hx1
              clear hrd
              simp only [Int.toNat_natCast] at hx1
              subst e1
              obtain ⟨hi0, hi1⟩ := HALL.out l1[kk] (List.getElem_mem hlt)
              have hnx : wmL l0 (l1.take (kk + 1)) = wmL l0 (l1.take kk) ++ rdOf ByteArray.empty l0 l1[kk] := by
                rw [List.take_succ_eq_append_getElem hlt]; unfold wmL; rw [List.foldl_append]; rfl
              have hq1 := wmL_size l0 HSZ.out l1 kk (by omega)
              have hq2 := wmL_size l0 HSZ.out l1 (kk + 1) (by omega)
              have h60 := H60.out
              rw [hnx, ByteArray.size_append] at hq2
              generalize l1[kk] = i at hx1 hi0 hi1 hnx hq2
              obtain ⟨ad0, e0, hx0⟩ := Kd.at_string (Kd.C_below HR0.out hb) i hi0 hi1
              subst e0
              have hbx := (HB.out.cell (p := ⟨w.heap.size, 0, none⟩) HS0.out).trans HCELL.out
              have HNX := Aside0.mk hnx
              generalize rdOf ByteArray.empty l0 i = y at hx0 HNX hq2
              generalize wmL l0 (l1.take kk) = x at HNX hq1 hq2
              have s0 := eq_true (show x.size + y.size ≤ 9223372036854775807 by omega)
              have s1 := eq_false (show ¬ (9223372036854775807 < x.size + y.size) by omega)
              have hi2 := eq_true hi0
              have hi3 := eq_true hi1
              have HLT := Aside0.mk hlt
              clear hnx hq1 hq2 hb h60
              go_wp2
              go_roundg (l1.length - (kk + 1))
              case measure => have := HM.out; have := HLT.out; omega
              case rel => exact ⟨kk + 1, by have h1_ := HLT.out; have h2_ := H60.out; first | (congr 1; unfold wrap64; omega) | go_num, by rw [HNX.out], ⟨HLT.out⟩, ⟨by have := HM.out; omega⟩, HB⟩
            · have hltz : ¬ (kk : Int) < (l1.length : Int) := by omega
              have hk := HK.out
              obtain rfl : kk = l1.length := by omega
              rw [List.take_length]
              cases c with
              | true =>
                have hh := HH.out
                rw [if_pos rfl] at hh
                obtain ⟨rfl, rfl⟩ := Prod.mk.inj (Option.some.inj hh)
                obtain ⟨out, hout⟩ : ∃ out, wmL l0 l1 = out := ⟨_, rfl⟩
                rw [hout] at HW ⊢
                have HOUT := Aside0.mk hout
                clear hh HH hout hk
                go_wp2_with (go_at_call 57; refine (impl_isWord.calls out true _ HW.out).mono ?_; rintro e w3 ⟨rfl, hb3⟩; have HB3 := Aside0.mk hb3; clear hb3)
                go_ret2
                exact ⟨by rw [HOUT.out]; rfl, (HB0.out.trans (HB.out.mono HB0.out.size)).trans (HB3.out.mono (Nat.le_trans HB0.out.size HB.out.size))⟩
              | false =>
                have hh := HH.out
                rw [if_neg (by decide)] at hh
                obtain ⟨rfl, rfl⟩ := Prod.mk.inj (Option.some.inj hh)
                obtain ⟨out, hout⟩ : ∃ out, wmL l0 l1 = out := ⟨_, rfl⟩
                rw [hout] at HW ⊢
                clear hh HH hout hk
                go_wp2_with (go_at_call 57; refine (impl_isWord.calls out false _ HW.out).mono ?_; rintro e w3 ⟨rfl, hb3⟩; have HB3 := Aside0.mk hb3; clear hb3)
                go_ret2
                exact ⟨rfl, (HB0.out.trans (HB.out.mono HB0.out.size)).trans (HB3.out.mono (Nat.le_trans HB0.out.size HB.out.size))⟩
        · rw [if_neg hs] at h; cases h
    · rw [if_neg h60] at h
      obtain ⟨rfl, rfl⟩ := Prod.mk.inj (Option.some.inj h)
      have d60 : decide (60 < (l1.length : Int)) = true := decide_eq_true (by omega)
      have d60' : decide (60 < l1.length) = true := decide_eq_true (by omega)
      clear h hr0 hc0 hr1 hc1 hbig h60
      go_enter Tryd.func41, Tryd.ntmps41
      go_wp2_with (go_at_call 53; refine HSET.out.mono ?_; rintro e w1 ⟨rfl, hb1⟩; have HB1 := Aside0.mk hb1; clear hb1)
      go_ret2
      exact ⟨rfl, HB0.out.trans (HB1.out.mono HB0.out.size)⟩

end Go.Proofs.YtmgankgjjnegaaaDoor.X

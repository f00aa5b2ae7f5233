-- WRITTEN by xprint.py of this repo: the kit's print.py with contracts given by hand (given.py). Lean checks it.
import Derived.Test.YtmgankgjjnegaaaDoorXx0
import Derived.Test.YtmgankgjjnegaaaDoorXx2
import Derived.Test.YtmgankgjjnegaaaDoorXx5
import Derived.Test.YtmgankgjjnegaaaDoorXx6
namespace Go.Proofs.YtmgankgjjnegaaaDoor.X
open Go.RowKit Go.Proofs.YtmgankgjjnegaaaDoorW.PrintWords Go.Proofs.YtmgankgjjnegaaaDoorW.PrintLast Go.Proofs.YtmgankgjjnegaaaDoorW.PrintMore
attribute [local go_sem] max2_int min2_int max_two min_two max_three min_three max_four min_four   -- for this text's walks alone
set_option linter.unusedVariables false
set_option linter.unusedSimpArgs false

/-! ### GIVEN impl_ReadFromLeft: function 43 -/
/-- What a function value tells of each element, in whatever world that keeps what lay. -/
def FnP (P : Program) (g : Nat) (cb : Array Value) {α : Type} (enc : α → Value) (p : α → Bool) (l : List α) (w : World) : Prop :=
  ∀ (W : World) (x : α), x ∈ l → Below w.heap.size w W → Calls P g (#[enc x] ++ cb) W fun e w' => e = .returned (.bool (p x)) ∧ Below W.heap.size W w'
def idxG {α : Type} (p : α → Bool) (l : List α) : Int := if l.any p then (l.findIdx p : Int) else -1

theorem idxG_hit {α : Type} {p : α → Bool} {l : List α} {k : Nat} (hk : k < l.length) (h : p l[k] = true) (hn : ∀ j (hj : j < k), p (l[j]'(by omega)) = false) : idxG p l = (k : Int) := by
  unfold idxG
  rw [if_pos (List.any_eq_true.2 ⟨_, List.getElem_mem hk, h⟩)]
  congr 1
  exact List.findIdx_eq hk |>.2 ⟨h, fun j hj => hn j hj⟩
theorem idxG_miss {α : Type} {p : α → Bool} {l : List α} (hn : ∀ j (hj : j < l.length), p l[j] = false) : idxG p l = -1 := by
  unfold idxG
  rw [if_neg]
  intro h
  obtain ⟨x, hx, hp⟩ := List.any_eq_true.1 h
  obtain ⟨j, hj, rfl⟩ := List.getElem_of_mem hx
  rw [hn j hj] at hp
  exact absurd hp (by simp)


theorem idxG_nonneg {α : Type} (p : α → Bool) (l : List α) : decide (0 ≤ idxG p l) = l.any p := by
  unfold idxG
  cases h : l.any p
  · simp
  · simp

set_option maxHeartbeats 2000000 in
theorem slices_IndexFunc_string.calls_g (g : Nat) (cb : Array Value) (p : ByteArray → Bool) (eg : ∀ args w, (callFunc g args).run Tryd.prog w = .ok (.enter g args) w) (A0 : Option Addr) (c0 : Nat) (l0 : List ByteArray) (w : World) (hr0 : Kd.C Kd.string w A0 l0.length l0) (hc0 : l0.length ≤ c0)
    (hp : FnP Tryd.prog g cb Value.string p l0 w) :
    Calls Tryd.prog 72 #[.slice A0 l0.length c0, .func (.func g) #[] cb] w fun e w' => e = .returned (.int .i64 (idxG p l0)) ∧ Below w.heap.size w w' := by
  have hbig := hr0.2.1
  have HR0 := Aside0.mk hr0
  clear hr0
  have HP := Aside0.mk hp
  clear hp
  go_enter Tryd.func72, Tryd.ntmps72
  go_wp2
  go_loopg [5, 8] l0.length (fun gg _ s8 wr => ∃ kk : Nat, kk ≤ l0.length ∧ l0.length - kk ≤ gg ∧ s8 = .int .i64 kk ∧ Aside0 (Below w.heap.size w wr) ∧ Aside0 (∀ j (hj : j < kk) (hl : j < l0.length), p l0[j] = false))
  case atStart => exact ⟨0, Nat.zero_le _, by omega, rfl, ⟨Below.refl _ _⟩, ⟨fun j hj => absurd hj (Nat.not_lt_zero _)⟩⟩
  case round =>
    obtain ⟨kk, hkk, hg, rfl, HB, HN⟩ := hrel
    by_cases hlt : kk < l0.length
    · have hltz : (kk : Int) < (l0.length : Int) := by omega
      obtain ⟨ad, e1, hcell⟩ := Kd.at_string (Kd.C_below HR0.out HB.out) kk (by omega) hltz
      have hrd : rdOf ByteArray.empty l0 (kk : Int) = l0[kk] := by simp [rdOf, List.getD_eq_getElem?_getD, hlt]
      rw [hrd] at hcell
      clear hrd
      simp only [Int.toNat_natCast] at hcell
      subst e1
      have hcall := HP.out wr l0[kk] (List.getElem_mem hlt) HB.out
      generalize hy : l0[kk] = y at hcell hcall
      have B := Aside0.mk hy
      clear hy
      cases hq : p y with
      | true =>
        have hq' := Aside0.mk hq
        rw [hq] at hcall
        clear hq
        go_wp2_with (go_at_fn g; refine hcall.mono ?_; rintro e w' ⟨rfl, hb⟩)
        go_ret
        exact ⟨by rw [idxG_hit hlt (by rw [B.out]; exact hq'.out) (fun j hj => HN.out j hj (by omega))]; rfl, HB.out.trans (hb.mono HB.out.size)⟩
      | false =>
        have hq' := Aside0.mk hq
        rw [hq] at hcall
        clear hq
        go_wp2_with (go_at_fn g; refine hcall.mono ?_; rintro e w' ⟨rfl, hb⟩)
        go_roundg (l0.length - (kk + 1))
        case measure => omega
        case rel =>
          refine ⟨kk + 1, by omega, by omega, by go_num, ⟨HB.out.trans (hb.mono HB.out.size)⟩, ⟨fun j hj hl => ?_⟩⟩
          by_cases e : j = kk
          · subst e
            rw [B.out]; exact hq'.out
          · exact HN.out j (by omega) hl
    · have hltz : ¬ (kk : Int) < (l0.length : Int) := by omega
      go_wp2
      go_ret
      exact ⟨by rw [idxG_miss (fun j hj => HN.out j (by omega) hj)]; rfl, HB.out⟩


theorem heap_new (w : World) (o : Obj) : (w.alloc o).heap[w.heap.size]? = some o := by
  have h : (w.alloc o).heap = w.heap.push o := rfl
  rw [h, Array.getElem?_push, if_pos rfl]
/-- A value that has been put into a box of its own. -/
theorem box_new (w : World) (v : Value) (e : Nat) : (w.alloc (.cells #[v] e)).cell? ⟨w.heap.size, 0, none⟩ = some v := by
  unfold World.cell?
  rw [show (w.alloc (.cells #[v] e)).heap[(⟨w.heap.size, 0, none⟩ : Addr).block]? = some (.cells #[v] e) from heap_new w _]
  rfl

set_option maxHeartbeats 1000000 in
theorem impl_ReadFromLeft_1.calls (B : Nat) (s x : ByteArray) (W : World) (hB : W.cell? ⟨B, 0, none⟩ = some (.string s)) :
    Calls Tryd.prog 73 (#[.string x] ++ #[.pointer (some ⟨B, 0, none⟩)]) W fun e w' => e = .returned (.bool (begB s x)) ∧ Below W.heap.size W w' := by
  go_enter Tryd.func73, Tryd.ntmps73
  go_wp2_with (go_at_call 74; refine (strings_HasPrefix.calls s x _ _ (hasPrefix_f s x)).mono ?_; rintro e w' ⟨rfl, hd⟩)
  go_ret
  exact ⟨rfl, by first | exact hd | exact hd.below⟩
def BoxAt (W : World) (G : Nat) (s : ByteArray) : Prop := W.heap[G]? = some (.cells #[.string s] 9 (0, 0))
theorem BoxAt.cell {W : World} {G : Nat} {s : ByteArray} (h : BoxAt W G s) : W.cell? ⟨G, 0, none⟩ = some (.string s) ∧ W.frozen? ⟨G, 0, none⟩ = false := by
  have h' : W.heap[G]? = some (.cells #[.string s] 9 (0, 0)) := h
  exact ⟨by simp [World.cell?, h'], by simp [World.frozen?, h']⟩
theorem BoxAt.below {W W' : World} {G n : Nat} {s : ByteArray} (h : BoxAt W G s) (hb : Below n W W') (hG : G < n) : BoxAt W' G s := (hb.block G hG).trans h
theorem BoxAt.lt {W : World} {G : Nat} {s : ByteArray} (h : BoxAt W G s) : G < W.heap.size := (Array.getElem?_eq_some_iff.1 h).1
theorem BoxAt.set {W : World} {G : Nat} {s : ByteArray} (h : BoxAt W G s) (s' : ByteArray) : BoxAt (W.setCell ⟨G, 0, none⟩ (.string s')) G s' := by
  have h' : W.heap[G]? = some (.cells #[.string s] 9 (0, 0)) := h
  show (W.setCell ⟨G, 0, none⟩ (.string s')).heap[G]? = _
  simp [World.setCell, Array.getElem?_modify, h']
theorem infoInt8 : (Tryd.prog.info? 3).map (fun i => (i.zero, i.size, i.bytes)) = some (some (.int .i64 0), 1, 8) := by kernel_rfl
def kOf (l0 : List ByteArray) (s : ByteArray) : Int := idxG (fun x => begB s x) l0
theorem kOf_hit (l0 : List ByteArray) (s : ByteArray) (h : ¬ kOf l0 s < 0) : ∃ j : Nat, ∃ hj : j < l0.length, kOf l0 s = j ∧ begB s l0[j] = true := by
  unfold kOf idxG at *
  cases ha : l0.any (fun x => begB s x) with
  | false => rw [ha] at h; exact absurd (show (if false = true then _ else (-1 : Int)) < 0 by simp) h
  | true =>
    have hl : l0.findIdx (fun x => begB s x) < l0.length := by
      rw [List.findIdx_lt_length]
      exact List.any_eq_true.1 ha
    exact ⟨_, hl, by simp, List.findIdx_getElem (w := hl)⟩
def rlL (l0 : List ByteArray) : Nat → List Int → ByteArray → Option (List Int × ByteArray)
  | 0, _, _ => none
  | n + 1, out, s => if kOf l0 s < 0 then some (out, s) else rlL l0 n (out ++ [kOf l0 s]) (s.extract (rdOf ByteArray.empty l0 (kOf l0 s)).size s.size)
def impl_ReadFromLeft.f (k : Nat) (l0 : List ByteArray) (a1 : ByteArray) : Option (List Int × ByteArray × Bool) := (impl_isSet.f k l0).bind fun b => if b = true then ((impl_isPrefixSet.f l0).bind fun c => if c = true then ((impl_isWord.f a1).bind fun d => if d = true then ((rlL l0 (a1.size + 1) [] a1).bind fun r => some (r.1, r.2, true)) else some ([], ⟨#[]⟩, false)) else some ([], ⟨#[]⟩, false)) else some ([], ⟨#[]⟩, false)
theorem impl_ReadFromLeft.mono : ∀ a0 a1 k, LeO (impl_ReadFromLeft.f k a0 a1) (impl_ReadFromLeft.f (k + 1) a0 a1) := by
  intro a0 a1 k
  unfold impl_ReadFromLeft.f
  exact LeO.bind (impl_isSet.mono _ _) (fun _ => LeO.refl _)
set_option maxRecDepth 100000 in
set_option maxHeartbeats 16000000 in
theorem impl_ReadFromLeft.calls (k : Nat) (A0 : Option Addr) (c0 : Nat) (l0 : List ByteArray) (a1 : ByteArray) (r1 : List Int) (r2 : ByteArray) (r3 : Bool) (w : World) (hr0 : Kd.C Kd.string w A0 l0.length l0) (hc0 : l0.length ≤ c0) (h : impl_ReadFromLeft.f k l0 a1 = some (r1, r2, r3)) :
    Calls Tryd.prog 43 #[.slice A0 l0.length c0, .string a1] w fun e w' => ∃ v0_ : Value, e = .returned (.tuple #[v0_, .string r2, .bool r3]) ∧ Kd.R (Kd.int .i64) 3 w' w.heap.size (fun _ => True) v0_ r1 ∧ Below w.heap.size w w' := by
  unfold impl_ReadFromLeft.f at h
  obtain ⟨b, hb, h⟩ := Option.bind_eq_some_iff.mp h
  obtain ⟨W0, hW0⟩ : ∃ W0, w.alloc (.cells #[.string a1] 9) = W0 := ⟨_, rfl⟩
  have hb0 : Below w.heap.size w W0 := by rw [← hW0]; exact (Below.refl _ w).alloc (Nat.le_refl _) _
  have hbox : BoxAt W0 w.heap.size a1 := by rw [← hW0]; exact heap_new w _
  have hs0 := hbox.lt
  have HR0 := Aside0.mk hr0
  have HC0 := Aside0.mk hc0
  have HSET := Aside0.mk (impl_isSet.calls k A0 c0 l0 b W0 (Kd.C_below hr0 hb0) hc0 hb)
  have HB0 := Aside0.mk hb0
  have HS0 := Aside0.mk hs0
  have HBOX := Aside0.mk hbox
  clear hb hb0 hs0 hbox hr0 hc0
  cases b with
  | false =>
    rw [if_neg (by decide)] at h
    simp only [Option.some.injEq, Prod.mk.injEq] at h
    obtain ⟨rfl, rfl, rfl⟩ := h
    go_enter Tryd.func43, Tryd.ntmps43
    go_wp2_with (go_at_call 53; refine HSET.out.mono ?_; rintro e w1 ⟨rfl, hb1⟩; have HB1 := Aside0.mk hb1; clear hb1)
    go_ret3
    exact ⟨_, rfl, Kd.R_nil _ _ _ _ _, HB0.out.trans (HB1.out.mono HB0.out.size)⟩
  | true =>
    rw [if_pos rfl] at h
    obtain ⟨c, hc, h⟩ := Option.bind_eq_some_iff.mp h
    have HPRE := Aside0.mk (fun (W : World) (hW : Below W0.heap.size W0 W) => impl_isPrefixSet.calls A0 c0 l0 c W (Kd.C_below HR0.out (HB0.out.trans (hW.mono HB0.out.size))) HC0.out hc)
    clear hc
    cases c with
    | false =>
      rw [if_neg (by decide)] at h
      simp only [Option.some.injEq, Prod.mk.injEq] at h
      obtain ⟨rfl, rfl, rfl⟩ := h
      go_enter Tryd.func43, Tryd.ntmps43
      go_wp2_with (first | (go_at_call 53; refine HSET.out.mono ?_; rintro e w1 ⟨rfl, hb1⟩; have HB1 := Aside0.mk hb1; clear hb1) | (go_at_call 71; refine (HPRE.out _ HB1.out).mono ?_; rintro e w2 ⟨rfl, hb2⟩; have HB2 := Aside0.mk (HB1.out.trans (hb2.mono HB1.out.size)); have hbx2 := (HBOX.out.below HB2.out HS0.out).cell.1; clear hb2))
      go_ret3
      exact ⟨_, rfl, Kd.R_nil _ _ _ _ _, HB0.out.trans (HB2.out.mono HB0.out.size)⟩
    | true =>
      rw [if_pos rfl] at h
      obtain ⟨d, hd, h⟩ := Option.bind_eq_some_iff.mp h
      have HWD := Aside0.mk hd
      clear hd
      cases d with
      | false =>
        rw [if_neg (by decide)] at h
        simp only [Option.some.injEq, Prod.mk.injEq] at h
        obtain ⟨rfl, rfl, rfl⟩ := h
        go_enter Tryd.func43, Tryd.ntmps43
        go_wp2_with (first | (go_at_call 53; refine HSET.out.mono ?_; rintro e w1 ⟨rfl, hb1⟩; have HB1 := Aside0.mk hb1; clear hb1) | (go_at_call 71; refine (HPRE.out _ HB1.out).mono ?_; rintro e w2 ⟨rfl, hb2⟩; have HB2 := Aside0.mk (HB1.out.trans (hb2.mono HB1.out.size)); have hbx2 := (HBOX.out.below HB2.out HS0.out).cell.1; clear hb2) | (go_at_call 57; refine (impl_isWord.calls a1 _ _ HWD.out).mono ?_; rintro e w3 ⟨rfl, hb3⟩; have HB3 := Aside0.mk (HB2.out.trans (hb3.mono HB2.out.size)); clear hb3))
        go_ret3
        exact ⟨_, rfl, Kd.R_nil _ _ _ _ _, HB0.out.trans (HB3.out.mono HB0.out.size)⟩
      | true =>
        rw [if_pos rfl] at h
        obtain ⟨⟨o, rest⟩, hr, h⟩ := Option.bind_eq_some_iff.mp h
        simp only [Option.some.injEq, Prod.mk.injEq] at h
        obtain ⟨rfl, rfl, rfl⟩ := h
        have hword := HWD.out
        have HRL := Aside0.mk hr
        have eg := enters_of Tryd.func73 (by kernel_rfl) rfl
        have HIDX := Aside0.mk (fun (W : World) (s : ByteArray) (hW : Below w.heap.size w W) (hx : BoxAt W w.heap.size s) => slices_IndexFunc_string.calls_g _ #[.pointer (some ⟨w.heap.size, 0, none⟩)] (fun x => begB s x) eg A0 c0 l0 W (Kd.C_below HR0.out hW) HC0.out (fun W' x _ hW' => impl_ReadFromLeft_1.calls w.heap.size s x W' (hx.below hW' hx.lt).cell.1))
        clear hr hword eg
        go_enter Tryd.func43, Tryd.ntmps43
        go_wp2_with (first | (go_at_call 53; refine HSET.out.mono ?_; rintro e w1 ⟨rfl, hb1⟩; have HB1 := Aside0.mk hb1; clear hb1) | (go_at_call 71; refine (HPRE.out _ HB1.out).mono ?_; rintro e w2 ⟨rfl, hb2⟩; have HB2 := Aside0.mk (HB1.out.trans (hb2.mono HB1.out.size)); have hbx2 := (HBOX.out.below HB2.out HS0.out).cell.1; clear hb2) | (go_at_call 57; refine (impl_isWord.calls a1 _ _ HWD.out).mono ?_; rintro e w3 ⟨rfl, hb3⟩; have HB3 := Aside0.mk (HB2.out.trans (hb3.mono HB2.out.size)); clear hb3) | ((with_reducible refine gate_dst (N := 22) rfl ?_); refine Kd.R_lit (Kd.int .i64) _ 3 ?hg (N := 22) ?hd (xs := ([] : List Int)) (inner := []) (ok := fun _ => True) (okp := fun _ => True) ?hr ?hp (fun _ hk => hk) trivial (Below.refl _ _) (Nat.le_refl _) (by simp) ?_; (case hd => rfl); (case hg => rfl); (case hr => first | (go_simp; done) | (go_simp; rfl)); (case hp => exact (Reps.none _ _)); intro v218 w4 ho3 hb hg_ hnew_; clear hg_ hnew_; have HO := Aside0.mk (Kd.R_mono (Kd.R_lower (Kd.R_bound ho3) (Nat.le_trans HB0.out.size HB3.out.size)) (fun k hk => (by have h1_ := hk.2.1; have h2_ := HS0.out; have h3_ := HB3.out.size; omega : k ≠ w.heap.size))); have HB4 := Aside0.mk (HB3.out.trans (hb.mono HB3.out.size)); clear hb ho3))
        have h60 : a1.size ≤ 60 := by
          have := HWD.out
          unfold impl_isWord.f at this
          have := Option.some.inj this
          simp only [Bool.and_eq_true, decide_eq_true_eq] at this
          exact this.1
        have H60 := Aside0.mk h60
        have HBX4 := Aside0.mk (HBOX.out.below HB4.out HS0.out)
        have HBW4 := Aside0.mk (HB0.out.trans (HB4.out.mono HB0.out.size))
        clear h60
        go_loopg [7] (a1.size + 1) (fun gg v7 wr => ∃ (n : Nat) (out : List Int) (s : ByteArray), Aside0 (n ≤ gg) ∧ Aside0 (rlL l0 n out s = some (o, rest)) ∧ Aside0 (out.length + n ≤ a1.size + 1) ∧ Aside0 (Kd.R (Kd.int .i64) 3 wr w.heap.size (fun k => k ≠ w.heap.size) v7 out) ∧ Aside0 (BoxAt wr w.heap.size s) ∧ Aside0 (Below w.heap.size w wr))
        case atStart => exact ⟨a1.size + 1, [], a1, ⟨Nat.le_refl _⟩, HRL, ⟨by simp⟩, HO, HBX4, HBW4⟩
        case round =>
          clear HO HB4 HBX4 HBW4 HRL HB1 HB2 HB3 HSET HPRE HWD HBOX hbx2
          obtain ⟨n, out, s, HN, HRL, HLN, HO, HBX, HB⟩ := hrel
          cases n with
          | zero => exact absurd HRL.out (by simp [rlL])
          | succ n =>
            have H := HRL.out
            clear HRL
            unfold rlL at H
            have hidx : Calls Tryd.prog 72 #[.slice A0 l0.length c0, .func (.func 73) #[] #[.pointer (some ⟨w.heap.size, 0, none⟩)]] wr fun e w' => e = .returned (.int .i64 (kOf l0 s)) ∧ Below wr.heap.size wr w' := HIDX.out wr s HB.out HBX.out
            have HID := Aside0.mk hidx
            clear hidx
            by_cases hk : kOf l0 s < 0
            · rw [if_pos hk] at H
              simp only [Option.some.injEq, Prod.mk.injEq] at H
              obtain ⟨rfl, rfl⟩ := H
              generalize kOf l0 s = kk at HID hk
              have d0 : decide (kk < 0) = true := decide_eq_true hk
              have hk' := eq_true hk
              clear hk
              go_wp2_with (go_at_call 72; refine HID.out.mono ?_; rintro e w5 ⟨rfl, hb5⟩; have HB5 := Aside0.mk hb5; have HBX5 := Aside0.mk (HBX.out.below hb5 HBX.out.lt); have HO5 := Aside0.mk (Kd.R_below HO.out hb5); have hbx := (HBX.out.below hb5 HBX.out.lt).cell.1; clear hb5)
              try go_region
              try go_wp2
              all_goals go_ret3
              all_goals exact ⟨_, rfl, Kd.R_mono (by (with_reducible repeat (first | apply Kd.R_alloc | apply Kd.R_drewN | apply Kd.R_drew)); exact HO5.out) (fun _ _ => trivial), by repeat (first | (with_reducible first | exact HB.out.trans (HB5.out.mono HB.out.size) | apply below_alloc | apply pw_below_drewN | apply below_drew1) | exact HB.out.trans (HB5.out.mono HB.out.size))⟩
            · rw [if_neg hk] at H
              obtain ⟨j, hj, ej, hbeg⟩ := kOf_hit l0 s hk
              rw [ej] at H HID hk
              have hrd : rdOf ByteArray.empty l0 (j : Int) = l0[j] := by simp [rdOf, List.getD_eq_getElem?_getD, hj]
              rw [hrd] at H
              have hjz : (j : Int) < (l0.length : Int) := by omega
              have hsz : l0[j].size ≤ s.size := by unfold begB at hbeg; simp only [Bool.and_eq_true, decide_eq_true_eq] at hbeg; exact hbeg.1
              have hcs := fun (W : World) (hW : Below w.heap.size w W) => Kd.at_string (Kd.C_below HR0.out hW) j (by omega) hjz
              rw [hrd] at hcs
              clear hrd hbeg ej
              generalize l0[j] = x at H hsz hcs
              obtain ⟨ad, e1, _⟩ := hcs wr HB.out
              subst e1
              have hcell := fun (W : World) (hW : Below w.heap.size w W) => (show W.cell? (ad.add j) = some (.string x) by obtain ⟨ad', e', hc'⟩ := hcs W hW; cases e'; simpa using hc')
              have HCE := Aside0.mk hcell
              have HH := Aside0.mk H
              have d0 : decide ((j : Int) < 0) = false := decide_eq_false (by omega)
              have q1 := eq_true hjz
              have q2 := eq_true hsz
              have q3 := eq_true (show ((x.size : Nat) : Int) ≤ (s.size : Int) by omega)
              clear hcs hcell H hk
              go_wp2_with (go_at_call 72; refine HID.out.mono ?_; rintro e w5 ⟨rfl, hb5⟩; have HB5 := Aside0.mk (HB.out.trans (hb5.mono HB.out.size)); have HBX5 := Aside0.mk (HBX.out.below hb5 HBX.out.lt); have HO5 := Aside0.mk (Kd.R_below HO.out hb5); have hbx := (HBX.out.below hb5 HBX.out.lt).cell.1; have hfx := (HBX.out.below hb5 HBX.out.lt).cell.2; have hcx := HCE.out _ (HB.out.trans (hb5.mono HB.out.size)); clear hb5)
              have hbD : Below w.heap.size w w5.drew := below_drew1 HB5.out
              have hbA : Below w.heap.size w (w5.drew.alloc (.cells #[.int .i64 (j : Int)] 3)) := below_alloc hbD _
              have hxD : BoxAt w5.drew w.heap.size s := HBX5.out
              have hxA : BoxAt (w5.drew.alloc (.cells #[.int .i64 (j : Int)] 3)) w.heap.size s := hxD.below (below_alloc (Below.refl _ _) _) hxD.lt
              have bxD := hxD.cell.1
              have bxA : (w5.alloc (.cells #[.int .i64 (j : Int)] 3)).cell? ⟨w.heap.size, 0, none⟩ = some (.string s) := hxA.cell.1
              have cxD := HCE.out _ hbD
              have cxA : (w5.alloc (.cells #[.int .i64 (j : Int)] 3)).cell? (ad.add j) = some (.string x) := (HCE.out _ hbA : (w5.drew.alloc (.cells #[.int .i64 (j : Int)] 3)).cell? (ad.add j) = some (.string x))
              have HBD := Aside0.mk hbD
              have HXD := Aside0.mk hxD
              clear hbD hbA hxD hxA
              go_region_law (refine Kd.R_append_step (Kd.int .i64) (w0 := w) (W := w5.drew) w.heap.size (by simp [Region.wanted]) (.tmp 30) (.tmp 32) 33 3 (.int .i64 0) 8 rfl Tryd.underlying33 infoInt8 rfl (by decide) (by omega) u7 out (j : Int) [.int .i64 (j : Int)] (fun k => k ≠ w.heap.size) (fun _ => False) (by simp [Act.eval, Act.put]) (by simp [Act.eval, Act.put]) rfl (fun _ hk => hk.elim) (fun k hk => by have h1_ := HXD.out.lt; omega) (Kd.R_drew HO5.out) HBD.out HBD.out.size (by have h1_ := HLN.out; have h2_ := H60.out; omega) ?_; intro v7 w7 ho7 hb7 hg7 hat7; have HO7 := Aside0.mk ho7; have HB7 := Aside0.mk hb7; have HX7 := Aside0.mk (show BoxAt w7 w.heap.size s from (hg7.block w.heap.size HXD.out.lt (fun e => (Kd.R_drew HO5.out).1 _ e.symm rfl)).trans HXD.out); have bx7 := HX7.out.cell.1; have fx7 := HX7.out.cell.2; have cx7 := HCE.out _ HB7.out; clear ho7 hb7 hg7 hat7)
              all_goals (go_wp2; go_roundg n; (case measure => have := HN.out; omega); (case rel => exact ⟨n, out ++ [(j : Int)], s.extract x.size s.size, ⟨Nat.le_refl _⟩, HH, ⟨by have := HLN.out; rw [List.length_append]; simp; omega⟩, ⟨Kd.R_far HO7.out (fun k hk => hk) _⟩, ⟨HX7.out.set _⟩, ⟨below_set HB7.out (Nat.le_refl _)⟩⟩))

end Go.Proofs.YtmgankgjjnegaaaDoor.X

-- WRITTEN by xprint.py of this repo: the kit's print.py with contracts given by hand (given.py). Lean checks it.
import Derived.Test.YtidjjcgfdkmefaaGreatDoorXx0
import Derived.Test.YtidjjcgfdkmefaaGreatDoorXx2
import Derived.Test.YtidjjcgfdkmefaaGreatDoorXx9
import Derived.Test.YtidjjcgfdkmefaaGreatDoorXx10
import Derived.Test.YtidjjcgfdkmefaaGreatDoorXx12
namespace Go.Proofs.YtidjjcgfdkmefaaGreatDoor.X
open Go.RowKit Go.Proofs.YtidjjcgfdkmefaaGreatDoorW.PrintWords Go.Proofs.YtidjjcgfdkmefaaGreatDoorW.PrintLast Go.Proofs.YtidjjcgfdkmefaaGreatDoorW.PrintMore
attribute [local go_sem] max2_int min2_int max_two min_two max_three min_three max_four min_four   -- for this text's walks alone
set_option linter.unusedVariables false
set_option linter.unusedSimpArgs false

/-! ### GIVEN impl_dangling: function 31 -/
/-- What a function value tells of each element, in whatever world that keeps what lay. -/
def FnP (P : Program) (g : Nat) (cb : Array Value) {α : Type} (enc : α → Value) (p : α → Bool) (l : List α) (w : World) : Prop :=
  ∀ (W : World) (x : α), x ∈ l → Below w.heap.size w W → Calls P g (#[enc x] ++ cb) W fun e w' => e = .returned (.bool (p x)) ∧ Below W.heap.size W w'
def idxG {α : Type} (p : α → Bool) (l : List α) : Int := if l.any p then (l.findIdx p : Int) else -1

theorem idxG_hit {α : Type} {p : α → Bool} {l : List α} {k : Nat} (hk : k < l.length) (h : p l[k] = true) (hn : ∀ j (hj : j < k), p (l[j]'(by omega)) = false) : idxG p l = (k : Int) := by
  unfold idxG
  rw [if_pos (List.any_eq_true.2 ⟨_, List.getElem_mem hk, h⟩)]
  congr 1
  exact List.findIdx_eq hk |>.2 ⟨h, fun j hj => hn j hj⟩
theorem idxG_miss {α : Type} {p : α → Bool} {l : List α} (hn : ∀ j (hj : j < l.length), p l[j] = false) : idxG p l = -1 := by
  unfold idxG
  rw [if_neg]
  intro h
  obtain ⟨x, hx, hp⟩ := List.any_eq_true.1 h
  obtain ⟨j, hj, rfl⟩ := List.getElem_of_mem hx
  rw [hn j hj] at hp
  exact absurd hp (by simp)


theorem idxG_nonneg {α : Type} (p : α → Bool) (l : List α) : decide (0 ≤ idxG p l) = l.any p := by
  unfold idxG
  cases h : l.any p
  · simp
  · simp

set_option maxHeartbeats 2000000 in
theorem slices_IndexFunc_string.calls_g (g : Nat) (cb : Array Value) (p : ByteArray → Bool) (eg : ∀ args w, (callFunc g args).run Tryz.prog w = .ok (.enter g args) w) (A0 : Option Addr) (c0 : Nat) (l0 : List ByteArray) (w : World) (hr0 : Kd.C Kd.string w A0 l0.length l0) (hc0 : l0.length ≤ c0)
    (hp : FnP Tryz.prog g cb Value.string p l0 w) :
    Calls Tryz.prog 72 #[.slice A0 l0.length c0, .func (.func g) #[] cb] w fun e w' => e = .returned (.int .i64 (idxG p l0)) ∧ Below w.heap.size w w' := by
  have hbig := hr0.2.1
  have HR0 := Aside0.mk hr0
  clear hr0
  have HP := Aside0.mk hp
  clear hp
  go_enter Tryz.func72, Tryz.ntmps72
  go_wp2
  go_loopg [5, 8] l0.length (fun gg _ s8 wr => ∃ kk : Nat, kk ≤ l0.length ∧ l0.length - kk ≤ gg ∧ s8 = .int .i64 kk ∧ Aside0 (Below w.heap.size w wr) ∧ Aside0 (∀ j (hj : j < kk) (hl : j < l0.length), p l0[j] = false))
  case atStart => exact ⟨0, Nat.zero_le _, by omega, rfl, ⟨Below.refl _ _⟩, ⟨fun j hj => absurd hj (Nat.not_lt_zero _)⟩⟩
  case round =>
    obtain ⟨kk, hkk, hg, rfl, HB, HN⟩ := hrel
    by_cases hlt : kk < l0.length
    · have hltz : (kk : Int) < (l0.length : Int) := by omega
      obtain ⟨ad, e1, hcell⟩ := Kd.at_string (Kd.C_below HR0.out HB.out) kk (by omega) hltz
      have hrd : rdOf ByteArray.empty l0 (kk : Int) = l0[kk] := by simp [rdOf, List.getD_eq_getElem?_getD, hlt]
      rw [hrd] at hcell
      clear hrd
      simp only [Int.toNat_natCast] at hcell
      subst e1
      have hcall := HP.out wr l0[kk] (List.getElem_mem hlt) HB.out
      generalize hy : l0[kk] = y at hcell hcall
      have B := Aside0.mk hy
      clear hy
      cases hq : p y with
      | true =>
        have hq' := Aside0.mk hq
        rw [hq] at hcall
        clear hq
        go_wp2_with (go_at_fn g; refine hcall.mono ?_; rintro e w' ⟨rfl, hb⟩)
        go_ret
        exact ⟨by rw [idxG_hit hlt (by rw [B.out]; exact hq'.out) (fun j hj => HN.out j hj (by omega))]; rfl, HB.out.trans (hb.mono HB.out.size)⟩
      | false =>
        have hq' := Aside0.mk hq
        rw [hq] at hcall
        clear hq
        go_wp2_with (go_at_fn g; refine hcall.mono ?_; rintro e w' ⟨rfl, hb⟩)
        go_roundg (l0.length - (kk + 1))
        case measure => omega
        case rel =>
          refine ⟨kk + 1, by omega, by omega, by go_num, ⟨HB.out.trans (hb.mono HB.out.size)⟩, ⟨fun j hj hl => ?_⟩⟩
          by_cases e : j = kk
          · subst e
            rw [B.out]; exact hq'.out
          · exact HN.out j (by omega) hl
    · have hltz : ¬ (kk : Int) < (l0.length : Int) := by omega
      go_wp2
      go_ret
      exact ⟨by rw [idxG_miss (fun j hj => HN.out j (by omega) hj)]; rfl, HB.out⟩

set_option maxHeartbeats 2000000 in
theorem slices_ContainsFunc_string.calls_g (g : Nat) (cb : Array Value) (p : ByteArray → Bool) (eg : ∀ args w, (callFunc g args).run Tryz.prog w = .ok (.enter g args) w) (A0 : Option Addr) (c0 : Nat) (l0 : List ByteArray) (w : World) (hr0 : Kd.C Kd.string w A0 l0.length l0) (hc0 : l0.length ≤ c0)
    (hp : FnP Tryz.prog g cb Value.string p l0 w) :
    Calls Tryz.prog 53 #[.slice A0 l0.length c0, .func (.func g) #[] cb] w fun e w' => e = .returned (.bool (l0.any p)) ∧ Below w.heap.size w w' := by
  rw [← idxG_nonneg]
  go_enter Tryz.func53, Tryz.ntmps53
  go_wp2_with (go_at_call 72; refine (slices_IndexFunc_string.calls_g g cb p eg A0 c0 l0 _ hr0 hc0 hp).mono ?_; rintro e w' ⟨rfl, hb⟩)
  go_ret
  exact ⟨rfl, hb⟩

theorem C_addr {α : Type} {enc : α → Value} {h1 : ∀ x, (enc x).oneCell' = true} {w : World} {ad : Addr} {n : Nat} {xs : List α} (h : Kd.C (Kd.scalar enc h1) w (some ad) n xs) (hn : 0 < n) :
    ∃ b o, ad = ⟨b, o, none⟩ ∧ b < w.heap.size ∧ ∀ (j : Nat) x, xs[j]? = some x → w.cell? ⟨b, o + j, none⟩ = some (enc x) := by
  obtain ⟨hl, _, hh⟩ := h
  obtain ⟨ad', e, hc⟩ := hh hn
  cases e
  have cell : ∀ (j : Nat) x, xs[j]? = some x → w.cell? (ad.add j) = some (enc x) := fun j x hx => by
    obtain ⟨c, _, rfl, hcell⟩ := hc j x hx
    have := hcell 0 (enc x) rfl
    rwa [show j * (Kd.scalar enc h1).sz + 0 = j from Nat.mul_one j] at this
  have h0 : xs[0]? = some (xs[0]'(by omega)) := List.getElem?_eq_getElem (by omega)
  have c0 := cell 0 _ h0
  obtain ⟨b, o, sp⟩ := ad
  have c0' : w.cell? ⟨b, o, sp⟩ = some (enc (xs[0]'(by omega))) := by simpa [Addr.add] using c0
  have hsp : sp = none := by
    cases sp with
    | none => rfl
    | some q =>
      simp only [World.cell?] at c0'
      split at c0' <;> simp at c0'
  subst hsp
  refine ⟨b, o, rfl, ?_, fun j x hx => ?_⟩
  · simp only [World.cell?] at c0'
    split at c0'
    · rename_i hg
      exact (Array.getElem?_eq_some_iff.1 hg).1
    · cases c0'
  · have := cell j x hx
    by_cases hj : j = 0
    · subst hj
      simpa [Addr.add] using this
    · simpa [Addr.add, hj] using this

theorem run_append_make {P : Program} (w : World) (t u ty e : TypeId) (i : TypeInfo) (z : Value) (ht : P.underlying t = some (.slice e)) (hu : P.underlying u = some (.int .i64)) (hi : P.info? e = some i) (hz : i.zero = some z) (hsz : i.size = 1)
    (n : Nat) (h0 : 0 < n) (h63 : (n : Int) ≤ 9223372036854775807) (h48 : n * i.bytes ≤ 281474976710656) :
    (Builtin.append_ #[t, u] ty #[.slice none 0 0, .int .i64 n]).run P w =
      .ok (.slice (some ⟨w.heap.size, 0, none⟩) n (grownCap w n 0 e)) (w.drew.alloc (.cells (Builtin.zeroCells z.cells n ++ Builtin.zeroCells z.cells (grownCap w n 0 e - n)) e)) := by
  have hn : n ≠ 0 := by omega
  have h63' : ¬ (9223372036854775807 < (n : Int)) := by omega
  have h48' : ¬ (281474976710656 < Builtin.nextslicecap n 0 * i.bytes) := by rw [nextslicecap_zero h0]; omega
  have h48'' : ¬ (281474976710656 < (n : Int) * (i.bytes : Int)) := by
    have : ((n * i.bytes : Nat) : Int) = (n : Int) * (i.bytes : Int) := by simp
    omega
  have hw : IntKind.i64.wrap (n : Int) = n := (i64_w _).trans (by unfold wrap64; omega)
  have hneg : ¬ ((n : Int) < 0) := by omega
  have hpos : ¬ ((n : Int) ≤ 0) := by omega
  have hmax : ¬ (9223372036854775807 < max (n : Int) 0) := by omega
  simp [Builtin.append_, asInt, asIntOf, hpos, hmax, run_underlying ht, run_underlying hu, sizeOf, typeInfo, zeroValue, hi, hz, hsz, Builtin.lenOf, hn, h63', h48', h48'', hw, hneg, Question.forced, run_firstCells_none, newRow, grownCap]
theorem wpList_append_run {P : Program} {w w' : World} {ops : Array Oper} {rest : List Oper} {o : Oper} {a : Act} {Q : Exit → Act → World → Prop} (hgd : o.guard = none) (s x : Operand) (t u : TypeId)
    (ho : o.op = .call { callee := .builtin .append, args := #[s, x], argTypes := #[t, u] }) (v1 v2 v' : Value) (hs : a.eval s = v1) (hx : a.eval x = v2)
    (hr : (Builtin.append_ #[t, u] o.type #[v1, v2]).run P w = .ok v' w') (h : wpList P ops Q rest (a.put o.dst v') w') : wpList P ops Q (o :: rest) a w :=
  wpList_plain hgd fun _ hK => by
    unfold Oper.wp execOp
    simp only [ho, resolve, invoke, builtin, Sem.run_bind, Sem.run_pure, Result.andThen_ok, List.map_toArray, List.map_cons, List.map_nil, hs, hx, hr]
    exact hK _ _ h
theorem infoStrB : (Tryz.prog.info? 9).map (fun i => (i.zero, i.size, i.bytes)) = some (some (.string ⟨#[]⟩), 1, 16) := by kernel_rfl
theorem infoStr' : ∃ i, Tryz.prog.info? 9 = some i ∧ i.zero = some (.string ⟨#[]⟩) ∧ i.size = 1 ∧ i.bytes = 16 := by
  have h := infoStrB
  cases hq : Tryz.prog.info? 9 with
  | none => rw [hq] at h; cases h
  | some i =>
    rw [hq] at h
    simp only [Option.map_some, Option.some.injEq, Prod.mk.injEq] at h
    exact ⟨i, rfl, h.1, h.2.1, h.2.2⟩
set_option maxRecDepth 100000 in
set_option maxHeartbeats 2000000 in
theorem grow_calls (n : Nat) (hn : n ≤ 2097152) (w : World) : Calls Tryz.prog 75 #[.slice none 0 0, .int .i64 n] w fun e w' => ∃ v : Value, e = .returned v ∧ w'.ownsRow w.heap.size 9 1 v 0 [] ∧ Below w.heap.size w w' := by
  by_cases h0 : n = 0
  · subst h0
    go_enter Tryz.func75, Tryz.ntmps75
    go_wp2
    go_ret
    exact ⟨_, rfl, World.ownsRow_nil _ _ _ _, Below.refl _ _⟩
  · have hn0 : (0 : Int) < (n : Int) := by omega
    have d0 : decide ((0 : Int) < (n : Int)) = true := decide_eq_true hn0
    have dn : decide ((n : Int) < 0) = false := decide_eq_false (by omega)
    obtain ⟨i, hi, hz, hsz, hby⟩ := infoStr'
    have hr := run_append_make (P := Tryz.prog) w 22 3 22 9 i (.string ⟨#[]⟩) Tryz.underlying22 Tryz.underlying3 hi hz hsz n (by omega) (by omega) (by rw [hby]; omega)
    clear hi hz hsz hby
    obtain ⟨W1, hW1⟩ : ∃ W1, (w.drew.alloc (.cells (Builtin.zeroCells (Value.string ⟨#[]⟩).cells n ++ Builtin.zeroCells (Value.string ⟨#[]⟩).cells (grownCap w n 0 9 - n)) 9)) = W1 := ⟨_, rfl⟩
    have hcap : n ≤ grownCap w n 0 9 := grownCap_ge w n 0 9
    have hmade : W1.ownsRow w.heap.size 9 1 (.slice (some ⟨w.heap.size, 0, none⟩) 0 (grownCap w n 0 9)) 0 [] := by
      rw [← hW1]
      have := World.ownsRow_made (base := w.heap.size) (e := 9) (size := 1) w.drew (Builtin.zeroCells (Value.string ⟨#[]⟩).cells n ++ Builtin.zeroCells (Value.string ⟨#[]⟩).cells (grownCap w n 0 9 - n)) (grownCap w n 0 9) (Nat.le_refl _) (grownCap_le_maxLen w n 0 9 (by unfold maxLen; omega)) (by rw [Array.size_append, size_zeroCells, size_zeroCells]; simp [Value.cells]; omega)
      exact this
    have hbel : Below w.heap.size w W1 := by
      rw [← hW1]
      exact below_alloc (below_drew1 (Below.refl _ _)) _
    rw [hW1] at hr
    clear hW1
    generalize grownCap w n 0 9 = G at *
    have HR := Aside0.mk hr
    clear hr
    have HM := Aside0.mk hmade
    have HBL := Aside0.mk hbel
    clear hmade hbel
    go_enter Tryz.func75, Tryz.ntmps75
    go_wp2_with ((with_reducible refine gate_builtin (b := .append) (xs := #[.tmp 20, .tmp 21]) rfl ?_); at_builtin; refine wpList_append_run rfl (.tmp 20) (.tmp 21) 22 3 rfl _ _ _ rfl rfl HR.out ?_)
    go_ret
    exact ⟨_, rfl, HM.out, HBL.out⟩

theorem app_run (w0 w : World) (base : Nat) (v : Value) (xs ys : List ByteArray) (A : Option Addr) (c : Nat) (ho : w.ownsRow base 9 1 v xs.length (xs.map Value.string)) (hb : Below base w0 w) (hbase : base ≤ w.heap.size) (hC : Kd.C Kd.string w A ys.length ys) (hl : xs.length + ys.length ≤ 4194304) :
    ∃ v' w', (Builtin.append_ #[22, 22] 22 #[v, .slice A ys.length c]).run Tryz.prog w = .ok v' w' ∧ w'.ownsRow base 9 1 v' (xs ++ ys).length ((xs ++ ys).map Value.string) ∧ Below base w0 w' := by
  obtain ⟨i, hi, hz, hsz, hby⟩ := infoStr'
  cases A with
  | none =>
    have h0 : ys = [] := by
      cases ys with
      | nil => rfl
      | cons y l =>
        obtain ⟨ad, e1, _⟩ := Kd.at_string hC 0 (by omega) (by simp)
        cases e1
    subst h0
    refine ⟨v, w, ?_, by simpa using ho, hb⟩
    obtain ⟨_, ho⟩ := ho
    rcases ho with ⟨rfl, hn⟩ | ⟨g', cap', cur, rfl, _, _, hn, _, _, _⟩
    · simp [Builtin.append_, run_underlying Tryz.underlying22, sizeOf, typeInfo, hi, hsz, Builtin.lenOf, run_firstCells_none]
    · simp [Builtin.append_, run_underlying Tryz.underlying22, sizeOf, typeInfo, hi, hsz, Builtin.lenOf, run_firstCells_none, hn, storeCells]
  | some ad =>
    obtain ⟨v', w', hr, h2, h3, h4⟩ := run_append_own (P := Tryz.prog) w base 22 22 9 i (.string ⟨#[]⟩) 1 16 Tryz.underlying22 hi hz hsz hby rfl (by omega) v xs.length (xs.map Value.string) ho ad ys.length c (ys.map Value.string) (by simp) (by
      intro j u hj
      rw [List.getElem?_map] at hj
      have hjl : j < ys.length := by
        rcases Nat.lt_or_ge j ys.length with h | h
        · exact h
        · rw [List.getElem?_eq_none h] at hj; cases hj
      rw [List.getElem?_eq_getElem hjl] at hj
      cases hj
      obtain ⟨ad', e1, hc⟩ := Kd.at_string hC j (by omega) (by omega)
      cases e1
      rw [Int.toNat_natCast] at hc
      rw [hc]
      simp [rdOf, List.getD_eq_getElem?_getD, hjl]) (by
      intro u hu
      obtain ⟨y, _, rfl⟩ := List.mem_map.1 hu
      rfl) (by unfold maxLen; omega) (by omega) hbase
    refine ⟨v', w', hr, ?_, hb.grown h3 hbase (fun k e => (ho.lt k e).1)⟩
    rw [List.length_append, List.map_append]
    exact h2
def catK (a b : List ByteArray) : Nat → List ByteArray
  | 0 => []
  | 1 => a
  | _ => a ++ b
def szK (a b : List ByteArray) : Nat → Nat
  | 0 => 0
  | 1 => a.length
  | _ => a.length + b.length
set_option maxRecDepth 100000 in
set_option maxHeartbeats 8000000 in
theorem concat2_calls (g : Nat) (A0 A1 : Option Addr) (c0 c1 : Nat) (a b : List ByteArray) (w : World) (hA : Kd.C Kd.string w A0 a.length a) (hB : Kd.C Kd.string w A1 b.length b) (hg : g < w.heap.size)
    (h0 : w.cell? ⟨g, 0, none⟩ = some (.slice A0 a.length c0)) (h1 : w.cell? ⟨g, 1, none⟩ = some (.slice A1 b.length c1)) (hl0 : a.length ≤ 1048576) (hl1 : b.length ≤ 1048576) :
    Calls Tryz.prog 59 #[.slice (some ⟨g, 0, none⟩) 2 2] w fun e w' => ∃ v : Value, e = .returned v ∧ Kd.R Kd.string 9 w' w.heap.size (fun _ => True) v (a ++ b) ∧ Below w.heap.size w w' := by
  have HA := Aside0.mk hA
  have HBB := Aside0.mk hB
  have H0 := Aside0.mk h0
  have H1 := Aside0.mk h1
  have HG := Aside0.mk hg
  have HL0 := Aside0.mk hl0
  have HL1 := Aside0.mk hl1
  clear hA hB h0 h1 hg hl0 hl1
  go_enter Tryz.func59, Tryz.ntmps59
  go_wp2
  go_loopg [3, 11] 2 (fun gg v3 v11 wr => ∃ kk : Nat, v11 = .int .i64 kk ∧ v3 = .int .i64 (szK a b kk) ∧ Aside0 (kk ≤ 2) ∧ Aside0 (2 - kk ≤ gg) ∧ w = wr)
  case atStart => exact ⟨0, rfl, rfl, ⟨by omega⟩, ⟨by omega⟩, rfl⟩
  case round =>
    obtain ⟨kk, rfl, rfl, HK, HM, rfl⟩ := hrel
    have hk := HK.out
    rcases (show kk = 0 ∨ kk = 1 ∨ kk = 2 by omega) with rfl | rfl | rfl
    · have h0 := H0.out
      have hl := HL0.out
      have hn : decide (((0 : Nat) : Int) + (a.length : Int) < 0) = false := decide_eq_false (by omega)
      simp only [szK] at *
      go_wp2
      go_roundg 1
      case measure => have := HM.out; omega
      case rel => exact ⟨1, rfl, by simp [szK], ⟨by omega⟩, ⟨by omega⟩, rfl⟩
    · have h1 := H1.out
      have hl := HL0.out
      have hl1 := HL1.out
      simp only [szK] at *
      go_wp2
      go_roundg 0
      case measure => have := HM.out; omega
      case rel => exact ⟨2, rfl, by simp [szK], ⟨by omega⟩, ⟨by omega⟩, rfl⟩
    · clear HM hk HK
      have hl := HL0.out
      have hl1 := HL1.out
      simp only [szK] at *
      have hgrow := grow_calls (a.length + b.length) (by omega) w
      have HGR := Aside0.mk hgrow
      clear hgrow
      have e1 : ((a.length + b.length : Nat) : Int) = (a.length : Int) + (b.length : Int) := by omega
      go_wp2_with (go_at_call 75; refine HGR.out.mono ?_; rintro e w1 ⟨v1, rfl, ho1, hb1⟩; have HO1 := Aside0.mk ho1; have HB1 := Aside0.mk hb1; clear ho1 hb1)
      go_loopg [6, 27] 2 (fun gg v6 v27 w' => ∃ kk : Nat, v27 = .int .i64 kk ∧ Aside0 (kk ≤ 2) ∧ Aside0 (2 - kk ≤ gg) ∧ Aside0 (w'.ownsRow w.heap.size 9 1 v6 (catK a b kk).length ((catK a b kk).map Value.string)) ∧ Aside0 (Below w.heap.size w w'))
      case atStart => exact ⟨0, rfl, ⟨by omega⟩, ⟨by omega⟩, ⟨HO1.out⟩, HB1⟩
      case round =>
        clear HO1 HB1 HGR
        obtain ⟨kk, rfl, HK, HM, HO, HB⟩ := hrel
        have hk := HK.out
        rcases (show kk = 0 ∨ kk = 1 ∨ kk = 2 by omega) with rfl | rfl | rfl
        · obtain ⟨v', w3, hr, ho, hb⟩ := app_run w wr w.heap.size u6 [] a A0 c0 HO.out HB.out HB.out.size (Kd.C_below HA.out HB.out) (by simp; omega)
          have h0 := (HB.out.cell (p := ⟨g, 0, none⟩) HG.out).trans H0.out
          have HR := Aside0.mk hr
          have HO2 := Aside0.mk ho
          have HB2 := Aside0.mk hb
          clear hr ho hb hk
          go_wp2_with ((with_reducible refine gate_builtin (b := .append) (xs := #[.tmp 31, .tmp 32]) rfl ?_); at_builtin; refine wpList_append_run rfl (.tmp 31) (.tmp 32) 22 22 rfl _ _ _ rfl rfl HR.out ?_)
          go_roundg 1
          case measure => have := HM.out; omega
          case rel => exact ⟨1, rfl, ⟨by omega⟩, ⟨by omega⟩, ⟨HO2.out⟩, HB2⟩
        · obtain ⟨v', w3, hr, ho, hb⟩ := app_run w wr w.heap.size u6 a b A1 c1 HO.out HB.out HB.out.size (Kd.C_below HBB.out HB.out) (by omega)
          have h1 := (HB.out.cell (p := ⟨g, 1, none⟩) HG.out).trans H1.out
          have HR := Aside0.mk hr
          have HO2 := Aside0.mk ho
          have HB2 := Aside0.mk hb
          clear hr ho hb hk
          go_wp2_with ((with_reducible refine gate_builtin (b := .append) (xs := #[.tmp 31, .tmp 32]) rfl ?_); at_builtin; refine wpList_append_run rfl (.tmp 31) (.tmp 32) 22 22 rfl _ _ _ rfl rfl HR.out ?_)
          go_roundg 0
          case measure => have := HM.out; omega
          case rel => exact ⟨2, rfl, ⟨by omega⟩, ⟨by omega⟩, ⟨HO2.out⟩, HB2⟩
        · clear hk
          go_wp2
          go_ret
          exact ⟨_, rfl, Kd.R_of_own HO.out (fun _ _ => trivial), HB.out⟩

theorem heap_new (w : World) (o : Obj) : (w.alloc o).heap[w.heap.size]? = some o := by
  have h : (w.alloc o).heap = w.heap.push o := rfl
  rw [h, Array.getElem?_push, if_pos rfl]
/-- A value that has been put into a box of its own. -/
theorem box_new (w : World) (v : Value) (e : Nat) : (w.alloc (.cells #[v] e)).cell? ⟨w.heap.size, 0, none⟩ = some v := by
  unfold World.cell?
  rw [show (w.alloc (.cells #[v] e)).heap[(⟨w.heap.size, 0, none⟩ : Addr).block]? = some (.cells #[v] e) from heap_new w _]
  rfl

/-- A variable's box that holds a row of texts. -/
def BoxV (W : World) (G : Nat) (v : Value) : Prop := W.heap[G]? = some (.cells #[v] 22 (0, 0))
theorem BoxV.cell {W : World} {G : Nat} {v : Value} (h : BoxV W G v) : W.cell? ⟨G, 0, none⟩ = some v ∧ W.frozen? ⟨G, 0, none⟩ = false := by
  have h' : W.heap[G]? = some (.cells #[v] 22 (0, 0)) := h
  exact ⟨by simp [World.cell?, h'], by simp [World.frozen?, h']⟩
theorem BoxV.below {W W' : World} {G n : Nat} {v : Value} (h : BoxV W G v) (hb : Below n W W') (hG : G < n) : BoxV W' G v := (hb.block G hG).trans h
theorem BoxV.lt {W : World} {G : Nat} {v : Value} (h : BoxV W G v) : G < W.heap.size := (Array.getElem?_eq_some_iff.1 h).1
theorem BoxV.set {W : World} {G : Nat} {v : Value} (h : BoxV W G v) (v' : Value) : BoxV (W.setCell ⟨G, 0, none⟩ v') G v' := by
  have h' : W.heap[G]? = some (.cells #[v] 22 (0, 0)) := h
  show (W.setCell ⟨G, 0, none⟩ v').heap[G]? = _
  simp [World.setCell, Array.getElem?_modify, h']
theorem BoxV.other {W : World} {G G' : Nat} {v : Value} (h : BoxV W G v) (hne : G ≠ G') (v' : Value) : BoxV (W.setCell ⟨G', 0, none⟩ v') G v := (Below.heap_setCell W ⟨G', 0, none⟩ v' G hne).trans h
theorem BoxV.grown {W W' : World} {G : Nat} {v : Value} {row : Option Nat} (h : BoxV W G v) (hg : W.grownBy W' row) (hne : some G ≠ row) : BoxV W' G v := (hg.block G h.lt hne).trans h
/-- slices.Contains, slices.Equal at texts, of rows that are read. -/
theorem contains_calls (A : Option Addr) (c : Nat) (l : List ByteArray) (x : ByteArray) (w : World) (h : Kd.C Kd.string w A l.length l) :
    Calls Tryz.prog 55 #[.slice A l.length c, .string x] w fun e w' => e = .returned (.bool (Lib.containsS l x)) ∧ w' = w := by
  cases l with
  | nil => exact Tryz.slices_Contains_string_empty A c x w
  | cons y t =>
    obtain ⟨ad, e1, _⟩ := Kd.at_string h 0 (by omega) (by simp)
    subst e1
    obtain ⟨b, o, rfl, _, hc⟩ := C_addr h (by simp)
    have := Tryz.slices_Contains_string b o (y :: t).length c (y :: t) x w (Nat.le_refl _) h.2.1 (fun j hj => by rw [hc j _ (List.getElem?_eq_getElem hj), List.getD_eq_getElem?_getD, List.getElem?_eq_getElem hj]; rfl)
    rwa [List.take_length] at this
theorem equal_calls (A B : Option Addr) (c d : Nat) (l m : List ByteArray) (w : World) (h : Kd.C Kd.string w A l.length l) (h2 : Kd.C Kd.string w B m.length m) :
    Calls Tryz.prog 58 #[.slice A l.length c, .slice B m.length d] w fun e w' => e = .returned (.bool (decide (l = m))) ∧ Below w.heap.size w w' := by
  by_cases hl : l.length = m.length
  · cases l with
    | nil =>
      refine (Tryz.slices_Equal_string_empty A B c m.length d w h2.2.1).mono ?_
      rintro e w' ⟨rfl, rfl⟩
      refine ⟨?_, Below.refl _ _⟩
      cases m with
      | nil => rfl
      | cons z u => simp at hl
    | cons y t =>
      cases m with
      | nil => simp at hl
      | cons z u =>
        obtain ⟨ad, e1, _⟩ := Kd.at_string h 0 (by omega) (by simp)
        subst e1
        obtain ⟨b, o, rfl, _, hc⟩ := C_addr h (by simp)
        obtain ⟨ad2, e2, _⟩ := Kd.at_string h2 0 (by omega) (by simp)
        subst e2
        obtain ⟨b2, o2, rfl, _, hc2⟩ := C_addr h2 (by simp)
        refine (Tryz.slices_Equal_string b o (y :: t).length c b2 o2 (z :: u).length d (y :: t) (z :: u) w (Nat.le_refl _) (Nat.le_refl _) h.2.1 h2.2.1 (fun j hj => by rw [hc j _ (List.getElem?_eq_getElem hj), List.getD_eq_getElem?_getD, List.getElem?_eq_getElem hj]; rfl) (fun j hj => by rw [hc2 j _ (List.getElem?_eq_getElem hj), List.getD_eq_getElem?_getD, List.getElem?_eq_getElem hj]; rfl)).mono ?_
        rintro e w' ⟨rfl, q, rfl⟩
        rw [List.take_length, List.take_length]
        exact ⟨rfl, pw_below_drewN (Below.refl _ _) _⟩
  · refine (Tryz.slices_Equal_string_lens A B l.length c m.length d w hl).mono ?_
    rintro e w' ⟨rfl, rfl⟩
    refine ⟨?_, Below.refl _ _⟩
    rw [decide_eq_false (fun e => hl (by rw [e]))]
/-- What a function value tells of each row, in whatever world that keeps what lay. -/
def FnR (P : Program) (g : Nat) (cb : Array Value) (p : List ByteArray → Bool) (l : List (List ByteArray)) (w : World) : Prop :=
  ∀ (W : World) (A : Option Addr) (c : Nat) (x : List ByteArray), x ∈ l → Below w.heap.size w W → Kd.C Kd.string W A x.length x → Calls P g (#[.slice A x.length c] ++ cb) W fun e w' => e = .returned (.bool (p x)) ∧ Below W.heap.size W w'
set_option maxHeartbeats 2000000 in
theorem rowsIndex_calls (g : Nat) (cb : Array Value) (p : List ByteArray → Bool) (eg : ∀ args w, (callFunc g args).run Tryz.prog w = .ok (.enter g args) w) (A0 : Option Addr) (c0 : Nat) (l0 : List (List ByteArray)) (w : World) (hr0 : Kd.C (Kd.slice 9 Kd.string) w A0 l0.length l0)
    (hp : FnR Tryz.prog g cb p l0 w) :
    Calls Tryz.prog 74 #[.slice A0 l0.length c0, .func (.func g) #[] cb] w fun e w' => e = .returned (.int .i64 (idxG p l0)) ∧ Below w.heap.size w w' := by
  have hbig := hr0.2.1
  have HR0 := Aside0.mk hr0
  clear hr0
  have HP := Aside0.mk hp
  clear hp
  go_enter Tryz.func74, Tryz.ntmps74
  go_wp2
  go_loopg [5, 8] l0.length (fun gg _ s8 wr => ∃ kk : Nat, kk ≤ l0.length ∧ l0.length - kk ≤ gg ∧ s8 = .int .i64 kk ∧ Aside0 (Below w.heap.size w wr) ∧ Aside0 (∀ j (hj : j < kk) (hl : j < l0.length), p l0[j] = false))
  case atStart => exact ⟨0, Nat.zero_le _, by omega, rfl, ⟨Below.refl _ _⟩, ⟨fun j hj => absurd hj (Nat.not_lt_zero _)⟩⟩
  case round =>
    obtain ⟨kk, hkk, hg, rfl, HB, HN⟩ := hrel
    by_cases hlt : kk < l0.length
    · have hltz : (kk : Int) < (l0.length : Int) := by omega
      obtain ⟨ad, A5, c5, e1, hcell, _, hC5⟩ := at_row (Kd.C_below HR0.out HB.out) kk hlt
      subst e1
      have hcall := HP.out wr A5 c5 l0[kk] (List.getElem_mem hlt) HB.out hC5
      clear hC5
      generalize hy : l0[kk] = y at hcell hcall
      have B := Aside0.mk hy
      clear hy
      cases hq : p y with
      | true =>
        have hq' := Aside0.mk hq
        rw [hq] at hcall
        clear hq
        go_wp2_with (go_at_fn g; refine hcall.mono ?_; rintro e w' ⟨rfl, hb⟩)
        go_ret
        exact ⟨by rw [idxG_hit hlt (by rw [B.out]; exact hq'.out) (fun j hj => HN.out j hj (by omega))]; rfl, HB.out.trans (hb.mono HB.out.size)⟩
      | false =>
        have hq' := Aside0.mk hq
        rw [hq] at hcall
        clear hq
        go_wp2_with (go_at_fn g; refine hcall.mono ?_; rintro e w' ⟨rfl, hb⟩)
        go_roundg (l0.length - (kk + 1))
        case measure => omega
        case rel =>
          refine ⟨kk + 1, by omega, by omega, by go_num, ⟨HB.out.trans (hb.mono HB.out.size)⟩, ⟨fun j hj hl => ?_⟩⟩
          by_cases e : j = kk
          · subst e
            rw [B.out]; exact hq'.out
          · exact HN.out j (by omega) hl
    · have hltz : ¬ (kk : Int) < (l0.length : Int) := by omega
      go_wp2
      go_ret
      exact ⟨by rw [idxG_miss (fun j hj => HN.out j (by omega) hj)]; rfl, HB.out⟩
set_option maxHeartbeats 2000000 in
theorem rowsAny_calls (g : Nat) (cb : Array Value) (p : List ByteArray → Bool) (eg : ∀ args w, (callFunc g args).run Tryz.prog w = .ok (.enter g args) w) (A0 : Option Addr) (c0 : Nat) (l0 : List (List ByteArray)) (w : World) (hr0 : Kd.C (Kd.slice 9 Kd.string) w A0 l0.length l0)
    (hp : FnR Tryz.prog g cb p l0 w) :
    Calls Tryz.prog 56 #[.slice A0 l0.length c0, .func (.func g) #[] cb] w fun e w' => e = .returned (.bool (l0.any p)) ∧ Below w.heap.size w w' := by
  rw [← idxG_nonneg]
  go_enter Tryz.func56, Tryz.ntmps56
  go_wp2_with (go_at_call 74; refine (rowsIndex_calls g cb p eg A0 c0 l0 _ hr0 hp).mono ?_; rintro e w' ⟨rfl, hb⟩)
  go_ret
  exact ⟨rfl, hb⟩

set_option maxHeartbeats 1000000 in
theorem impl_dangling_1.calls (B : Nat) (A : Option Addr) (c : Nat) (l : List ByteArray) (x : ByteArray) (W : World) (hB : BoxV W B (.slice A l.length c)) (hC : Kd.C Kd.string W A l.length l) :
    Calls Tryz.prog 54 (#[.string x] ++ #[.pointer (some ⟨B, 0, none⟩)]) W fun e w' => e = .returned (.bool (Lib.containsS l x)) ∧ Below W.heap.size W w' := by
  have hc1 := hB.cell.1
  have HC := Aside0.mk hC
  clear hC hB
  go_enter Tryz.func54, Tryz.ntmps54
  go_wp2_with (go_at_call 55; refine (contains_calls A c l x _ HC.out).mono ?_; rintro e w' ⟨rfl, rfl⟩)
  go_ret
  exact ⟨rfl, Below.refl _ _⟩
set_option maxHeartbeats 1000000 in
theorem impl_dangling_2.calls (B : Nat) (A A2 : Option Addr) (c c2 : Nat) (l x : List ByteArray) (W : World) (hB : BoxV W B (.slice A l.length c)) (hC : Kd.C Kd.string W A l.length l) (hX : Kd.C Kd.string W A2 x.length x) :
    Calls Tryz.prog 57 (#[.slice A2 x.length c2] ++ #[.pointer (some ⟨B, 0, none⟩)]) W fun e w' => e = .returned (.bool (decide (x = l))) ∧ Below W.heap.size W w' := by
  have hc1 := hB.cell.1
  have HC := Aside0.mk hC
  have HX := Aside0.mk hX
  clear hC hB hX
  go_enter Tryz.func57, Tryz.ntmps57
  go_wp2_with (go_at_call 58; refine (equal_calls A2 A c2 c x l _ HX.out HC.out).mono ?_; rintro e w' ⟨rfl, hb⟩)
  go_ret
  exact ⟨rfl, hb⟩
theorem lit_C (W : World) (s : ByteArray) : Kd.C Kd.string (W.alloc (.cells #[.string s] 9)) (some ⟨W.heap.size, 0, none⟩) ([s] : List ByteArray).length [s] :=
  Kd.C_of_reads (d := ByteArray.empty) (h1 := fun _ => rfl) ⟨rfl, by simp, fun _ => ⟨_, rfl, fun j hj => by
    obtain rfl : j = 0 := by simpa using hj
    exact cell_alloc W _ 9 0⟩⟩
def dg1 (k : Nat) (set : List ByteArray) : List ByteArray → Nat → List ByteArray → Option (List ByteArray)
  | [], _, acc => some acc
  | s :: W, i, acc => (impl_without.f set (i : Int)).bind fun wo => (impl_left.f k [s] wo).bind fun le => if acc.length + le.length ≤ 4194304 then dg1 k set W (i + 1) (acc ++ le) else none
theorem dg1.mono (k : Nat) (set : List ByteArray) : ∀ W i acc, LeO (dg1 k set W i acc) (dg1 (k + 1) set W i acc)
  | [], _, _ => LeO.refl _
  | s :: W, i, acc => by
    unfold dg1
    exact LeO.bind (LeO.refl _) fun wo => LeO.bind (impl_left.mono _ _ _) fun le => LeO.ite (dg1.mono k set W _ _) (LeO.refl _)
def dg2 (k : Nat) (set : List ByteArray) : Nat → List (List ByteArray) → List ByteArray → Option (List (List ByteArray) × Bool)
  | 0, _, _ => none
  | n + 1, prev, now => if now.any (fun x => Lib.containsS set x) = true then some (prev ++ [now], true) else if (now.isEmpty || prev.any (fun x => decide (x = now))) = true then some (prev ++ [now], false) else if prev.length < 5000000000000 then ((impl_left.f k set now).bind fun a => (impl_left.f k now set).bind fun b => if a.length ≤ 1048576 then (if b.length ≤ 1048576 then ((impl_ordered.f (a ++ b)).bind fun nx => dg2 k set n (prev ++ [now]) nx) else none) else none) else none
theorem dg2.mono (k : Nat) (set : List ByteArray) : ∀ n prev now, LeO (dg2 k set n prev now) (dg2 (k + 1) set (n + 1) prev now)
  | 0, _, _ => LeO.none _
  | n + 1, prev, now => by
    unfold dg2
    exact LeO.ite (LeO.refl _) (LeO.ite (LeO.refl _) (LeO.ite (LeO.bind (impl_left.mono _ _ _) fun a => LeO.bind (impl_left.mono _ _ _) fun b => LeO.ite (LeO.ite (LeO.bind (LeO.refl _) fun nx => dg2.mono k set n _ _) (LeO.refl _)) (LeO.refl _)) (LeO.refl _)))
def impl_dangling.f (k : Nat) (l0 : List ByteArray) : Option (List (List ByteArray) × Bool) := (dg1 k l0 l0 0 []).bind fun raw => (impl_ordered.f raw).bind fun now => dg2 k l0 k [] now
theorem impl_dangling.mono : ∀ a0 k, LeO (impl_dangling.f k a0) (impl_dangling.f (k + 1) a0) := by
  intro a0 k
  unfold impl_dangling.f
  exact LeO.bind (dg1.mono _ _ _ _ _) fun _ => LeO.bind (LeO.refl _) fun _ => dg2.mono _ _ _ _ _
theorem infoStrD : (Tryz.prog.info? 9).map (fun i => (i.zero, i.size, i.bytes)) = some (some (.string ⟨#[]⟩), 1, 16) := by kernel_rfl
set_option maxRecDepth 100000 in
set_option maxHeartbeats 32000000 in
theorem impl_dangling.calls (k : Nat) (A0 : Option Addr) (c0 : Nat) (l0 : List ByteArray) (r1 : List (List ByteArray)) (r2 : Bool) (w : World) (hr0 : Kd.C Kd.string w A0 l0.length l0) (hc0 : l0.length ≤ c0) (h : impl_dangling.f k l0 = some (r1, r2)) :
    Calls Tryz.prog 31 #[.slice A0 l0.length c0] w fun e w' => ∃ v0_ : Value, e = .returned (.tuple #[v0_, .bool r2]) ∧ Kd.S (Kd.slice 9 Kd.string) 22 w' w.heap.size (fun _ => True) v0_ r1 ∧ Below w.heap.size w w' := by
  unfold impl_dangling.f at h
  obtain ⟨raw, hraw, h⟩ := Option.bind_eq_some_iff.mp h
  obtain ⟨now0, hnow, h⟩ := Option.bind_eq_some_iff.mp h
  have HR0 := Aside0.mk hr0
  have HC0 := Aside0.mk hc0
  have HRAW := Aside0.mk hraw
  have HNOW := Aside0.mk hnow
  have HDG := Aside0.mk h
  have HMX := Aside0.mk hr0.2.1
  clear hr0 hc0 hraw hnow h
  obtain ⟨W0, hW0⟩ : ∃ W0, w.alloc (.cells #[.slice A0 l0.length c0] 22) = W0 := ⟨_, rfl⟩
  have hb0 : Below w.heap.size w W0 := by rw [← hW0]; exact (Below.refl _ w).alloc (Nat.le_refl _) _
  have hbox : BoxV W0 w.heap.size (.slice A0 l0.length c0) := by rw [← hW0]; exact heap_new w _
  have HB0 := Aside0.mk hb0
  have HX0 := Aside0.mk hbox
  clear hb0 hbox
  go_enter Tryz.func31, Tryz.ntmps31
  go_wp2_with ((with_reducible refine gate_dst (N := 9) rfl ?_); refine Kd.R_lit Kd.string _ 9 ?hg (N := 9) ?hd (xs := ([] : List ByteArray)) (inner := []) (ok := fun _ => True) (okp := fun _ => True) ?hr ?hp (fun _ hk => hk) trivial (Below.refl _ _) (Nat.le_refl _) (by simp) ?_; (case hd => rfl); (case hg => rfl); (case hr => first | (go_simp; done) | (go_simp; rfl)); (case hp => exact (Reps.none _ _)); intro v9 w1 ho1 hb1 hg_ hnew_; clear hg_ hnew_; obtain ⟨A9, c9, e9, _, _⟩ := Kd.R_reads ho1; subst e9; have HO1 := Aside0.mk (Kd.R_lower (Kd.R_mono (ok' := fun k => k ≠ w.heap.size ∧ k ≠ w1.heap.size) (Kd.R_bound ho1) (fun k hk => ⟨by have h1_ := hk.2.1; have h2_ := HX0.out.lt; omega, by have h1_ := hk.2.2.1; omega⟩)) HB0.out.size); have HB1 := Aside0.mk hb1; have hx1 := HX0.out.below hb1 HX0.out.lt; have hx1a : BoxV (w1.alloc (.cells #[.slice A9 0 c9] 22)) w.heap.size (.slice A0 l0.length c0) := hx1.below (below_alloc (Below.refl _ _) _) hx1.lt; have hc1a := hx1a.cell.1; have HX1 := Aside0.mk hx1a; have HX4 := Aside0.mk (show BoxV (w1.alloc (.cells #[.slice A9 0 c9] 22)) w1.heap.size (.slice A9 0 c9) from heap_new w1 _); clear hb1 ho1 hx1 hx1a)
  obtain ⟨G, hG⟩ : ∃ G, w1.heap.size = G := ⟨_, rfl⟩
  have HGW := Aside0.mk (show w.heap.size < G by have h1_ := HX0.out.lt; have h2_ := HB1.out.size; omega)
  have HW1 := Aside0.mk hG
  have HBA := Aside0.mk (HB0.out.trans (HB1.out.mono HB0.out.size))
  rw [hG] at HX4 HO1 ⊢
  clear hG
  go_loopg [12] l0.length (fun gg v12 wr => ∃ (kk : Nat) (acc : List ByteArray) (v : Value), v12 = .int .i64 kk ∧ Aside0 (kk ≤ l0.length) ∧ Aside0 (l0.length - kk ≤ gg) ∧ Aside0 (dg1 k l0 (l0.drop kk) kk acc = some raw) ∧ Aside0 (BoxV wr w.heap.size (.slice A0 l0.length c0)) ∧ Aside0 (BoxV wr G v) ∧ Aside0 (Kd.R Kd.string 9 wr w.heap.size (fun k => k ≠ w.heap.size ∧ k ≠ G) v acc) ∧ Aside0 (Below w.heap.size w wr))
  case atStart => exact ⟨0, [], .slice A9 0 c9, rfl, ⟨Nat.zero_le _⟩, ⟨by omega⟩, ⟨by rw [List.drop_zero]; exact HRAW.out⟩, HX1, HX4, ⟨Kd.R_alloc HO1.out _⟩, ⟨below_alloc HBA.out _⟩⟩
  case round =>
    clear HO1 HBA HRAW hc1a HX1 HX4 HB1 HW1
    obtain ⟨kk, acc, v, rfl, HK, HG, HD, HX1, HX4, HO, HB⟩ := hrel
    obtain ⟨A17, c17, e17, _, _⟩ := Kd.R_reads HO.out
    subst e17
    have bx1 := HX1.out.cell.1
    have bx4 := HX4.out.cell.1
    by_cases hlt : kk < l0.length
    · have hltz : (kk : Int) < (l0.length : Int) := by omega
      obtain ⟨ad, e1, hcell⟩ := Kd.at_string (Kd.C_below HR0.out HB.out) kk (by omega) hltz
      have hrd : rdOf ByteArray.empty l0 (kk : Int) = l0[kk] := by simp [rdOf, List.getD_eq_getElem?_getD, hlt]
      rw [hrd] at hcell
      clear hrd
      simp only [Int.toNat_natCast] at hcell
      subst e1
      have hd := HD.out
      rw [List.drop_eq_getElem_cons hlt] at hd
      unfold dg1 at hd
      generalize l0[kk] = s at hd hcell
      obtain ⟨wo, hwo, hd⟩ := Option.bind_eq_some_iff.mp hd
      obtain ⟨le, hle, hd⟩ := Option.bind_eq_some_iff.mp hd
      by_cases hlen : acc.length + le.length ≤ 4194304
      case neg => rw [if_neg hlen] at hd; cases hd
      rw [if_pos hlen] at hd
      have HD' := Aside0.mk hd
      have HLE := Aside0.mk hle
      have HLEN := Aside0.mk hlen
      have HLT := Aside0.mk hlt
      have HWO := Aside0.mk (fun (W : World) (hW : Below wr.heap.size wr W) => impl_without.calls (some ad) c0 l0 (kk : Int) wo W (Kd.C_below HR0.out (HB.out.trans (hW.mono HB.out.size))) HC0.out hwo)
      have HLA := Aside0.mk (show Kd.C Kd.string (wr.drew.alloc (.cells #[.string s] 9)) (some ⟨wr.heap.size, 0, none⟩) ([s] : List ByteArray).length [s] from lit_C wr.drew s)
      have HBD := Aside0.mk (below_drew1 (Below.refl wr.heap.size wr))
      have bx1a : (wr.alloc (.cells #[.string s] 9)).cell? ⟨w.heap.size, 0, none⟩ = some (.slice (some ad) l0.length c0) := (HX1.out.below (below_alloc (Below.refl _ _) _) HX1.out.lt).cell.1
      have bx4a : (wr.alloc (.cells #[.string s] 9)).cell? ⟨G, 0, none⟩ = some (.slice A17 acc.length c17) := (HX4.out.below (below_alloc (Below.refl _ _) _) HX4.out.lt).cell.1
      clear HD hd hle hlen hlt hwo
      go_wp2_with fail
      -- CUT<
      go_region_law (first
        | (refine Kd.R_append_rows_step Kd.string (Rr := Kd.string.K w6) (w0 := w) (W := w6) w.heap.size (by simp [Region.wanted]) (.tmp 17) (.tmp 23) 22 9 (.string ⟨#[]⟩) 16 rfl Tryz.underlying22 infoStrD rfl (by decide) (by omega) (.slice A17 acc.length c17) acc le A6 le.length c6 (fun k => k ≠ w.heap.size ∧ k ≠ G) (fun _ => False) (by simp [Act.eval, Act.put]) (by simp [Act.eval, Act.put]) (Kd.R_below HO.out HB6.out) HC6.out (fun _ _ hx => hx) (fun _ hk => hk.elim) (fun k hk => ⟨by have h1_ := HBX.out.1.lt; omega, by have h1_ := HBX.out.2.lt; omega⟩) (HB.out.trans (HB6.out.mono HB.out.size)) (by have h1_ := HB.out.size; have h2_ := HB6.out.size; omega) (by have := HLEN.out; omega) ?_; intro v7 w7 ho7 hb7 hg7 hat7; have HO7 := Aside0.mk ho7; have HB7 := Aside0.mk hb7; have HX17 := Aside0.mk (HBX.out.1.grown hg7 (fun e => ((Kd.R_below HO.out HB6.out).1 _ e.symm).1 rfl)); have HX47 := Aside0.mk (HBX.out.2.grown hg7 (fun e => ((Kd.R_below HO.out HB6.out).1 _ e.symm).2 rfl)); have bx17 := HX17.out.cell.1; have bx47 := HX47.out.cell.1; have fx47 := HX47.out.cell.2; obtain ⟨A7, c7, e7, _, _⟩ := Kd.R_reads ho7; subst e7; clear ho7 hb7 hg7 hat7)
        | (go_simp; go_wp2_with (first
          | (go_at_call 52; refine (HWO.out _ (by repeat (first | (with_reducible first | exact Below.refl _ _ | apply below_alloc | apply pw_below_drewN | apply below_drew1) | exact Below.refl _ _))).mono ?_; rintro e w5 ⟨v5, rfl, hR5, hb5⟩; obtain ⟨A5, c5, e5, hc5, hC5⟩ := Kd.R_reads hR5; subst e5; have HB5r := Aside0.mk hb5; have HB5 := Aside0.mk (below_step (by repeat (first | (with_reducible first | exact Below.refl wr.heap.size wr | apply below_alloc | apply pw_below_drewN | apply below_drew1) | exact Below.refl wr.heap.size wr)) hb5); have HC5 := Aside0.mk hC5; have HCC5 := Aside0.mk hc5; have HX15 := HX1.out.below HB5.out HX1.out.lt; have HX45 := HX4.out.below HB5.out HX4.out.lt; have bx15 := HX15.cell.1; have bx45 := HX45.cell.1; have bx15a : (w5.alloc (.cells #[.string s] 9)).cell? ⟨w.heap.size, 0, none⟩ = some (.slice (some ad) l0.length c0) := (HX15.below (below_alloc (Below.refl _ _) _) HX15.lt).cell.1; have bx45a : (w5.alloc (.cells #[.string s] 9)).cell? ⟨G, 0, none⟩ = some (.slice A17 acc.length c17) := (HX45.below (below_alloc (Below.refl _ _) _) HX45.lt).cell.1; clear hb5 hR5 hc5 hC5 HX15 HX45)
          | (go_at_call 51; refine (impl_left.calls k (some ⟨_, 0, none⟩) 1 [s] A5 c5 wo le _ (by first | exact Kd.C_below HLA.out HB5r.out | exact lit_C _ _) (Nat.le_refl _) (by first | exact HC5.out | exact Kd.C_alloc HC5.out _) HCC5.out HLE.out).mono ?_; rintro e w6 ⟨v6, rfl, hR6, hb6⟩; obtain ⟨A6, c6, e6, hc6, hC6⟩ := Kd.R_reads hR6; subst e6; have HB6 := Aside0.mk (below_step (by repeat (first | (with_reducible first | exact HB5.out | apply below_alloc | apply pw_below_drewN | apply below_drew1) | exact HB5.out)) hb6); have HC6 := Aside0.mk hC6; have HCC6 := Aside0.mk hc6; have HX16 := HX1.out.below HB6.out HX1.out.lt; have HX46 := HX4.out.below HB6.out HX4.out.lt; have bx16 := HX16.cell.1; have bx46 := HX46.cell.1; have HBX := Aside0.mk (And.intro HX16 HX46); clear hb6 hR6 hc6 hC6 HX16 HX46))))
      all_goals (go_wp2; go_roundg (l0.length - (kk + 1)); (case measure => have h1_ := HG.out; have h2_ := HLT.out; omega); (case rel => exact ⟨kk + 1, acc ++ le, _, by have h1_ := HLT.out; have h2_ := HMX.out; first | (congr 1; unfold wrap64; omega) | go_num, ⟨HLT.out⟩, ⟨by have h1_ := HG.out; omega⟩, HD', ⟨HX17.out.other (by have := HGW.out; omega) _⟩, ⟨HX47.out.set _⟩, ⟨by have q := Kd.R_far (p := ⟨G, 0, none⟩) HO7.out (fun k hk => hk.2) (Value.slice A7 (acc.length + le.length) c7); rwa [List.length_append] at q⟩, ⟨below_set HB7.out (by have := HGW.out; omega)⟩⟩))
      -- CUT>
    · have hltz : ¬ (kk : Int) < (l0.length : Int) := by omega
      have hd := HD.out
      rw [List.drop_of_length_le (by omega)] at hd
      unfold dg1 at hd
      obtain rfl := Option.some.inj hd
      have fx4 := HX4.out.cell.2
      have HORD := Aside0.mk (impl_ordered.calls A17 c17 acc now0 wr (Kd.R_reads' HO.out).2.2 (Kd.R_reads' HO.out).2.1 HNOW.out)
      clear HD hd HK HG
      go_wp2_with (first
        | (go_at_call 28; refine HORD.out.mono ?_; rintro e w2 ⟨v2, rfl, hR2, hb2⟩; obtain ⟨A2, c2, e2, hc2, hC2⟩ := Kd.R_reads hR2; subst e2; have HX12 := Aside0.mk (HX1.out.below hb2 HX1.out.lt); have HX42 := Aside0.mk (HX4.out.below hb2 HX4.out.lt); have bx42 := HX42.out.cell.1; have fx42 := HX42.out.cell.2; have HB2 := Aside0.mk (HB.out.trans (hb2.mono HB.out.size)); have HO2 := Aside0.mk (Kd.R_lower (Kd.R_mono (ok' := fun k => k ≠ w.heap.size ∧ k ≠ G) (Kd.R_bound hR2) (fun k hk => ⟨by have h1_ := hk.2.1; have h2_ := HX1.out.lt; omega, by have h1_ := hk.2.1; have h2_ := HX4.out.lt; omega⟩)) HB.out.size); clear hb2 hR2 hc2 hC2)
        | ((with_reducible refine gate_dst (N := 29) rfl ?_); refine Kd.S_lits (Kd.slice 9 Kd.string) (w0 := w) w.heap.size 22 ?hg (N := 29) ?hd (xs := [now0]) (inner := [.slice A2 now0.length c2]) (ok := fun k => k ≠ w.heap.size ∧ k ≠ G) (fun j k => j = 0 ∧ (k ≠ w.heap.size ∧ k ≠ G)) ?hr rfl ?hp (fun i j k hi hj => hi.1.trans hj.1.symm) (fun j k hk => hk.2) ⟨by have h1_ := HX12.out.lt; have h2_ : (w2.setCell ⟨G, 0, none⟩ (.slice A2 now0.length c2)).heap.size = w2.heap.size := (by simp); omega, by have h1_ := HX42.out.lt; have h2_ : (w2.setCell ⟨G, 0, none⟩ (.slice A2 now0.length c2)).heap.size = w2.heap.size := (by simp); omega⟩ (below_set HB2.out (by have := HGW.out; omega)) (below_set HB2.out (by have := HGW.out; omega)).size (by simp) ?_; (case hd => rfl); (case hg => rfl); (case hr => first | (go_simp; done) | (go_simp; rfl)); (case hp => (intro j x hj; obtain ⟨rfl, rfl⟩ : j = 0 ∧ now0 = x := (by cases j with | zero => exact ⟨rfl, by simpa using hj⟩ | succ j => simp at hj); exact ⟨_, rfl, Kd.R_mono (Kd.R_far (p := ⟨G, 0, none⟩) HO2.out (fun k hk => hk.2) _) (fun k hk => ⟨rfl, hk⟩)⟩)); intro v29 w3 ho3 hb3 hg3 hnew3; have HO3 := Aside0.mk ho3; have HB3 := Aside0.mk hb3; have HX13 := Aside0.mk ((HX12.out.other (by have := HGW.out; omega) (.slice A2 now0.length c2)).grown hg3 (by simp)); have HX43 := Aside0.mk ((HX42.out.set (.slice A2 now0.length c2)).grown hg3 (by simp)); have HW3 := Aside0.mk (Kd.R_grown (Kd.R_far (p := ⟨G, 0, none⟩) HO2.out (fun k hk => hk.2) (.slice A2 now0.length c2)) hg3 (by simp)); clear ho3 hb3 hg3 hnew3))
      go_loopg [7] k (fun gg v7 wr => ∃ (n : Nat) (prev : List (List ByteArray)) (now : List ByteArray) (v : Value), Aside0 (n ≤ gg) ∧ Aside0 (dg2 k l0 n prev now = some (r1, r2)) ∧ Aside0 (BoxV wr w.heap.size (.slice A0 l0.length c0)) ∧ Aside0 (BoxV wr G v) ∧ Aside0 (Kd.S (Kd.slice 9 Kd.string) 22 wr w.heap.size (fun k => k ≠ w.heap.size ∧ k ≠ G) v7 (prev ++ [now])) ∧ Aside0 (Kd.R Kd.string 9 wr w.heap.size (fun k => k ≠ w.heap.size ∧ k ≠ G) v now) ∧ Aside0 (Below w.heap.size w wr))
      case atStart => exact ⟨k, [], now0, .slice A2 now0.length c2, ⟨Nat.le_refl _⟩, HDG, HX13, HX43, HO3, HW3, HB3⟩
      case round =>
        clear HO3 HB3 HX13 HX43 HW3 HDG HX12 HX42 HB2 HO2 bx42 fx42 bx1 bx4 fx4 HX1 HX4 HO HB HORD
        obtain ⟨n, prev, now, v, HN, HD, HX1, HX4, HO, HW, HB⟩ := hrel
        obtain ⟨wo, hwo⟩ : ∃ W, W = wr := ⟨wr, rfl⟩
        subst hwo
        cases n with
        | zero => exact absurd HD.out (by simp [dg2])
        | succ n =>
          have H := HD.out
          clear HD
          unfold dg2 at H
          obtain ⟨A4, c4, e4, hc4, hC4⟩ := Kd.R_reads HW.out
          subst e4
          obtain ⟨g7, cap7, e7, _, _, _⟩ := Kd.S_form HO.out (by simp)
          subst e7
          have hl7 : (prev ++ [now]).length = prev.length + 1 := by simp
          have HO7 := HO.out
          rw [hl7] at HO7 ⊢
          have HO := Aside0.mk HO7
          have hmx : ((prev.length + 1 : Nat) : Int) ≤ 9223372036854775807 := by have := (Kd.S_reads' HO7).2.2.2.1; rw [hl7] at this; omega
          have hcap : prev.length + 1 ≤ cap7 := (Kd.S_reads' HO7).2.1
          clear HO7
          have HC4 := Aside0.mk hC4
          have HCC4 := Aside0.mk hc4
          have eg1 := enters_of Tryz.func54 (by kernel_rfl) rfl
          have eg2 := enters_of Tryz.func57 (by kernel_rfl) rfl
          have HANY := Aside0.mk (slices_ContainsFunc_string.calls_g _ #[.pointer (some ⟨w.heap.size, 0, none⟩)] (fun x => Lib.containsS l0 x) eg1 A4 c4 now wo hC4 hc4 (fun W' x _ hW' => impl_dangling_1.calls w.heap.size A0 c0 l0 x W' (HX1.out.below hW' HX1.out.lt) (Kd.C_below HR0.out (HB.out.trans (hW'.mono HB.out.size)))))
          clear hC4 hc4 eg1
          have bx1 := HX1.out.cell.1
          have bx4 := HX4.out.cell.1
          have HH := Aside0.mk H
          clear H
          obtain ⟨hit, hhit⟩ : ∃ b, now.any (fun x => Lib.containsS l0 x) = b := ⟨_, rfl⟩
          rw [hhit] at HH HANY
          clear hhit
          cases hit with
          | true =>
            have hr := HH.out
            rw [if_pos rfl] at hr
            simp only [Option.some.injEq, Prod.mk.injEq] at hr
            obtain ⟨rfl, rfl⟩ := hr
            clear HH
            go_wp2_with (go_at_call 53; refine HANY.out.mono ?_; rintro e w5 ⟨rfl, hb5⟩; have HB5 := Aside0.mk hb5; clear hb5)
            go_ret2
            exact ⟨_, rfl, Kd.S_mono (Kd.S_below HO.out HB5.out) (fun _ _ => trivial), HB.out.trans (HB5.out.mono HB.out.size)⟩
          | false =>
            have hr := HH.out
            rw [if_neg (by decide)] at hr
            have HH := Aside0.mk hr
            clear hr
            have HLM := Aside0.mk hmx
            have HLC := Aside0.mk hcap
            clear hmx hcap hl7
            have hw64 : wrap64 (prev.length : Int) = (prev.length : Int) := by have := HLM.out; unfold wrap64; omega
            have hleC : (prev.length : Int) ≤ (cap7 : Int) := by have := HLC.out; omega
            have HPRE := Aside0.mk (show ∀ W, Below wo.heap.size wo W → Kd.C (Kd.slice 9 Kd.string) W (some ⟨g7, 0, none⟩) prev.length prev from fun W hW => by
              have h1_ := (Kd.S_reads' (Kd.S_below HO.out hW)).2.2
              have h2_ := Kd.C_take (m := prev.length) h1_ (by simp)
              rw [List.take_left] at h2_
              exact h2_)
            have HEQ := Aside0.mk (fun (W : World) (hW : Below wo.heap.size wo W) => rowsAny_calls _ #[.pointer (some ⟨G, 0, none⟩)] (fun x => decide (x = now)) eg2 (some ⟨g7, 0, none⟩) cap7 prev W (HPRE.out W hW) (fun W' A' c' x _ hW' hx => impl_dangling_2.calls G A4 A' c4 c' now x W' ((HX4.out.below hW HX4.out.lt).below hW' (Nat.lt_of_lt_of_le HX4.out.lt hW.size)) (Kd.C_below (Kd.C_below HC4.out hW) hW') hx))
            clear eg2
            by_cases hemp : now = []
            · have hr := HH.out
              subst hemp
              rw [if_pos (by rfl)] at hr
              simp only [Option.some.injEq, Prod.mk.injEq] at hr
              obtain ⟨rfl, rfl⟩ := hr
              clear HH
              go_wp2_with (go_at_call 53; refine HANY.out.mono ?_; rintro e w5 ⟨rfl, hb5⟩; have HB5 := Aside0.mk hb5; have HX45 := Aside0.mk (HX4.out.below hb5 HX4.out.lt); have bx45 := HX45.out.cell.1; clear hb5)
              go_ret2
              exact ⟨_, rfl, Kd.S_mono (Kd.S_below HO.out HB5.out) (fun _ _ => trivial), HB.out.trans (HB5.out.mono HB.out.size)⟩
            · have hie : now.isEmpty = false := by cases now with
                | nil => exact absurd rfl hemp
                | cons y l => rfl
              have hpos : now.length ≠ 0 := fun e => hemp (List.length_eq_zero_iff.1 e)
              have d1 : ((now.length : Int) == 0) = false := by rw [beq_eq_false_iff_ne]; omega
              have hr := HH.out
              rw [hie, Bool.false_or] at hr
              clear hemp hie hpos HH
              obtain ⟨rep, hrep⟩ : ∃ b, prev.any (fun x => decide (x = now)) = b := ⟨_, rfl⟩
              rw [hrep] at hr HEQ
              clear hrep
              cases rep with
              | true =>
                rw [if_pos rfl] at hr
                simp only [Option.some.injEq, Prod.mk.injEq] at hr
                obtain ⟨rfl, rfl⟩ := hr
                go_wp2_with (first | (go_at_call 53; refine HANY.out.mono ?_; rintro e w5 ⟨rfl, hb5⟩; have HB5 := Aside0.mk hb5; have HX45 := Aside0.mk (HX4.out.below hb5 HX4.out.lt); have bx45 := HX45.out.cell.1; clear hb5) | (go_at_call 56; refine (HEQ.out _ HB5.out).mono ?_; rintro e w6 ⟨rfl, hb6⟩; have HB6 := Aside0.mk (HB5.out.trans (hb6.mono HB5.out.size)); clear hb6))
                go_ret2
                exact ⟨_, rfl, Kd.S_mono (Kd.S_below HO.out HB6.out) (fun _ _ => trivial), HB.out.trans (HB6.out.mono HB.out.size)⟩
              | false =>
                rw [if_neg (by decide)] at hr
                by_cases hlen : prev.length < 5000000000000
                case neg => rw [if_neg hlen] at hr; cases hr
                rw [if_pos hlen] at hr
                obtain ⟨a, ha, hr⟩ := Option.bind_eq_some_iff.mp hr
                obtain ⟨b, hb, hr⟩ := Option.bind_eq_some_iff.mp hr
                by_cases hla : a.length ≤ 1048576
                case neg => rw [if_neg hla] at hr; cases hr
                rw [if_pos hla] at hr
                by_cases hlb : b.length ≤ 1048576
                case neg => rw [if_neg hlb] at hr; cases hr
                rw [if_pos hlb] at hr
                obtain ⟨nx, hnx, hr⟩ := Option.bind_eq_some_iff.mp hr
                have HLN := Aside0.mk hlen
                have HLA := Aside0.mk hla
                have HLB := Aside0.mk hlb
                have HA := Aside0.mk ha
                have HBQ := Aside0.mk hb
                have HNX := Aside0.mk hnx
                have HH := Aside0.mk hr
                obtain ⟨ab, hab⟩ : ∃ ab, a ++ b = ab := ⟨_, rfl⟩
                rw [hab] at HNX
                have HAB := Aside0.mk hab
                clear hlen hla hlb ha hb hnx hr hab
                go_upto_region 14 with (first | (go_at_call 53; refine HANY.out.mono ?_; rintro e w5 ⟨rfl, hb5⟩; have HB5 := Aside0.mk hb5; have HX45 := Aside0.mk (HX4.out.below hb5 HX4.out.lt); have bx45 := HX45.out.cell.1; clear hb5) | (go_at_call 56; refine (HEQ.out _ HB5.out).mono ?_; rintro e w6 ⟨rfl, hb6⟩; have HB6 := Aside0.mk (HB5.out.trans (hb6.mono HB5.out.size)); have HX16 := Aside0.mk (HX1.out.below HB6.out HX1.out.lt); have HX46 := Aside0.mk (HX4.out.below HB6.out HX4.out.lt); have bx16 := HX16.out.cell.1; have bx46 := HX46.out.cell.1; clear hb6))
                clear d1 hw64 hleC HEQ HANY HPRE bx45 bx4 bx1
                have HL1 := Aside0.mk (fun (W : World) (hW : Below wo.heap.size wo W) => impl_left.calls k A0 c0 l0 A4 c4 now a W (Kd.C_below HR0.out (HB.out.trans (hW.mono HB.out.size))) HC0.out (Kd.C_below HC4.out hW) HCC4.out HA.out)
                have HL2 := Aside0.mk (fun (W : World) (hW : Below wo.heap.size wo W) => impl_left.calls k A4 c4 now A0 c0 l0 b W (Kd.C_below HC4.out hW) HCC4.out (Kd.C_below HR0.out (HB.out.trans (hW.mono HB.out.size))) HC0.out HBQ.out)
                have HCT := Aside0.mk (fun (W : World) (A7 A8 : Option Addr) (c7 c8 : Nat) (h7 : Kd.C Kd.string W A7 a.length a) (h8 : Kd.C Kd.string W A8 b.length b) => concat2_calls W.heap.size A7 A8 c7 c8 a b (W.alloc (.cells #[.slice A7 a.length c7, .slice A8 b.length c8] 22)) (Kd.C_alloc h7 _) (Kd.C_alloc h8 _) (by simp) (cell_alloc W _ _ 0) (cell_alloc W _ _ 1) HLA.out HLB.out)
                rw [HAB.out] at HCT
                go_cut [] from 30 to 60 (fun wx => ∃ (Ax : Option Addr) (cx : Nat), Aside0 (BoxV wx w.heap.size (.slice A0 l0.length c0)) ∧ Aside0 (BoxV wx G (.slice Ax nx.length cx)) ∧ Aside0 (Kd.S (Kd.slice 9 Kd.string) 22 wx w.heap.size (fun k => (k ≠ w.heap.size ∧ k ≠ G) ∧ k < wo.heap.size) (.slice (some ⟨g7, 0, none⟩) (prev.length + 1) cap7) (prev ++ [now])) ∧ Aside0 (Kd.R Kd.string 9 wx w.heap.size (fun k => (k ≠ w.heap.size ∧ k ≠ G) ∧ wo.heap.size ≤ k) (.slice Ax nx.length cx) nx) ∧ Aside0 (Below w.heap.size w wx))
                case first =>
                  -- CUT<
                  go_region_law (go_simp; go_wp2_with (first
                    | (go_at_call 51; have h7_ := HB7.out; clear h7_; refine (HL2.out _ (by repeat (first | (with_reducible first | exact HB7.out | apply below_alloc | apply pw_below_drewN | apply below_drew1) | exact HB7.out))).mono ?_; rintro e w8 ⟨v8, rfl, hR8, hb8⟩; obtain ⟨A8, c8, e8, hc8, hC8⟩ := Kd.R_reads hR8; subst e8; have HB8 := Aside0.mk (below_step (by repeat (first | (with_reducible first | exact HB7.out | apply below_alloc | apply pw_below_drewN | apply below_drew1) | exact HB7.out)) hb8); have HC78 := Aside0.mk (Kd.C_below HC7.out hb8); have HC8 := Aside0.mk hC8; clear hb8 hR8 hc8 hC8)
                    | (go_at_call 51; refine (HL1.out _ (by repeat (first | (with_reducible first | exact HB6.out | apply below_alloc | apply pw_below_drewN | apply below_drew1) | exact HB6.out))).mono ?_; rintro e w7 ⟨v7, rfl, hR7, hb7⟩; obtain ⟨A7, c7, e7, hc7, hC7⟩ := Kd.R_reads hR7; subst e7; have HB7 := Aside0.mk (below_step (by repeat (first | (with_reducible first | exact HB6.out | apply below_alloc | apply pw_below_drewN | apply below_drew1) | exact HB6.out)) hb7); have HC7 := Aside0.mk hC7; have bx17 := (HX1.out.below HB7.out HX1.out.lt).cell.1; have bx47 := (HX4.out.below HB7.out HX4.out.lt).cell.1; clear hb7 hR7 hc7 hC7)
                    | (go_at_call 59; refine (HCT.out w8 A7 A8 c7 c8 HC78.out HC8.out).mono ?_; rintro e w9 ⟨v9, rfl, hR9, hb9⟩; obtain ⟨A9', c9', e9', hc9, hC9⟩ := Kd.R_reads hR9; subst e9'; have HB9 := Aside0.mk (below_step (by repeat (first | (with_reducible first | exact HB8.out | apply below_alloc | apply pw_below_drewN | apply below_drew1) | exact HB8.out)) hb9); have HC9 := Aside0.mk hC9; have HCC9 := Aside0.mk hc9; clear hb9 hR9 hc9 hC9)
                    | (go_at_call 28; refine (impl_ordered.calls A9' c9' ab nx _ HC9.out HCC9.out HNX.out).mono ?_; rintro e wx ⟨vx, rfl, hRx, hbx⟩; obtain ⟨Ax, cx, ex, _, _⟩ := Kd.R_reads hRx; subst ex; have HBx := Aside0.mk (below_step (by repeat (first | (with_reducible first | exact HB9.out | apply below_alloc | apply pw_below_drewN | apply below_drew1) | exact HB9.out)) hbx); have HX1x := Aside0.mk (HX1.out.below HBx.out HX1.out.lt); have HX4x := Aside0.mk (HX4.out.below HBx.out HX4.out.lt); have bx4x := HX4x.out.cell.1; have fx4x := HX4x.out.cell.2; have HWx := Aside0.mk (Kd.R_lower (base' := w.heap.size) (Kd.R_mono (ok' := fun k => (k ≠ w.heap.size ∧ k ≠ G) ∧ wo.heap.size ≤ k) (Kd.R_bound hRx) (fun k hk => ⟨⟨by have h1_ := hk.2.1; have h2_ := HX1.out.lt; have h3_ := HB9.out.size; omega, by have h1_ := hk.2.1; have h2_ := HX4.out.lt; have h3_ := HB9.out.size; omega⟩, by have h1_ := hk.2.1; have h3_ := HB9.out.size; omega⟩)) (Nat.le_trans HB.out.size HB9.out.size)); clear hbx hRx)))
                  all_goals (go_wp2_with fail; go_meet; exact ⟨Ax, cx, ⟨HX1x.out.other (by have := HGW.out; omega) _⟩, ⟨HX4x.out.set _⟩, ⟨Kd.S_far (p := ⟨G, 0, none⟩) (Kd.S_mono (ok' := fun k => (k ≠ w.heap.size ∧ k ≠ G) ∧ k < wo.heap.size) (Kd.S_below (Kd.S_bound HO.out) HBx.out) (fun k hk => ⟨hk.1, hk.2.2.1⟩)) (fun k hk => hk.1.2) _⟩, ⟨Kd.R_far (p := ⟨G, 0, none⟩) HWx.out (fun k hk => hk.1.2) _⟩, ⟨below_set (HB.out.trans (HBx.out.mono HB.out.size)) (by have := HGW.out; omega)⟩⟩)
                  -- CUT>
                case rest =>
                  obtain ⟨Ax, cx, HXs, HXt, HOs, HWs0, HBs⟩ := hcut
                  have HWs := Aside0.mk (Kd.R_tight rfl HWs0.out)
                  have bxt := HXt.out.cell.1
                  have HFR := Aside0.mk (show ∀ k, wc.heap.size ≤ k → k ≠ w.heap.size ∧ k ≠ G from fun k hk => ⟨by have h1_ := HXs.out.lt; omega, by have h1_ := HXt.out.lt; omega⟩)
                  clear HL1 HL2 HCT
                  go_wp2_with ((with_reducible refine gate_builtin (b := .append) (xs := #[.tmp 57, .tmp 59]) rfl ?_); at_builtin; refine Kd.S_append (Kd.slice 9 Kd.string) (w0 := w) w.heap.size rfl (.tmp 57) (.tmp 59) 28 22 (.slice none 0 0) 24 rfl Tryz.underlying28 infoRow rfl (by decide) (by omega) (.slice (some ⟨g7, 0, none⟩) (prev.length + 1) cap7) (prev ++ [now]) nx [.slice Ax nx.length cx] (fun k => k ≠ w.heap.size ∧ k ≠ G) (fun k => some k = (Value.slice Ax nx.length cx).ownBlock) rfl rfl ⟨_, rfl, HWs.out⟩ (fun k hk => ⟨(HWs0.out.1 k hk.symm).1, fun e => by have h1_ := (HWs0.out.1 k hk.symm).2; have h2_ := ((Kd.S_R HOs.out).1 k e.symm).2; omega⟩) HFR.out (Kd.S_mono HOs.out (fun k hk => ⟨hk.1, fun q => by have h1_ := (HWs0.out.1 k q.symm).2; have h2_ := hk.2; omega⟩)) HBs.out HBs.out.size (by have h1_ := HLN.out; rw [List.length_append]; simp; omega) ?_; intro v60 wz hoz hbz hgz hatz; have HOz := Aside0.mk hoz; have HBz := Aside0.mk hbz; have HWz := Aside0.mk (Kd.R_mono (ok' := fun k => (k ≠ w.heap.size ∧ k ≠ G) ∧ True) (Kd.R_grown HWs.out hgz (fun k hk e => by have h1_ := (HWs0.out.1 k hk.symm).2; have h2_ := ((Kd.S_R HOs.out).1 k e.symm).2; omega)) (fun k hk => ⟨(HWs0.out.1 k hk.symm).1, trivial⟩)); have HXz := Aside0.mk (HXs.out.grown hgz (fun e => ((Kd.S_R HOs.out).1 _ e.symm).1.1 rfl)); have HXy := Aside0.mk (HXt.out.grown hgz (fun e => ((Kd.S_R HOs.out).1 _ e.symm).1.2 rfl)); clear hoz hbz hgz hatz)
                  go_roundg n
                  case measure => have := HN.out; omega
                  case rel => exact ⟨n, prev ++ [now], nx, .slice Ax nx.length cx, ⟨Nat.le_refl _⟩, HH, HXz, HXy, HOz, ⟨Kd.R_mono HWz.out (fun k hk => hk.1)⟩, HBz⟩

end Go.Proofs.YtidjjcgfdkmefaaGreatDoor.X

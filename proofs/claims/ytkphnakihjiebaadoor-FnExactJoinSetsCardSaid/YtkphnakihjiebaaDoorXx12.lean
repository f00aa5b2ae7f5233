-- WRITTEN by xprint.py of this repo: the kit's print.py with contracts given by hand (given.py). Lean checks it.
import Derived.Test.YtkphnakihjiebaaDoorXx0
import Derived.Test.YtkphnakihjiebaaDoorXx5
import Derived.Test.YtkphnakihjiebaaDoorXx6
import Derived.Test.YtkphnakihjiebaaDoorXx10
namespace Go.Proofs.YtkphnakihjiebaaDoor.X
open Go.RowKit Go.Proofs.YtkphnakihjiebaaDoorW.PrintWords Go.Proofs.YtkphnakihjiebaaDoorW.PrintLast Go.Proofs.YtkphnakihjiebaaDoorW.PrintMore
attribute [local go_sem] max2_int min2_int max_two min_two max_three min_three max_four min_four   -- for this text's walks alone
set_option linter.unusedVariables false
set_option linter.unusedSimpArgs false

/-! ### GIVEN impl_JoinSets: function 40 -/
theorem run_append_make {P : Program} (w : World) (t u ty e : TypeId) (i : TypeInfo) (z : Value) (ht : P.underlying t = some (.slice e)) (hu : P.underlying u = some (.int .i64)) (hi : P.info? e = some i) (hz : i.zero = some z) (hsz : i.size = 1)
    (n : Nat) (h0 : 0 < n) (h63 : (n : Int) ≤ 9223372036854775807) (h48 : n * i.bytes ≤ 281474976710656) :
    (Builtin.append_ #[t, u] ty #[.slice none 0 0, .int .i64 n]).run P w =
      .ok (.slice (some ⟨w.heap.size, 0, none⟩) n (grownCap w n 0 e)) (w.drew.alloc (.cells (Builtin.zeroCells z.cells n ++ Builtin.zeroCells z.cells (grownCap w n 0 e - n)) e)) := by
  have hn : n ≠ 0 := by omega
  have h63' : ¬ (9223372036854775807 < (n : Int)) := by omega
  have h48' : ¬ (281474976710656 < Builtin.nextslicecap n 0 * i.bytes) := by rw [nextslicecap_zero h0]; omega
  have h48'' : ¬ (281474976710656 < (n : Int) * (i.bytes : Int)) := by
    have : ((n * i.bytes : Nat) : Int) = (n : Int) * (i.bytes : Int) := by simp
    omega
  have hw : IntKind.i64.wrap (n : Int) = n := (i64_w _).trans (by unfold wrap64; omega)
  have hneg : ¬ ((n : Int) < 0) := by omega
  have hpos : ¬ ((n : Int) ≤ 0) := by omega
  have hmax : ¬ (9223372036854775807 < max (n : Int) 0) := by omega
  simp [Builtin.append_, asInt, asIntOf, hpos, hmax, run_underlying ht, run_underlying hu, sizeOf, typeInfo, zeroValue, hi, hz, hsz, Builtin.lenOf, hn, h63', h48', h48'', hw, hneg, Question.forced, run_firstCells_none, newRow, grownCap]
theorem wpList_append_run {P : Program} {w w' : World} {ops : Array Oper} {rest : List Oper} {o : Oper} {a : Act} {Q : Exit → Act → World → Prop} (hgd : o.guard = none) (s x : Operand) (t u : TypeId)
    (ho : o.op = .call { callee := .builtin .append, args := #[s, x], argTypes := #[t, u] }) (v1 v2 v' : Value) (hs : a.eval s = v1) (hx : a.eval x = v2)
    (hr : (Builtin.append_ #[t, u] o.type #[v1, v2]).run P w = .ok v' w') (h : wpList P ops Q rest (a.put o.dst v') w') : wpList P ops Q (o :: rest) a w :=
  wpList_plain hgd fun _ hK => by
    unfold Oper.wp execOp
    simp only [ho, resolve, invoke, builtin, Sem.run_bind, Sem.run_pure, Result.andThen_ok, List.map_toArray, List.map_cons, List.map_nil, hs, hx, hr]
    exact hK _ _ h
theorem infoStrB : (Tryd.prog.info? 9).map (fun i => (i.zero, i.size, i.bytes)) = some (some (.string ⟨#[]⟩), 1, 16) := by kernel_rfl
theorem infoStr' : ∃ i, Tryd.prog.info? 9 = some i ∧ i.zero = some (.string ⟨#[]⟩) ∧ i.size = 1 ∧ i.bytes = 16 := by
  have h := infoStrB
  cases hq : Tryd.prog.info? 9 with
  | none => rw [hq] at h; cases h
  | some i =>
    rw [hq] at h
    simp only [Option.map_some, Option.some.injEq, Prod.mk.injEq] at h
    exact ⟨i, rfl, h.1, h.2.1, h.2.2⟩
set_option maxRecDepth 100000 in
set_option maxHeartbeats 2000000 in
theorem grow_calls (n : Nat) (hn : n ≤ 2097152) (w : World) : Calls Tryd.prog 88 #[.slice none 0 0, .int .i64 n] w fun e w' => ∃ v : Value, e = .returned v ∧ w'.ownsRow w.heap.size 9 1 v 0 [] ∧ Below w.heap.size w w' := by
  by_cases h0 : n = 0
  · subst h0
    go_enter Tryd.func88, Tryd.ntmps88
    go_wp2
    go_ret
    exact ⟨_, rfl, World.ownsRow_nil _ _ _ _, Below.refl _ _⟩
  · have hn0 : (0 : Int) < (n : Int) := by omega
    have d0 : decide ((0 : Int) < (n : Int)) = true := decide_eq_true hn0
    have dn : decide ((n : Int) < 0) = false := decide_eq_false (by omega)
    obtain ⟨i, hi, hz, hsz, hby⟩ := infoStr'
    have hr := run_append_make (P := Tryd.prog) w 22 3 22 9 i (.string ⟨#[]⟩) Tryd.underlying22 Tryd.underlying3 hi hz hsz n (by omega) (by omega) (by rw [hby]; omega)
    clear hi hz hsz hby
    obtain ⟨W1, hW1⟩ : ∃ W1, (w.drew.alloc (.cells (Builtin.zeroCells (Value.string ⟨#[]⟩).cells n ++ Builtin.zeroCells (Value.string ⟨#[]⟩).cells (grownCap w n 0 9 - n)) 9)) = W1 := ⟨_, rfl⟩
    have hcap : n ≤ grownCap w n 0 9 := grownCap_ge w n 0 9
    have hmade : W1.ownsRow w.heap.size 9 1 (.slice (some ⟨w.heap.size, 0, none⟩) 0 (grownCap w n 0 9)) 0 [] := by
      rw [← hW1]
      have := World.ownsRow_made (base := w.heap.size) (e := 9) (size := 1) w.drew (Builtin.zeroCells (Value.string ⟨#[]⟩).cells n ++ Builtin.zeroCells (Value.string ⟨#[]⟩).cells (grownCap w n 0 9 - n)) (grownCap w n 0 9) (Nat.le_refl _) (grownCap_le_maxLen w n 0 9 (by unfold maxLen; omega)) (by rw [Array.size_append, size_zeroCells, size_zeroCells]; simp [Value.cells]; omega)
      exact this
    have hbel : Below w.heap.size w W1 := by
      rw [← hW1]
      exact below_alloc (below_drew1 (Below.refl _ _)) _
    rw [hW1] at hr
    clear hW1
    generalize grownCap w n 0 9 = G at *
    have HR := Aside0.mk hr
    clear hr
    have HM := Aside0.mk hmade
    have HBL := Aside0.mk hbel
    clear hmade hbel
    go_enter Tryd.func88, Tryd.ntmps88
    go_wp2_with ((with_reducible refine gate_builtin (b := .append) (xs := #[.tmp 20, .tmp 21]) rfl ?_); at_builtin; refine wpList_append_run rfl (.tmp 20) (.tmp 21) 22 3 rfl _ _ _ rfl rfl HR.out ?_)
    go_ret
    exact ⟨_, rfl, HM.out, HBL.out⟩

theorem app_run (w0 w : World) (base : Nat) (v : Value) (xs ys : List ByteArray) (A : Option Addr) (c : Nat) (ho : w.ownsRow base 9 1 v xs.length (xs.map Value.string)) (hb : Below base w0 w) (hbase : base ≤ w.heap.size) (hC : Kd.C Kd.string w A ys.length ys) (hl : xs.length + ys.length ≤ 4194304) :
    ∃ v' w', (Builtin.append_ #[22, 22] 22 #[v, .slice A ys.length c]).run Tryd.prog w = .ok v' w' ∧ w'.ownsRow base 9 1 v' (xs ++ ys).length ((xs ++ ys).map Value.string) ∧ Below base w0 w' := by
  obtain ⟨i, hi, hz, hsz, hby⟩ := infoStr'
  cases A with
  | none =>
    have h0 : ys = [] := by
      cases ys with
      | nil => rfl
      | cons y l =>
        obtain ⟨ad, e1, _⟩ := Kd.at_string hC 0 (by omega) (by simp)
        cases e1
    subst h0
    refine ⟨v, w, ?_, by simpa using ho, hb⟩
    obtain ⟨_, ho⟩ := ho
    rcases ho with ⟨rfl, hn⟩ | ⟨g', cap', cur, rfl, _, _, hn, _, _, _⟩
    · simp [Builtin.append_, run_underlying Tryd.underlying22, sizeOf, typeInfo, hi, hsz, Builtin.lenOf, run_firstCells_none]
    · simp [Builtin.append_, run_underlying Tryd.underlying22, sizeOf, typeInfo, hi, hsz, Builtin.lenOf, run_firstCells_none, hn, storeCells]
  | some ad =>
    obtain ⟨v', w', hr, h2, h3, h4⟩ := run_append_own (P := Tryd.prog) w base 22 22 9 i (.string ⟨#[]⟩) 1 16 Tryd.underlying22 hi hz hsz hby rfl (by omega) v xs.length (xs.map Value.string) ho ad ys.length c (ys.map Value.string) (by simp) (by
      intro j u hj
      rw [List.getElem?_map] at hj
      have hjl : j < ys.length := by
        rcases Nat.lt_or_ge j ys.length with h | h
        · exact h
        · rw [List.getElem?_eq_none h] at hj; cases hj
      rw [List.getElem?_eq_getElem hjl] at hj
      cases hj
      obtain ⟨ad', e1, hc⟩ := Kd.at_string hC j (by omega) (by omega)
      cases e1
      rw [Int.toNat_natCast] at hc
      rw [hc]
      simp [rdOf, List.getD_eq_getElem?_getD, hjl]) (by
      intro u hu
      obtain ⟨y, _, rfl⟩ := List.mem_map.1 hu
      rfl) (by unfold maxLen; omega) (by omega) hbase
    refine ⟨v', w', hr, ?_, hb.grown h3 hbase (fun k e => (ho.lt k e).1)⟩
    rw [List.length_append, List.map_append]
    exact h2
def catK (a b : List ByteArray) : Nat → List ByteArray
  | 0 => []
  | 1 => a
  | _ => a ++ b
def szK (a b : List ByteArray) : Nat → Nat
  | 0 => 0
  | 1 => a.length
  | _ => a.length + b.length
set_option maxRecDepth 100000 in
set_option maxHeartbeats 8000000 in
theorem concat2_calls (g : Nat) (A0 A1 : Option Addr) (c0 c1 : Nat) (a b : List ByteArray) (w : World) (hA : Kd.C Kd.string w A0 a.length a) (hB : Kd.C Kd.string w A1 b.length b) (hg : g < w.heap.size)
    (h0 : w.cell? ⟨g, 0, none⟩ = some (.slice A0 a.length c0)) (h1 : w.cell? ⟨g, 1, none⟩ = some (.slice A1 b.length c1)) (hl0 : a.length ≤ 1048576) (hl1 : b.length ≤ 1048576) :
    Calls Tryd.prog 68 #[.slice (some ⟨g, 0, none⟩) 2 2] w fun e w' => ∃ v : Value, e = .returned v ∧ Kd.R Kd.string 9 w' w.heap.size (fun _ => True) v (a ++ b) ∧ Below w.heap.size w w' := by
  have HA := Aside0.mk hA
  have HBB := Aside0.mk hB
  have H0 := Aside0.mk h0
  have H1 := Aside0.mk h1
  have HG := Aside0.mk hg
  have HL0 := Aside0.mk hl0
  have HL1 := Aside0.mk hl1
  clear hA hB h0 h1 hg hl0 hl1
  go_enter Tryd.func68, Tryd.ntmps68
  go_wp2
  go_loopg [3, 11] 2 (fun gg v3 v11 wr => ∃ kk : Nat, v11 = .int .i64 kk ∧ v3 = .int .i64 (szK a b kk) ∧ Aside0 (kk ≤ 2) ∧ Aside0 (2 - kk ≤ gg) ∧ w = wr)
  case atStart => exact ⟨0, rfl, rfl, ⟨by omega⟩, ⟨by omega⟩, rfl⟩
  case round =>
    obtain ⟨kk, rfl, rfl, HK, HM, rfl⟩ := hrel
    have hk := HK.out
    rcases (show kk = 0 ∨ kk = 1 ∨ kk = 2 by omega) with rfl | rfl | rfl
    · have h0 := H0.out
      have hl := HL0.out
      have hn : decide (((0 : Nat) : Int) + (a.length : Int) < 0) = false := decide_eq_false (by omega)
      simp only [szK] at *
      go_wp2
      go_roundg 1
      case measure => have := HM.out; omega
      case rel => exact ⟨1, rfl, by simp [szK], ⟨by omega⟩, ⟨by omega⟩, rfl⟩
    · have h1 := H1.out
      have hl := HL0.out
      have hl1 := HL1.out
      simp only [szK] at *
      go_wp2
      go_roundg 0
      case measure => have := HM.out; omega
      case rel => exact ⟨2, rfl, by simp [szK], ⟨by omega⟩, ⟨by omega⟩, rfl⟩
    · clear HM hk HK
      have hl := HL0.out
      have hl1 := HL1.out
      simp only [szK] at *
      have hgrow := grow_calls (a.length + b.length) (by omega) w
      have HGR := Aside0.mk hgrow
      clear hgrow
      have e1 : ((a.length + b.length : Nat) : Int) = (a.length : Int) + (b.length : Int) := by omega
      go_wp2_with (go_at_call 88; refine HGR.out.mono ?_; rintro e w1 ⟨v1, rfl, ho1, hb1⟩; have HO1 := Aside0.mk ho1; have HB1 := Aside0.mk hb1; clear ho1 hb1)
      go_loopg [6, 27] 2 (fun gg v6 v27 w' => ∃ kk : Nat, v27 = .int .i64 kk ∧ Aside0 (kk ≤ 2) ∧ Aside0 (2 - kk ≤ gg) ∧ Aside0 (w'.ownsRow w.heap.size 9 1 v6 (catK a b kk).length ((catK a b kk).map Value.string)) ∧ Aside0 (Below w.heap.size w w'))
      case atStart => exact ⟨0, rfl, ⟨by omega⟩, ⟨by omega⟩, ⟨HO1.out⟩, HB1⟩
      case round =>
        clear HO1 HB1 HGR
        obtain ⟨kk, rfl, HK, HM, HO, HB⟩ := hrel
        have hk := HK.out
        rcases (show kk = 0 ∨ kk = 1 ∨ kk = 2 by omega) with rfl | rfl | rfl
        · obtain ⟨v', w3, hr, ho, hb⟩ := app_run w wr w.heap.size u6 [] a A0 c0 HO.out HB.out HB.out.size (Kd.C_below HA.out HB.out) (by simp; omega)
          have h0 := (HB.out.cell (p := ⟨g, 0, none⟩) HG.out).trans H0.out
          have HR := Aside0.mk hr
          have HO2 := Aside0.mk ho
          have HB2 := Aside0.mk hb
          clear hr ho hb hk
          go_wp2_with ((with_reducible refine gate_builtin (b := .append) (xs := #[.tmp 31, .tmp 32]) rfl ?_); at_builtin; refine wpList_append_run rfl (.tmp 31) (.tmp 32) 22 22 rfl _ _ _ rfl rfl HR.out ?_)
          go_roundg 1
          case measure => have := HM.out; omega
          case rel => exact ⟨1, rfl, ⟨by omega⟩, ⟨by omega⟩, ⟨HO2.out⟩, HB2⟩
        · obtain ⟨v', w3, hr, ho, hb⟩ := app_run w wr w.heap.size u6 a b A1 c1 HO.out HB.out HB.out.size (Kd.C_below HBB.out HB.out) (by omega)
          have h1 := (HB.out.cell (p := ⟨g, 1, none⟩) HG.out).trans H1.out
          have HR := Aside0.mk hr
          have HO2 := Aside0.mk ho
          have HB2 := Aside0.mk hb
          clear hr ho hb hk
          go_wp2_with ((with_reducible refine gate_builtin (b := .append) (xs := #[.tmp 31, .tmp 32]) rfl ?_); at_builtin; refine wpList_append_run rfl (.tmp 31) (.tmp 32) 22 22 rfl _ _ _ rfl rfl HR.out ?_)
          go_roundg 0
          case measure => have := HM.out; omega
          case rel => exact ⟨2, rfl, ⟨by omega⟩, ⟨by omega⟩, ⟨HO2.out⟩, HB2⟩
        · clear hk
          go_wp2
          go_ret
          exact ⟨_, rfl, Kd.R_of_own HO.out (fun _ _ => trivial), HB.out⟩

def impl_JoinSets.f (k : Nat) (l0 : List ByteArray) (l1 : List ByteArray) : Option (List ByteArray × Bool) := (impl_isSet.f k l0).bind fun b => if b = true then ((impl_isSet.f k l1).bind fun b2 => if b2 = true then (if l0.length ≤ 1048576 then (if l1.length ≤ 1048576 then impl_SetOf.f (l0 ++ l1) else none) else none) else some ([], false)) else some ([], false)
theorem impl_JoinSets.mono : ∀ a0 a1 k, LeO (impl_JoinSets.f k a0 a1) (impl_JoinSets.f (k + 1) a0 a1) := by
  intro a0 a1 k
  unfold impl_JoinSets.f
  refine LeO.bind (impl_isSet.mono _ _) (fun b => ?_)
  cases b with
  | false => exact LeO.refl _
  | true => exact LeO.bind (impl_isSet.mono _ _) (fun _ => LeO.refl _)
set_option maxRecDepth 100000 in
set_option maxHeartbeats 4000000 in
theorem impl_JoinSets.calls (k : Nat) (A0 : Option Addr) (c0 : Nat) (l0 : List ByteArray) (A1 : Option Addr) (c1 : Nat) (l1 : List ByteArray) (r1 : List ByteArray) (r2 : Bool) (w : World) (hr0 : Kd.C Kd.string w A0 l0.length l0) (hc0 : l0.length ≤ c0) (hr1 : Kd.C Kd.string w A1 l1.length l1) (hc1 : l1.length ≤ c1) (h : impl_JoinSets.f k l0 l1 = some (r1, r2)) :
    Calls Tryd.prog 40 #[.slice A0 l0.length c0, .slice A1 l1.length c1] w fun e w' => ∃ v0_ : Value, e = .returned (.tuple #[v0_, .bool r2]) ∧ Kd.R Kd.string 9 w' w.heap.size (fun _ => True) v0_ r1 ∧ Below w.heap.size w w' := by
  unfold impl_JoinSets.f at h
  obtain ⟨b, hb, h⟩ := Option.bind_eq_some_iff.mp h
  have hset := fun (W : World) (hW : Below w.heap.size w W) => impl_isSet.calls k A0 c0 l0 b W (Kd.C_below hr0 hW) hc0 hb
  have HSET := Aside0.mk hset
  clear hb hset
  cases b with
  | false =>
    rw [if_neg (by decide)] at h
    obtain ⟨rfl, rfl⟩ := Prod.mk.inj (Option.some.inj h)
    clear h hr0 hc0 hr1 hc1
    go_enter Tryd.func40, Tryd.ntmps40
    go_wp2_with (go_at_call 44; refine (HSET.out _ (Below.refl _ _)).mono ?_; rintro e w1 ⟨rfl, hb1⟩)
    go_ret2
    exact ⟨_, rfl, Kd.R_nil _ _ _ _ _, hb1⟩
  | true =>
    rw [if_pos rfl] at h
    obtain ⟨b2, hb2, h⟩ := Option.bind_eq_some_iff.mp h
    have hset2 := fun (W : World) (hW : Below w.heap.size w W) => impl_isSet.calls k A1 c1 l1 b2 W (Kd.C_below hr1 hW) hc1 hb2
    have HSET2 := Aside0.mk hset2
    clear hb2 hset2
    cases b2 with
    | false =>
      rw [if_neg (by decide)] at h
      obtain ⟨rfl, rfl⟩ := Prod.mk.inj (Option.some.inj h)
      clear h hr0 hc0 hr1 hc1
      go_enter Tryd.func40, Tryd.ntmps40
      go_wp2_with fail
      go_at_call 44
      refine (HSET.out _ (Below.refl _ _)).mono ?_
      rintro e w1 ⟨rfl, hb1⟩
      have HB1 := Aside0.mk hb1
      clear hb1
      go_wp2_with (go_at_call 44; refine (HSET2.out _ HB1.out).mono ?_; rintro e w2 ⟨rfl, hb2⟩; have HB2 := Aside0.mk hb2; clear hb2)
      go_ret2
      exact ⟨_, rfl, Kd.R_nil _ _ _ _ _, HB1.out.trans (HB2.out.mono HB1.out.size)⟩
    | true =>
      rw [if_pos rfl] at h
      by_cases hl0 : l0.length ≤ 1048576
      · rw [if_pos hl0] at h
        by_cases hl1 : l1.length ≤ 1048576
        · rw [if_pos hl1] at h
          have hcat := fun (W : World) (hW : Below w.heap.size w W) => concat2_calls W.heap.size A0 A1 c0 c1 l0 l1 (W.alloc (.cells #[.slice A0 l0.length c0, .slice A1 l1.length c1] 22)) (Kd.C_alloc (Kd.C_below hr0 hW) _) (Kd.C_alloc (Kd.C_below hr1 hW) _) (by simp) (cell_alloc W _ _ 0) (cell_alloc W _ _ 1) hl0 hl1
          obtain ⟨L, hL⟩ : ∃ L, l0 ++ l1 = L := ⟨_, rfl⟩
          rw [hL] at hcat h
          have HS := Aside0.mk h
          have HCAT := Aside0.mk hcat
          clear h hcat hL hr0 hc0 hr1 hc1 hl0 hl1
          go_enter Tryd.func40, Tryd.ntmps40
          go_wp2_with fail
          go_at_call 44
          refine (HSET.out _ (Below.refl _ _)).mono ?_
          rintro e w1 ⟨rfl, hb1⟩
          have HB1 := Aside0.mk hb1
          clear hb1
          go_wp2_with fail
          go_at_call 44
          refine (HSET2.out _ HB1.out).mono ?_
          rintro e w2 ⟨rfl, hb2⟩
          have HB2 := Aside0.mk (HB1.out.trans (hb2.mono HB1.out.size))
          clear hb2
          go_wp2_with (first | (go_at_call 68; refine (HCAT.out _ HB2.out).mono ?_; rintro e w3 ⟨v3, rfl, hR3, hb3⟩; obtain ⟨A3, c3, e3, hc3, hC3⟩ := Kd.R_reads hR3; subst e3; have HC3 := Aside0.mk hC3; have HCC3 := Aside0.mk hc3; have HB3 := Aside0.mk ((below_alloc HB2.out _).trans (hb3.mono (below_alloc HB2.out _).size)); clear hR3 hc3 hC3 hb3) | (go_at_call 30; refine (impl_SetOf.calls A3 c3 L r1 r2 _ HC3.out HCC3.out HS.out).mono ?_; rintro e w4 ⟨v4, rfl, hR4, hb4⟩; have HR4 := Aside0.mk hR4; have HB4 := Aside0.mk hb4; clear hR4 hb4))
          go_ret2
          exact ⟨_, rfl, Kd.R_lower HR4.out HB3.out.size, HB3.out.trans (HB4.out.mono HB3.out.size)⟩
        · rw [if_neg hl1] at h; cases h
      · rw [if_neg hl0] at h; cases h

end Go.Proofs.YtkphnakihjiebaaDoor.X

-- WRITTEN by xprint.py of this repo: the kit's print.py with contracts given by hand (given.py). Lean checks it.
import Derived.Test.YtgokegndboknfaaXx0
import Derived.Test.YtgokegndboknfaaXx4
import Derived.Test.YtgokegndboknfaaXx6
import Derived.Test.YtgokegndboknfaaXx7
namespace Go.Proofs.Ytgokegndboknfaa.X
open Go.RowKit Go.Proofs.YtgokegndboknfaaW.PrintWords Go.Proofs.YtgokegndboknfaaW.PrintLast Go.Proofs.YtgokegndboknfaaW.PrintMore
attribute [local go_sem] max2_int min2_int max_two min_two max_three min_three max_four min_four   -- for this text's walks alone
set_option linter.unusedVariables false
set_option linter.unusedSimpArgs false

/-! ### GIVEN impl_ordered: function 17 -/
theorem own_put {α : Type} [Inhabited α] {enc : α → Value} {w : World} {base e g n cap : Nat} {xs : List Value} (h : w.ownsRow base e 1 (.slice (some ⟨g, 0, none⟩) n cap) n xs) (d : Array α) (hd : d.size = n) (m : Nat) (hm : m ≤ n) (q : Nat) :
    (Sort.putRow enc (Sort.ahead w q) g 0 d).ownsRow base e 1 (.slice (some ⟨g, 0, none⟩) m cap) m ((d.toList.take m).map enc) := by
  obtain ⟨_, h⟩ := h
  rcases h with ⟨h, _⟩ | ⟨g', cap', cur, he, hb, hh, hn, hcap, hsz, ht⟩
  · cases h
  · cases he
    have hg : (Sort.putRow enc (Sort.ahead w q) g 0 d).heap[g]? = some (.cells (Sort.putCells enc 0 d cur) e (0, 0)) := by
      simp only [Sort.putRow, Sort.mapBlock, Sort.ahead, Array.getElem?_modify, if_true, hh, Option.map_some, Sort.onCells]
    have hl : ((d.toList.take m).map enc).length = m := by simp; omega
    refine ⟨by rw [hl, Nat.mul_one], .inr ⟨g, cap, _, rfl, hb, hg, by omega, hcap, by simp [Sort.putCells, hsz], ?_⟩⟩
    rw [Nat.mul_one]
    apply List.ext_getElem?
    intro j
    rw [List.getElem?_take]
    by_cases hj : j < m
    · rw [if_pos hj, List.getElem?_map, List.getElem?_take, if_pos hj, Array.getElem?_toList]
      have hj2 : j < cur.size := by rw [hsz]; omega
      have hj3 : j < d.size := by omega
      simp only [Sort.putCells, Array.getElem?_mapIdx]
      rw [Array.getElem?_eq_getElem hj2, Array.getElem?_toList, Array.getElem?_eq_getElem hj3]
      simp only [Option.map_some]
      rw [if_pos ⟨by omega, by omega⟩, Nat.sub_zero, getElem!_pos d j hj3]
    · rw [if_neg hj, List.getElem?_eq_none (by omega)]
theorem own_holds {α : Type} [Inhabited α] {enc : α → Value} {w : World} {base e g n cap : Nat} {xs : List α} (h : w.ownsRow base e 1 (.slice (some ⟨g, 0, none⟩) n cap) n (xs.map enc)) : Sort.Holds enc w g 0 xs.toArray := by
  intro j hj
  have hj' : j < xs.length := by simpa using hj
  have hn : xs.length = n := by have := h.1; simpa using this
  obtain ⟨_, h⟩ := h
  rcases h with ⟨h, _⟩ | ⟨g', cap', cur, he, hb, hh, hn', hcap, hsz, ht⟩
  · cases h
  · cases he
    have hc : cur[j]? = some (enc xs[j]) := by
      have e1 : (cur.toList.take (n * 1))[j]? = some (enc xs[j]) := by rw [ht, List.getElem?_map, List.getElem?_eq_getElem hj']; rfl
      rw [List.getElem?_take, if_pos (by omega), Array.getElem?_toList] at e1
      exact e1
    refine ⟨?_, ?_⟩
    · simp only [World.cell?, hh, Nat.zero_add]
      rw [getElem!_pos xs.toArray j (by simpa using hj')]
      simpa using hc
    · simp [World.frozen?, hh]
theorem below_putRow {α : Type} [Inhabited α] {enc : α → Value} {B : Nat} {w0 w : World} (h : Below B w0 w) {g : Nat} (hg : B ≤ g) (o : Nat) (d : Array α) (q : Nat) : Below B w0 (Sort.putRow enc (Sort.ahead w q) g o d) :=
  ⟨h.os, h.tape, h.output, by rw [Sort.size_putRow]; exact h.size, fun j hj => by
    have : (Sort.putRow enc (Sort.ahead w q) g o d).heap[j]? = w.heap[j]? := by
      simp only [Sort.putRow, Sort.mapBlock, Sort.ahead, Array.getElem?_modify]
      rw [if_neg (by omega)]
    rw [this]
    exact h.block j hj⟩

def cf1 (x y : List UInt8) : Int := if (x.length : Int) < (y.length : Int) then -1 else if (x.length : Int) > (y.length : Int) then 1 else 0
def cfW (x y : List UInt8) : Int := if cf1 x y = 0 then Lib.compareBytes x y else cf1 x y
theorem cmp1 (x y : List UInt8) : cmp_Compare_int.f (x.length : Int) (y.length : Int) = some (cf1 x y) := by
  unfold cmp_Compare_int.f cmp_isNaN_int.f cf1
  simp only [bne_self_eq_false, Option.bind_some]
  rw [if_neg (by decide), if_neg (by decide)]
  split
  · rfl
  · split <;> rfl
theorem cmpOr2 (a b : Int) : cmp_Or_int.f 5 [a, b] = some (if a = 0 then b else a) := by
  have w1 : wrap64 (0 + 1) = 1 := by unfold wrap64; omega
  have w2 : wrap64 (1 + 1) = 2 := by unfold wrap64; omega
  have r0 : rd [a, b] 0 = a := rfl
  have r1 : rd [a, b] 1 = b := rfl
  have hl : ((([a, b] : List Int).length : Nat) : Int) = 2 := rfl
  unfold cmp_Or_int.f
  rw [hl]
  rw [cmp_Or_int.l0, if_pos (by decide), if_pos (by decide), hl, if_pos (by decide), r0, w1]
  by_cases h : a = 0
  · rw [if_pos h, if_pos h, cmp_Or_int.l0, if_pos (by decide), if_pos (by decide), hl, if_pos (by decide), r1, w2]
    by_cases h2 : b = 0
    · rw [if_pos h2, cmp_Or_int.l0, if_neg (by decide), h2]
    · rw [if_neg h2]
  · rw [if_neg h, if_neg h]
theorem cmpB_lt : ∀ x y : List UInt8, Lib.compareBytes x y < 0 ↔ x < y
  | [], [] => by simp [Lib.compareBytes]
  | [], _ :: _ => by simp [Lib.compareBytes]
  | _ :: _, [] => by simp [Lib.compareBytes]
  | a :: x, b :: y => by
    rw [Lib.compareBytes, List.cons_lt_cons_iff]
    by_cases h1 : a < b
    · simp [h1]
    · by_cases h2 : b < a
      · have h3 : ¬ a = b := by rintro rfl; exact h1 h2
        simp [h1, h2, h3]
      · have h3 : a = b := by
          rw [UInt8.lt_iff_toNat_lt] at h1 h2
          exact UInt8.toNat_inj.1 (by omega)
        simp [h3, cmpB_lt x y]
theorem cfW_lt (x y : List UInt8) : cfW x y < 0 ↔ x.length < y.length ∨ (x.length = y.length ∧ x < y) := by
  unfold cfW cf1
  by_cases h1 : x.length < y.length
  · rw [if_pos (show (x.length : Int) < y.length by omega)]
    simp [h1]
  · rw [if_neg (show ¬ (x.length : Int) < y.length by omega)]
    by_cases h2 : y.length < x.length
    · rw [if_pos (show (x.length : Int) > y.length by omega)]
      simp
      omega
    · rw [if_neg (show ¬ (x.length : Int) > y.length by omega), if_pos rfl, cmpB_lt]
      have : x.length = y.length := by omega
      simp [this]
theorem swoW : Go.Sort.SWO (ltOf cfW) where
  irrefl x := by
    unfold ltOf
    rw [decide_eq_false_iff_not, cfW_lt]
    rintro (h | ⟨_, h⟩)
    · omega
    · exact List.lt_irrefl x h
  trans x y z h1 h2 := by
    unfold ltOf at *
    rw [decide_eq_true_eq, cfW_lt] at *
    rcases h1 with h1 | ⟨e1, h1⟩ <;> rcases h2 with h2 | ⟨e2, h2⟩
    · left; omega
    · left; omega
    · left; omega
    · right; exact ⟨by omega, List.lt_trans h1 h2⟩
  ntrans x y z h1 h2 := by
    unfold ltOf at *
    rw [decide_eq_false_iff_not, cfW_lt] at *
    rintro (h | ⟨e, h⟩)
    · apply h1; by_cases k : x.length < y.length
      · exact .inl k
      · exact absurd (.inl (by omega)) h2
    · by_cases k : x.length = y.length
      · have e2 : y.length = z.length := by omega
        have n1 : ¬ x < y := fun q => h1 (.inr ⟨k, q⟩)
        have n2 : ¬ y < z := fun q => h2 (.inr ⟨e2, q⟩)
        exact (List.not_lt.1 n1 |> fun q1 => List.not_lt.1 n2 |> fun q2 => List.not_lt.2 (List.le_trans q2 q1)) h
      · by_cases k2 : x.length < y.length
        · exact h1 (.inl k2)
        · exact h2 (.inl (by omega))
theorem totW (x y : List UInt8) (h1 : ltOf cfW x y = false) (h2 : ltOf cfW y x = false) : x = y := by
  unfold ltOf at *
  rw [decide_eq_false_iff_not, cfW_lt] at *
  have e : x.length = y.length := by
    by_cases k : x.length < y.length
    · exact absurd (.inl k) h1
    · by_cases k2 : y.length < x.length
      · exact absurd (.inl k2) h2
      · omega
  have n1 : ¬ x < y := fun q => h1 (.inr ⟨e, q⟩)
  have n2 : ¬ y < x := fun q => h2 (.inr ⟨e.symm, q⟩)
  exact List.le_antisymm (List.not_lt.1 n2) (List.not_lt.1 n1)

section
open Go.Shelf Go.Maps Go.Sort
attribute [local go_sem] Oper.semAt_some
set_option maxRecDepth 100000 in
set_option maxHeartbeats 2000000 in
theorem vals1_in (F : Fence) (n : Nat) (h7 : F.fn 41) (hro : F.round = none) (hn : 1 ≤ n) (l Bs cap : Nat) (A0 : Option Addr) (l0 : List ByteArray) (hreach : l0.length ≤ 8796093022208) (w : World) (hC : Kd.C Kd.string w A0 l0.length l0) (J : List (List UInt8) → World → Prop)
    (hJb : ∀ pre W, J pre W → Below w.heap.size w W)
    (hY : ∀ pre x W, J pre W → pre.length < l0.length → YieldAt F (n - 1) Try.prog l #[encStr x] W fun e W' => e = .returned (.bool true) ∧ J (pre ++ [x]) W' ∧ KeepsWalks W W')
    (W : World) (hBs : W.cell? ⟨Bs, 0, none⟩ = some (.slice A0 l0.length cap)) (h0 : J [] W) :
    CallsIn F n Try.prog 41 #[.func (.yield l) #[] #[], .pointer (some ⟨Bs, 0, none⟩)] W fun e W' => (∃ v, e = .returned v) ∧ J (l0.map (·.data.toList)) W' := by
  have HC := Aside0.mk hC
  clear hC
  refine callsIn_of_wp Try.func41 rfl h7 ?_ hro
  simp only [Try.ntmps41, List.size_toArray, List.length_cons, List.length_nil, Nat.reduceAdd, Nat.reduceSub, Array.replicate_succ, Array.replicate_zero, List.push_toArray, List.append_toArray, List.nil_append, List.cons_append]
  gi_wp2
  gi_loopw [7] (fun i wr => ∃ k : Nat, k ≤ l0.length ∧ i = .int .i64 k ∧ J ((l0.map (·.data.toList)).take k) wr)
    (fun i _ => l0.length - (intOf i).toNat)
  case atStart => exact ⟨0, Nat.zero_le _, rfl, h0⟩
  case round =>
    obtain ⟨k, hk, rfl, hJs⟩ := hrel
    by_cases hlt : k < l0.length
    · have hltz : (k : Int) < (l0.length : Int) := by omega
      obtain ⟨ad, e1, hcell⟩ := Kd.at_string (Kd.C_below HC.out (hJb _ _ hJs)) k (by omega) hltz
      have hrd : rdOf ByteArray.empty l0 (k : Int) = l0[k] := by simp [rdOf, List.getD_eq_getElem?_getD, hlt]
      rw [hrd] at hcell
      clear hrd
      simp only [Int.toNat_natCast] at hcell
      subst e1
      have hkz : k < (l0.map (·.data.toList)).length := by rw [List.length_map]; exact hlt
      have hnext : (l0.map (·.data.toList)).take (k + 1) = (l0.map (·.data.toList)).take k ++ [l0[k].data.toList] := by rw [List.take_succ_eq_append_getElem hkz, List.getElem_map]
      have HN := Aside0.mk hnext
      clear hnext
      obtain ⟨fn, tmps, assign, body, hy, hR⟩ := hY _ l0[k].data.toList wr hJs (by rw [List.length_take]; omega)
      have hy2 := hy
      gi_wp2
      refine hR.mono ?_
      rintro e W3 ⟨rfl, hJ3, hk3⟩
      gi_wp2
      go_roundw
      case rel => exact ⟨k + 1, by omega, by simp, by rw [HN.out]; exact hJ3⟩
      case measure => simp [intOf]; omega
    · obtain rfl : k = l0.length := by omega
      gi_wp2
      go_end0
      exact ⟨⟨_, rfl⟩, by rwa [List.take_of_length_le (by simp)] at hJs⟩
def seqRen : Go.Shelf.Ren := ⟨fun | 11 => 58 | n => n, fun | 0 => 0 | 24 => 31 | 26 => 9 | 28 => 46 | 33 => 56 | 4 => 4 | 3 => 3 | n => n, fun n => n⟩
theorem laysAp : Go.Proofs.SlLaysZ.n11 Try.prog seqRen := {
  mixed := by kernel_rfl
  f11 := ⟨Try.f58.name, by decide, Try.func58.trans (congrArg some (by kernel_rfl))⟩
  t0 := Try.underlying0
  a0 := Try.isAgg0
  z0 := Try.sizeOf0
  v0 := Try.zeroValue0
  t24 := Try.underlying31
  a24 := Try.isAgg31
  z24 := Try.sizeOf31
  v24 := Try.zeroValue31
  t26 := Try.underlying9
  a26 := Try.isAgg9
  z26 := Try.sizeOf9
  v26 := Try.zeroValue9
  t28 := Try.underlying46
  a28 := Try.isAgg46
  z28 := Try.sizeOf46
  v28 := Try.zeroValue46
  i26 := by kernel_rfl }

set_option maxRecDepth 100000 in
set_option maxHeartbeats 4000000 in
/-- AppendSeq to nil, against an iterator value that gives zs to whatever keeps what lay. -/
theorem apSeq_in (F : Fence) (n : Nat) (h11 : F.fn 58) (hro : F.round = none) (hn : 2 ≤ n) (g : Nat) (lb : Array Value) (hFg : F.fn g) (eg : ∀ args w, (callFunc g args).run Try.prog w = .ok (.enter g args) w)
    (zs : List (List UInt8)) (N : Nat) (hN : N ≤ maxLen) (hNb : N * 16 ≤ 140737488355328) (w : World)
    (hseq : ∀ (l : Nat) (J : List (List UInt8) → World → Prop) (W : World), Below w.heap.size w W → (∀ pre W1, J pre W1 → Below w.heap.size w W1) →
      (∀ pre x W1, J pre W1 → pre.length < N → YieldAt F (n - 1 - 1) Try.prog l #[encStr x] W1 fun e W' => e = .returned (.bool true) ∧ J (pre ++ [x]) W' ∧ KeepsWalks W1 W') → J [] W →
      CallsIn F (n - 1) Try.prog g (#[.func (.yield l) #[] #[]] ++ lb) W fun e W' => (∃ v, e = .returned v) ∧ J zs W') :
    CallsIn F n Try.prog 58 #[.slice none 0 0, .func (.func g) #[] lb] w fun e w' => ∃ v : Value, e = .returned v ∧ w'.ownsRow w.heap.size 9 1 v zs.length (zs.map encStr) ∧ (v = .slice none 0 0 ↔ zs = []) ∧ Below w.heap.size w w' := by
  have L := laysAp
  have h1 : 1 ≤ n := by omega
  have mixed := L.mixed; have t0 := L.t0; have a0 := L.a0; have z0 := L.z0; have v0 := L.v0; have t24 := L.t24; have a24 := L.a24; have z24 := L.z24; have v24 := L.v24; have t26 := L.t26; have a26 := L.a26; have z26 := L.z26; have v26 := L.v26; have t28 := L.t28; have a28 := L.a28; have z28 := L.z28; have v28 := L.v28
  have hne : seqRen.t 24 ≠ seqRen.t 26 := fun e => by have h := L.t24; rw [e, L.t26] at h; cases h
  have u0 := run_underlying L.t0; have u24 := run_underlying L.t24; have u26 := run_underlying L.t26; have u28 := run_underlying L.t28
  obtain ⟨_, _, FG⟩ := L.f11
  refine callsIn_of_wp_marks FG rfl h11 ?_ hro
  simp only [SlBodyZ.n11_ntmps seqRen, List.size_toArray, List.length_cons, List.length_nil, Nat.reduceAdd, Nat.reduceSub, Array.replicate_succ, Array.replicate_zero, List.push_toArray, List.append_toArray, List.nil_append, List.cons_append]
  gi_wp2
  refine wpIn_rangeFunc ?_
  intro fn hfn
  rw [hro]
  obtain ⟨W0, hW0⟩ : ∃ W0, w.alloc (.cells #[.slice none 0 0] (seqRen.t 24)) = W0 := ⟨_, rfl⟩
  have hs0 : W0.heap.size = w.heap.size + 1 := by rw [← hW0]; simp
  have hv0 : W0.heap[w.heap.size]? = some (.cells #[.slice none 0 0] (seqRen.t 24) (0, 0)) := by rw [← hW0]; exact World.alloc_heap_new w _
  have hb0 : Below w.heap.size w W0 := by rw [← hW0]; exact (Below.refl _ w).alloc (Nat.le_refl _) _
  rw [hW0]
  obtain ⟨W1, hW1⟩ : ∃ W1, (W0.alloc (.deferred (some []))).alloc (.loop (AnyZ.apRec seqRen fn (.func (.func g) #[] lb) w.heap.size W0.heap.size .ready none)) = W1 := ⟨_, rfl⟩
  have hold : ∀ k, k < W0.heap.size → W1.heap[k]? = W0.heap[k]? := fun k hk => by
    rw [← hW1]; exact (Below.heap_alloc _ _ k (by simp; omega)).trans (Below.heap_alloc _ _ k hk)
  have hb1 : Below w.heap.size w W1 := by rw [← hW1]; exact (hb0.alloc hb0.size _).alloc (by have := hb0.size; simp; omega) _
  have hM : AnyZ.ApAt seqRen w fn (.func (.func g) #[] lb) w.heap.size (W0.heap.size + 1) W0.heap.size [] W1 :=
    ⟨⟨_, (hold w.heap.size (by omega)).trans hv0, ⟨rfl, .inl ⟨rfl, rfl⟩⟩, by simp⟩,
     by rw [← hW1]; have := World.alloc_heap_new (W0.alloc (.deferred (some []))) (.loop (AnyZ.apRec seqRen fn (.func (.func g) #[] lb) w.heap.size W0.heap.size .ready none)); rwa [World.size_alloc] at this,
     by rw [← hW1]; exact (Below.heap_alloc _ _ _ (by simp)).trans (World.alloc_heap_new W0 _), hb1⟩
  refine ⟨W0.heap.size + 1, [{ target := .collected W0.heap.size, args := #[] }], W1, { target := .fn (.func g) lb, args := #[.func (.yield (W0.heap.size + 1)) #[] #[]] }, W1, g,
    #[.func (.yield (W0.heap.size + 1)) #[] #[]] ++ lb, W1, ?_, ?_, ?_, ?_, fun _ => h1, ?_⟩
  · rw [← hW1]; exact run_enterLoop_outer _ _ _ _ _
  · simp [resolve, go_sem]
  · intro f' hf'; simp [Target.leads] at hf'; subst hf'; exact hFg
  · simp [invoke, go_sem, eg]
  · refine (hseq (W0.heap.size + 1) (AnyZ.ApAt seqRen w fn (.func (.func g) #[] lb) w.heap.size (W0.heap.size + 1) W0.heap.size) W1 hb1 (fun _ _ h => h.below)
      (fun pre x W hJ hl => AnyZ.apYield laysAp F (n - 1 - 1) w fn hfn _ w.heap.size (W0.heap.size + 1) W0.heap.size (by omega) (by omega) (by omega) (Nat.le_refl _) (by omega) N hN hNb pre x W hJ hl) hM).mono ?_
    rintro e W2 ⟨⟨v0, rfl⟩, h2⟩
    obtain ⟨v, hv, hrow, hnil⟩ := h2.box
    have hend := run_endLoop (P := Try.prog) h2.L (by simp [AnyZ.apRec])
    obtain ⟨W3, hW3⟩ : ∃ W3, W2.putObj (W0.heap.size + 1) (.loop { AnyZ.apRec seqRen fn (.func (.func g) #[] lb) w.heap.size W0.heap.size .ready none with state := .exhausted }) = W3 := ⟨_, rfl⟩
    rw [hW3] at hend
    have hg3 : W2.grownBy W3 (some (W0.heap.size + 1)) := by rw [← hW3]; exact grownBy_putObj_a _ _ _
    have hv3 : W3.heap[w.heap.size]? = some (.cells #[v] (seqRen.t 24) (0, 0)) := by rw [← hW3]; exact (World.putObj_heap_other (by omega)).trans hv
    have hK3 : W3.heap[W0.heap.size]? = some (.deferred (some [])) := by rw [← hW3]; exact (World.putObj_heap_other (by omega)).trans h2.K
    have hrow3 := hrow.kept hg3 (ownsRow_ne_a hrow h2.L (fun cur e => by first | cases e | exact hne (Obj.cells.inj e).2.1))
    have hb3 : Below w.heap.size w W3 := h2.below.grown hg3 h2.below.size (fun k e => by cases e; omega)
    obtain ⟨hc3, hf3⟩ := cell_of_box_a hv3
    clear hW3
    refine ⟨none, W3, hend, ?_⟩
    gi_wp2
    rw [← hs0]
    refine ⟨by simp, .inl ⟨_, _, rfl, run_takeDeferred hK3, ?_⟩⟩
    exact ⟨_, results_tmp rfl _ _ _, v, rfl, hrow3.kept (grownBy_putObj_a _ _ _) (ownsRow_ne_a hrow3 hK3 (fun cur e => by first | cases e | exact hne (Obj.cells.inj e).2.1)), hnil, hb3.grown (grownBy_putObj_a _ _ _) hb3.size (fun k e => by cases e; omega)⟩

theorem vals_calls (a : Option Addr) (len cap : Nat) (w : World) :
    Calls Try.prog 29 #[.slice a len cap] w fun e w' => e = .returned (.func (.func 41) #[] #[.pointer (some ⟨w.heap.size, 0, none⟩)]) ∧ w' = w.alloc (.cells #[.slice a len cap] 31) := by
  go_enter Try.func29, Try.ntmps29
  go_wp2
  go_ret
  exact ⟨rfl, rfl⟩
theorem collect_calls (B cap : Nat) (A0 : Option Addr) (l0 : List ByteArray) (hreach : l0.length ≤ 8796093022207) (w : World) (hC : Kd.C Kd.string w A0 l0.length l0) (hB : B < w.heap.size)
    (hBs : w.cell? ⟨B, 0, none⟩ = some (.slice A0 l0.length cap)) :
    Calls Try.prog 39 #[.func (.func 41) #[] #[.pointer (some ⟨B, 0, none⟩)]] w fun e w' => ∃ v : Value, e = .returned v ∧ w'.ownsRow w.heap.size 9 1 v (l0.map (·.data.toList)).length ((l0.map (·.data.toList)).map encStr) ∧ (v = .slice none 0 0 ↔ l0.map (·.data.toList) = []) ∧ Below w.heap.size w w' := by
  have eg := enters_of Try.func41 (by kernel_rfl) rfl
  have hap := fun (w2 : World) (hw : Below w.heap.size w w2) => callsIn_wide.1 (apSeq_in Fence.wide 5 trivial rfl (by omega) 41 #[.pointer (some ⟨B, 0, none⟩)] trivial eg (l0.map fun x : ByteArray => x.data.toList) l0.length (by unfold maxLen; omega) (by omega) w2
    (fun l J W hW hJb hY h0 => vals1_in Fence.wide 4 trivial rfl (by omega) l B cap A0 l0 (by omega) w2 (Kd.C_below hC hw) J hJb hY W
      ((hW.cell (p := ⟨B, 0, none⟩) (Nat.lt_of_lt_of_le hB hw.size)).trans ((hw.cell (p := ⟨B, 0, none⟩) hB).trans hBs)) h0))
  clear hBs hC
  go_enter Try.func39, Try.ntmps39
  go_wp2_with (go_at_call 58; refine (hap _ (Below.refl _ _)).mono ?_; rintro e w' ⟨v, rfl, hrow, hnil, hbel⟩)
  go_ret
  exact ⟨v, rfl, hrow, hnil, hbel⟩
end
theorem cell_alloc (W : World) (c : Array Value) (e j : Nat) : (W.alloc (.cells c e)).cell? ⟨W.heap.size, j, none⟩ = c[j]? := by
  unfold World.cell?
  rw [show (W.alloc (.cells c e)).heap[(⟨W.heap.size, j, none⟩ : Addr).block]? = some (.cells c e) from World.alloc_heap_new W _]
  rfl
set_option maxHeartbeats 4000000 in
theorem cmpGrow (k : Nat) (a0 a1 : ByteArray) (x y r : Int) (w : World) (h1 : cmp_Compare_int.f (a0.size : Int) (a1.size : Int) = some x) (h2 : strings_Compare.f a0 a1 = some y) (h3 : cmp_Or_int.f k [x, y] = some r) :
    Calls Try.prog 30 #[.string a0, .string a1] w fun e w' => e = .returned (.int .i64 r) ∧ ∃ q os', w' = Go.Sort.grow (w.drewN q) os' := by
  have H1 := Aside0.mk h1
  have H2 := Aside0.mk h2
  have H3 := Aside0.mk h3
  clear h1 h2 h3
  have hC : ∀ W : World, Kd.C (Kd.int .i64) (W.alloc (.cells #[.int .i64 x, .int .i64 y] 3)) (some ⟨W.heap.size, 0, none⟩) 2 [x, y] := fun W =>
    Kd.C_of_reads (d := (0 : Int)) (h1 := fun _ => rfl) ⟨rfl, by omega, fun _ => ⟨_, rfl, fun j hj => by
      rcases (show j = 0 ∨ j = 1 by omega) with rfl | rfl 
      · exact cell_alloc W _ 3 0
      · exact cell_alloc W _ 3 1⟩⟩
  go_enter Try.func30, Try.ntmps30
  go_wp2_with (first | (go_at_call 43; with_reducible refine (cmp_Compare_int.calls (a0.size : Int) (a1.size : Int) x _ H1.out).mono ?_; rintro e w' ⟨rfl, ⟨nd, rfl⟩⟩) | (go_at_call 20; with_reducible refine (strings_Compare.calls a0 a1 y _ H2.out).mono ?_; rintro e w' ⟨rfl, ⟨nd2, rfl⟩⟩) | (go_at_call 42; refine (cmp_Or_int.calls k (some ⟨w.heap.size, 0, none⟩) 2 [x, y] r _ (hC (w.drewN (nd + nd2))) (Nat.le_refl _) H3.out).mono ?_; rintro e w' ⟨rfl, ⟨nd3, rfl⟩⟩))
  go_ret
  refine ⟨rfl, nd + nd2 + nd3, #[.cells #[.int .i64 x, .int .i64 y] 3], ?_⟩
  simp [Go.Sort.grow, World.alloc, World.drewN, Nat.add_assoc]

theorem cmpLays (g n : Nat) (w : World) : CmpLays1 Try.prog 30 #[] encStr cfW g 0 n w := fun _ _ _ _ x y =>
  cmpGrow 5 ⟨x.toArray⟩ ⟨y.toArray⟩ (cf1 x y) (Lib.compareBytes x y) (cfW x y) _ (cmp1 x y) rfl (cmpOr2 _ _)

def sortW (zs : List (List UInt8)) : List (List UInt8) := zs.mergeSort fun x y => !(ltOf cfW) y x
theorem own_grow {w : World} {base e g m cap : Nat} {xs : List Value} (h : w.ownsRow base e 1 (.slice (some ⟨g, 0, none⟩) m cap) m xs) (os : Array Obj) : (Sort.grow w os).ownsRow base e 1 (.slice (some ⟨g, 0, none⟩) m cap) m xs := by
  obtain ⟨h0, h⟩ := h
  rcases h with ⟨h, _⟩ | ⟨g', cap', cur, he, hb, hh, hn, hcap, hsz, ht⟩
  · cases h
  · cases he
    exact ⟨h0, .inr ⟨g, cap, cur, rfl, hb, (Sort.heap_grow_old w os (Array.getElem?_eq_some_iff.1 hh).1).trans hh, hn, hcap, hsz, ht⟩⟩
theorem below_grow {B : Nat} {w0 w : World} (h : Below B w0 w) (hB : B ≤ w.heap.size) (os : Array Obj) : Below B w0 (Sort.grow w os) :=
  ⟨h.os, h.tape, h.output, by rw [Sort.size_grow]; exact Nat.le_trans h.size (Nat.le_add_right _ _), fun j hj => (Sort.heap_grow_old w os (by omega)).trans (h.block j hj)⟩
theorem own_cap {w : World} {base e g m cap : Nat} {xs : List Value} (h : w.ownsRow base e 1 (.slice (some ⟨g, 0, none⟩) m cap) m xs) : m ≤ cap := by
  obtain ⟨_, h⟩ := h
  rcases h with ⟨h, _⟩ | ⟨g', cap', cur, he, _, _, hn, _, _, _⟩
  · cases h
  · cases he; exact hn
theorem own_lower {w : World} {base b2 e g m cap : Nat} {xs : List Value} (h : w.ownsRow base e 1 (.slice (some ⟨g, 0, none⟩) m cap) m xs) (hb : b2 ≤ base) : w.ownsRow b2 e 1 (.slice (some ⟨g, 0, none⟩) m cap) m xs := by
  obtain ⟨h0, h⟩ := h
  rcases h with ⟨h, _⟩ | ⟨g', cap', cur, he, hbg, hh, hn, hcap, hsz, ht⟩
  · cases h
  · exact ⟨h0, .inr ⟨g', cap', cur, he, Nat.le_trans hb hbg, hh, hn, hcap, hsz, ht⟩⟩
theorem compact_short (zs : List (List UInt8)) : (Lib.compact zs).length ≤ zs.length := by
  unfold Lib.compact Lib.compactUpTo
  rw [List.length_map]
  exact Nat.le_trans (List.length_filter_le _ _) (by simp)
set_option maxRecDepth 100000 in
set_option maxHeartbeats 4000000 in
theorem sorted_calls (B cap : Nat) (A0 : Option Addr) (l0 : List ByteArray) (zs : List (List UInt8)) (hz : l0.map (·.data.toList) = zs) (len : Nat) (hlen : zs.length = len) (hpos : 0 < len) (hreach : l0.length ≤ 8796093022207) (w : World) (hC : Kd.C Kd.string w A0 l0.length l0) (hB : B < w.heap.size)
    (hBs : w.cell? ⟨B, 0, none⟩ = some (.slice A0 l0.length cap)) (S : Array (List UInt8)) (hS : (zs.mergeSort fun x y => !(ltOf cfW) y x).toArray = S) :
    Calls Try.prog 28 #[.func (.func 41) #[] #[.pointer (some ⟨B, 0, none⟩)], .func (.func 30) #[] #[]] w fun e w' => ∃ (g cap : Nat), e = .returned (.slice (some ⟨g, 0, none⟩) len cap) ∧ w'.ownsRow w.heap.size 9 1 (.slice (some ⟨g, 0, none⟩) len cap) len (S.toList.map encStr) ∧ w.heap.size ≤ g ∧ Below w.heap.size w w' := by
  have hcol := collect_calls B cap A0 l0 hreach w hC hB hBs
  rw [hz, hlen] at hcol
  have eg := enters_of Try.func30 (by kernel_rfl) rfl
  have hsz : S.size = len := by rw [← hS, List.size_toArray, List.length_mergeSort, hlen]
  have hlz : zs.length < 4611686018427387904 := by rw [← hz, List.length_map]; omega
  have hne : zs ≠ [] := by intro e; rw [e] at hlen; simp at hlen; omega
  have hsort := fun (g cap2 : Nat) (w1 : World) (hown : w1.ownsRow w.heap.size 9 1 (.slice (some ⟨g, 0, none⟩) len cap2) len (zs.map encStr)) (hgs : g < w1.heap.size) =>
    Try.slices_SortFunc_total_f40 encStr (fun _ => rfl) cfW swoW 30 #[] g 0 cap2 zs.toArray w1 eg (cmpLays g _ w1) (own_holds hown) hgs (by rw [List.size_toArray]; exact hlz) totW
  simp only [List.size_toArray, hlen, hS] at hsort
  have HS := Aside0.mk hsort
  have HN := Aside0.mk hne
  have HZ := Aside0.mk hsz
  have HCO := Aside0.mk hcol
  clear hBs hC hsort hcol hne hsz hS hlen hz hlz
  go_enter Try.func28, Try.ntmps28
  go_wp2_with fail
  go_at_call 39
  refine HCO.out.mono ?_
  rintro e w1 ⟨v, rfl, hrow, hnil, hbel⟩
  have HR := Aside0.mk hrow
  obtain ⟨_, hrow⟩ := hrow
  rcases hrow with ⟨hv, _⟩ | ⟨g, cap2, cur, rfl, hg, hh, hn, hcap, hsz, ht⟩
  · exact absurd (hnil.1 hv) HN.out
  have HG := Aside0.mk hg
  have HB := Aside0.mk hbel
  have HQ := Aside0.mk (HS.out g cap2 w1 HR.out (Array.getElem?_eq_some_iff.1 hh).1)
  clear hg hh hn hcap hsz ht hnil hbel
  go_wp2_with (go_at_call 40; refine HQ.out.mono ?_; rintro e w2 ⟨rfl, hw2⟩; have HW := Aside0.mk hw2; clear hw2)
  go_ret
  obtain ⟨n, os, rfl⟩ := HW.out
  refine ⟨g, cap2, rfl, ?_, HG.out, below_grow (below_putRow HB.out HG.out _ _ _) (by rw [Sort.size_putRow]; exact HB.out.size) os⟩
  have := own_put (enc := encStr) HR.out S HZ.out len (Nat.le_refl _) n
  rw [List.take_of_length_le (by rw [Array.length_toList, HZ.out]; exact Nat.le_refl _)] at this
  exact own_grow this os
set_option maxRecDepth 100000 in
set_option maxHeartbeats 4000000 in
theorem sorted_none (B cap : Nat) (A0 : Option Addr) (w : World) (hC : Kd.C Kd.string w A0 0 []) (hB : B < w.heap.size)
    (hBs : w.cell? ⟨B, 0, none⟩ = some (.slice A0 0 cap)) :
    Calls Try.prog 28 #[.func (.func 41) #[] #[.pointer (some ⟨B, 0, none⟩)], .func (.func 30) #[] #[]] w fun e w' => e = .returned (.slice none 0 0) ∧ Below w.heap.size w w' := by
  have hcol := collect_calls B cap A0 [] (by simp) w hC hB hBs
  have HCO := Aside0.mk hcol
  clear hBs hC hcol
  go_enter Try.func28, Try.ntmps28
  go_wp2_with fail
  go_at_call 39
  refine HCO.out.mono ?_
  rintro e w1 ⟨v, rfl, hrow, hnil, hbel⟩
  obtain rfl := hnil.2 rfl
  clear hrow hnil
  have HB := Aside0.mk hbel
  clear hbel
  go_wp2_with (go_at_call 40; refine (Try.slices_SortFunc_none_f40 (α := Nat) none 0 _ _).mono ?_; rintro e w2 ⟨rfl, rfl⟩)
  go_ret
  exact ⟨rfl, HB.out⟩
/-- The words of a list in order, each once. -/
def ordB (l : List ByteArray) : List ByteArray := (Lib.compact (sortW (l.map (·.data.toList)))).map fun x => ⟨x.toArray⟩
theorem ordB_nil : ordB [] = [] := by simp [ordB, sortW, Lib.compact, Lib.compactUpTo]
def impl_ordered.f (l0 : List ByteArray) : Option (List ByteArray) := if l0.length ≤ 8796093022207 then some (ordB l0) else none
set_option maxRecDepth 100000 in
set_option maxHeartbeats 4000000 in
theorem impl_ordered.calls (A0 : Option Addr) (c0 : Nat) (l0 : List ByteArray) (r : List ByteArray) (w : World) (hr0 : Kd.C Kd.string w A0 l0.length l0) (hc0 : l0.length ≤ c0) (h : impl_ordered.f l0 = some r) :
    Calls Try.prog 17 #[.slice A0 l0.length c0] w fun e w' => ∃ v0_ : Value, e = .returned (v0_) ∧ Kd.R Kd.string 9 w' w.heap.size (fun _ => True) v0_ r ∧ Below w.heap.size w w' := by
  unfold impl_ordered.f at h
  by_cases hl : l0.length ≤ 8796093022207
  · rw [if_pos hl] at h
    obtain rfl := Option.some.inj h
    clear h
    obtain ⟨W0, hW0⟩ : ∃ W0, w.alloc (.cells #[.slice A0 l0.length c0] 31) = W0 := ⟨_, rfl⟩
    have hb0 : Below w.heap.size w W0 := by rw [← hW0]; exact (Below.refl _ w).alloc (Nat.le_refl _) _
    have hs0 : w.heap.size < W0.heap.size := by rw [← hW0]; simp
    have hcell : W0.cell? ⟨w.heap.size, 0, none⟩ = some (.slice A0 l0.length c0) := by rw [← hW0]; exact cell_alloc w _ _ 0
    have hvals := vals_calls A0 l0.length c0 w
    rw [hW0] at hvals
    have hC0 := Kd.C_below hr0 hb0
    have HV := Aside0.mk hvals
    have HB0 := Aside0.mk hb0
    cases l0 with
    | nil =>
      have HS := Aside0.mk (sorted_none w.heap.size c0 A0 W0 hC0 hs0 hcell)
      clear hvals hr0 hc0 hC0 hcell hb0 hW0 hs0
      go_enter Try.func17, Try.ntmps17
      go_wp2_with (first | (go_at_call 29; refine HV.out.mono ?_; rintro e w1 ⟨rfl, rfl⟩) | (go_at_call 28; refine HS.out.mono ?_; rintro e w2 ⟨rfl, hb⟩; have HB := Aside0.mk hb; clear hb) | (go_at_call 31; refine (Try.slices_Compact_string_empty none 0 _).mono ?_; rintro e w3 ⟨rfl, rfl⟩))
      go_ret
      exact ⟨.slice none 0 0, rfl, by rw [ordB_nil]; exact Kd.R_nil _ _ _ _ _, HB0.out.trans (HB.out.mono HB0.out.size)⟩
    | cons x l =>
      have hpos : 0 < (x :: l).length := by simp
      generalize x :: l = L at *
      obtain ⟨zs, hz⟩ : ∃ zs, L.map (·.data.toList) = zs := ⟨_, rfl⟩
      have hzl : zs.length = L.length := by rw [← hz, List.length_map]
      obtain ⟨S, hS⟩ : ∃ S, (zs.mergeSort fun x y => !(ltOf cfW) y x).toArray = S := ⟨_, rfl⟩
      have hsz : S.toList.length = L.length := by rw [← hS, List.length_mergeSort, hzl]
      have HS := Aside0.mk (sorted_calls w.heap.size c0 A0 L zs hz L.length hzl hpos hl W0 hC0 hs0 hcell S hS)
      have hcm := fun (g cap : Nat) (w1 : World) (base : Nat) (hcap : L.length ≤ cap) (hown : w1.ownsRow base 9 1 (.slice (some ⟨g, 0, none⟩) L.length cap) L.length (S.toList.map encStr)) =>
        Try.slices_Compact_string g 0 cap S.toList w1 (own_holds hown) (by omega) (by omega)
      obtain ⟨m, hm⟩ : ∃ m, (Lib.compact S.toList).length = m := ⟨_, rfl⟩
      obtain ⟨D, hD⟩ : ∃ D, (Lib.compact S.toList ++ List.replicate (S.toList.length - (Lib.compact S.toList).length) ([] : List UInt8)).toArray = D := ⟨_, rfl⟩
      rw [hD, hm, hsz] at hcm
      have HCM := Aside0.mk hcm
      have HSZ := Aside0.mk hsz
      have HD := Aside0.mk hD
      have HM := Aside0.mk hm
      have hres : ordB L = (Lib.compact S.toList).map fun x => ⟨x.toArray⟩ := by rw [← hS, ← hz]; rfl
      have HRES := Aside0.mk hres
      clear hvals hr0 hc0 hC0 hcell hb0 hW0 hs0 hS hsz hcm hm hD hz hzl hres hl hpos
      go_enter Try.func17, Try.ntmps17
      go_wp2_with (first | (go_at_call 29; refine HV.out.mono ?_; rintro e w1 ⟨rfl, rfl⟩) | (go_at_call 28; refine HS.out.mono ?_; rintro e w2 ⟨g, cap, rfl, ho, hg, hb⟩; have HO := Aside0.mk ho; have HG := Aside0.mk hg; have HB := Aside0.mk hb; clear ho hg hb) | (go_at_call 31; refine (HCM.out g cap _ _ (own_cap HO.out) HO.out).mono ?_; rintro e w3 ⟨rfl, hq⟩; have HQ := Aside0.mk hq; clear hq))
      go_ret
      obtain ⟨q, rfl⟩ := HQ.out
      have hbel := below_putRow (enc := encStr) HB.out HG.out 0 D q
      refine ⟨_, rfl, ?_, HB0.out.trans (hbel.mono HB0.out.size)⟩
      have hml : m ≤ L.length := by rw [← HM.out, ← HSZ.out]; exact compact_short _
      have hDs : D.size = L.length := by rw [← HD.out, List.size_toArray, List.length_append, List.length_replicate, HM.out, HSZ.out]; omega
      have hfin := own_put (enc := encStr) (own_lower HO.out HB0.out.size) D hDs m hml q
      have hcells : (D.toList.take m).map encStr = (ordB L).map Value.string := by
        rw [HRES.out, ← HD.out, List.toList_toArray, List.take_append_of_le_length (by rw [HM.out]; exact Nat.le_refl _), List.take_of_length_le (by rw [HM.out]; exact Nat.le_refl _), List.map_map]
        rfl
      have hlen : (ordB L).length = m := by rw [HRES.out, List.length_map, HM.out]
      rw [hcells, ← hlen] at hfin
      rw [← hlen]
      exact Kd.R_of_own hfin (fun _ _ => trivial)
  · rw [if_neg hl] at h; cases h

end Go.Proofs.Ytgokegndboknfaa.X

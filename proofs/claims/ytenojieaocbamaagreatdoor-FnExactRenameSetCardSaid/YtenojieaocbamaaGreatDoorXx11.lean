-- WRITTEN by xprint.py of this repo: the kit's print.py with contracts given by hand (given.py). Lean checks it.
import Derived.Test.YtenojieaocbamaaGreatDoorXx0
import Derived.Test.YtenojieaocbamaaGreatDoorXx5
import Derived.Test.YtenojieaocbamaaGreatDoorXx9
namespace Go.Proofs.YtenojieaocbamaaGreatDoor.X
open Go.RowKit Go.Proofs.YtenojieaocbamaaGreatDoorW.PrintWords Go.Proofs.YtenojieaocbamaaGreatDoorW.PrintLast Go.Proofs.YtenojieaocbamaaGreatDoorW.PrintMore
attribute [local go_sem] max2_int min2_int max_two min_two max_three min_three max_four min_four   -- for this text's walks alone
set_option linter.unusedVariables false
set_option linter.unusedSimpArgs false

/-! ### GIVEN impl_RenameSet: function 8 -/
def encU8 (b : UInt8) : Value := .int .u8 b.toNat
theorem nums_bytes (l : List UInt8) : strOfNums (l.map fun b => (b.toNat : Int)) = ⟨l.toArray⟩ := by
  unfold strOfNums
  rw [List.map_map]
  have e : l.map ((fun n : Int => UInt8.ofNat n.toNat) ∘ fun b : UInt8 => (b.toNat : Int)) = l := by
    induction l with
    | nil => rfl
    | cons b l ih => rw [List.map_cons, ih]; simp
  rw [e]
theorem bytes_holds (w : World) (e : TypeId) (s : ByteArray) : Sort.Holds encU8 (Lib.bytesWorld w e s) w.heap.size 0 s.data.toList.toArray := by
  intro j hj
  have hj2 : j < s.size := by simpa using hj
  have hc := Lib.bytesWorld_cell w e s j hj2
  have hsz : s.size ≤ (Lib.bytesCells w e s).size := by simp [Lib.bytesCells]
  refine ⟨?_, ?_⟩
  · rw [Nat.zero_add, hc, getElem!_pos _ j hj]
    simp [encU8, List.getD_eq_getElem?_getD, hj2]
  · simp only [World.frozen?, Lib.bytesWorld_at_new]
    simp
    omega

/-- What a function value makes of each text of a row, in whatever world that keeps what lay. -/
def FnT (P : Program) (g : Nat) (cb : Array Value) (p : ByteArray → ByteArray) (l : List ByteArray) (w : World) : Prop :=
  ∀ (W : World) (x : ByteArray), x ∈ l → Below w.heap.size w W → Calls P g (#[.string x] ++ cb) W fun e w' => e = .returned (.string (p x)) ∧ Below W.heap.size W w'
theorem infoStr : (Tryz.prog.info? 9).map (fun i => (i.zero, i.size, i.bytes)) = some (some (.string ByteArray.empty), 1, 16) := by kernel_rfl
set_option maxHeartbeats 8000000 in
set_option maxRecDepth 100000 in
theorem impl_mapped.calls_g (g : Nat) (cb : Array Value) (p : ByteArray → ByteArray) (eg : ∀ args w, (callFunc g args).run Tryz.prog w = .ok (.enter g args) w) (A0 : Option Addr) (c0 : Nat) (l0 : List ByteArray) (w : World) (hr0 : Kd.C Kd.string w A0 l0.length l0) (hc0 : l0.length ≤ c0) (hlen : l0.length ≤ 1048576)
    (hp : FnT Tryz.prog g cb p l0 w) :
    Calls Tryz.prog 20 #[.slice A0 l0.length c0, .func (.func g) #[] cb] w fun e w' => ∃ v0_ : Value, e = .returned (v0_) ∧ Kd.R Kd.string 9 w' w.heap.size (fun _ => True) v0_ (ordB (l0.map p)) ∧ Below w.heap.size w w' := by
  have HR0 := Aside0.mk hr0
  have HC0 := Aside0.mk hc0
  have HP := Aside0.mk hp
  have HL := Aside0.mk hlen
  clear hr0 hc0 hp hlen
  have HB := Aside0.mk (Below.refl w.heap.size w)
  go_enter Tryz.func20, Tryz.ntmps20
  go_wp2_with (first | ((with_reducible refine gate_dst (N := 8) rfl ?_); refine Kd.R_lit Kd.string _ 9 ?hg (N := 8) ?hd (xs := ([] : List ByteArray)) (inner := []) (ok := fun _ => True) (okp := fun _ => True) ?hr ?hp (fun _ hk => hk) trivial (Below.refl _ _) (Nat.le_refl _) (by simp) ?_; (case hd => rfl); (case hg => rfl); (case hr => first | (go_simp; done) | (go_simp; rfl)); (case hp => exact (Reps.none _ _)); intro v218 w2 ho3 hb hg_ hnew_; clear hg_ hnew_; have HO := Aside0.mk (Kd.R_lower ho3 (below_size HB.out)); have HB1 := Aside0.mk hb; clear HB hb ho3))
  go_loopg [5, 11] l0.length (fun gg v5 v11 w' => ∃ kk : Nat, v11 = .int .i64 kk ∧ Aside0 (kk ≤ l0.length) ∧ Aside0 (l0.length - kk ≤ gg) ∧ Aside0 (Kd.R Kd.string 9 w' w.heap.size (fun _ => True) v5 ((l0.take kk).map p)) ∧ Aside0 (Below w.heap.size w w'))
  case atStart => exact ⟨0, rfl, ⟨Nat.zero_le _⟩, ⟨by omega⟩, ⟨HO.out⟩, HB1⟩
  case round =>
    clear HO HB1
    obtain ⟨kk, rfl, HK, HG, HO, HB⟩ := hrel
    by_cases hlt : kk < l0.length
    · have hltz : (kk : Int) < (l0.length : Int) := by omega
      obtain ⟨ad, e1, hcell⟩ := Kd.at_string (Kd.C_below HR0.out HB.out) kk (by omega) hltz
      have hrd : rdOf ByteArray.empty l0 (kk : Int) = l0[kk] := by simp [rdOf, List.getD_eq_getElem?_getD, hlt]
      rw [hrd] at hcell
      clear hrd
      simp only [Int.toNat_natCast] at hcell
      subst e1
      have hcall := HP.out wr l0[kk] (List.getElem_mem hlt) HB.out
      have hnext : (l0.take (kk + 1)).map p = (l0.take kk).map p ++ [p l0[kk]] := by rw [List.take_succ_eq_append_getElem hlt, List.map_append]; rfl
      have hx : ((l0.take kk).map p).length ≤ 1048576 := by rw [List.length_map, List.length_take]; have := HL.out; omega
      obtain ⟨xs, hxs⟩ : ∃ xs, (l0.take kk).map p = xs := ⟨_, rfl⟩
      rw [hxs] at HO hnext hx
      clear hxs
      generalize hy : l0[kk] = y at hcell hcall hnext
      have HY := Aside0.mk hy
      have HN := Aside0.mk hnext
      have HX := Aside0.mk hx
      clear hy hnext hx
      obtain ⟨z, hz⟩ : ∃ z, p y = z := ⟨_, rfl⟩
      rw [hz] at hcall HN
      clear hz
      have HLT := Aside0.mk hlt
      go_wp2_with (first | (go_at_fn g; refine hcall.mono ?_; rintro e w3 ⟨rfl, hb3⟩; have HO3 := Aside0.mk (Kd.R_below HO.out hb3); have HB3 := Aside0.mk (HB.out.trans (hb3.mono HB.out.size)); clear hb3) | ((with_reducible refine gate_builtin (b := .append) (xs := #[.tmp 15, .tmp 19]) rfl ?_); at_builtin; refine Kd.R_append Kd.string (w0 := w) w.heap.size rfl (.tmp 15) (.tmp 19) 22 9 (.string ⟨#[]⟩) 16 rfl Tryz.underlying22 infoStr rfl (by decide) (by omega) u5 xs z [.string z] (fun _ => True) (fun _ => False) rfl rfl ?aP (fun _ hk => hk.elim) ?aF ?aO ?aB ?aS ?aL ?_; (case aP => exact rfl); (case aB => exact (by repeat (first | (with_reducible first | exact HB3.out | apply below_alloc | apply pw_below_drewN | apply below_drew1) | exact HB3.out))); (case aF => exact (fun _ _ => trivial)); (case aO => exact (by (with_reducible repeat (first | apply Kd.R_alloc | apply Kd.R_drewN | apply Kd.R_drew)); exact HO3.out)); (case aS => exact (below_size (by repeat (first | (with_reducible first | exact HB3.out | apply below_alloc | apply pw_below_drewN | apply below_drew1) | exact HB3.out)))); (case aL => have := HX.out; omega); intro v225 w11 ho hb hg hat; have HB4 := Aside0.mk hb; have HO4 := Aside0.mk ho; clear ho hb hg hat))
      go_roundg (l0.length - (kk + 1))
      case measure => have := HG.out; have := HLT.out; omega
      case rel => exact ⟨kk + 1, by have h1_ := HLT.out; have h2_ := HL.out; first | (congr 1; unfold wrap64; omega) | go_num, ⟨HLT.out⟩, ⟨by have := HG.out; omega⟩, ⟨by rw [HN.out]; exact HO4.out⟩, HB4⟩
    · have hltz : ¬ (kk : Int) < (l0.length : Int) := by omega
      have hk := HK.out
      obtain rfl : kk = l0.length := by omega
      rw [List.take_length] at HO
      have hyl : (l0.map p).length ≤ 1048576 := by rw [List.length_map]; exact HL.out
      obtain ⟨ys, hys⟩ : ∃ ys, l0.map p = ys := ⟨_, rfl⟩
      rw [hys] at HO hyl
      have HY := Aside0.mk hys
      clear hys
      obtain ⟨A1, c1, e1, hc1, hC1⟩ := Kd.R_reads HO.out
      subst e1
      have hord := impl_ordered.calls A1 c1 ys (ordB ys) wr hC1 hc1 (by unfold impl_ordered.f; rw [if_pos (by omega)])
      have HORD := Aside0.mk hord
      clear hord hC1 hc1 hk hyl
      go_wp2_with (go_at_call 31; refine HORD.out.mono ?_; rintro e w5 ⟨v5, rfl, hR5, hb5⟩; have HR5 := Aside0.mk hR5; have HB5 := Aside0.mk hb5; clear hR5 hb5)
      go_ret
      rw [HY.out]
      exact ⟨_, rfl, Kd.R_lower HR5.out HB.out.size, HB.out.trans (HB5.out.mono HB.out.size)⟩

theorem C_addr {α : Type} {enc : α → Value} {h1 : ∀ x, (enc x).oneCell' = true} {w : World} {ad : Addr} {n : Nat} {xs : List α} (h : Kd.C (Kd.scalar enc h1) w (some ad) n xs) (hn : 0 < n) :
    ∃ b o, ad = ⟨b, o, none⟩ ∧ b < w.heap.size ∧ ∀ (j : Nat) x, xs[j]? = some x → w.cell? ⟨b, o + j, none⟩ = some (enc x) := by
  obtain ⟨hl, _, hh⟩ := h
  obtain ⟨ad', e, hc⟩ := hh hn
  cases e
  have cell : ∀ (j : Nat) x, xs[j]? = some x → w.cell? (ad.add j) = some (enc x) := fun j x hx => by
    obtain ⟨c, _, rfl, hcell⟩ := hc j x hx
    have := hcell 0 (enc x) rfl
    rwa [show j * (Kd.scalar enc h1).sz + 0 = j from Nat.mul_one j] at this
  have h0 : xs[0]? = some (xs[0]'(by omega)) := List.getElem?_eq_getElem (by omega)
  have c0 := cell 0 _ h0
  obtain ⟨b, o, sp⟩ := ad
  have c0' : w.cell? ⟨b, o, sp⟩ = some (enc (xs[0]'(by omega))) := by simpa [Addr.add] using c0
  have hsp : sp = none := by
    cases sp with
    | none => rfl
    | some q =>
      simp only [World.cell?] at c0'
      split at c0' <;> simp at c0'
  subst hsp
  refine ⟨b, o, rfl, ?_, fun j x hx => ?_⟩
  · simp only [World.cell?] at c0'
    split at c0'
    · rename_i hg
      exact (Array.getElem?_eq_some_iff.1 hg).1
    · cases c0'
  · have := cell j x hx
    by_cases hj : j = 0
    · subst hj
      simpa [Addr.add] using this
    · simpa [Addr.add, hj] using this

theorem heap_new (w : World) (o : Obj) : (w.alloc o).heap[w.heap.size]? = some o := by
  have h : (w.alloc o).heap = w.heap.push o := rfl
  rw [h, Array.getElem?_push, if_pos rfl]
/-- A value that has been put into a box of its own. -/
theorem box_new (w : World) (v : Value) (e : Nat) : (w.alloc (.cells #[v] e)).cell? ⟨w.heap.size, 0, none⟩ = some v := by
  unfold World.cell?
  rw [show (w.alloc (.cells #[v] e)).heap[(⟨w.heap.size, 0, none⟩ : Addr).block]? = some (.cells #[v] e) from heap_new w _]
  rfl

section
open Go.Shelf Go.Maps Go.Sort
attribute [local go_sem] Oper.semAt_some
set_option maxRecDepth 100000 in
set_option maxHeartbeats 2000000 in
theorem ivals1_in (F : Fence) (n : Nat) (h7 : F.fn 40) (hro : F.round = none) (hn : 1 ≤ n) (l Bs cap : Nat) (A0 : Option Addr) (l0 : List Int) (hreach : l0.length ≤ 8796093022208) (w : World) (hC : Kd.C (Kd.int .i64) w A0 l0.length l0) (J : List Int → World → Prop)
    (hJb : ∀ pre W, J pre W → Below w.heap.size w W)
    (hY : ∀ pre x W, J pre W → pre.length < l0.length → YieldAt F (n - 1) Tryz.prog l #[encZ x] W fun e W' => e = .returned (.bool true) ∧ J (pre ++ [x]) W' ∧ KeepsWalks W W')
    (W : World) (hBs : W.cell? ⟨Bs, 0, none⟩ = some (.slice A0 l0.length cap)) (h0 : J [] W) :
    CallsIn F n Tryz.prog 40 #[.func (.yield l) #[] #[], .pointer (some ⟨Bs, 0, none⟩)] W fun e W' => (∃ v, e = .returned v) ∧ J l0 W' := by
  have HC := Aside0.mk hC
  clear hC
  refine callsIn_of_wp Tryz.func40 rfl h7 ?_ hro
  simp only [Tryz.ntmps40, List.size_toArray, List.length_cons, List.length_nil, Nat.reduceAdd, Nat.reduceSub, Array.replicate_succ, Array.replicate_zero, List.push_toArray, List.append_toArray, List.nil_append, List.cons_append]
  gi_wp2
  gi_loopw [7] (fun i wr => ∃ k : Nat, k ≤ l0.length ∧ i = .int .i64 k ∧ J (l0.take k) wr)
    (fun i _ => l0.length - (intOf i).toNat)
  case atStart => exact ⟨0, Nat.zero_le _, rfl, h0⟩
  case round =>
    obtain ⟨k, hk, rfl, hJs⟩ := hrel
    by_cases hlt : k < l0.length
    · have hltz : (k : Int) < (l0.length : Int) := by omega
      obtain ⟨ad, e1, hcell⟩ := Kd.at_int (Kd.C_below HC.out (hJb _ _ hJs)) k (by omega) hltz
      have hrd : Go.Proofs.YtenojieaocbamaaGreatDoorW.PrintWords.rd l0 (k : Int) = l0[k] := by simp [Go.Proofs.YtenojieaocbamaaGreatDoorW.PrintWords.rd, List.getD_eq_getElem?_getD, hlt]
      rw [hrd] at hcell
      clear hrd
      simp only [Int.toNat_natCast] at hcell
      subst e1
      have hkz : k < l0.length := hlt
      have hnext : l0.take (k + 1) = l0.take k ++ [l0[k]] := by rw [List.take_succ_eq_append_getElem hkz]
      have HN := Aside0.mk hnext
      clear hnext
      obtain ⟨fn, tmps, assign, body, hy, hR⟩ := hY _ l0[k] wr hJs (by rw [List.length_take]; omega)
      have hy2 := hy
      gi_wp2
      refine hR.mono ?_
      rintro e W3 ⟨rfl, hJ3, hk3⟩
      gi_wp2
      go_roundw
      case rel => exact ⟨k + 1, by omega, by simp, by rw [HN.out]; exact hJ3⟩
      case measure => simp [intOf]; omega
    · obtain rfl : k = l0.length := by omega
      gi_wp2
      go_end0
      exact ⟨⟨_, rfl⟩, by rwa [List.take_of_length_le (by simp)] at hJs⟩
def iseqRen : Go.Shelf.Ren := ⟨fun | 11 => 47 | n => n, fun | 0 => 0 | 24 => 23 | 26 => 3 | 28 => 48 | 33 => 53 | 4 => 4 | 3 => 3 | n => n, fun n => n⟩
theorem ilaysAp : Go.Proofs.SlLaysZI.n11 Tryz.prog iseqRen := {
  mixed := by kernel_rfl
  f11 := ⟨Tryz.f47.name, by decide, Tryz.func47.trans (congrArg some (by kernel_rfl))⟩
  t0 := Tryz.underlying0
  a0 := Tryz.isAgg0
  z0 := Tryz.sizeOf0
  v0 := Tryz.zeroValue0
  t24 := Tryz.underlying23
  a24 := Tryz.isAgg23
  z24 := Tryz.sizeOf23
  v24 := Tryz.zeroValue23
  t26 := Tryz.underlying3
  a26 := Tryz.isAgg3
  z26 := Tryz.sizeOf3
  v26 := Tryz.zeroValue3
  t28 := Tryz.underlying48
  a28 := Tryz.isAgg48
  z28 := Tryz.sizeOf48
  v28 := Tryz.zeroValue48
  i26 := by kernel_rfl }

set_option maxRecDepth 100000 in
set_option maxHeartbeats 4000000 in
/-- AppendSeq to nil, against an iterator value that gives zs to whatever keeps what lay. -/
theorem iapSeq_in (F : Fence) (n : Nat) (h11 : F.fn 47) (hro : F.round = none) (hn : 2 ≤ n) (g : Nat) (lb : Array Value) (hFg : F.fn g) (eg : ∀ args w, (callFunc g args).run Tryz.prog w = .ok (.enter g args) w)
    (zs : List Int) (N : Nat) (hN : N ≤ maxLen) (hNb : N * 8 ≤ 140737488355328) (w : World)
    (hseq : ∀ (l : Nat) (J : List Int → World → Prop) (W : World), Below w.heap.size w W → (∀ pre W1, J pre W1 → Below w.heap.size w W1) →
      (∀ pre x W1, J pre W1 → pre.length < N → YieldAt F (n - 1 - 1) Tryz.prog l #[encZ x] W1 fun e W' => e = .returned (.bool true) ∧ J (pre ++ [x]) W' ∧ KeepsWalks W1 W') → J [] W →
      CallsIn F (n - 1) Tryz.prog g (#[.func (.yield l) #[] #[]] ++ lb) W fun e W' => (∃ v, e = .returned v) ∧ J zs W') :
    CallsIn F n Tryz.prog 47 #[.slice none 0 0, .func (.func g) #[] lb] w fun e w' => ∃ v : Value, e = .returned v ∧ w'.ownsRow w.heap.size 3 1 v zs.length (zs.map encZ) ∧ (v = .slice none 0 0 ↔ zs = []) ∧ Below w.heap.size w w' := by
  have L := ilaysAp
  have h1 : 1 ≤ n := by omega
  have mixed := L.mixed; have t0 := L.t0; have a0 := L.a0; have z0 := L.z0; have v0 := L.v0; have t24 := L.t24; have a24 := L.a24; have z24 := L.z24; have v24 := L.v24; have t26 := L.t26; have a26 := L.a26; have z26 := L.z26; have v26 := L.v26; have t28 := L.t28; have a28 := L.a28; have z28 := L.z28; have v28 := L.v28
  have hne : iseqRen.t 24 ≠ iseqRen.t 26 := fun e => by have h := L.t24; rw [e, L.t26] at h; cases h
  have u0 := run_underlying L.t0; have u24 := run_underlying L.t24; have u26 := run_underlying L.t26; have u28 := run_underlying L.t28
  obtain ⟨_, _, FG⟩ := L.f11
  refine callsIn_of_wp_marks FG rfl h11 ?_ hro
  simp only [SlBodyZ.n11_ntmps iseqRen, List.size_toArray, List.length_cons, List.length_nil, Nat.reduceAdd, Nat.reduceSub, Array.replicate_succ, Array.replicate_zero, List.push_toArray, List.append_toArray, List.nil_append, List.cons_append]
  gi_wp2
  refine wpIn_rangeFunc ?_
  intro fn hfn
  rw [hro]
  obtain ⟨W0, hW0⟩ : ∃ W0, w.alloc (.cells #[.slice none 0 0] (iseqRen.t 24)) = W0 := ⟨_, rfl⟩
  have hs0 : W0.heap.size = w.heap.size + 1 := by rw [← hW0]; simp
  have hv0 : W0.heap[w.heap.size]? = some (.cells #[.slice none 0 0] (iseqRen.t 24) (0, 0)) := by rw [← hW0]; exact World.alloc_heap_new w _
  have hb0 : Below w.heap.size w W0 := by rw [← hW0]; exact (Below.refl _ w).alloc (Nat.le_refl _) _
  rw [hW0]
  obtain ⟨W1, hW1⟩ : ∃ W1, (W0.alloc (.deferred (some []))).alloc (.loop (AnyZI.apRec iseqRen fn (.func (.func g) #[] lb) w.heap.size W0.heap.size .ready none)) = W1 := ⟨_, rfl⟩
  have hold : ∀ k, k < W0.heap.size → W1.heap[k]? = W0.heap[k]? := fun k hk => by
    rw [← hW1]; exact (Below.heap_alloc _ _ k (by simp; omega)).trans (Below.heap_alloc _ _ k hk)
  have hb1 : Below w.heap.size w W1 := by rw [← hW1]; exact (hb0.alloc hb0.size _).alloc (by have := hb0.size; simp; omega) _
  have hM : AnyZI.ApAt iseqRen w fn (.func (.func g) #[] lb) w.heap.size (W0.heap.size + 1) W0.heap.size [] W1 :=
    ⟨⟨_, (hold w.heap.size (by omega)).trans hv0, ⟨rfl, .inl ⟨rfl, rfl⟩⟩, by simp⟩,
     by rw [← hW1]; have := World.alloc_heap_new (W0.alloc (.deferred (some []))) (.loop (AnyZI.apRec iseqRen fn (.func (.func g) #[] lb) w.heap.size W0.heap.size .ready none)); rwa [World.size_alloc] at this,
     by rw [← hW1]; exact (Below.heap_alloc _ _ _ (by simp)).trans (World.alloc_heap_new W0 _), hb1⟩
  refine ⟨W0.heap.size + 1, [{ target := .collected W0.heap.size, args := #[] }], W1, { target := .fn (.func g) lb, args := #[.func (.yield (W0.heap.size + 1)) #[] #[]] }, W1, g,
    #[.func (.yield (W0.heap.size + 1)) #[] #[]] ++ lb, W1, ?_, ?_, ?_, ?_, fun _ => h1, ?_⟩
  · rw [← hW1]; exact run_enterLoop_outer _ _ _ _ _
  · simp [resolve, go_sem]
  · intro f' hf'; simp [Target.leads] at hf'; subst hf'; exact hFg
  · simp [invoke, go_sem, eg]
  · refine (hseq (W0.heap.size + 1) (AnyZI.ApAt iseqRen w fn (.func (.func g) #[] lb) w.heap.size (W0.heap.size + 1) W0.heap.size) W1 hb1 (fun _ _ h => h.below)
      (fun pre x W hJ hl => AnyZI.apYield ilaysAp F (n - 1 - 1) w fn hfn _ w.heap.size (W0.heap.size + 1) W0.heap.size (by omega) (by omega) (by omega) (Nat.le_refl _) (by omega) N hN hNb pre x W hJ hl) hM).mono ?_
    rintro e W2 ⟨⟨v0, rfl⟩, h2⟩
    obtain ⟨v, hv, hrow, hnil⟩ := h2.box
    have hend := run_endLoop (P := Tryz.prog) h2.L (by simp [AnyZI.apRec])
    obtain ⟨W3, hW3⟩ : ∃ W3, W2.putObj (W0.heap.size + 1) (.loop { AnyZI.apRec iseqRen fn (.func (.func g) #[] lb) w.heap.size W0.heap.size .ready none with state := .exhausted }) = W3 := ⟨_, rfl⟩
    rw [hW3] at hend
    have hg3 : W2.grownBy W3 (some (W0.heap.size + 1)) := by rw [← hW3]; exact grownBy_putObj_a _ _ _
    have hv3 : W3.heap[w.heap.size]? = some (.cells #[v] (iseqRen.t 24) (0, 0)) := by rw [← hW3]; exact (World.putObj_heap_other (by omega)).trans hv
    have hK3 : W3.heap[W0.heap.size]? = some (.deferred (some [])) := by rw [← hW3]; exact (World.putObj_heap_other (by omega)).trans h2.K
    have hrow3 := hrow.kept hg3 (ownsRow_ne_a hrow h2.L (fun cur e => by first | cases e | exact hne (Obj.cells.inj e).2.1))
    have hb3 : Below w.heap.size w W3 := h2.below.grown hg3 h2.below.size (fun k e => by cases e; omega)
    obtain ⟨hc3, hf3⟩ := cell_of_box_a hv3
    clear hW3
    refine ⟨none, W3, hend, ?_⟩
    gi_wp2
    rw [← hs0]
    refine ⟨by simp, .inl ⟨_, _, rfl, run_takeDeferred hK3, ?_⟩⟩
    exact ⟨_, results_tmp rfl _ _ _, v, rfl, hrow3.kept (grownBy_putObj_a _ _ _) (ownsRow_ne_a hrow3 hK3 (fun cur e => by first | cases e | exact hne (Obj.cells.inj e).2.1)), hnil, hb3.grown (grownBy_putObj_a _ _ _) hb3.size (fun k e => by cases e; omega)⟩

theorem ivals_calls (a : Option Addr) (len cap : Nat) (w : World) :
    Calls Tryz.prog 30 #[.slice a len cap] w fun e w' => e = .returned (.func (.func 40) #[] #[.pointer (some ⟨w.heap.size, 0, none⟩)]) ∧ w' = w.alloc (.cells #[.slice a len cap] 23) := by
  go_enter Tryz.func30, Tryz.ntmps30
  go_wp2
  go_ret
  exact ⟨rfl, rfl⟩
theorem icollect_calls (B cap : Nat) (A0 : Option Addr) (l0 : List Int) (hreach : l0.length ≤ 8796093022207) (w : World) (hC : Kd.C (Kd.int .i64) w A0 l0.length l0) (hB : B < w.heap.size)
    (hBs : w.cell? ⟨B, 0, none⟩ = some (.slice A0 l0.length cap)) :
    Calls Tryz.prog 38 #[.func (.func 40) #[] #[.pointer (some ⟨B, 0, none⟩)]] w fun e w' => ∃ v : Value, e = .returned v ∧ w'.ownsRow w.heap.size 3 1 v l0.length (l0.map encZ) ∧ (v = .slice none 0 0 ↔ l0 = []) ∧ Below w.heap.size w w' := by
  have eg := enters_of Tryz.func40 (by kernel_rfl) rfl
  have hap := fun (w2 : World) (hw : Below w.heap.size w w2) => callsIn_wide.1 (iapSeq_in Fence.wide 5 trivial rfl (by omega) 40 #[.pointer (some ⟨B, 0, none⟩)] trivial eg l0 l0.length (by unfold maxLen; omega) (by omega) w2
    (fun l J W hW hJb hY h0 => ivals1_in Fence.wide 4 trivial rfl (by omega) l B cap A0 l0 (by omega) w2 (Kd.C_below hC hw) J hJb hY W
      ((hW.cell (p := ⟨B, 0, none⟩) (Nat.lt_of_lt_of_le hB hw.size)).trans ((hw.cell (p := ⟨B, 0, none⟩) hB).trans hBs)) h0))
  clear hBs hC
  go_enter Tryz.func38, Tryz.ntmps38
  go_wp2_with (go_at_call 47; refine (hap _ (Below.refl _ _)).mono ?_; rintro e w' ⟨v, rfl, hrow, hnil, hbel⟩)
  go_ret
  exact ⟨v, rfl, hrow, hnil, hbel⟩
end
/-- Numbers, sorted. -/
def srtI (l : List Int) : List Int := l.mergeSort fun x y => decide (x ≤ y)
set_option maxRecDepth 100000 in
set_option maxHeartbeats 4000000 in
theorem isorted_calls (B cap : Nat) (A0 : Option Addr) (l0 : List Int) (len : Nat) (hlen : l0.length = len) (hreach : l0.length ≤ 8796093022207) (w : World) (hC : Kd.C (Kd.int .i64) w A0 l0.length l0) (hB : B < w.heap.size)
    (hBs : w.cell? ⟨B, 0, none⟩ = some (.slice A0 l0.length cap)) (S : List Int) (hS : srtI l0 = S) :
    Calls Tryz.prog 29 #[.func (.func 40) #[] #[.pointer (some ⟨B, 0, none⟩)]] w fun e w' => ∃ (v : Value), e = .returned v ∧ w'.ownsRow w.heap.size 3 1 v len (S.map (Value.int .i64)) ∧ Below w.heap.size w w' := by
  have hcol := icollect_calls B cap A0 l0 hreach w hC hB hBs
  rw [hlen] at hcol
  have hsz : S.length = len := by rw [← hS, srtI, List.length_mergeSort, hlen]
  have hlz : l0.length < 4611686018427387904 := by omega
  have hsort := fun (g cap2 : Nat) (w1 : World) (hown : w1.ownsRow w.heap.size 3 1 (.slice (some ⟨g, 0, none⟩) len cap2) len (l0.map encZ)) (hgs : g < w1.heap.size) =>
    Tryz.slices_Sort_int g 0 cap2 l0 w1 (own_holds hown) hgs hlz
  simp only [hlen] at hsort
  rw [show (l0.mergeSort fun x y => decide (x ≤ y)) = S from hS] at hsort
  obtain ⟨D, hD⟩ : ∃ D, S.toArray = D := ⟨_, rfl⟩
  rw [hD] at hsort
  have HS := Aside0.mk hsort
  have HE := Aside0.mk (show l0 = [] → S = [] from fun e => by rw [← hS, e]; simp [srtI])
  have HZ := Aside0.mk (show D.size = len by rw [← hD, List.size_toArray, hsz])
  have HT := Aside0.mk (show D.toList = S by rw [← hD])
  have HCO := Aside0.mk hcol
  have HL := Aside0.mk hlen
  clear hBs hC hsort hcol hsz hS hlen hlz hD
  go_enter Tryz.func29, Tryz.ntmps29
  go_wp2_with fail
  go_at_call 38
  refine HCO.out.mono ?_
  rintro e w1 ⟨v, rfl, hrow, hnil, hbel⟩
  have HR := Aside0.mk hrow
  have HB := Aside0.mk hbel
  obtain ⟨_, hrow⟩ := hrow
  rcases hrow with ⟨hv, h0⟩ | ⟨g, cap2, cur, rfl, hg, hh, hn, hcap, hsz, ht⟩
  · have he := hnil.1 hv
    have hS2 := HE.out he
    subst hv
    have hlen0 : len = 0 := by rw [← HL.out, he]; rfl
    have HQ := Aside0.mk (show w1.ownsRow w.heap.size 3 1 (.slice none 0 0) len (S.map (Value.int .i64)) from by
      have := HR.out
      rw [he] at this
      rw [hS2]
      exact this)
    clear hnil h0 he hS2
    go_wp2_with (go_at_call 39; refine (Tryz.slices_Sort_int_none none 0 _).mono ?_; rintro e w2 ⟨rfl, rfl⟩)
    go_ret
    exact ⟨_, rfl, HQ.out, HB.out⟩
  · have HG := Aside0.mk hg
    have HQ := Aside0.mk (HS.out g cap2 w1 HR.out (Array.getElem?_eq_some_iff.1 hh).1)
    clear hg hh hn hcap hsz ht hnil hbel
    go_wp2_with (go_at_call 39; refine HQ.out.mono ?_; rintro e w2 ⟨rfl, hw2⟩; have HW := Aside0.mk hw2; clear hw2)
    go_ret
    obtain ⟨n, os, rfl⟩ := HW.out
    refine ⟨_, rfl, ?_, below_grow (below_putRow HB.out HG.out _ _ _) (by rw [Sort.size_putRow]; exact HB.out.size) os⟩
    have := own_put (enc := Value.int .i64) HR.out D HZ.out len (Nat.le_refl _) n
    rw [List.take_of_length_le (by rw [Array.length_toList, HZ.out]; exact Nat.le_refl _), HT.out] at this
    exact own_grow this os
theorem iequal_calls (A B : Option Addr) (c d : Nat) (l m : List Int) (w : World) (h : Kd.C (Kd.int .i64) w A l.length l) (h2 : Kd.C (Kd.int .i64) w B m.length m) :
    Calls Tryz.prog 28 #[.slice A l.length c, .slice B m.length d] w fun e w' => e = .returned (.bool (decide (l = m))) ∧ Below w.heap.size w w' := by
  by_cases hl : l.length = m.length
  · cases l with
    | nil =>
      refine (Tryz.slices_Equal_int_empty A B c m.length d w h2.2.1).mono ?_
      rintro e w' ⟨rfl, rfl⟩
      refine ⟨?_, Below.refl _ _⟩
      cases m with
      | nil => rfl
      | cons z u => simp at hl
    | cons y t =>
      cases m with
      | nil => simp at hl
      | cons z u =>
        obtain ⟨ad, e1, _⟩ := Kd.at_int h 0 (by omega) (by simp)
        subst e1
        obtain ⟨b, o, rfl, _, hc⟩ := C_addr h (by simp)
        obtain ⟨ad2, e2, _⟩ := Kd.at_int h2 0 (by omega) (by simp)
        subst e2
        obtain ⟨b2, o2, rfl, _, hc2⟩ := C_addr h2 (by simp)
        refine (Tryz.slices_Equal_int b o (y :: t).length c b2 o2 (z :: u).length d (y :: t) (z :: u) w (Nat.le_refl _) (Nat.le_refl _) h.2.1 h2.2.1 (fun j hj => by rw [hc j _ (List.getElem?_eq_getElem hj), List.getD_eq_getElem?_getD, List.getElem?_eq_getElem hj]; rfl) (fun j hj => by rw [hc2 j _ (List.getElem?_eq_getElem hj), List.getD_eq_getElem?_getD, List.getElem?_eq_getElem hj]; rfl)).mono ?_
        rintro e w' ⟨rfl, q, rfl⟩
        rw [List.take_length, List.take_length, show ((y :: t) == (z :: u)) = decide (y :: t = z :: u) from by rw [Bool.eq_iff_iff, beq_iff_eq, decide_eq_true_eq]]
        exact ⟨rfl, pw_below_drewN (Below.refl _ _) _⟩
  · refine (Tryz.slices_Equal_int_lens A B l.length c m.length d w hl).mono ?_
    rintro e w' ⟨rfl, rfl⟩
    refine ⟨?_, Below.refl _ _⟩
    rw [decide_eq_false (fun e => hl (by rw [e]))]
theorem lit3_C (W : World) : Kd.C (Kd.int .i64) (W.alloc (.cells #[.int .i64 0, .int .i64 1, .int .i64 2] 3)) (some ⟨W.heap.size, 0, none⟩) ([0, 1, 2] : List Int).length [0, 1, 2] :=
  Kd.C_of_reads (d := (0 : Int)) (h1 := fun _ => rfl) ⟨rfl, by simp, fun _ => ⟨_, rfl, fun j hj => by
    rcases (show j = 0 ∨ j = 1 ∨ j = 2 by simp at hj; omega) with rfl | rfl | rfl
    · exact cell_alloc W _ 3 0
    · exact cell_alloc W _ 3 1
    · exact cell_alloc W _ 3 2⟩⟩
set_option maxHeartbeats 2000000 in
theorem impl_areNames.calls (A0 : Option Addr) (c0 : Nat) (l0 : List Int) (hreach : l0.length ≤ 8796093022207) (w : World) (hr0 : Kd.C (Kd.int .i64) w A0 l0.length l0) :
    Calls Tryz.prog 19 #[.slice A0 l0.length c0] w fun e w' => e = .returned (.bool (decide (srtI l0 = [0, 1, 2]))) ∧ Below w.heap.size w w' := by
  obtain ⟨W0, hW0⟩ : ∃ W0, w.alloc (.cells #[.slice A0 l0.length c0] 23) = W0 := ⟨_, rfl⟩
  have hb0 : Below w.heap.size w W0 := by rw [← hW0]; exact (Below.refl _ w).alloc (Nat.le_refl _) _
  have hs0 : w.heap.size < W0.heap.size := by rw [← hW0]; simp
  have hcell : W0.cell? ⟨w.heap.size, 0, none⟩ = some (.slice A0 l0.length c0) := by rw [← hW0]; exact cell_alloc w _ _ 0
  have hvals := ivals_calls A0 l0.length c0 w
  rw [hW0] at hvals
  obtain ⟨S, hS⟩ : ∃ S, srtI l0 = S := ⟨_, rfl⟩
  have hsl : S.length = l0.length := by rw [← hS, srtI, List.length_mergeSort]
  have HS := Aside0.mk (isorted_calls w.heap.size c0 A0 l0 l0.length rfl hreach W0 (Kd.C_below hr0 hb0) hs0 hcell S hS)
  rw [hS]
  have HV := Aside0.mk hvals
  have HB0 := Aside0.mk hb0
  have HSL := Aside0.mk hsl
  clear hvals hr0 hcell hb0 hs0 hS hW0 hsl
  go_enter Tryz.func19, Tryz.ntmps19
  go_wp2_with (first | (go_at_call 30; refine HV.out.mono ?_; rintro e w1 ⟨rfl, rfl⟩) | (go_at_call 29; refine HS.out.mono ?_; rintro e w2 ⟨v2, rfl, ho2, hb2⟩; rw [← HSL.out] at ho2; have HR2 := Aside0.mk (Kd.R_of_own (enc := Value.int .i64) (h1 := fun _ => rfl) (ok := fun _ => True) ho2 (fun _ _ => trivial)); obtain ⟨A2, c2, e2, _, hC2⟩ := Kd.R_reads HR2.out; subst e2; have HC2 := Aside0.mk hC2; have HB2 := Aside0.mk hb2; clear ho2 hb2 hC2 HR2) | (go_at_call 28; refine (iequal_calls A2 (some ⟨w2.heap.size, 0, none⟩) c2 3 S [0, 1, 2] _ (Kd.C_alloc HC2.out _) (lit3_C w2)).mono ?_; rintro e w3 ⟨rfl, hb3⟩; have HB3 := Aside0.mk hb3; clear hb3))
  go_ret
  exact ⟨rfl, HB0.out.trans ((HB2.out.trans (below_step (below_alloc (Below.refl _ _) _) HB3.out |>.mono HB2.out.size)).mono HB0.out.size)⟩
/-- A letter's other one. -/
def renC (l1 : List Int) (c : UInt8) : UInt8 := UInt8.ofNat (97 + (l1.getD (c.toNat - 97) 0).toNat)
def renB (l1 : List Int) (s : ByteArray) : ByteArray := ⟨(s.data.toList.map (renC l1)).toArray⟩
def abcB (s : ByteArray) : Bool := decide (s.size ≤ 1048576) && s.data.toList.all fun c => decide (97 ≤ c.toNat ∧ c.toNat ≤ 99)
def BoxI (W : World) (G : Nat) (v : Value) : Prop := W.heap[G]? = some (.cells #[v] 23 (0, 0))
theorem BoxI.cell {W : World} {G : Nat} {v : Value} (h : BoxI W G v) : W.cell? ⟨G, 0, none⟩ = some v := by
  have h' : W.heap[G]? = some (.cells #[v] 23 (0, 0)) := h
  simp [World.cell?, h']
theorem BoxI.below {W W' : World} {G n : Nat} {v : Value} (h : BoxI W G v) (hb : Below n W W') (hG : G < n) : BoxI W' G v := (hb.block G hG).trans h
theorem BoxI.lt {W : World} {G : Nat} {v : Value} (h : BoxI W G v) : G < W.heap.size := (Array.getElem?_eq_some_iff.1 h).1
/-- The row when so many letters have been done. -/
def renA (l1 : List Int) (bs : List UInt8) (kk : Nat) : Array UInt8 := ((bs.take kk).map (renC l1) ++ bs.drop kk).toArray
theorem renA_size (l1 : List Int) (bs : List UInt8) (kk : Nat) : (renA l1 bs kk).size = bs.length := by
  unfold renA
  rw [List.size_toArray, List.length_append, List.length_map, List.length_take, List.length_drop]
  omega
theorem renA_at (l1 : List Int) (bs : List UInt8) (kk : Nat) (h : kk < bs.length) : (renA l1 bs kk)[kk]! = bs[kk] := by
  rw [getElem!_pos _ kk (by rw [renA_size]; exact h)]
  unfold renA
  rw [List.getElem_toArray, List.getElem_append_right (by rw [List.length_map, List.length_take]; omega)]
  simp only [List.length_map, List.length_take, List.getElem_drop]
  congr 1
  omega
theorem renA_set (l1 : List Int) (bs : List UInt8) (kk : Nat) (h : kk < bs.length) : (renA l1 bs kk).setIfInBounds kk (renC l1 bs[kk]) = renA l1 bs (kk + 1) := by
  apply Array.ext
  · rw [Array.size_setIfInBounds, renA_size, renA_size]
  · intro j h1 h2
    rw [renA_size] at h2
    rw [Array.getElem_setIfInBounds]
    · have hr : ∀ (m i : Nat) (hi : i < (renA l1 bs m).size), (renA l1 bs m)[i] = ((bs.take m).map (renC l1) ++ bs.drop m)[i]'(by rw [List.length_append, List.length_map, List.length_take, List.length_drop]; rw [renA_size] at hi; omega) := fun m i hi => rfl
      by_cases e : kk = j
      · subst e
        rw [if_pos rfl, hr, List.getElem_append_left (by rw [List.length_map, List.length_take]; omega)]
        simp
      · rw [if_neg e, hr, hr]
        by_cases hj : j < kk
        · rw [List.getElem_append_left (by rw [List.length_map, List.length_take]; omega), List.getElem_append_left (by rw [List.length_map, List.length_take]; omega)]
          simp
        · rw [List.getElem_append_right (by rw [List.length_map, List.length_take]; omega), List.getElem_append_right (by rw [List.length_map, List.length_take]; omega)]
          simp only [List.length_map, List.length_take, List.getElem_drop]
          congr 1
          omega
    · rw [renA_size]; exact h2
set_option maxHeartbeats 4000000 in
theorem impl_RenameSet_1.calls (B : Nat) (A : Option Addr) (c : Nat) (l1 : List Int) (hn : l1.length = 3 ∧ ∀ x ∈ l1, x = 0 ∨ x = 1 ∨ x = 2) (s : ByteArray) (hs : abcB s = true) (W : World) (hB : BoxI W B (.slice A l1.length c)) (hC : Kd.C (Kd.int .i64) W A l1.length l1) :
    Calls Tryz.prog 21 (#[.string s] ++ #[.pointer (some ⟨B, 0, none⟩)]) W fun e w' => e = .returned (.string (renB l1 s)) ∧ Below W.heap.size W w' := by
  unfold abcB at hs
  rw [Bool.and_eq_true, decide_eq_true_eq] at hs
  obtain ⟨hsz, hall⟩ := hs
  have hcv := Lib.run_convert_string_bytes (P := Tryz.prog) W 9 39 5 s (u := .string) Tryz.underlying9 Tryz.underlying39 Tryz.underlying5
  obtain ⟨W1, hW1⟩ : ∃ W1, Lib.bytesWorld W 5 s = W1 := ⟨_, rfl⟩
  have hH := bytes_holds W 5 s
  have hsz1 := Lib.bytesWorld_size W 5 s
  have hbel : Below W.heap.size W W1 := by
    rw [← hW1]
    exact ⟨rfl, rfl, rfl, by rw [hsz1]; omega, fun j hj => Lib.bytesWorld_at_old W 5 s j hj⟩
  rw [hW1] at hcv hH
  have hlen : s.data.toList.length = s.size := by simp
  have hA0 : renA l1 s.data.toList 0 = s.data.toList.toArray := by simp [renA]
  have hself : Sort.putRow encU8 W1 W.heap.size 0 (renA l1 s.data.toList 0) = W1 := by rw [hA0]; exact Sort.putRow_self _ _ _ _ _ hH
  obtain ⟨cap, hcap⟩ : ∃ cap, grownCap W s.size 0 5 = cap := ⟨_, rfl⟩
  rw [hcap] at hcv
  have hHk : ∀ kk, Sort.Holds encU8 (Sort.putRow encU8 W1 W.heap.size 0 (renA l1 s.data.toList kk)) W.heap.size 0 (renA l1 s.data.toList kk) := fun kk => Sort.holds_putRow encU8 W1 W.heap.size 0 _ _ hH (by rw [renA_size, List.size_toArray])
  have hback : (convert 39 9 (.slice (some ⟨W.heap.size, 0, none⟩) s.size cap)).run Tryz.prog (Sort.putRow encU8 W1 W.heap.size 0 (renA l1 s.data.toList s.size)) = .ok (.string (renB l1 s)) (Sort.putRow encU8 W1 W.heap.size 0 (renA l1 s.data.toList s.size)) := by
    have hA1 : renA l1 s.data.toList s.size = (s.data.toList.map (renC l1)).toArray := by
      unfold renA
      rw [List.take_of_length_le (by omega), List.drop_of_length_le (by omega), List.append_nil]
    have hh := hHk s.size
    rw [hA1] at hh ⊢
    have hc := run_convert_bytes_arg (P := Tryz.prog) (Sort.putRow encU8 W1 W.heap.size 0 (s.data.toList.map (renC l1)).toArray) 39 5 Tryz.underlying39 Tryz.underlying5 W.heap.size 0 s.size cap ((s.data.toList.map (renC l1)).map fun b => (b.toNat : Int)) (by simp)
      (fun i hi => by
        have := (hh i (by simpa using hi)).1
        rw [this, getElem!_pos _ i (by simpa using hi)]
        simp [encU8, List.getD_eq_getElem?_getD, hi]) 9 Tryz.underlying9
    rw [hc, nums_bytes]
    rfl
  have HBX := Aside0.mk (fun (V : World) (hV : Below W.heap.size W V) => (hB.below hV hB.lt).cell)
  have HC := Aside0.mk (fun (V : World) (hV : Below W.heap.size W V) => Kd.C_below hC hV)
  have HHK := Aside0.mk hHk
  have HSELF := Aside0.mk hself
  have HBEL := Aside0.mk hbel
  have HALL := Aside0.mk hall
  have HN := Aside0.mk hn
  have HSZ := Aside0.mk hsz
  have HLEN := Aside0.mk hlen
  have hbelk : ∀ kk, Below W.heap.size W (Sort.putRow encU8 W1 W.heap.size 0 (renA l1 s.data.toList kk)) := fun kk => by have := below_putRow (enc := encU8) hbel (Nat.le_refl _) 0 (renA l1 s.data.toList kk) 0; rwa [Sort.ahead_zero] at this
  have HBK := Aside0.mk hbelk
  have HCB := Aside0.mk hback
  clear hB hC hHk hself hbel hall hn hsz hlen hA0 hH hsz1 hbelk hback hW1
  go_enter Tryz.func21, Tryz.ntmps21
  go_wp2
  go_loopg [5, 6, 11] s.size (fun gg _ _ v11 wr => ∃ kk : Nat, v11 = .int .i64 kk ∧ Aside0 (kk ≤ s.size) ∧ Aside0 (s.size - kk ≤ gg) ∧ Aside0 (wr = Sort.putRow encU8 W1 W.heap.size 0 (renA l1 s.data.toList kk)))
  case atStart => exact ⟨0, rfl, ⟨Nat.zero_le _⟩, ⟨by omega⟩, ⟨HSELF.out.symm⟩⟩
  case round =>
    clear hcv HSELF
    obtain ⟨kk, rfl, HK, HG, HW⟩ := hrel
    by_cases hlt : kk < s.size
    · have hltz : (kk : Int) < (s.size : Int) := by omega
      have hw := HW.out
      subst hw
      have hkl : kk < s.data.toList.length := by have := HLEN.out; omega
      obtain ⟨b, hb⟩ : ∃ b, s.data.toList[kk] = b := ⟨_, rfl⟩
      have hb3 := List.all_eq_true.1 HALL.out b (hb ▸ List.getElem_mem hkl)
      rw [decide_eq_true_eq] at hb3
      obtain ⟨q, hq⟩ : ∃ q, b.toNat = 97 + q := ⟨b.toNat - 97, by omega⟩
      have hql : q < l1.length := by have := HN.out.1; omega
      have hqz : (q : Int) < (l1.length : Int) := by omega
      obtain ⟨ad, e1, hcell⟩ := Kd.at_int (HC.out _ (HBK.out kk)) q (by omega) hqz
      have hrd : Go.Proofs.YtenojieaocbamaaGreatDoorW.PrintWords.rd l1 (q : Int) = l1[q] := by simp [Go.Proofs.YtenojieaocbamaaGreatDoorW.PrintWords.rd, List.getD_eq_getElem?_getD, hql]
      rw [hrd] at hcell
      clear hrd
      simp only [Int.toNat_natCast] at hcell
      obtain ⟨x, hx⟩ : ∃ x, l1[q] = x := ⟨_, rfl⟩
      have hx3 : x = 0 ∨ x = 1 ∨ x = 2 := hx ▸ HN.out.2 _ (List.getElem_mem hql)
      rw [hx] at hcell
      have henc : encU8 (renC l1 s.data.toList[kk]) = .int .u8 (97 + x) := by
        unfold encU8 renC
        rw [hb, hq, Nat.add_sub_cancel_left, List.getD_eq_getElem?_getD, List.getElem?_eq_getElem hql, hx]
        rcases hx3 with rfl | rfl | rfl <;> rfl
      have hstep := Sort.putRow_set encU8 W1 W.heap.size 0 (renA l1 s.data.toList kk) kk (renC l1 s.data.toList[kk]) (by rw [renA_size]; exact hkl)
      rw [renA_set l1 _ kk hkl, henc, Nat.zero_add] at hstep
      have HST := Aside0.mk hstep
      have hat := HHK.out kk kk (by rw [renA_size]; exact hkl)
      rw [renA_at l1 _ kk hkl, hb, Nat.zero_add] at hat
      obtain ⟨hc15, hf15⟩ := hat
      obtain ⟨cv, hcv⟩ : ∃ cv : Int, cv = (b.toNat : Int) := ⟨_, rfl⟩
      rw [show encU8 b = .int .u8 cv from by rw [hcv]; rfl] at hc15
      have hbx := HBX.out _ (HBK.out kk)
      subst e1
      have HLT := Aside0.mk hlt
      obtain ⟨V, hV⟩ : ∃ V, Sort.putRow encU8 W1 W.heap.size 0 (renA l1 s.data.toList kk) = V := ⟨_, rfl⟩
      rw [hV] at hc15 hf15 hbx hcell HST ⊢
      have hsub : (cv - 97) % 256 = (q : Int) := by rw [hcv, hq]; omega
      clear hstep henc hb hV hkl hb3 hcv hq
      rcases hx3 with rfl | rfl | rfl
      all_goals (
        go_wp2
        go_roundg (s.size - (kk + 1))
        (case measure => have h1_ := HLT.out; have h2_ := HG.out; omega)
        (case rel => exact ⟨kk + 1, by have h1_ := HLT.out; have h2_ := HSZ.out; first | (congr 1; unfold wrap64; omega) | go_num, ⟨HLT.out⟩, ⟨by have := HG.out; omega⟩, ⟨by first | exact HST.out | (refine Eq.trans ?_ HST.out; rfl)⟩⟩))
    · have hltz : ¬ (kk : Int) < (s.size : Int) := by omega
      have hw := HW.out
      subst hw
      have hk := HK.out
      obtain rfl : kk = s.size := by omega
      have hcb := HCB.out
      clear HK HG HW hk
      go_wp2
      go_ret
      exact ⟨rfl, HBK.out _⟩
def impl_RenameSet.f (k : Nat) (l0 : List ByteArray) (l1 : List Int) : Option (List ByteArray × Bool) := (impl_isSet.f k l0).bind fun b => if b = true then (if l1.length ≤ 8796093022207 then (if srtI l1 = [0, 1, 2] then (if l0.length ≤ 1048576 then (if l0.all abcB = true then some (ordB (l0.map (renB l1)), true) else none) else none) else some ([], false)) else none) else some ([], false)
theorem impl_RenameSet.mono : ∀ a0 a1 k, LeO (impl_RenameSet.f k a0 a1) (impl_RenameSet.f (k + 1) a0 a1) := by
  intro a0 a1 k
  unfold impl_RenameSet.f
  exact LeO.bind (impl_isSet.mono _ _) (fun _ => LeO.refl _)
theorem names3 {l : List Int} (h : srtI l = [0, 1, 2]) : l.length = 3 ∧ ∀ x ∈ l, x = 0 ∨ x = 1 ∨ x = 2 := by
  have hp : (srtI l).Perm l := List.mergeSort_perm l _
  rw [h] at hp
  exact ⟨hp.length_eq.symm, fun x hx => by simpa using hp.mem_iff.2 hx⟩
set_option maxHeartbeats 4000000 in
theorem impl_RenameSet.calls (k : Nat) (A0 : Option Addr) (c0 : Nat) (l0 : List ByteArray) (A1 : Option Addr) (c1 : Nat) (l1 : List Int) (r1 : List ByteArray) (r2 : Bool) (w : World) (hr0 : Kd.C Kd.string w A0 l0.length l0) (hc0 : l0.length ≤ c0) (hr1 : Kd.C (Kd.int .i64) w A1 l1.length l1) (hc1 : l1.length ≤ c1) (h : impl_RenameSet.f k l0 l1 = some (r1, r2)) :
    Calls Tryz.prog 8 #[.slice A0 l0.length c0, .slice A1 l1.length c1] w fun e w' => ∃ v0_ : Value, e = .returned (.tuple #[v0_, .bool r2]) ∧ Kd.R Kd.string 9 w' w.heap.size (fun _ => True) v0_ r1 ∧ Below w.heap.size w w' := by
  unfold impl_RenameSet.f at h
  obtain ⟨b, hb, h⟩ := Option.bind_eq_some_iff.mp h
  obtain ⟨W0, hW0⟩ : ∃ W0, w.alloc (.cells #[.slice A1 l1.length c1] 23) = W0 := ⟨_, rfl⟩
  have hb0 : Below w.heap.size w W0 := by rw [← hW0]; exact (Below.refl _ w).alloc (Nat.le_refl _) _
  have hbox : BoxI W0 w.heap.size (.slice A1 l1.length c1) := by rw [← hW0]; exact heap_new w _
  have hs0 := hbox.lt
  have HSET := Aside0.mk (impl_isSet.calls k A0 c0 l0 b W0 (Kd.C_below hr0 hb0) hc0 hb)
  have HB0 := Aside0.mk hb0
  have HBOX := Aside0.mk hbox
  have HS0 := Aside0.mk hs0
  clear hb hb0 hbox hs0
  cases b with
  | false =>
    rw [if_neg (by decide)] at h
    obtain ⟨rfl, rfl⟩ := Prod.mk.inj (Option.some.inj h)
    clear h hr0 hc0 hr1 hc1
    go_enter Tryz.func8, Tryz.ntmps8
    go_wp2_with (go_at_call 18; refine HSET.out.mono ?_; rintro e w1 ⟨rfl, hb1⟩; have HB1 := Aside0.mk hb1; clear hb1)
    go_ret2
    exact ⟨_, rfl, Kd.R_nil _ _ _ _ _, HB0.out.trans (HB1.out.mono HB0.out.size)⟩
  | true =>
    rw [if_pos rfl] at h
    by_cases hl1 : l1.length ≤ 8796093022207
    case neg => rw [if_neg hl1] at h; cases h
    rw [if_pos hl1] at h
    have HN := Aside0.mk (fun (W : World) (hW : Below w.heap.size w W) => impl_areNames.calls A1 c1 l1 hl1 W (Kd.C_below hr1 hW))
    by_cases hn : srtI l1 = [0, 1, 2]
    · rw [if_pos hn] at h
      rw [decide_eq_true hn] at HN
      by_cases hl : l0.length ≤ 1048576
      case neg => rw [if_neg hl] at h; cases h
      rw [if_pos hl] at h
      by_cases hs : l0.all abcB = true
      case neg => rw [if_neg hs] at h; cases h
      rw [if_pos hs] at h
      obtain ⟨e1, rfl⟩ := Prod.mk.inj (Option.some.inj h)
      have eg := enters_of Tryz.func21 (by kernel_rfl) rfl
      have hc := fun (W : World) (hW : Below w.heap.size w W) (hB : BoxI W w.heap.size (.slice A1 l1.length c1)) => impl_mapped.calls_g _ #[.pointer (some ⟨w.heap.size, 0, none⟩)] (renB l1) eg A0 c0 l0 W (Kd.C_below hr0 hW) hc0 hl (fun V x hx hV => impl_RenameSet_1.calls w.heap.size A1 c1 l1 (names3 hn) x (List.all_eq_true.1 hs x hx) V (hB.below hV hB.lt) (Kd.C_below hr1 (hW.trans (hV.mono hW.size))))
      rw [e1] at hc
      have HC := Aside0.mk hc
      clear h hr0 hc0 hr1 hc1 hs hl e1 hc hn eg
      go_enter Tryz.func8, Tryz.ntmps8
      go_wp2_with (first | (go_at_call 18; refine HSET.out.mono ?_; rintro e w1 ⟨rfl, hb1⟩; have HB1 := Aside0.mk (HB0.out.trans (hb1.mono HB0.out.size)); have HX1 := Aside0.mk (HBOX.out.below hb1 HS0.out); have bx1 := HX1.out.cell; clear hb1) | (go_at_call 19; refine (HN.out _ HB1.out).mono ?_; rintro e w2 ⟨rfl, hb2⟩; have HB2 := Aside0.mk (HB1.out.trans (hb2.mono HB1.out.size)); have HX2 := Aside0.mk (HX1.out.below hb2 HX1.out.lt); clear hb2) | (go_at_call 20; refine (HC.out _ HB2.out HX2.out).mono ?_; rintro e w3 ⟨v3, rfl, hR3, hb3⟩; have HR3 := Aside0.mk hR3; have HB3 := Aside0.mk hb3; clear hR3 hb3))
      go_ret2
      exact ⟨_, rfl, Kd.R_lower HR3.out HB2.out.size, HB2.out.trans (HB3.out.mono HB2.out.size)⟩
    · rw [if_neg hn] at h
      rw [decide_eq_false hn] at HN
      obtain ⟨rfl, rfl⟩ := Prod.mk.inj (Option.some.inj h)
      clear h hr0 hc0 hr1 hc1 hn
      go_enter Tryz.func8, Tryz.ntmps8
      go_wp2_with (first | (go_at_call 18; refine HSET.out.mono ?_; rintro e w1 ⟨rfl, hb1⟩; have HB1 := Aside0.mk (HB0.out.trans (hb1.mono HB0.out.size)); have HX1 := Aside0.mk (HBOX.out.below hb1 HS0.out); have bx1 := HX1.out.cell; clear hb1) | (go_at_call 19; refine (HN.out _ HB1.out).mono ?_; rintro e w2 ⟨rfl, hb2⟩; have HB2 := Aside0.mk (HB1.out.trans (hb2.mono HB1.out.size)); clear hb2))
      go_ret2
      exact ⟨_, rfl, Kd.R_nil _ _ _ _ _, HB2.out⟩

end Go.Proofs.YtenojieaocbamaaGreatDoor.X

-- WRITTEN by xprint.py of this repo: the kit's print.py with contracts given by hand (given.py). Lean checks it.
import Derived.Test.YtkphnakihjiebaaDoorXx0
import Derived.Test.YtkphnakihjiebaaDoorXx5
import Derived.Test.YtkphnakihjiebaaDoorXx6
namespace Go.Proofs.YtkphnakihjiebaaDoor.X
open Go.RowKit Go.Proofs.YtkphnakihjiebaaDoorW.PrintWords Go.Proofs.YtkphnakihjiebaaDoorW.PrintLast Go.Proofs.YtkphnakihjiebaaDoorW.PrintMore
attribute [local go_sem] max2_int min2_int max_two min_two max_three min_three max_four min_four   -- for this text's walks alone
set_option linter.unusedVariables false
set_option linter.unusedSimpArgs false

/-! ### GIVEN impl_ReverseSet: function 36 -/
def revRen : Go.Shelf.Ren := ⟨fun | 35 => 86 | n => n, fun | 0 => 0 | 3 => 3 | 4 => 4 | 22 => 57 | 23 => 5 | n => n, fun n => n⟩
theorem laysRev : Go.Proofs.SlLaysE.n35 Tryd.prog revRen := {
  mixed := by kernel_rfl
  f35 := ⟨Tryd.f86.name, by decide, Tryd.func86.trans (congrArg some (by kernel_rfl))⟩
  t0 := Tryd.underlying0
  a0 := Tryd.isAgg0
  z0 := Tryd.sizeOf0
  v0 := Tryd.zeroValue0
  t3 := Tryd.underlying3
  a3 := Tryd.isAgg3
  z3 := Tryd.sizeOf3
  v3 := Tryd.zeroValue3
  t4 := Tryd.underlying4
  a4 := Tryd.isAgg4
  z4 := Tryd.sizeOf4
  v4 := Tryd.zeroValue4
  t22 := Tryd.underlying57
  a22 := Tryd.isAgg57
  z22 := Tryd.sizeOf57
  v22 := Tryd.zeroValue57
  a23 := Tryd.isAgg5
  z23 := Tryd.sizeOf5 }
def encU8 (b : UInt8) : Value := .int .u8 b.toNat
theorem nums_bytes (l : List UInt8) : strOfNums (l.map fun b => (b.toNat : Int)) = ⟨l.toArray⟩ := by
  unfold strOfNums
  rw [List.map_map]
  have e : l.map ((fun n : Int => UInt8.ofNat n.toNat) ∘ fun b : UInt8 => (b.toNat : Int)) = l := by
    induction l with
    | nil => rfl
    | cons b l ih => rw [List.map_cons, ih]; simp
  rw [e]
/-- A text backwards. -/
def revB (s : ByteArray) : ByteArray := ⟨s.data.toList.reverse.toArray⟩
theorem bytes_holds (w : World) (e : TypeId) (s : ByteArray) : Sort.Holds encU8 (Lib.bytesWorld w e s) w.heap.size 0 s.data.toList.toArray := by
  intro j hj
  have hj2 : j < s.size := by simpa using hj
  have hc := Lib.bytesWorld_cell w e s j hj2
  have hsz : s.size ≤ (Lib.bytesCells w e s).size := by simp [Lib.bytesCells]
  refine ⟨?_, ?_⟩
  · rw [Nat.zero_add, hc, getElem!_pos _ j hj]
    simp [encU8, List.getD_eq_getElem?_getD, hj2]
  · simp only [World.frozen?, Lib.bytesWorld_at_new]
    simp
    omega
set_option maxHeartbeats 2000000 in
theorem impl_back.calls (s : ByteArray) (hs : s.size ≤ 9223372036854775807) (w : World) : Calls Tryd.prog 65 #[.string s] w fun e w' => e = .returned (.string (revB s)) ∧ Below w.heap.size w w' := by
  have hcv := Lib.run_convert_string_bytes (P := Tryd.prog) w 9 57 5 s (u := .string) Tryd.underlying9 Tryd.underlying57 Tryd.underlying5
  obtain ⟨W1, hW1⟩ : ∃ W1, Lib.bytesWorld w 5 s = W1 := ⟨_, rfl⟩
  have hH := bytes_holds w 5 s
  have hsz1 := Lib.bytesWorld_size w 5 s
  have hbel : Below w.heap.size w W1 := by
    rw [← hW1]
    exact ⟨rfl, rfl, rfl, by rw [hsz1]; omega, fun j hj => Lib.bytesWorld_at_old w 5 s j hj⟩
  rw [hW1] at hcv hH
  have hrev := AnyE.slices_Reverse laysRev encU8 (fun _ => rfl) w.heap.size 0 (grownCap w s.size 0 5) s.data.toList W1 hH (by simpa using hs)
  have hlen : s.data.toList.length = s.size := by simp
  rw [hlen] at hrev
  have hback : ∀ q, (convert 57 9 (.slice (some ⟨w.heap.size, 0, none⟩) s.size (grownCap w s.size 0 5))).run Tryd.prog (Sort.putRow encU8 (Sort.ahead W1 q) w.heap.size 0 s.data.toList.reverse.toArray) = .ok (.string (revB s)) (Sort.putRow encU8 (Sort.ahead W1 q) w.heap.size 0 s.data.toList.reverse.toArray) := fun q => by
    have hh := Sort.holds_putRow encU8 (Sort.ahead W1 q) w.heap.size 0 s.data.toList.toArray s.data.toList.reverse.toArray (Sort.holds_ahead encU8 W1 q w.heap.size 0 s.data.toList.toArray hH) (by simp)
    have hc := run_convert_bytes_arg (P := Tryd.prog) (Sort.putRow encU8 (Sort.ahead W1 q) w.heap.size 0 s.data.toList.reverse.toArray) 57 5 Tryd.underlying57 Tryd.underlying5 w.heap.size 0 s.size (grownCap w s.size 0 5) (s.data.toList.reverse.map fun b => (b.toNat : Int)) (by simp)
      (fun i hi => by
        have := (hh i (by simpa using hi)).1
        rw [this, getElem!_pos _ i (by simpa using hi)]
        simp [encU8, List.getD_eq_getElem?_getD, hi]) 9 Tryd.underlying9
    rw [hc, nums_bytes]
    rfl
  go_enter Tryd.func65, Tryd.ntmps65
  go_wp2_with (go_at_call 86; refine hrev.mono ?_; rintro e w2 ⟨rfl, q, rfl⟩)
  go_ret
  exact ⟨rfl, below_putRow hbel (Nat.le_refl _) 0 _ q⟩

/-- What a function value makes of each text of a row, in whatever world that keeps what lay. -/
def FnT (P : Program) (g : Nat) (cb : Array Value) (p : ByteArray → ByteArray) (l : List ByteArray) (w : World) : Prop :=
  ∀ (W : World) (x : ByteArray), x ∈ l → Below w.heap.size w W → Calls P g (#[.string x] ++ cb) W fun e w' => e = .returned (.string (p x)) ∧ Below W.heap.size W w'
theorem infoStr : (Tryd.prog.info? 9).map (fun i => (i.zero, i.size, i.bytes)) = some (some (.string ByteArray.empty), 1, 16) := by kernel_rfl
set_option maxHeartbeats 8000000 in
set_option maxRecDepth 100000 in
theorem impl_mapped.calls_g (g : Nat) (cb : Array Value) (p : ByteArray → ByteArray) (eg : ∀ args w, (callFunc g args).run Tryd.prog w = .ok (.enter g args) w) (A0 : Option Addr) (c0 : Nat) (l0 : List ByteArray) (w : World) (hr0 : Kd.C Kd.string w A0 l0.length l0) (hc0 : l0.length ≤ c0) (hlen : l0.length ≤ 1048576)
    (hp : FnT Tryd.prog g cb p l0 w) :
    Calls Tryd.prog 64 #[.slice A0 l0.length c0, .func (.func g) #[] cb] w fun e w' => ∃ v0_ : Value, e = .returned (v0_) ∧ Kd.R Kd.string 9 w' w.heap.size (fun _ => True) v0_ (ordB (l0.map p)) ∧ Below w.heap.size w w' := by
  have HR0 := Aside0.mk hr0
  have HC0 := Aside0.mk hc0
  have HP := Aside0.mk hp
  have HL := Aside0.mk hlen
  clear hr0 hc0 hp hlen
  have HB := Aside0.mk (Below.refl w.heap.size w)
  go_enter Tryd.func64, Tryd.ntmps64
  go_wp2_with (first | ((with_reducible refine gate_dst (N := 8) rfl ?_); refine Kd.R_lit Kd.string _ 9 ?hg (N := 8) ?hd (xs := ([] : List ByteArray)) (inner := []) (ok := fun _ => True) (okp := fun _ => True) ?hr ?hp (fun _ hk => hk) trivial (Below.refl _ _) (Nat.le_refl _) (by simp) ?_; (case hd => rfl); (case hg => rfl); (case hr => first | (go_simp; done) | (go_simp; rfl)); (case hp => exact (Reps.none _ _)); intro v218 w2 ho3 hb hg_ hnew_; clear hg_ hnew_; have HO := Aside0.mk (Kd.R_lower ho3 (below_size HB.out)); have HB1 := Aside0.mk hb; clear HB hb ho3))
  go_loopg [5, 11] l0.length (fun gg v5 v11 w' => ∃ kk : Nat, v11 = .int .i64 kk ∧ Aside0 (kk ≤ l0.length) ∧ Aside0 (l0.length - kk ≤ gg) ∧ Aside0 (Kd.R Kd.string 9 w' w.heap.size (fun _ => True) v5 ((l0.take kk).map p)) ∧ Aside0 (Below w.heap.size w w'))
  case atStart => exact ⟨0, rfl, ⟨Nat.zero_le _⟩, ⟨by omega⟩, ⟨HO.out⟩, HB1⟩
  case round =>
    clear HO HB1
    obtain ⟨kk, rfl, HK, HG, HO, HB⟩ := hrel
    by_cases hlt : kk < l0.length
    · have hltz : (kk : Int) < (l0.length : Int) := by omega
      obtain ⟨ad, e1, hcell⟩ := Kd.at_string (Kd.C_below HR0.out HB.out) kk (by omega) hltz
      have hrd : rdOf ByteArray.empty l0 (kk : Int) = l0[kk] := by simp [rdOf, List.getD_eq_getElem?_getD, hlt]
      rw [hrd] at hcell
      clear hrd
      simp only [Int.toNat_natCast] at hcell
      subst e1
      have hcall := HP.out wr l0[kk] (List.getElem_mem hlt) HB.out
      have hnext : (l0.take (kk + 1)).map p = (l0.take kk).map p ++ [p l0[kk]] := by rw [List.take_succ_eq_append_getElem hlt, List.map_append]; rfl
      have hx : ((l0.take kk).map p).length ≤ 1048576 := by rw [List.length_map, List.length_take]; have := HL.out; omega
      obtain ⟨xs, hxs⟩ : ∃ xs, (l0.take kk).map p = xs := ⟨_, rfl⟩
      rw [hxs] at HO hnext hx
      clear hxs
      generalize hy : l0[kk] = y at hcell hcall hnext
      have HY := Aside0.mk hy
      have HN := Aside0.mk hnext
      have HX := Aside0.mk hx
      clear hy hnext hx
      obtain ⟨z, hz⟩ : ∃ z, p y = z := ⟨_, rfl⟩
      rw [hz] at hcall HN
      clear hz
      have HLT := Aside0.mk hlt
      go_wp2_with (first | (go_at_fn g; refine hcall.mono ?_; rintro e w3 ⟨rfl, hb3⟩; have HO3 := Aside0.mk (Kd.R_below HO.out hb3); have HB3 := Aside0.mk (HB.out.trans (hb3.mono HB.out.size)); clear hb3) | ((with_reducible refine gate_builtin (b := .append) (xs := #[.tmp 15, .tmp 19]) rfl ?_); at_builtin; refine Kd.R_append Kd.string (w0 := w) w.heap.size rfl (.tmp 15) (.tmp 19) 22 9 (.string ⟨#[]⟩) 16 rfl Tryd.underlying22 infoStr rfl (by decide) (by omega) u5 xs z [.string z] (fun _ => True) (fun _ => False) rfl rfl ?aP (fun _ hk => hk.elim) ?aF ?aO ?aB ?aS ?aL ?_; (case aP => exact rfl); (case aB => exact (by repeat (first | (with_reducible first | exact HB3.out | apply below_alloc | apply pw_below_drewN | apply below_drew1) | exact HB3.out))); (case aF => exact (fun _ _ => trivial)); (case aO => exact (by (with_reducible repeat (first | apply Kd.R_alloc | apply Kd.R_drewN | apply Kd.R_drew)); exact HO3.out)); (case aS => exact (below_size (by repeat (first | (with_reducible first | exact HB3.out | apply below_alloc | apply pw_below_drewN | apply below_drew1) | exact HB3.out)))); (case aL => have := HX.out; omega); intro v225 w11 ho hb hg hat; have HB4 := Aside0.mk hb; have HO4 := Aside0.mk ho; clear ho hb hg hat))
      go_roundg (l0.length - (kk + 1))
      case measure => have := HG.out; have := HLT.out; omega
      case rel => exact ⟨kk + 1, by have h1_ := HLT.out; have h2_ := HL.out; first | (congr 1; unfold wrap64; omega) | go_num, ⟨HLT.out⟩, ⟨by have := HG.out; omega⟩, ⟨by rw [HN.out]; exact HO4.out⟩, HB4⟩
    · have hltz : ¬ (kk : Int) < (l0.length : Int) := by omega
      have hk := HK.out
      obtain rfl : kk = l0.length := by omega
      rw [List.take_length] at HO
      have hyl : (l0.map p).length ≤ 1048576 := by rw [List.length_map]; exact HL.out
      obtain ⟨ys, hys⟩ : ∃ ys, l0.map p = ys := ⟨_, rfl⟩
      rw [hys] at HO hyl
      have HY := Aside0.mk hys
      clear hys
      obtain ⟨A1, c1, e1, hc1, hC1⟩ := Kd.R_reads HO.out
      subst e1
      have hord := impl_ordered.calls A1 c1 ys (ordB ys) wr hC1 hc1 (by unfold impl_ordered.f; rw [if_pos (by omega)])
      have HORD := Aside0.mk hord
      clear hord hC1 hc1 hk hyl
      go_wp2_with (go_at_call 60; refine HORD.out.mono ?_; rintro e w5 ⟨v5, rfl, hR5, hb5⟩; have HR5 := Aside0.mk hR5; have HB5 := Aside0.mk hb5; clear hR5 hb5)
      go_ret
      rw [HY.out]
      exact ⟨_, rfl, Kd.R_lower HR5.out HB.out.size, HB.out.trans (HB5.out.mono HB.out.size)⟩

def sz63 (x : ByteArray) : Bool := decide (x.size ≤ 9223372036854775807)
def impl_ReverseSet.f (k : Nat) (l0 : List ByteArray) : Option (List ByteArray × Bool) := (impl_isSet.f k l0).bind fun b => if b = true then (if l0.length ≤ 1048576 then (if l0.all sz63 = true then some (ordB (l0.map revB), true) else none) else none) else some ([], false)
theorem impl_ReverseSet.mono : ∀ a0 k, LeO (impl_ReverseSet.f k a0) (impl_ReverseSet.f (k + 1) a0) := by
  intro a0 k
  unfold impl_ReverseSet.f
  exact LeO.bind (impl_isSet.mono _ _) (fun _ => LeO.refl _)
set_option maxHeartbeats 4000000 in
theorem impl_ReverseSet.calls (k : Nat) (A0 : Option Addr) (c0 : Nat) (l0 : List ByteArray) (r1 : List ByteArray) (r2 : Bool) (w : World) (hr0 : Kd.C Kd.string w A0 l0.length l0) (hc0 : l0.length ≤ c0) (h : impl_ReverseSet.f k l0 = some (r1, r2)) :
    Calls Tryd.prog 36 #[.slice A0 l0.length c0] w fun e w' => ∃ v0_ : Value, e = .returned (.tuple #[v0_, .bool r2]) ∧ Kd.R Kd.string 9 w' w.heap.size (fun _ => True) v0_ r1 ∧ Below w.heap.size w w' := by
  unfold impl_ReverseSet.f at h
  obtain ⟨b, hb, h⟩ := Option.bind_eq_some_iff.mp h
  have hset := fun (W : World) (hW : Below w.heap.size w W) => impl_isSet.calls k A0 c0 l0 b W (Kd.C_below hr0 hW) hc0 hb
  clear hb
  cases b with
  | false =>
    rw [if_neg (by decide)] at h
    obtain ⟨rfl, rfl⟩ := Prod.mk.inj (Option.some.inj h)
    clear h hr0 hc0
    go_enter Tryd.func36, Tryd.ntmps36
    go_wp2_with (go_at_call 44; refine (hset _ (Below.refl _ _)).mono ?_; rintro e w1 ⟨rfl, hb1⟩)
    go_ret2
    exact ⟨_, rfl, Kd.R_nil _ _ _ _ _, by first | exact hb1 | exact hb1.below⟩
  | true =>
    rw [if_pos rfl] at h
    by_cases hl : l0.length ≤ 1048576
    · rw [if_pos hl] at h
      by_cases hs : l0.all sz63 = true
      · rw [if_pos hs] at h
        obtain ⟨e1, rfl⟩ := Prod.mk.inj (Option.some.inj h)
        have hsz : ∀ x ∈ l0, x.size ≤ 9223372036854775807 := fun x hx => of_decide_eq_true (List.all_eq_true.1 hs x hx)
        have eg := enters_of Tryd.func65 (by kernel_rfl) rfl
        have hc := fun (W : World) (hW : Below w.heap.size w W) => impl_mapped.calls_g _ #[] revB eg A0 c0 l0 W (Kd.C_below hr0 hW) hc0 hl (fun W' x hx _ => impl_back.calls x (hsz x hx) W')
        rw [e1] at hc
        have HC := Aside0.mk hc
        clear h hr0 hc0 hsz hs hl e1 hc
        go_enter Tryd.func36, Tryd.ntmps36
        go_wp2_with (first | (go_at_call 44; refine (hset _ (Below.refl _ _)).mono ?_; rintro e w1 ⟨rfl, hb1⟩; have HB1 := Aside0.mk hb1; clear hb1) | (go_at_call 64; refine (HC.out _ (by first | exact HB1.out | exact HB1.out.below)).mono ?_; rintro e w2 ⟨v2, rfl, hR2, hb2⟩; have HR2 := Aside0.mk hR2; have HB2 := Aside0.mk hb2; clear hR2 hb2))
        go_ret2
        have hb := HB1.out
        exact ⟨_, rfl, by first | exact Kd.R_lower HR2.out HB1.out.size | exact Kd.R_lower HR2.out HB1.out.below.size, by first | exact HB1.out.trans (HB2.out.mono HB1.out.size) | exact HB1.out.below.trans (HB2.out.mono HB1.out.below.size)⟩
      · rw [if_neg hs] at h; cases h
    · rw [if_neg hl] at h; cases h

end Go.Proofs.YtkphnakihjiebaaDoor.X

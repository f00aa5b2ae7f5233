-- WRITTEN by xprint.py of this repo: the kit's print.py with contracts given by hand (given.py). Lean checks it.
import Derived.Test.YtgokegndboknfaaDoorXx0
import Derived.Test.YtgokegndboknfaaDoorXx6
import Derived.Test.YtgokegndboknfaaDoorXx7
import Derived.Test.YtgokegndboknfaaDoorXx9
import Derived.Test.YtgokegndboknfaaDoorXx10
import Derived.Test.YtgokegndboknfaaDoorXx11
namespace Go.Proofs.YtgokegndboknfaaDoor.X
open Go.RowKit Go.Proofs.YtgokegndboknfaaDoorW.PrintWords Go.Proofs.YtgokegndboknfaaDoorW.PrintLast Go.Proofs.YtgokegndboknfaaDoorW.PrintMore
attribute [local go_sem] max2_int min2_int max_two min_two max_three min_three max_four min_four   -- for this text's walks alone
set_option linter.unusedVariables false
set_option linter.unusedSimpArgs false

/-! ### GIVEN impl_ShrinkPrefix: function 18 -/
/-- What a function value tells of each element, in whatever world that keeps what lay. -/
def FnP (P : Program) (g : Nat) (cb : Array Value) {α : Type} (enc : α → Value) (p : α → Bool) (l : List α) (w : World) : Prop :=
  ∀ (W : World) (x : α), x ∈ l → Below w.heap.size w W → Calls P g (#[enc x] ++ cb) W fun e w' => e = .returned (.bool (p x)) ∧ Below W.heap.size W w'
def idxG {α : Type} (p : α → Bool) (l : List α) : Int := if l.any p then (l.findIdx p : Int) else -1

theorem idxG_hit {α : Type} {p : α → Bool} {l : List α} {k : Nat} (hk : k < l.length) (h : p l[k] = true) (hn : ∀ j (hj : j < k), p (l[j]'(by omega)) = false) : idxG p l = (k : Int) := by
  unfold idxG
  rw [if_pos (List.any_eq_true.2 ⟨_, List.getElem_mem hk, h⟩)]
  congr 1
  exact List.findIdx_eq hk |>.2 ⟨h, fun j hj => hn j hj⟩
theorem idxG_miss {α : Type} {p : α → Bool} {l : List α} (hn : ∀ j (hj : j < l.length), p l[j] = false) : idxG p l = -1 := by
  unfold idxG
  rw [if_neg]
  intro h
  obtain ⟨x, hx, hp⟩ := List.any_eq_true.1 h
  obtain ⟨j, hj, rfl⟩ := List.getElem_of_mem hx
  rw [hn j hj] at hp
  exact absurd hp (by simp)


theorem idxG_nonneg {α : Type} (p : α → Bool) (l : List α) : decide (0 ≤ idxG p l) = l.any p := by
  unfold idxG
  cases h : l.any p
  · simp
  · simp

theorem C_addr {α : Type} {enc : α → Value} {h1 : ∀ x, (enc x).oneCell' = true} {w : World} {ad : Addr} {n : Nat} {xs : List α} (h : Kd.C (Kd.scalar enc h1) w (some ad) n xs) (hn : 0 < n) :
    ∃ b o, ad = ⟨b, o, none⟩ ∧ b < w.heap.size ∧ ∀ (j : Nat) x, xs[j]? = some x → w.cell? ⟨b, o + j, none⟩ = some (enc x) := by
  obtain ⟨hl, _, hh⟩ := h
  obtain ⟨ad', e, hc⟩ := hh hn
  cases e
  have cell : ∀ (j : Nat) x, xs[j]? = some x → w.cell? (ad.add j) = some (enc x) := fun j x hx => by
    obtain ⟨c, _, rfl, hcell⟩ := hc j x hx
    have := hcell 0 (enc x) rfl
    rwa [show j * (Kd.scalar enc h1).sz + 0 = j from Nat.mul_one j] at this
  have h0 : xs[0]? = some (xs[0]'(by omega)) := List.getElem?_eq_getElem (by omega)
  have c0 := cell 0 _ h0
  obtain ⟨b, o, sp⟩ := ad
  have c0' : w.cell? ⟨b, o, sp⟩ = some (enc (xs[0]'(by omega))) := by simpa [Addr.add] using c0
  have hsp : sp = none := by
    cases sp with
    | none => rfl
    | some q =>
      simp only [World.cell?] at c0'
      split at c0' <;> simp at c0'
  subst hsp
  refine ⟨b, o, rfl, ?_, fun j x hx => ?_⟩
  · simp only [World.cell?] at c0'
    split at c0'
    · rename_i hg
      exact (Array.getElem?_eq_some_iff.1 hg).1
    · cases c0'
  · have := cell j x hx
    by_cases hj : j = 0
    · subst hj
      simpa [Addr.add] using this
    · simpa [Addr.add, hj] using this

set_option maxHeartbeats 2000000 in
theorem slices_IndexFunc_string.calls_g (g : Nat) (cb : Array Value) (p : ByteArray → Bool) (eg : ∀ args w, (callFunc g args).run Tryd.prog w = .ok (.enter g args) w) (A0 : Option Addr) (c0 : Nat) (l0 : List ByteArray) (w : World) (hr0 : Kd.C Kd.string w A0 l0.length l0) (hc0 : l0.length ≤ c0)
    (hp : FnP Tryd.prog g cb Value.string p l0 w) :
    Calls Tryd.prog 55 #[.slice A0 l0.length c0, .func (.func g) #[] cb] w fun e w' => e = .returned (.int .i64 (idxG p l0)) ∧ Below w.heap.size w w' := by
  have hbig := hr0.2.1
  have HR0 := Aside0.mk hr0
  clear hr0
  have HP := Aside0.mk hp
  clear hp
  go_enter Tryd.func55, Tryd.ntmps55
  go_wp2
  go_loopg [5, 8] l0.length (fun gg _ s8 wr => ∃ kk : Nat, kk ≤ l0.length ∧ l0.length - kk ≤ gg ∧ s8 = .int .i64 kk ∧ Aside0 (Below w.heap.size w wr) ∧ Aside0 (∀ j (hj : j < kk) (hl : j < l0.length), p l0[j] = false))
  case atStart => exact ⟨0, Nat.zero_le _, by omega, rfl, ⟨Below.refl _ _⟩, ⟨fun j hj => absurd hj (Nat.not_lt_zero _)⟩⟩
  case round =>
    obtain ⟨kk, hkk, hg, rfl, HB, HN⟩ := hrel
    by_cases hlt : kk < l0.length
    · have hltz : (kk : Int) < (l0.length : Int) := by omega
      obtain ⟨ad, e1, hcell⟩ := Kd.at_string (Kd.C_below HR0.out HB.out) kk (by omega) hltz
      have hrd : rdOf ByteArray.empty l0 (kk : Int) = l0[kk] := by simp [rdOf, List.getD_eq_getElem?_getD, hlt]
      rw [hrd] at hcell
      clear hrd
      simp only [Int.toNat_natCast] at hcell
      subst e1
      have hcall := HP.out wr l0[kk] (List.getElem_mem hlt) HB.out
      generalize hy : l0[kk] = y at hcell hcall
      have B := Aside0.mk hy
      clear hy
      cases hq : p y with
      | true =>
        have hq' := Aside0.mk hq
        rw [hq] at hcall
        clear hq
        go_wp2_with (go_at_fn g; refine hcall.mono ?_; rintro e w' ⟨rfl, hb⟩)
        go_ret
        exact ⟨by rw [idxG_hit hlt (by rw [B.out]; exact hq'.out) (fun j hj => HN.out j hj (by omega))]; rfl, HB.out.trans (hb.mono HB.out.size)⟩
      | false =>
        have hq' := Aside0.mk hq
        rw [hq] at hcall
        clear hq
        go_wp2_with (go_at_fn g; refine hcall.mono ?_; rintro e w' ⟨rfl, hb⟩)
        go_roundg (l0.length - (kk + 1))
        case measure => omega
        case rel =>
          refine ⟨kk + 1, by omega, by omega, by go_num, ⟨HB.out.trans (hb.mono HB.out.size)⟩, ⟨fun j hj hl => ?_⟩⟩
          by_cases e : j = kk
          · subst e
            rw [B.out]; exact hq'.out
          · exact HN.out j (by omega) hl
    · have hltz : ¬ (kk : Int) < (l0.length : Int) := by omega
      go_wp2
      go_ret
      exact ⟨by rw [idxG_miss (fun j hj => HN.out j (by omega) hj)]; rfl, HB.out⟩

set_option maxHeartbeats 2000000 in
theorem slices_ContainsFunc_string.calls_g (g : Nat) (cb : Array Value) (p : ByteArray → Bool) (eg : ∀ args w, (callFunc g args).run Tryd.prog w = .ok (.enter g args) w) (A0 : Option Addr) (c0 : Nat) (l0 : List ByteArray) (w : World) (hr0 : Kd.C Kd.string w A0 l0.length l0) (hc0 : l0.length ≤ c0)
    (hp : FnP Tryd.prog g cb Value.string p l0 w) :
    Calls Tryd.prog 34 #[.slice A0 l0.length c0, .func (.func g) #[] cb] w fun e w' => e = .returned (.bool (l0.any p)) ∧ Below w.heap.size w w' := by
  rw [← idxG_nonneg]
  go_enter Tryd.func34, Tryd.ntmps34
  go_wp2_with (go_at_call 55; refine (slices_IndexFunc_string.calls_g g cb p eg A0 c0 l0 _ hr0 hc0 hp).mono ?_; rintro e w' ⟨rfl, hb⟩)
  go_ret
  exact ⟨rfl, hb⟩

/-- The cell of internal/bytealg.MaxLen holds some number. -/
def MaxAt (w : World) : Prop := ∃ m, w.cell? ⟨0, 0, none⟩ = some (.int .i64 m)
theorem maxAt_below {w W : World} (h : MaxAt w) (hb : Below w.heap.size w W) : MaxAt W := by
  obtain ⟨m, hm⟩ := h
  exact ⟨m, (hb.cell (World.block_lt_of_cell? w _ hm)).trans hm⟩

theorem heap_new (w : World) (o : Obj) : (w.alloc o).heap[w.heap.size]? = some o := by
  have h : (w.alloc o).heap = w.heap.push o := rfl
  rw [h, Array.getElem?_push, if_pos rfl]
/-- A value that has been put into a box of its own. -/
theorem box_new (w : World) (v : Value) (e : Nat) : (w.alloc (.cells #[v] e)).cell? ⟨w.heap.size, 0, none⟩ = some v := by
  unfold World.cell?
  rw [show (w.alloc (.cells #[v] e)).heap[(⟨w.heap.size, 0, none⟩ : Addr).block]? = some (.cells #[v] e) from heap_new w _]
  rfl

def Bq (W : World) (G : Nat) (v : Value) (t : Nat) : Prop := W.heap[G]? = some (.cells #[v] t (0, 0))
theorem Bq.cell {W : World} {G t : Nat} {v : Value} (h : Bq W G v t) : W.cell? ⟨G, 0, none⟩ = some v ∧ W.frozen? ⟨G, 0, none⟩ = false := by
  have h' : W.heap[G]? = some (.cells #[v] t (0, 0)) := h
  exact ⟨by simp [World.cell?, h'], by simp [World.frozen?, h']⟩
theorem Bq.lt {W : World} {G t : Nat} {v : Value} (h : Bq W G v t) : G < W.heap.size := (Array.getElem?_eq_some_iff.1 h).1
theorem Bq.below {W W' : World} {G n t : Nat} {v : Value} (h : Bq W G v t) (hb : Below n W W') (hG : G < n) : Bq W' G v t := (hb.block G hG).trans h
theorem Bq.set {W : World} {G t : Nat} {v : Value} (h : Bq W G v t) (v' : Value) : Bq (W.setCell ⟨G, 0, none⟩ v') G v' t := by
  have h' : W.heap[G]? = some (.cells #[v] t (0, 0)) := h
  show (W.setCell ⟨G, 0, none⟩ v').heap[G]? = _
  simp [World.setCell, Array.getElem?_modify, h']
theorem Bq.other {W : World} {G G' t : Nat} {v : Value} (h : Bq W G v t) (hne : G ≠ G') (v' : Value) : Bq (W.setCell ⟨G', 0, none⟩ v') G v t := (Below.heap_setCell W ⟨G', 0, none⟩ v' G hne).trans h
theorem Bq.grown {W W' : World} {G t : Nat} {v : Value} {row : Option Nat} (h : Bq W G v t) (hg : W.grownBy W' row) (hne : some G ≠ row) : Bq W' G v t := (hg.block G h.lt hne).trans h
theorem Bq.same {W W' : World} {G t : Nat} {v : Value} (h : Bq W G v t) (e : W'.heap[G]? = W.heap[G]?) : Bq W' G v t := e.trans h

section
open Go.Shelf Go.Maps Go.Sort
def shHasC (s : ByteArray) : Bool := Lib.contains s.data.toList [99]
def sz1000s (s : ByteArray) : Bool := decide (s.size ≤ 1000)
set_option maxRecDepth 100000 in
set_option maxHeartbeats 4000000 in
theorem shr1_calls (x : ByteArray) (hx : x.size ≤ 1000) (m : Int) (W : World) (hm : W.cell? ⟨0, 0, none⟩ = some (.int .i64 m)) : Calls Tryd.prog 35 #[.string x] W fun e w' => e = .returned (.bool (shHasC x)) ∧ Below W.heap.size W w' := by
  have HC := Aside0.mk (Tryd.strings_Contains x ⟨#[99]⟩ m W (by omega) hm)
  clear hx hm
  go_enter Tryd.func35, Tryd.ntmps35
  go_wp2_with (go_at_call 36; refine HC.out.mono ?_; rintro e w' ⟨rfl, rfl⟩)
  go_ret
  exact ⟨rfl, Below.refl _ _⟩
/-- Whether a word is the inner word x and one letter. -/
def shP (x s : ByteArray) : Bool := decide (s.size = x.size + 1) && begB s x
set_option maxRecDepth 100000 in
set_option maxHeartbeats 4000000 in
theorem shr2_gives (x s : ByteArray) (hx : x.size ≤ 1000) (B : Nat) (W : World) (hc : W.cell? ⟨B, 0, none⟩ = some (.string x)) :
    FnGives Tryd.prog 41 #[.pointer (some ⟨B, 0, none⟩)] #[.string s] (.bool (shP x s)) W := by
  show Calls Tryd.prog 41 #[.string s, .pointer (some ⟨B, 0, none⟩)] W _
  have hw : IntKind.i64.wrap ((x.size : Int) + 1) = (x.size : Int) + 1 := by rw [i64_w]; unfold wrap64; omega
  by_cases he : s.size = x.size + 1
  · have hq : shP x s = begB s x := by unfold shP; rw [decide_eq_true he, Bool.true_and]
    have heq : ((s.size : Int) == (x.size : Int) + 1) = true := by rw [beq_iff_eq]; omega
    have heq2 : (s.size : Int) = (x.size : Int) + 1 := by omega
    rw [hq]
    clear hx hq he
    go_enter Tryd.func41, Tryd.ntmps41
    go_wp2_with (go_at_call 42; refine (strings_HasPrefix.calls s x (begB s x) _ (hasPrefix_f s x)).mono ?_; rintro e w' ⟨rfl, ⟨nd, rfl⟩⟩)
    go_ret
    exact ⟨rfl, nd, rfl⟩
  · have hq : shP x s = false := by unfold shP; rw [decide_eq_false he, Bool.false_and]
    have heq : ((s.size : Int) == (x.size : Int) + 1) = false := by rw [beq_eq_false_iff_ne]; omega
    rw [hq]
    clear hx hq he
    go_enter Tryd.func41, Tryd.ntmps41
    go_wp2_with fail
    go_ret
    exact ⟨rfl, 0, rfl⟩
def shOut (set : List ByteArray) (x : ByteArray) : List ByteArray := set.filter fun s => !shP x s
/-- A row of a copy of its own, less the words that are x and one letter. -/
theorem shDel (set : List ByteArray) (hpos : 0 < set.length) (x : ByteArray) (hx : x.size ≤ 1000) (B : Nat) (W : World) (hB : B < W.heap.size) (hc : W.cell? ⟨B, 0, none⟩ = some (.string x)) (base : Nat) (v : Value) (hR : Kd.R Kd.string 9 W base (fun k => k ≠ B) v set) :
    Calls Tryd.prog 39 #[v, .func (.func 41) #[] #[.pointer (some ⟨B, 0, none⟩)]] W fun e W' => ∃ v', e = .returned v' ∧ Kd.R Kd.string 9 W' base (fun _ => True) v' (shOut set x) ∧ Below base W W' := by
  have eg := enters_of Tryd.func41 (by kernel_rfl) rfl
  have hown := Kd.own_of_R hR
  obtain ⟨g, cap, rfl, hg, hgl, _⟩ := Kd.R_form hR hpos
  have hne : g ≠ B := hR.1 g (by simp [Value.ownBlock])
  have hown' : W.ownsRow base 9 1 (.slice (some ⟨g, 0, none⟩) set.length cap) set.length (set.map Value.string) := hown
  have hcap : set.length ≤ cap ∧ cap ≤ maxLen := by
    obtain ⟨_, hh⟩ := hown
    rcases hh with ⟨hh, _⟩ | ⟨g', cap', cur, he, _, _, hn, hcap, _, _⟩
    · cases hh
    · cases he; exact ⟨hn, hcap⟩
  have hfl : (set.filter fun s => !shP x s).length ≤ set.length := List.length_filter_le _ _
  have hd := Tryd.slices_DeleteFunc Value.string (fun _ => rfl) (shP x) 41 #[.pointer (some ⟨B, 0, none⟩)] eg ⟨#[]⟩ Tryd.zeroValue9 g 0 cap set.toArray W
    (fun W' s hb => shr2_gives x s hx B W' ((hb.cell (p := ⟨B, 0, none⟩) hB).trans hc))
    (fun n os dk s _ => shr2_gives x s hx B _ (by
      unfold sortWorld
      rw [cell?_grow _ _ _ (by show B < (putRow _ _ _ _ _).heap.size; rw [size_putRow]; exact hB), cell?_putRow_other _ _ g 0 _ _ (Or.inl (Ne.symm hne))]
      exact hc))
    (own_holds hown') (by rw [List.size_toArray]; have := hcap.2; unfold maxLen at this; omega) (by rw [List.size_toArray]; exact hcap.1)
  rw [List.size_toArray] at hd
  refine hd.mono ?_
  rintro e W' ⟨rfl, q, rfl⟩
  refine ⟨_, rfl, ?_, below_putRow (Below.refl base W) hg _ _ _⟩
  have hfin := own_put (enc := Value.string) hown' ((set.filter fun s => !shP x s) ++ List.replicate (set.length - (set.filter fun s => !shP x s).length) (⟨#[]⟩ : ByteArray)).toArray (by simp; omega) (set.filter fun s => !shP x s).length hfl q
  have hcells : (((set.filter fun s => !shP x s) ++ List.replicate (set.length - (set.filter fun s => !shP x s).length) (⟨#[]⟩ : ByteArray)).toArray.toList.take (set.filter fun s => !shP x s).length).map Value.string = (set.filter fun s => !shP x s).map Value.string := by
    rw [List.toList_toArray, List.take_left]
  rw [hcells] at hfin
  exact Kd.R_of_own hfin (fun _ _ => trivial)
end
theorem results_cell2 {P : Program} {fn : Func} {p u : Tmp} {ty ty2 : TypeId} (h : fn.results = #[.cell p ty, .cell u ty2]) {tmps : Array Value} {w : World} {a b : Addr} {x y : Value} (hp : tmps.getD p undef = .pointer (some a)) (hu : tmps.getD u undef = .pointer (some b))
    (hx : (loadVar ty a).run P w = .ok x w) (hy : (loadVar ty2 b).run P w = .ok y w) : (results fn tmps).run P w = .ok (.tuple #[x, y]) w := by
  rw [Array.getD_eq_getD_getElem?] at hp hu
  simp only [results, h]
  simp [Sem.run_bind, Result.andThen, hp, hu, asAddr, hx, hy]
theorem run_loadV {P : Program} {w : World} {t : TypeId} {a : Addr} {v : Value} (hag : (isAgg t).run P w = .ok false w) (hc : w.cell? a = some v) : (loadVar t a).run P w = .ok v w := by
  unfold loadVar
  simp [Sem.run_bind, hag, Result.andThen, load, Sem.run, hc]
section
open Go.Shelf Go.Maps Go.Sort
attribute [local go_sem] Oper.semAt_some
/-- What an iterator from the end hands out: a place and a text. -/
abbrev SX := { x : Int × ByteArray // x.2.size ≤ 1000 }
def sxE (x : SX) : Array Value := #[.int .i64 x.1.1, .string x.1.2]
def sxAt (zs : List ByteArray) (j : Nat) : SX := if h : (zs.getD j ⟨#[]⟩).size ≤ 1000 then ⟨((j : Int), zs.getD j ⟨#[]⟩), h⟩ else ⟨((j : Int), ⟨#[]⟩), Nat.zero_le _⟩
def bw (zs : List ByteArray) (k : Nat) : List SX := (List.range k).map fun i => sxAt zs (zs.length - 1 - i)
theorem bw_succ (zs : List ByteArray) (k : Nat) : bw zs (k + 1) = bw zs k ++ [sxAt zs (zs.length - 1 - k)] := by simp [bw, List.range_succ]
theorem bw_length (zs : List ByteArray) (k : Nat) : (bw zs k).length = k := by simp [bw]
theorem sxE_at (zs : List ByteArray) (hz : ∀ s ∈ zs, s.size ≤ 1000) (j : Nat) (hj : j < zs.length) : sxE (sxAt zs j) = #[.int .i64 (j : Int), .string zs[j]] := by
  have e : zs.getD j ⟨#[]⟩ = zs[j] := by simp [List.getD_eq_getElem?_getD, hj]
  unfold sxE sxAt
  rw [dif_pos (by rw [e]; exact hz _ (List.getElem_mem hj))]
  simp only [e]
set_option maxRecDepth 100000 in
set_option maxHeartbeats 2000000 in
theorem bwd1_in (F : Fence) (n : Nat) (h7 : F.fn 57) (hro : F.round = none) (hn : 1 ≤ n) (l Bs n₀ cap : Nat) (A0 : Option Addr) (zs : List ByteArray) (hz : ∀ s ∈ zs, s.size ≤ 1000) (W0 : World) (hC : Kd.C Kd.string W0 A0 zs.length zs) (hn0 : W0.heap.size ≤ n₀) (hlen : zs.length ≤ 1000000) (J Jx : List SX → World → Prop)
    (hY : ∀ pre x W, J pre W → pre.length < zs.length → YieldAt F (n - 1) Tryd.prog l (sxE x) W fun e W' =>
      (e = .returned (.bool true) ∧ J (pre ++ [x]) W' ∧ Below n₀ W W') ∨ (e = .returned (.bool false) ∧ Jx (pre ++ [x]) W'))
    (W : World) (hW0 : Below W0.heap.size W0 W) (hBs : W.cell? ⟨Bs, 0, none⟩ = some (.slice A0 zs.length cap)) (hBl : Bs < n₀) (h0 : J [] W) :
    CallsIn F n Tryd.prog 57 #[.func (.yield l) #[] #[], .pointer (some ⟨Bs, 0, none⟩)] W fun e W' => (∃ v, e = .returned v) ∧
      ((∃ ys, ys = bw zs zs.length ∧ J ys W') ∨ (∃ pre, (∃ k, k ≤ zs.length ∧ pre = bw zs k) ∧ Jx pre W')) := by
  have HC := Aside0.mk hC
  clear hC
  refine callsIn_of_wp Tryd.func57 rfl h7 ?_ hro
  simp only [Tryd.ntmps57, List.size_toArray, List.length_cons, List.length_nil, Nat.reduceAdd, Nat.reduceSub, Array.replicate_succ, Array.replicate_zero, List.push_toArray, List.append_toArray, List.nil_append, List.cons_append]
  gi_wp2
  gi_loopw [3] (fun i wr => ∃ (k : Nat) (jz : Int), k ≤ zs.length ∧ i = .int .i64 jz ∧ jz = (zs.length : Int) - 1 - (k : Int) ∧ J (bw zs k) wr ∧ Below n₀ W wr)
    (fun i _ => (intOf i + 1).toNat)
  case atStart => exact ⟨0, _, Nat.zero_le _, rfl, by first | omega | (unfold wrap64; omega), h0, Below.refl _ _⟩
  case round =>
    obtain ⟨k, jz, hk, rfl, hjz, hJs, hnx⟩ := hrel
    by_cases hlt : k < zs.length
    · obtain ⟨j, hj⟩ : ∃ j : Nat, j = zs.length - 1 - k := ⟨_, rfl⟩
      have hjl : j < zs.length := by omega
      obtain rfl : jz = (j : Int) := by omega
      have hltz : (j : Int) < (zs.length : Int) := by omega
      have hj0 : (0 : Int) ≤ (j : Int) := by omega
      obtain ⟨ad, e1, hcell⟩ := Kd.at_string (Kd.C_below HC.out (hW0.trans (hnx.mono hn0))) j (by omega) hltz
      have hrd : rdOf ByteArray.empty zs (j : Int) = zs[j] := by simp [rdOf, List.getD_eq_getElem?_getD, hjl]
      rw [hrd] at hcell
      clear hrd
      simp only [Int.toNat_natCast] at hcell
      have hbx := (hnx.cell (p := ⟨Bs, 0, none⟩) hBl).trans hBs
      subst e1
      obtain ⟨fn, tmps, assign, body, hy, hR⟩ := hY _ (sxAt zs j) wr hJs (by rw [bw_length]; exact hlt)
      rw [sxE_at zs hz j hjl] at hy
      have hnext : bw zs (k + 1) = bw zs k ++ [sxAt zs j] := by rw [bw_succ, hj]
      have HN := Aside0.mk hnext
      generalize zs[j] = s at hcell hy
      have HJ := Aside0.mk hj
      clear hnext hjz hj
      have hy2 := hy
      gi_wp2
      refine hR.mono ?_
      rintro e W3 (⟨rfl, hJ3, hk3⟩ | ⟨rfl, hJx3⟩)
      · gi_wp2
        go_roundw
        case rel => exact ⟨k + 1, _, by omega, rfl, by have h1_ := HJ.out; first | omega | (unfold wrap64; omega), by rw [HN.out]; exact hJ3, hnx.trans hk3⟩
        case measure => have h1_ := HJ.out; simp [intOf] <;> first | omega | (unfold wrap64; omega)
      · gi_wp2
        refine bodyPost_ret (results_none rfl _ _ _) rfl ?_
        exact ⟨⟨_, rfl⟩, .inr ⟨_, ⟨k + 1, by omega, HN.out.symm⟩, hJx3⟩⟩
    · obtain rfl : k = zs.length := by omega
      obtain rfl : jz = -1 := by omega
      gi_wp2
      go_end0
      exact ⟨⟨_, rfl⟩, .inl ⟨_, rfl, hJs⟩⟩
end
section
open Go.Shelf Go.Maps Go.Sort
attribute [local go_sem] Oper.semAt_some
theorem bwd_in (F : Fence) (n : Nat) (h5 : F.fn 37) (hro : F.round = none) (a : Option Addr) (len cap : Nat) (w : World) :
    CallsIn F n Tryd.prog 37 #[.slice a len cap] w fun e w' => e = .returned (.func (.func 57) #[] #[.pointer (some ⟨w.heap.size, 0, none⟩)]) ∧ w' = w.alloc (.cells #[.slice a len cap] 22) := by
  refine callsIn_of_wp Tryd.func37 rfl h5 ?_ hro
  simp only [Tryd.ntmps37, List.size_toArray, List.length_cons, List.length_nil, Nat.reduceAdd, Nat.reduceSub, Array.replicate_succ, Array.replicate_zero, List.push_toArray, List.append_toArray, List.nil_append, List.cons_append]
  gi_wp2
  go_ret
  exact ⟨rfl, rfl⟩
theorem bw_take (zs : List ByteArray) {k : Nat} (hk : k ≤ zs.length) : bw zs k <+: bw zs zs.length := by
  refine ⟨(List.range' k (zs.length - k)).map fun i => sxAt zs (zs.length - 1 - i), ?_⟩
  unfold bw
  have e : List.range' 0 k ++ List.range' k (zs.length - k) = List.range' 0 zs.length := by
    have h := @List.range'_append_1 0 k (zs.length - k)
    rw [Nat.zero_add] at h
    rw [h]; congr 1; omega
  rw [← List.map_append, List.range_eq_range', List.range_eq_range', e]
/-- slices.Backward hands back an iterator: the texts from the end. -/
theorem bwd_stops (F : Fence) (n : Nat) (h7 : F.fn 57) (hro : F.round = none) (hn : 1 ≤ n) (Bs n₀ cap : Nat) (A0 : Option Addr) (zs : List ByteArray) (hz : ∀ s ∈ zs, s.size ≤ 1000) (hlen : zs.length ≤ 1000000) (W0 w : World) (hC : Kd.C Kd.string W0 A0 zs.length zs)
    (hn0 : W0.heap.size ≤ n₀) (hW : Below W0.heap.size W0 w) (hBs : w.cell? ⟨Bs, 0, none⟩ = some (.slice A0 zs.length cap)) (hBl : Bs < n₀) (hnw : n₀ ≤ w.heap.size) :
    SeqStopsK F n Tryd.prog 57 #[.pointer (some ⟨Bs, 0, none⟩)] sxE (Below n₀) (fun ys => ys = bw zs zs.length) (fun pre => pre <+: bw zs zs.length) zs.length w := fun l J Jx W hW2 _ _ hY h0 => by
  refine (bwd1_in F n h7 hro hn l Bs n₀ cap A0 zs hz W0 hC hn0 hlen J Jx hY W (hW.trans (hW2.mono (Nat.le_trans hn0 hnw))) ((hW2.cell (p := ⟨Bs, 0, none⟩) (Nat.lt_of_lt_of_le hBl hnw)).trans hBs) hBl h0).mono ?_
  rintro e W' ⟨he, ⟨ys, rfl, hj⟩ | ⟨pre, ⟨k, hk, rfl⟩, hj⟩⟩
  · exact ⟨he, .inl ⟨_, rfl, hj⟩⟩
  · exact ⟨he, .inr ⟨_, bw_take zs hk, hj⟩⟩
/-- Whether an inner word is passed over. -/
def shSkip (set : List ByteArray) (many : Int) (x : ByteArray) : Bool := decide ((set.length : Int) < ((shOut set x).length : Int) + many)
/-- What is handed back at the inner word that is taken. -/
def shT (set : List ByteArray) (x : ByteArray) : Option (List ByteArray × Bool) := if x.toList = [] then some ([], false) else (impl_ordered.f (shOut set x ++ [x])).bind fun r => some (r, true)
def shF (set : List ByteArray) (many : Int) : List ByteArray → Option (List ByteArray × Bool)
  | [] => some ([], false)
  | x :: xs => if shSkip set many x = true then shF set many xs else shT set x
/-- What stands behind the loop. -/
theorem shF_skip {set : List ByteArray} {many : Int} : ∀ (pre zs : List ByteArray), (∀ y ∈ pre, shSkip set many y = true) → shF set many (pre ++ zs) = shF set many zs
  | [], _, _ => rfl
  | y :: pre, zs, h => by
    rw [List.cons_append, shF, if_pos (h y List.mem_cons_self)]
    exact shF_skip pre zs fun z hz => h z (List.mem_cons_of_mem _ hz)
theorem bw_words (zs : List ByteArray) (hz : ∀ s ∈ zs, s.size ≤ 1000) : (bw zs zs.length).map (fun x => x.1.2) = zs.reverse := by
  apply List.ext_getElem
  · rw [List.length_map, bw_length, List.length_reverse]
  · intro i h1 h2
    rw [List.length_reverse] at h2
    rw [List.getElem_map, List.getElem_reverse]
    unfold bw
    rw [List.getElem_map, List.getElem_range]
    have hj : zs.length - 1 - i < zs.length := by omega
    have e : zs.getD (zs.length - 1 - i) ⟨#[]⟩ = zs[zs.length - 1 - i] := by simp [List.getD_eq_getElem?_getD, hj]
    unfold sxAt
    rw [dif_pos (by rw [e]; exact hz _ (List.getElem_mem hj))]
    exact e
end
def impl_ShrinkPrefix.f (k : Nat) (l0 : List ByteArray) : Option (List ByteArray × Bool) := (impl_isSet.f k l0).bind fun b => if b = true then ((impl_isPrefixSet.f l0).bind fun p => if p = true then (if l0.all sz1000s = true ∧ l0.length ≤ 1000000 then ((impl_innerWords.f k l0).bind fun inn =>
    if inn.all sz1000s = true ∧ inn.length ≤ 1000000 ∧ (l0.length = 0 → inn.length = 0) then shF l0 (if l0.any shHasC = true then 3 else 2) inn.reverse else none) else none) else some ([], false)) else some ([], false)
theorem impl_ShrinkPrefix.mono : ∀ a0 k, LeO (impl_ShrinkPrefix.f k a0) (impl_ShrinkPrefix.f (k + 1) a0) := by
  intro a0 k
  unfold impl_ShrinkPrefix.f
  exact LeO.bind (impl_isSet.mono _ _) fun _ => LeO.ite (LeO.bind (LeO.refl _) fun _ => LeO.ite (LeO.ite (LeO.bind (impl_innerWords.mono _ _) fun _ => LeO.refl _) (LeO.refl _)) (LeO.refl _)) (LeO.refl _)
section
open Go.Shelf Go.Maps Go.Sort
attribute [local go_sem] Oper.semAt_some
theorem infoStrSh : (Tryd.prog.info? 9).map (fun i => (i.zero, i.size, i.bytes)) = some (some (.string ⟨#[]⟩), 1, 16) := by kernel_rfl
/-- What a round that hands back leaves behind it. -/
def ShR (w : World) (l0 : List ByteArray) (many : Int) (pre : List SX) (W : World) : Prop := ∃ (pre' : List SX) (x : SX) (v : Value) (q1 : List ByteArray) (q2 : Bool), pre = pre' ++ [x] ∧ (∀ y ∈ pre', shSkip l0 many y.1.2 = true) ∧ shSkip l0 many x.1.2 = false ∧ shT l0 x.1.2 = some (q1, q2) ∧
  Bq W (w.heap.size + 1) v 22 ∧ Bq W (w.heap.size + 1 + 1) (.bool q2) 4 ∧ Kd.R Kd.string 9 W w.heap.size (fun k => some k = v.ownBlock) v q1 ∧ Below w.heap.size w W
theorem bq_ne {W : World} {G t : Nat} {v : Value} {row : Option Nat} (h : Bq W G v t) (hr : ∀ r, row = some r → ∃ o : Obj, W.heap[r]? = some o ∧ o.isCells = false) : some G ≠ row := fun e => by
  obtain ⟨o, ho, hc⟩ := hr G e.symm
  have h' : W.heap[G]? = some (.cells #[v] t (0, 0)) := h
  rw [h'] at ho; cases ho; cases hc
theorem ShR.own {w : World} {l0 : List ByteArray} {many : Int} {B : Nat} (hB : w.heap.size ≤ B) : OwnFrom B (fun pre W => ShR w l0 many pre W) := by
  rintro s W W' row ⟨pre', x, v, q1, q2, e1, e2, e3, e4, b1, b2, hR, hb⟩ hg hr
  have hr' : ∀ r, row = some r → ∃ o : Obj, W.heap[r]? = some o ∧ o.isCells = false := fun r e => (hr r e).2
  refine ⟨pre', x, v, q1, q2, e1, e2, e3, e4, b1.grown hg (bq_ne b1 hr'), b2.grown hg (bq_ne b2 hr'), Kd.R_grown hR hg (fun k hk e => ?_), hb.grown hg hb.size (fun k e => Nat.le_trans hB (hr k e).1)⟩
  obtain ⟨inner, ho⟩ := Kd.R_own hR
  obtain ⟨cells, hc⟩ := own_typed ho k hk.symm
  obtain ⟨o, ho2, hn⟩ := hr' k e.symm
  rw [hc] at ho2; cases ho2; cases hn
theorem keepsFrom_below {B : Nat} {W W' : World} (h : Below W.heap.size W W') : KeepsFrom B W W' := ⟨h.size, fun k o _ hk _ => (h.block k (Array.getElem?_eq_some_iff.1 hk).1).trans hk⟩
set_option maxRecDepth 100000 in
set_option maxHeartbeats 16000000 in
theorem impl_ShrinkPrefix.loop (k : Nat) (A0 : Option Addr) (c0 : Nat) (l0 : List ByteArray) (inn : List ByteArray) (r1 : List ByteArray) (r2 : Bool) (w : World) (hr0 : Kd.C Kd.string w A0 l0.length l0) (hc0 : l0.length ≤ c0) (hm : MaxAt w)
    (hset : impl_isSet.f k l0 = some true) (hpre : impl_isPrefixSet.f l0 = some true) (hsz : ∀ s ∈ l0, s.size ≤ 1000) (hll : l0.length ≤ 1000000) (hinn : impl_innerWords.f k l0 = some inn) (hiz : ∀ s ∈ inn, s.size ≤ 1000) (hil : inn.length ≤ 1000000) (hne : l0.length = 0 → inn.length = 0)
    (many : Int) (b : Bool) (hb : l0.any shHasC = b) (hmany : many = if b = true then 3 else 2) (hF : shF l0 many inn.reverse = some (r1, r2)) :
    CallsIn Fence.wide 8 Tryd.prog 18 #[.slice A0 l0.length c0] w fun e w' => ∃ v0_ : Value, e = .returned (.tuple #[v0_, .bool r2]) ∧ Kd.R Kd.string 9 w' w.heap.size (fun _ => True) v0_ r1 ∧ Below w.heap.size w w' := by
  have eg1 := enters_of Tryd.func35 (by kernel_rfl) rfl
  obtain ⟨W0, hW0⟩ : ∃ W0, ((w.alloc (.cells #[.slice A0 l0.length c0] 22)).alloc (.cells #[.slice none 0 0] 22)).alloc (.cells #[.bool false] 4) = W0 := ⟨_, rfl⟩
  have hb0 : Below w.heap.size w W0 := by rw [← hW0]; exact below_alloc (below_alloc (below_alloc (Below.refl _ _) _) _) _
  have hz0 : W0.heap.size = w.heap.size + 3 := by rw [← hW0]; simp
  have hq1 : Bq W0 w.heap.size (.slice A0 l0.length c0) 22 := by
    rw [← hW0]
    exact (Below.heap_alloc _ _ _ (by simp; omega)).trans ((Below.heap_alloc _ _ _ (by simp)).trans (heap_new w _))
  have hq2 : Bq W0 (w.heap.size + 1) (.slice none 0 0) 22 := by
    rw [← hW0]
    have e := heap_new (w.alloc (.cells #[.slice A0 l0.length c0] 22)) (.cells #[.slice none 0 0] 22)
    rw [show (w.alloc (.cells #[.slice A0 l0.length c0] 22)).heap.size = w.heap.size + 1 by simp] at e
    exact (Below.heap_alloc _ _ _ (by simp)).trans e
  have hq3 : Bq W0 (w.heap.size + 1 + 1) (.bool false) 4 := by
    rw [← hW0]
    have e := heap_new ((w.alloc (.cells #[.slice A0 l0.length c0] 22)).alloc (.cells #[.slice none 0 0] 22)) (.cells #[.bool false] 4)
    rw [show ((w.alloc (.cells #[.slice A0 l0.length c0] 22)).alloc (.cells #[.slice none 0 0] 22)).heap.size = w.heap.size + 1 + 1 by simp] at e
    exact e
  have HR0 := Aside0.mk hr0
  have HC0 := Aside0.mk hc0
  have HSET := Aside0.mk hset
  have HPRE := Aside0.mk hpre
  have HINN := Aside0.mk hinn
  have HM := Aside0.mk hm
  have HSZ := Aside0.mk hsz
  have HB0 := Aside0.mk hb0
  have HQ1 := Aside0.mk hq1
  have HQ2 := Aside0.mk hq2
  have HQ3 := Aside0.mk hq3
  have HZ0 := Aside0.mk hz0
  have HFF := Aside0.mk hF
  have HIZ := Aside0.mk hiz
  have HIL := Aside0.mk hil
  have HNE := Aside0.mk hne
  have HLL := Aside0.mk hll
  have bx1 := hq1.cell.1
  clear hr0 hc0 hset hpre hinn hm hsz hb0 hq1 hq2 hq3 hz0 hF hiz hil hne hll
  cases b with
  | true =>
    rw [if_pos rfl] at hmany
    subst hmany
    have HCON := Aside0.mk (fun (W : World) (hW : Below w.heap.size w W) => slices_ContainsFunc_string.calls_g _ #[] shHasC eg1 A0 c0 l0 W (Kd.C_below HR0.out hW) HC0.out (fun W2 x hx hW2 => by
      obtain ⟨m, hm'⟩ := maxAt_below HM.out (hW.trans (hW2.mono hW.size))
      exact shr1_calls x (HSZ.out x hx) m W2 hm'))
    rw [hb] at HCON
    clear hb eg1
    refine callsIn_of_wp_marks Tryd.func18 rfl trivial ?_ rfl
    simp only [Tryd.ntmps18, List.size_toArray, List.length_cons, List.length_nil, Nat.reduceAdd, Nat.reduceSub, Array.replicate_succ, Array.replicate_zero, List.push_toArray, List.append_toArray, List.nil_append, List.cons_append]
    gi_wp2_with (first
      | (refine ⟨trivial, ?_⟩; gi_at_call 22; refine (callsIn_wide.2 (impl_isSet.calls k A0 c0 l0 true _ (Kd.C_below HR0.out HB0.out) HC0.out HSET.out)).mono ?_; rintro e w1 ⟨rfl, hb1⟩; have HB1 := Aside0.mk (HB0.out.trans (hb1.mono HB0.out.size)); have HB01 := Aside0.mk hb1; have bx11 := (HQ1.out.below hb1 HQ1.out.lt).cell.1; clear hb1)
      | (refine ⟨trivial, ?_⟩; gi_at_call 33; refine (callsIn_wide.2 (impl_isPrefixSet.calls A0 c0 l0 true _ (Kd.C_below HR0.out HB1.out) HC0.out HPRE.out)).mono ?_; rintro e w2 ⟨rfl, hb2⟩; have HB2 := Aside0.mk (HB1.out.trans (hb2.mono HB1.out.size)); have HB02 := Aside0.mk (HB01.out.trans (hb2.mono HB01.out.size)); have bx12 := (HQ1.out.below HB02.out HQ1.out.lt).cell.1; have bx12a : (w2.alloc (.cells #[.int .i64 2] 3)).cell? ⟨w.heap.size, 0, none⟩ = some (.slice A0 l0.length c0) := (HQ1.out.below (below_alloc HB02.out _) HQ1.out.lt).cell.1; clear hb2))
    refine ⟨trivial, ?_⟩
    gi_at_call 34
    refine (callsIn_wide.2 (HCON.out (w2.alloc (.cells #[.int .i64 2] 3)) (below_alloc HB2.out _))).mono ?_
    rintro e w3 ⟨rfl, hb3⟩
    have hzz := HB02.out.size
    have hz0 := HZ0.out
    have hq40 : Bq w3 w2.heap.size (.int .i64 2) 3 := (Bq.below (heap_new w2 _) hb3 (by simp))
    have bx4 := hq40.cell.1
    have fx4 := hq40.cell.2
    have hq4 : Bq (w3.setCell ⟨w2.heap.size, 0, none⟩ (.int .i64 3)) w2.heap.size (.int .i64 3) 3 := (Bq.below (heap_new w2 _) hb3 (by simp)).set _
    have hq1 : Bq (w3.setCell ⟨w2.heap.size, 0, none⟩ (.int .i64 3)) w.heap.size (.slice A0 l0.length c0) 22 := Bq.other ((HQ1.out.below (below_alloc HB02.out _) HQ1.out.lt).below hb3 (by simp; omega)) (by omega) _
    have hq2 : Bq (w3.setCell ⟨w2.heap.size, 0, none⟩ (.int .i64 3)) (w.heap.size + 1) (.slice none 0 0) 22 := Bq.other ((HQ2.out.below (below_alloc HB02.out _) HQ2.out.lt).below hb3 (by simp; omega)) (by omega) _
    have hq3 : Bq (w3.setCell ⟨w2.heap.size, 0, none⟩ (.int .i64 3)) (w.heap.size + 1 + 1) (.bool false) 4 := Bq.other ((HQ3.out.below (below_alloc HB02.out _) HQ3.out.lt).below hb3 (by simp; omega)) (by omega) _
    have hbX : Below w.heap.size w (w3.setCell ⟨w2.heap.size, 0, none⟩ (.int .i64 3)) := below_set ((below_alloc HB2.out _).trans (hb3.mono (by simp; omega))) (by omega)
    have hzX : w2.heap.size < (w3.setCell ⟨w2.heap.size, 0, none⟩ (.int .i64 3)).heap.size := by simpa using hq4.lt
    have HQ1X := Aside0.mk hq1
    have HQ2X := Aside0.mk hq2
    have HQ3X := Aside0.mk hq3
    have HQ4X := Aside0.mk hq4
    have HBX := Aside0.mk hbX
    have HZX := Aside0.mk hzX
    have HZ2 := Aside0.mk (show w.heap.size + 3 ≤ w2.heap.size by omega)
    have bx13 := hq1.cell.1
    clear hb3 hq40 hq4 hq1 hq2 hq3 hbX hzX hzz hz0
    gi_wp2_with fail
    refine ⟨trivial, ?_⟩
    gi_at_call 38
    refine (callsIn_wide.2 (impl_innerWords.calls k A0 c0 l0 inn (w3.setCell ⟨w2.heap.size, 0, none⟩ (.int .i64 3)) (Kd.C_below HR0.out HBX.out) HC0.out HINN.out)).mono ?_
    rintro e w5 ⟨v5, rfl, hR5, hb5⟩
    obtain ⟨A5, c5, e5, _, hC5⟩ := Kd.R_reads hR5
    subst e5
    have HC5 := Aside0.mk hC5
    have HB5 := Aside0.mk hb5
    clear hR5 hC5 hb5
    gi_wp2_with fail
    refine ⟨trivial, ?_⟩
    gi_at_call 37
    refine (bwd_in Fence.wide 7 trivial rfl _ _ _ _).mono ?_
    rintro e w6 ⟨rfl, rfl⟩
    gi_wp2_with fail
    obtain ⟨WL, hWL⟩ : ∃ WL, w5.alloc (.cells #[.slice A5 inn.length c5] 22) = WL := ⟨_, rfl⟩
    have hb5L : Below w5.heap.size w5 WL := by rw [← hWL]; exact below_alloc (Below.refl _ _) _
    have hqb : Bq WL w5.heap.size (.slice A5 inn.length c5) 22 := by rw [← hWL]; exact heap_new w5 _
    have hzL : WL.heap.size = w5.heap.size + 1 := by rw [← hWL]; simp
    have hXL : Below (w3.setCell ⟨w2.heap.size, 0, none⟩ (.int .i64 3)).heap.size (w3.setCell ⟨w2.heap.size, 0, none⟩ (.int .i64 3)) WL := HB5.out.trans (hb5L.mono HB5.out.size)
    have hzX := HZX.out
    have hz2 := HZ2.out
    have hz5 := HB5.out.size
    have HQ1L := Aside0.mk (HQ1X.out.below hXL HQ1X.out.lt)
    have HQ2L := Aside0.mk (HQ2X.out.below hXL HQ2X.out.lt)
    have HQ3L := Aside0.mk (HQ3X.out.below hXL HQ3X.out.lt)
    have HQ4L := Aside0.mk (HQ4X.out.below hXL HQ4X.out.lt)
    have HBL := Aside0.mk (HBX.out.trans (hXL.mono HBX.out.size))
    have HCL := Aside0.mk (Kd.C_below HC5.out hb5L)
    have HSZL := Aside0.mk (show w.heap.size + 3 ≤ w2.heap.size ∧ w2.heap.size < WL.heap.size ∧ w5.heap.size < WL.heap.size ∧ w5.heap.size ≤ WL.heap.size from ⟨hz2, by omega, by omega, by omega⟩)
    rw [hWL]
    clear hWL hXL hzX hz2 hz5 hzL HQ1X HQ2X HQ3X HQ4X HBX HZX HZ2 HC5 HB5 HB1 HB01 HB2 HB02 bx11 bx12 bx12a bx13 bx1
    have HQBL := Aside0.mk hqb
    clear hqb hb5L
    refine wpIn_rangeFunc_ownH (F := Fence.wide) (n := 8) rfl (by omega) (gf := 57) (lb := #[.pointer (some ⟨w5.heap.size, 0, none⟩)]) rfl trivial (enters_of Tryd.func57 (by kernel_rfl) rfl)
      (bwd_stops Fence.wide 7 trivial rfl (by omega) w5.heap.size WL.heap.size c5 A5 inn HIZ.out HIL.out WL WL HCL.out (Nat.le_refl _) (Below.refl _ _) HQBL.out.cell.1 HQBL.out.lt (Nat.le_refl _)) belowK_t (belowK_b (Nat.le_refl _)) (Below.refl _ _) (fun _ => rfl)
      (fun pre W => Below WL.heap.size WL W ∧ ∀ y ∈ pre, shSkip l0 3 y.1.2 = true)
      (fun c pre W => c = .ret ∧ ShR w l0 3 pre W)
      (OwnFrom.and (ownFrom_below (Nat.le_refl _) (Nat.le_refl _)) (ownFrom_pure _ (fun pre : List SX => ∀ y ∈ pre, shSkip l0 3 y.1.2 = true)))
      (fun c => OwnFrom.and (ownFrom_pure _ (fun _ : List SX => c = .ret)) (ShR.own HBL.out.size))
      ⟨Below.refl _ _, by simp⟩
      (fun x a' W => ∃ Bx, WL.heap.size ≤ Bx ∧ Bq W Bx (.string x.1.2) 9 ∧ a' = { tmps := #[.slice A0 l0.length c0, .pointer (some ⟨w.heap.size, 0, none⟩), .pointer (some ⟨w.heap.size + 1, 0, none⟩), .pointer (some ⟨w.heap.size + 1 + 1, 0, none⟩), .pointer (some ⟨w2.heap.size, 0, none⟩), undef, .pointer (some ⟨Bx, 0, none⟩), undef, .slice A0 l0.length c0, .bool true, .bool false, .bool false, .slice A0 l0.length c0, .bool true, .bool false, .bool false, .slice A0 l0.length c0, .bool true, .slice A0 l0.length c0, .slice A5 inn.length c5, .func (.func 57) #[] #[.pointer (some ⟨w5.heap.size, 0, none⟩)], .int .i64 x.1.1, .string x.1.2, undef, undef, undef, undef, undef, undef, undef, undef, undef, undef, undef, undef, undef, undef, undef, undef, undef, undef], defers := [] })
      (fun x a' _ X Y row hs hg hr => by
        obtain ⟨Bx, h1, h2, h3⟩ := hs
        exact ⟨Bx, h1, h2.grown hg (bq_ne h2 (fun r e => (hr r e).2)), h3⟩)
      ?assign ?body ?done ?stop
    case assign =>
      rintro l pre x W K ⟨hBW, hsk⟩ hK
      simp only [sxE]
      gi_wp2
      exact hK _ _ (keepsFrom_below (below_alloc (Below.refl _ _) _)) ((Below.refl _ W).alloc hBW.size _) ⟨hBW.alloc hBW.size _, hsk⟩ ⟨W.heap.size, hBW.size, heap_new W _, rfl⟩
    case body =>
      rintro l pre x a' W hl ⟨r, hr⟩ ⟨hBW, hsk⟩ ⟨Bx, hBx, bX, rfl⟩ hlt
      have hxw := x.2
      obtain ⟨xi, hxi⟩ : ∃ xi, x.1.1 = xi := ⟨_, rfl⟩
      obtain ⟨xw, hxe⟩ : ∃ xw, x.1.2 = xw := ⟨_, rfl⟩
      rw [hxe] at bX hxw ⊢
      rw [hxi]
      have HXE := Aside0.mk hxe
      clear hxi hxe
      have hpos : 0 < l0.length := by
        rcases Nat.eq_zero_or_pos l0.length with h | h
        · have := HNE.out h; omega
        · exact h
      have HPOS := Aside0.mk hpos
      have HBW := Aside0.mk hBW
      have HBX := Aside0.mk bX
      have HSK := Aside0.mk hsk
      have HXW := Aside0.mk hxw
      have HBwW := Aside0.mk (HBL.out.trans (hBW.mono HBL.out.size))
      have HWS := Aside0.mk hBW.size
      have cB1 := (HQ1L.out.below hBW HQ1L.out.lt).cell.1
      have h1' : 1 ≤ 8 - 1 - 1 := by omega
      have hll := HLL.out
      have HCLN := Aside0.mk (show slices_Clone_string_string.f l0 = some l0 by unfold slices_Clone_string_string.f; rw [if_pos (by omega)])
      clear hpos hBW bX hsk hxw hlt hr hl hll
      gi_wp2_with fail
      refine ⟨trivial, ?_⟩
      gi_at_call 40
      refine (CallsIn.inRound l (callsIn_wide.2 (slices_Clone_string_string.calls A0 c0 l0 l0 W (Kd.C_below HR0.out HBwW.out) HC0.out HCLN.out))).mono ?_
      rintro e w8 ⟨v8, rfl, hR8, hb8⟩
      have hlt8 := HBX.out.lt
      have HR8 := Aside0.mk (show Kd.R Kd.string 9 w8 W.heap.size (fun k => k ≠ Bx) v8 l0 from Kd.R_mono (Kd.R_bound hR8) (fun k hk => by have := hk.2.1; omega))
      have HB8 := Aside0.mk hb8
      have HX8 := Aside0.mk (HBX.out.below hb8 hlt8)
      clear hR8 hb8 cB1 hlt8
      gi_wp2_with fail
      refine ⟨trivial, ?_⟩
      gi_at_call 39
      refine (CallsIn.inRound l (callsIn_wide.2 (shDel l0 HPOS.out xw HXW.out Bx w8 HX8.out.lt HX8.out.cell.1 W.heap.size v8 HR8.out))).mono ?_
      rintro e w9 ⟨v9, rfl, hR9, hb9⟩
      obtain ⟨A9, c9, e9, _, _⟩ := Kd.R_reads hR9
      subst e9
      have HR9 := Aside0.mk hR9
      have HB9 := Aside0.mk (show Below W.heap.size W w9 from HB8.out.trans hb9)
      have HBL9 := Aside0.mk (HBW.out.trans (HB9.out.mono HWS.out))
      have cB1 := (HQ1L.out.below HBL9.out HQ1L.out.lt).cell.1
      have cB4 := (HQ4L.out.below HBL9.out HQ4L.out.lt).cell.1
      have cBX := (HBX.out.below HB9.out HBX.out.lt).cell.1
      obtain ⟨n9, hn9⟩ : ∃ n9, (shOut l0 xw).length = n9 := ⟨_, rfl⟩
      have hn9l : n9 ≤ l0.length := by rw [← hn9]; exact List.length_filter_le _ _
      have hll := HLL.out
      rw [hn9]
      have HN9 := Aside0.mk hn9
      have hwr : IntKind.i64.wrap ((n9 : Int) + 3) = (n9 : Int) + 3 := by rw [i64_w]; unfold wrap64; omega
      have HWR := Aside0.mk hwr
      have HNL := Aside0.mk hn9l
      cases hs : shSkip l0 3 xw with
      | true =>
        have hs' := hs
        unfold shSkip at hs'
        rw [hn9, decide_eq_true_eq] at hs'
        have hsd : decide ((l0.length : Int) < (n9 : Int) + 3) = true := decide_eq_true hs'
        have HS := Aside0.mk hs
        clear hs hn9 hb9 hR9 hn9l hll
        gi_wp2
        exact ⟨keepsFrom_below HB9.out, HB9.out.mono HWS.out, HBL9.out, fun y hy => by
          rcases List.mem_append.1 hy with hy | hy
          · exact HSK.out y hy
          · rw [List.mem_singleton.1 hy, HXE.out]; exact HS.out⟩
      | false =>
        have hs' := hs
        unfold shSkip at hs'
        rw [hn9, decide_eq_false_iff_not] at hs'
        have hsd : decide ((l0.length : Int) < (n9 : Int) + 3) = false := decide_eq_false hs'
        have HS := Aside0.mk hs
        by_cases hem : xw.toList = []
        · have hemb : (xw.toList == []) = true := by rw [hem]; rfl
          have HT := Aside0.mk (show shT l0 xw = some ([], false) by unfold shT; rw [if_pos hem])
          have hq2 := HQ2L.out.below HBL9.out HQ2L.out.lt
          have hq3 := HQ3L.out.below HBL9.out HQ3L.out.lt
          have c2 := hq2.cell.1
          have f2 := hq2.cell.2
          have c3 := hq3.cell.1
          have f3 := hq3.cell.2
          have HQ2 := Aside0.mk hq2
          have HQ3 := Aside0.mk hq3
          clear hs hn9 hb9 hR9 hn9l hll hem hq2 hq3
          gi_wp2
          have hz := HSZL.out
          have hws := HWS.out
          exact ⟨(keepsFrom_below HB9.out).trans (((KeepsOthers.setCell _ _ _).trans (KeepsOthers.setCell _ _ _)).from _), rfl, pre, x, .slice none 0 0, [], false, rfl, HSK.out, by rw [HXE.out]; exact HS.out, by rw [HXE.out]; exact HT.out, (HQ2.out.set _).other (by omega) _, (HQ3.out.other (by omega) _).set _, Kd.R_nil _ _ _ _ _, below_set (below_set (HBwW.out.trans (HB9.out.mono HBwW.out.size)) (by omega)) (by omega)⟩
        · have hemb : (xw.toList == []) = false := by rw [beq_eq_false_iff_ne]; exact hem
          have hord : impl_ordered.f (shOut l0 xw ++ [xw]) = some (ordB (shOut l0 xw ++ [xw])) := by unfold impl_ordered.f; rw [if_pos (by rw [List.length_append, hn9, List.length_singleton]; omega)]
          have HORD := Aside0.mk hord
          have HT := Aside0.mk (show shT l0 xw = some (ordB (shOut l0 xw ++ [xw]), true) by unfold shT; rw [if_neg hem, hord]; rfl)
          have hown9 : w9.ownsRow W.heap.size 9 1 (.slice A9 n9 c9) n9 ((shOut l0 xw).map Value.string) := by
            have q_ := Kd.own_of_R HR9.out
            rw [hn9] at q_
            exact q_
          have HOWN9 := Aside0.mk (hown9.alloc (.cells #[.string xw] 9))
          have HLEN := Aside0.mk (show (shOut l0 xw ++ [xw]).length = n9 + 1 by rw [List.length_append, hn9]; rfl)
          obtain ⟨i0, hi0, hzi0, hzi1, hzi2⟩ := info_parts infoStrSh
          have HI0 := Aside0.mk hi0
          have HI1 := Aside0.mk hzi0
          have HI2 := Aside0.mk hzi1
          have HI3 := Aside0.mk hzi2
          have hb99 := HB9.out.size
          have HB99 := Aside0.mk hb99
          have HBASE := Aside0.mk (fun k (e : (Value.slice A9 n9 c9).ownBlock = some k) => Kd.R_base HR9.out k (by rw [hn9]; exact e))
          clear hs hb9 hR9 hem hord hown9 hi0 hzi0 hzi1 hzi2 hb99 hn9
          gi_wp2_with (gi_at_builtin; refine wpListIn_append_own _ rfl _ _ 22 rfl W.heap.size 9 i0 (.string ⟨#[]⟩) 1 16 Tryd.underlying22 HI0.out HI1.out HI2.out HI3.out rfl (by decide) _ _ _ rfl HOWN9.out ⟨w9.heap.size, 0, none⟩ 1 1 [.string xw] rfl rfl (cell_one_new _ _ _) (by simp [Value.oneCell']) (by unfold maxLen; omega) (by omega) (by have h1_ := HB99.out; simp; omega) ?_; intro v10 w10 hown10 hgrow10 hnil10; have HO10 := Aside0.mk hown10; have HG10 := Aside0.mk hgrow10; clear hown10 hgrow10 hnil10)
          have hb10 : Below W.heap.size W w10 := ((HB9.out.alloc HB99.out _).grown HG10.out (by have h1_ := HB99.out; simp; omega) (fun k e => HBASE.out k e))
          have hR10 : Kd.R Kd.string 9 w10 W.heap.size (fun _ => True) v10 (shOut l0 xw ++ [xw]) := by
            refine Kd.R_of_own (enc := Value.string) ?_ (fun _ _ => trivial)
            have q_ := HO10.out
            rw [HLEN.out]
            have e : Go.Proofs.YtgokegndboknfaaDoorW.PrintWords.encs Value.string (shOut l0 xw ++ [xw]) = (shOut l0 xw).map Value.string ++ [.string xw] := by
              show (shOut l0 xw ++ [xw]).map Value.string = _
              rw [List.map_append]; rfl
            rw [e]
            exact q_
          obtain ⟨A10, c10, e10, hc10, hC10⟩ := Kd.R_reads hR10
          subst e10
          rw [HLEN.out] at hC10 hc10 ⊢
          have HC10 := Aside0.mk hC10
          have HCC10 := Aside0.mk hc10
          have HB10 := Aside0.mk hb10
          clear hb10 hR10 hC10 hc10
          gi_wp2_with fail
          refine ⟨trivial, ?_⟩
          gi_at_call 43
          refine (CallsIn.inRound l (callsIn_wide.2 (show Calls Tryd.prog 43 #[.slice A10 (n9 + 1) c10] w10 _ from HLEN.out ▸ impl_ordered.calls A10 c10 (shOut l0 xw ++ [xw]) (ordB (shOut l0 xw ++ [xw])) w10 (by rw [HLEN.out]; exact HC10.out) (by rw [HLEN.out]; exact HCC10.out) HORD.out))).mono ?_
          rintro e w11 ⟨v11, rfl, hR11, hb11⟩
          obtain ⟨A11, c11, e11, _, _⟩ := Kd.R_reads hR11
          subst e11
          obtain ⟨n11, hn11⟩ : ∃ n11, (ordB (shOut l0 xw ++ [xw])).length = n11 := ⟨_, rfl⟩
          rw [hn11] at hR11 ⊢
          have HN11 := Aside0.mk hn11
          clear hn11
          have HB11 := Aside0.mk (HB10.out.trans (hb11.mono HB10.out.size))
          have HBL11 := Aside0.mk (HBW.out.trans (HB11.out.mono HWS.out))
          have hq2 := HQ2L.out.below HBL11.out HQ2L.out.lt
          have hq3 := HQ3L.out.below HBL11.out HQ3L.out.lt
          have c2 := hq2.cell.1
          have f2 := hq2.cell.2
          have c3 := hq3.cell.1
          have f3 := hq3.cell.2
          have HQ2 := Aside0.mk hq2
          have HQ3 := Aside0.mk hq3
          have HR11 := Aside0.mk (Kd.R_tight rfl hR11)
          have HBS11 := Aside0.mk (fun k (e : (Value.slice A11 n11 c11).ownBlock = some k) => Kd.R_base hR11 k e)
          have HZ10 := Aside0.mk (show WL.heap.size ≤ w10.heap.size from Nat.le_trans HWS.out HB10.out.size)
          clear hq2 hq3 hR11 hb11
          gi_wp2
          have hz := HSZL.out
          have hws := HWS.out
          have hz10 := HZ10.out
          refine ⟨(keepsFrom_below HB11.out).trans (((KeepsOthers.setCell _ _ _).trans (KeepsOthers.setCell _ _ _)).from _), rfl, pre, x, .slice A11 n11 c11, _, true, rfl, HSK.out, by rw [HXE.out]; exact HS.out, by rw [HXE.out]; exact HT.out, (HQ2.out.set _).other (by omega) _, (HQ3.out.other (by omega) _).set _, ?_, below_set (below_set (HBwW.out.trans (HB11.out.mono HBwW.out.size)) (by omega)) (by omega)⟩
          refine Kd.R_lower (Kd.R_step HR11.out (fun k hk hl => ?_)) (by omega)
          have h1_ := HBS11.out k hk.symm
          exact (Below.heap_setCell _ _ _ k (by show k ≠ w.heap.size + 1 + 1; omega)).trans (Below.heap_setCell _ _ _ k (by show k ≠ w.heap.size + 1; omega))
    case done =>
      rintro D xs W hD rfl ⟨hBW, hsk⟩ hK
      have hwords := bw_words inn HIZ.out
      have hsf : shF l0 3 inn.reverse = some ([], false) := by
        rw [← hwords]
        have h_ := shF_skip (set := l0) (many := 3) ((bw inn inn.length).map fun x => x.1.2) [] (fun y hy => by
          obtain ⟨z, hz, rfl⟩ := List.mem_map.1 hy
          exact hsk z hz)
        rw [List.append_nil] at h_
        exact h_
      have hres := HFF.out
      rw [hsf] at hres
      simp only [Option.some.injEq, Prod.mk.injEq] at hres
      obtain ⟨rfl, rfl⟩ := hres
      have hq2 := HQ2L.out.below hBW HQ2L.out.lt
      have hq3 := HQ3L.out.below hBW HQ3L.out.lt
      have c2 := hq2.cell.1
      have f2 := hq2.cell.2
      have c3 := hq3.cell.1
      have f3 := hq3.cell.2
      have HQ2 := Aside0.mk hq2
      have HQ3 := Aside0.mk hq3
      have HBW := Aside0.mk hBW
      have HK := Aside0.mk hK
      have HD := Aside0.mk hD
      clear hwords hsf hq2 hq3 hsk hBW hK hD
      gi_wp2
      have hz := HSZL.out
      have hd := HD.out
      have hk2 : ((W.setCell ⟨w.heap.size + 1, 0, none⟩ (.slice none 0 0)).setCell ⟨w.heap.size + 1 + 1, 0, none⟩ (.bool false)).heap[D]? = some (.deferred (some [])) := ((KeepsOthers.setCell _ _ _).trans (KeepsOthers.setCell _ _ _)).same D _ HK.out rfl
      refine ⟨by simp, .inl ⟨_, _, rfl, run_takeDeferred hk2, ?_⟩⟩
      have q2 := (((HQ2.out.set (.slice none 0 0)).other (show w.heap.size + 1 ≠ w.heap.size + 1 + 1 by omega) (.bool false)).grown (grownBy_putObj' _ D (.deferred none)) (by simp; omega)).cell.1
      have q3 := (((HQ3.out.other (show w.heap.size + 1 + 1 ≠ w.heap.size + 1 by omega) (.slice none 0 0)).set (.bool false)).grown (grownBy_putObj' _ D (.deferred none)) (by simp; omega)).cell.1
      exact ⟨_, results_cell2 rfl rfl rfl (run_loadV (Tryd.isAgg22 _) q2) (run_loadV (Tryd.isAgg4 _) q3), .slice none 0 0, rfl, Kd.R_nil _ _ _ _ _, (below_set (below_set (HBL.out.trans (HBW.out.mono HBL.out.size)) (by omega)) (by omega)).trans (belowK_b (w := w) (Nat.le_refl _) _ D _ _ (by omega) hk2 rfl rfl)⟩
    case stop =>
      rintro D c pre W hD hSp ⟨rfl, pre', x, v, q1, q2, rfl, hsk, hns, hT, hb2, hb3, hR, hbw⟩ hK
      have hwords := bw_words inn HIZ.out
      obtain ⟨rest, hrest⟩ := hSp
      have hsf : shF l0 3 inn.reverse = some (q1, q2) := by
        rw [← hwords, ← hrest, List.map_append, List.map_append, List.append_assoc, shF_skip _ _ (fun y hy => by
          obtain ⟨z, hz, rfl⟩ := List.mem_map.1 hy
          exact hsk z hz)]
        show shF l0 3 (x.1.2 :: rest.map fun x => x.1.2) = _
        rw [shF, if_neg (by rw [hns]; decide)]
        exact hT
      have hres := HFF.out
      rw [hsf] at hres
      simp only [Option.some.injEq, Prod.mk.injEq] at hres
      obtain ⟨rfl, rfl⟩ := hres
      have HD := Aside0.mk hD
      clear hwords hsf hsk hns hT hrest
      gi_wp2
      have hz := HSZL.out
      have hd := HD.out
      refine ⟨by simp, .inl ⟨_, _, rfl, run_takeDeferred hK, ?_⟩⟩
      have q2' := (hb2.grown (grownBy_putObj' _ D (.deferred none)) (by simp; omega)).cell.1
      have q3' := (hb3.grown (grownBy_putObj' _ D (.deferred none)) (by simp; omega)).cell.1
      exact ⟨_, results_cell2 rfl rfl rfl (run_loadV (Tryd.isAgg22 _) q2') (run_loadV (Tryd.isAgg4 _) q3'), v, rfl, Kd.R_mono (Kd.R_grown hR (grownBy_putObj' _ D (.deferred none)) (fun k hk e => by
        obtain ⟨inner, ho⟩ := Kd.R_own hR
        obtain ⟨cells, hc⟩ := own_typed ho k hk.symm
        cases e
        rw [hc] at hK; cases hK)) (fun _ _ => trivial), hbw.trans (belowK_b (w := w) (Nat.le_refl _) _ D _ _ (by omega) hK rfl rfl)⟩
  | false =>
    rw [if_neg (by decide)] at hmany
    subst hmany
    have HCON := Aside0.mk (fun (W : World) (hW : Below w.heap.size w W) => slices_ContainsFunc_string.calls_g _ #[] shHasC eg1 A0 c0 l0 W (Kd.C_below HR0.out hW) HC0.out (fun W2 x hx hW2 => by
      obtain ⟨m, hm'⟩ := maxAt_below HM.out (hW.trans (hW2.mono hW.size))
      exact shr1_calls x (HSZ.out x hx) m W2 hm'))
    rw [hb] at HCON
    clear hb eg1
    refine callsIn_of_wp_marks Tryd.func18 rfl trivial ?_ rfl
    simp only [Tryd.ntmps18, List.size_toArray, List.length_cons, List.length_nil, Nat.reduceAdd, Nat.reduceSub, Array.replicate_succ, Array.replicate_zero, List.push_toArray, List.append_toArray, List.nil_append, List.cons_append]
    gi_wp2_with (first
      | (refine ⟨trivial, ?_⟩; gi_at_call 22; refine (callsIn_wide.2 (impl_isSet.calls k A0 c0 l0 true _ (Kd.C_below HR0.out HB0.out) HC0.out HSET.out)).mono ?_; rintro e w1 ⟨rfl, hb1⟩; have HB1 := Aside0.mk (HB0.out.trans (hb1.mono HB0.out.size)); have HB01 := Aside0.mk hb1; have bx11 := (HQ1.out.below hb1 HQ1.out.lt).cell.1; clear hb1)
      | (refine ⟨trivial, ?_⟩; gi_at_call 33; refine (callsIn_wide.2 (impl_isPrefixSet.calls A0 c0 l0 true _ (Kd.C_below HR0.out HB1.out) HC0.out HPRE.out)).mono ?_; rintro e w2 ⟨rfl, hb2⟩; have HB2 := Aside0.mk (HB1.out.trans (hb2.mono HB1.out.size)); have HB02 := Aside0.mk (HB01.out.trans (hb2.mono HB01.out.size)); have bx12 := (HQ1.out.below HB02.out HQ1.out.lt).cell.1; have bx12a : (w2.alloc (.cells #[.int .i64 2] 3)).cell? ⟨w.heap.size, 0, none⟩ = some (.slice A0 l0.length c0) := (HQ1.out.below (below_alloc HB02.out _) HQ1.out.lt).cell.1; clear hb2))
    refine ⟨trivial, ?_⟩
    gi_at_call 34
    refine (callsIn_wide.2 (HCON.out (w2.alloc (.cells #[.int .i64 2] 3)) (below_alloc HB2.out _))).mono ?_
    rintro e w3 ⟨rfl, hb3⟩
    have hzz := HB02.out.size
    have hz0 := HZ0.out
    have hq4 : Bq w3 w2.heap.size (.int .i64 2) 3 := (Bq.below (heap_new w2 _) hb3 (by simp))
    have hq1 : Bq w3 w.heap.size (.slice A0 l0.length c0) 22 := ((HQ1.out.below (below_alloc HB02.out _) HQ1.out.lt).below hb3 (by simp; omega))
    have hq2 : Bq w3 (w.heap.size + 1) (.slice none 0 0) 22 := ((HQ2.out.below (below_alloc HB02.out _) HQ2.out.lt).below hb3 (by simp; omega))
    have hq3 : Bq w3 (w.heap.size + 1 + 1) (.bool false) 4 := ((HQ3.out.below (below_alloc HB02.out _) HQ3.out.lt).below hb3 (by simp; omega))
    have hbX : Below w.heap.size w w3 := (below_alloc HB2.out _).trans (hb3.mono (by simp; omega))
    have hzX : w2.heap.size < w3.heap.size := hq4.lt
    have HQ1X := Aside0.mk hq1
    have HQ2X := Aside0.mk hq2
    have HQ3X := Aside0.mk hq3
    have HQ4X := Aside0.mk hq4
    have HBX := Aside0.mk hbX
    have HZX := Aside0.mk hzX
    have HZ2 := Aside0.mk (show w.heap.size + 3 ≤ w2.heap.size by omega)
    have bx13 := hq1.cell.1
    clear hb3 hq4 hq1 hq2 hq3 hbX hzX hzz hz0
    gi_wp2_with fail
    refine ⟨trivial, ?_⟩
    gi_at_call 38
    refine (callsIn_wide.2 (impl_innerWords.calls k A0 c0 l0 inn w3 (Kd.C_below HR0.out HBX.out) HC0.out HINN.out)).mono ?_
    rintro e w5 ⟨v5, rfl, hR5, hb5⟩
    obtain ⟨A5, c5, e5, _, hC5⟩ := Kd.R_reads hR5
    subst e5
    have HC5 := Aside0.mk hC5
    have HB5 := Aside0.mk hb5
    clear hR5 hC5 hb5
    gi_wp2_with fail
    refine ⟨trivial, ?_⟩
    gi_at_call 37
    refine (bwd_in Fence.wide 7 trivial rfl _ _ _ _).mono ?_
    rintro e w6 ⟨rfl, rfl⟩
    gi_wp2_with fail
    obtain ⟨WL, hWL⟩ : ∃ WL, w5.alloc (.cells #[.slice A5 inn.length c5] 22) = WL := ⟨_, rfl⟩
    have hb5L : Below w5.heap.size w5 WL := by rw [← hWL]; exact below_alloc (Below.refl _ _) _
    have hqb : Bq WL w5.heap.size (.slice A5 inn.length c5) 22 := by rw [← hWL]; exact heap_new w5 _
    have hzL : WL.heap.size = w5.heap.size + 1 := by rw [← hWL]; simp
    have hXL : Below w3.heap.size w3 WL := HB5.out.trans (hb5L.mono HB5.out.size)
    have hzX := HZX.out
    have hz2 := HZ2.out
    have hz5 := HB5.out.size
    have HQ1L := Aside0.mk (HQ1X.out.below hXL HQ1X.out.lt)
    have HQ2L := Aside0.mk (HQ2X.out.below hXL HQ2X.out.lt)
    have HQ3L := Aside0.mk (HQ3X.out.below hXL HQ3X.out.lt)
    have HQ4L := Aside0.mk (HQ4X.out.below hXL HQ4X.out.lt)
    have HBL := Aside0.mk (HBX.out.trans (hXL.mono HBX.out.size))
    have HCL := Aside0.mk (Kd.C_below HC5.out hb5L)
    have HSZL := Aside0.mk (show w.heap.size + 3 ≤ w2.heap.size ∧ w2.heap.size < WL.heap.size ∧ w5.heap.size < WL.heap.size ∧ w5.heap.size ≤ WL.heap.size from ⟨hz2, by omega, by omega, by omega⟩)
    rw [hWL]
    clear hWL hXL hzX hz2 hz5 hzL HQ1X HQ2X HQ3X HQ4X HBX HZX HZ2 HC5 HB5 HB1 HB01 HB2 HB02 bx11 bx12 bx12a bx13 bx1
    have HQBL := Aside0.mk hqb
    clear hqb hb5L
    refine wpIn_rangeFunc_ownH (F := Fence.wide) (n := 8) rfl (by omega) (gf := 57) (lb := #[.pointer (some ⟨w5.heap.size, 0, none⟩)]) rfl trivial (enters_of Tryd.func57 (by kernel_rfl) rfl)
      (bwd_stops Fence.wide 7 trivial rfl (by omega) w5.heap.size WL.heap.size c5 A5 inn HIZ.out HIL.out WL WL HCL.out (Nat.le_refl _) (Below.refl _ _) HQBL.out.cell.1 HQBL.out.lt (Nat.le_refl _)) belowK_t (belowK_b (Nat.le_refl _)) (Below.refl _ _) (fun _ => rfl)
      (fun pre W => Below WL.heap.size WL W ∧ ∀ y ∈ pre, shSkip l0 2 y.1.2 = true)
      (fun c pre W => c = .ret ∧ ShR w l0 2 pre W)
      (OwnFrom.and (ownFrom_below (Nat.le_refl _) (Nat.le_refl _)) (ownFrom_pure _ (fun pre : List SX => ∀ y ∈ pre, shSkip l0 2 y.1.2 = true)))
      (fun c => OwnFrom.and (ownFrom_pure _ (fun _ : List SX => c = .ret)) (ShR.own HBL.out.size))
      ⟨Below.refl _ _, by simp⟩
      (fun x a' W => ∃ Bx, WL.heap.size ≤ Bx ∧ Bq W Bx (.string x.1.2) 9 ∧ a' = { tmps := #[.slice A0 l0.length c0, .pointer (some ⟨w.heap.size, 0, none⟩), .pointer (some ⟨w.heap.size + 1, 0, none⟩), .pointer (some ⟨w.heap.size + 1 + 1, 0, none⟩), .pointer (some ⟨w2.heap.size, 0, none⟩), undef, .pointer (some ⟨Bx, 0, none⟩), undef, .slice A0 l0.length c0, .bool true, .bool false, .bool false, .slice A0 l0.length c0, .bool true, .bool false, .bool false, .slice A0 l0.length c0, .bool false, .slice A0 l0.length c0, .slice A5 inn.length c5, .func (.func 57) #[] #[.pointer (some ⟨w5.heap.size, 0, none⟩)], .int .i64 x.1.1, .string x.1.2, undef, undef, undef, undef, undef, undef, undef, undef, undef, undef, undef, undef, undef, undef, undef, undef, undef, undef], defers := [] })
      (fun x a' _ X Y row hs hg hr => by
        obtain ⟨Bx, h1, h2, h3⟩ := hs
        exact ⟨Bx, h1, h2.grown hg (bq_ne h2 (fun r e => (hr r e).2)), h3⟩)
      ?assign ?body ?done ?stop
    case assign =>
      rintro l pre x W K ⟨hBW, hsk⟩ hK
      simp only [sxE]
      gi_wp2
      exact hK _ _ (keepsFrom_below (below_alloc (Below.refl _ _) _)) ((Below.refl _ W).alloc hBW.size _) ⟨hBW.alloc hBW.size _, hsk⟩ ⟨W.heap.size, hBW.size, heap_new W _, rfl⟩
    case body =>
      rintro l pre x a' W hl ⟨r, hr⟩ ⟨hBW, hsk⟩ ⟨Bx, hBx, bX, rfl⟩ hlt
      have hxw := x.2
      obtain ⟨xi, hxi⟩ : ∃ xi, x.1.1 = xi := ⟨_, rfl⟩
      obtain ⟨xw, hxe⟩ : ∃ xw, x.1.2 = xw := ⟨_, rfl⟩
      rw [hxe] at bX hxw ⊢
      rw [hxi]
      have HXE := Aside0.mk hxe
      clear hxi hxe
      have hpos : 0 < l0.length := by
        rcases Nat.eq_zero_or_pos l0.length with h | h
        · have := HNE.out h; omega
        · exact h
      have HPOS := Aside0.mk hpos
      have HBW := Aside0.mk hBW
      have HBX := Aside0.mk bX
      have HSK := Aside0.mk hsk
      have HXW := Aside0.mk hxw
      have HBwW := Aside0.mk (HBL.out.trans (hBW.mono HBL.out.size))
      have HWS := Aside0.mk hBW.size
      have cB1 := (HQ1L.out.below hBW HQ1L.out.lt).cell.1
      have h1' : 1 ≤ 8 - 1 - 1 := by omega
      have hll := HLL.out
      have HCLN := Aside0.mk (show slices_Clone_string_string.f l0 = some l0 by unfold slices_Clone_string_string.f; rw [if_pos (by omega)])
      clear hpos hBW bX hsk hxw hlt hr hl hll
      gi_wp2_with fail
      refine ⟨trivial, ?_⟩
      gi_at_call 40
      refine (CallsIn.inRound l (callsIn_wide.2 (slices_Clone_string_string.calls A0 c0 l0 l0 W (Kd.C_below HR0.out HBwW.out) HC0.out HCLN.out))).mono ?_
      rintro e w8 ⟨v8, rfl, hR8, hb8⟩
      have hlt8 := HBX.out.lt
      have HR8 := Aside0.mk (show Kd.R Kd.string 9 w8 W.heap.size (fun k => k ≠ Bx) v8 l0 from Kd.R_mono (Kd.R_bound hR8) (fun k hk => by have := hk.2.1; omega))
      have HB8 := Aside0.mk hb8
      have HX8 := Aside0.mk (HBX.out.below hb8 hlt8)
      clear hR8 hb8 cB1 hlt8
      gi_wp2_with fail
      refine ⟨trivial, ?_⟩
      gi_at_call 39
      refine (CallsIn.inRound l (callsIn_wide.2 (shDel l0 HPOS.out xw HXW.out Bx w8 HX8.out.lt HX8.out.cell.1 W.heap.size v8 HR8.out))).mono ?_
      rintro e w9 ⟨v9, rfl, hR9, hb9⟩
      obtain ⟨A9, c9, e9, _, _⟩ := Kd.R_reads hR9
      subst e9
      have HR9 := Aside0.mk hR9
      have HB9 := Aside0.mk (show Below W.heap.size W w9 from HB8.out.trans hb9)
      have HBL9 := Aside0.mk (HBW.out.trans (HB9.out.mono HWS.out))
      have cB1 := (HQ1L.out.below HBL9.out HQ1L.out.lt).cell.1
      have cB4 := (HQ4L.out.below HBL9.out HQ4L.out.lt).cell.1
      have cBX := (HBX.out.below HB9.out HBX.out.lt).cell.1
      obtain ⟨n9, hn9⟩ : ∃ n9, (shOut l0 xw).length = n9 := ⟨_, rfl⟩
      have hn9l : n9 ≤ l0.length := by rw [← hn9]; exact List.length_filter_le _ _
      have hll := HLL.out
      rw [hn9]
      have HN9 := Aside0.mk hn9
      have hwr : IntKind.i64.wrap ((n9 : Int) + 2) = (n9 : Int) + 2 := by rw [i64_w]; unfold wrap64; omega
      have HWR := Aside0.mk hwr
      have HNL := Aside0.mk hn9l
      cases hs : shSkip l0 2 xw with
      | true =>
        have hs' := hs
        unfold shSkip at hs'
        rw [hn9, decide_eq_true_eq] at hs'
        have hsd : decide ((l0.length : Int) < (n9 : Int) + 2) = true := decide_eq_true hs'
        have HS := Aside0.mk hs
        clear hs hn9 hb9 hR9 hn9l hll
        gi_wp2
        exact ⟨keepsFrom_below HB9.out, HB9.out.mono HWS.out, HBL9.out, fun y hy => by
          rcases List.mem_append.1 hy with hy | hy
          · exact HSK.out y hy
          · rw [List.mem_singleton.1 hy, HXE.out]; exact HS.out⟩
      | false =>
        have hs' := hs
        unfold shSkip at hs'
        rw [hn9, decide_eq_false_iff_not] at hs'
        have hsd : decide ((l0.length : Int) < (n9 : Int) + 2) = false := decide_eq_false hs'
        have HS := Aside0.mk hs
        by_cases hem : xw.toList = []
        · have hemb : (xw.toList == []) = true := by rw [hem]; rfl
          have HT := Aside0.mk (show shT l0 xw = some ([], false) by unfold shT; rw [if_pos hem])
          have hq2 := HQ2L.out.below HBL9.out HQ2L.out.lt
          have hq3 := HQ3L.out.below HBL9.out HQ3L.out.lt
          have c2 := hq2.cell.1
          have f2 := hq2.cell.2
          have c3 := hq3.cell.1
          have f3 := hq3.cell.2
          have HQ2 := Aside0.mk hq2
          have HQ3 := Aside0.mk hq3
          clear hs hn9 hb9 hR9 hn9l hll hem hq2 hq3
          gi_wp2
          have hz := HSZL.out
          have hws := HWS.out
          exact ⟨(keepsFrom_below HB9.out).trans (((KeepsOthers.setCell _ _ _).trans (KeepsOthers.setCell _ _ _)).from _), rfl, pre, x, .slice none 0 0, [], false, rfl, HSK.out, by rw [HXE.out]; exact HS.out, by rw [HXE.out]; exact HT.out, (HQ2.out.set _).other (by omega) _, (HQ3.out.other (by omega) _).set _, Kd.R_nil _ _ _ _ _, below_set (below_set (HBwW.out.trans (HB9.out.mono HBwW.out.size)) (by omega)) (by omega)⟩
        · have hemb : (xw.toList == []) = false := by rw [beq_eq_false_iff_ne]; exact hem
          have hord : impl_ordered.f (shOut l0 xw ++ [xw]) = some (ordB (shOut l0 xw ++ [xw])) := by unfold impl_ordered.f; rw [if_pos (by rw [List.length_append, hn9, List.length_singleton]; omega)]
          have HORD := Aside0.mk hord
          have HT := Aside0.mk (show shT l0 xw = some (ordB (shOut l0 xw ++ [xw]), true) by unfold shT; rw [if_neg hem, hord]; rfl)
          have hown9 : w9.ownsRow W.heap.size 9 1 (.slice A9 n9 c9) n9 ((shOut l0 xw).map Value.string) := by
            have q_ := Kd.own_of_R HR9.out
            rw [hn9] at q_
            exact q_
          have HOWN9 := Aside0.mk (hown9.alloc (.cells #[.string xw] 9))
          have HLEN := Aside0.mk (show (shOut l0 xw ++ [xw]).length = n9 + 1 by rw [List.length_append, hn9]; rfl)
          obtain ⟨i0, hi0, hzi0, hzi1, hzi2⟩ := info_parts infoStrSh
          have HI0 := Aside0.mk hi0
          have HI1 := Aside0.mk hzi0
          have HI2 := Aside0.mk hzi1
          have HI3 := Aside0.mk hzi2
          have hb99 := HB9.out.size
          have HB99 := Aside0.mk hb99
          have HBASE := Aside0.mk (fun k (e : (Value.slice A9 n9 c9).ownBlock = some k) => Kd.R_base HR9.out k (by rw [hn9]; exact e))
          clear hs hb9 hR9 hem hord hown9 hi0 hzi0 hzi1 hzi2 hb99 hn9
          gi_wp2_with (gi_at_builtin; refine wpListIn_append_own _ rfl _ _ 22 rfl W.heap.size 9 i0 (.string ⟨#[]⟩) 1 16 Tryd.underlying22 HI0.out HI1.out HI2.out HI3.out rfl (by decide) _ _ _ rfl HOWN9.out ⟨w9.heap.size, 0, none⟩ 1 1 [.string xw] rfl rfl (cell_one_new _ _ _) (by simp [Value.oneCell']) (by unfold maxLen; omega) (by omega) (by have h1_ := HB99.out; simp; omega) ?_; intro v10 w10 hown10 hgrow10 hnil10; have HO10 := Aside0.mk hown10; have HG10 := Aside0.mk hgrow10; clear hown10 hgrow10 hnil10)
          have hb10 : Below W.heap.size W w10 := ((HB9.out.alloc HB99.out _).grown HG10.out (by have h1_ := HB99.out; simp; omega) (fun k e => HBASE.out k e))
          have hR10 : Kd.R Kd.string 9 w10 W.heap.size (fun _ => True) v10 (shOut l0 xw ++ [xw]) := by
            refine Kd.R_of_own (enc := Value.string) ?_ (fun _ _ => trivial)
            have q_ := HO10.out
            rw [HLEN.out]
            have e : Go.Proofs.YtgokegndboknfaaDoorW.PrintWords.encs Value.string (shOut l0 xw ++ [xw]) = (shOut l0 xw).map Value.string ++ [.string xw] := by
              show (shOut l0 xw ++ [xw]).map Value.string = _
              rw [List.map_append]; rfl
            rw [e]
            exact q_
          obtain ⟨A10, c10, e10, hc10, hC10⟩ := Kd.R_reads hR10
          subst e10
          rw [HLEN.out] at hC10 hc10 ⊢
          have HC10 := Aside0.mk hC10
          have HCC10 := Aside0.mk hc10
          have HB10 := Aside0.mk hb10
          clear hb10 hR10 hC10 hc10
          gi_wp2_with fail
          refine ⟨trivial, ?_⟩
          gi_at_call 43
          refine (CallsIn.inRound l (callsIn_wide.2 (show Calls Tryd.prog 43 #[.slice A10 (n9 + 1) c10] w10 _ from HLEN.out ▸ impl_ordered.calls A10 c10 (shOut l0 xw ++ [xw]) (ordB (shOut l0 xw ++ [xw])) w10 (by rw [HLEN.out]; exact HC10.out) (by rw [HLEN.out]; exact HCC10.out) HORD.out))).mono ?_
          rintro e w11 ⟨v11, rfl, hR11, hb11⟩
          obtain ⟨A11, c11, e11, _, _⟩ := Kd.R_reads hR11
          subst e11
          obtain ⟨n11, hn11⟩ : ∃ n11, (ordB (shOut l0 xw ++ [xw])).length = n11 := ⟨_, rfl⟩
          rw [hn11] at hR11 ⊢
          have HN11 := Aside0.mk hn11
          clear hn11
          have HB11 := Aside0.mk (HB10.out.trans (hb11.mono HB10.out.size))
          have HBL11 := Aside0.mk (HBW.out.trans (HB11.out.mono HWS.out))
          have hq2 := HQ2L.out.below HBL11.out HQ2L.out.lt
          have hq3 := HQ3L.out.below HBL11.out HQ3L.out.lt
          have c2 := hq2.cell.1
          have f2 := hq2.cell.2
          have c3 := hq3.cell.1
          have f3 := hq3.cell.2
          have HQ2 := Aside0.mk hq2
          have HQ3 := Aside0.mk hq3
          have HR11 := Aside0.mk (Kd.R_tight rfl hR11)
          have HBS11 := Aside0.mk (fun k (e : (Value.slice A11 n11 c11).ownBlock = some k) => Kd.R_base hR11 k e)
          have HZ10 := Aside0.mk (show WL.heap.size ≤ w10.heap.size from Nat.le_trans HWS.out HB10.out.size)
          clear hq2 hq3 hR11 hb11
          gi_wp2
          have hz := HSZL.out
          have hws := HWS.out
          have hz10 := HZ10.out
          refine ⟨(keepsFrom_below HB11.out).trans (((KeepsOthers.setCell _ _ _).trans (KeepsOthers.setCell _ _ _)).from _), rfl, pre, x, .slice A11 n11 c11, _, true, rfl, HSK.out, by rw [HXE.out]; exact HS.out, by rw [HXE.out]; exact HT.out, (HQ2.out.set _).other (by omega) _, (HQ3.out.other (by omega) _).set _, ?_, below_set (below_set (HBwW.out.trans (HB11.out.mono HBwW.out.size)) (by omega)) (by omega)⟩
          refine Kd.R_lower (Kd.R_step HR11.out (fun k hk hl => ?_)) (by omega)
          have h1_ := HBS11.out k hk.symm
          exact (Below.heap_setCell _ _ _ k (by show k ≠ w.heap.size + 1 + 1; omega)).trans (Below.heap_setCell _ _ _ k (by show k ≠ w.heap.size + 1; omega))
    case done =>
      rintro D xs W hD rfl ⟨hBW, hsk⟩ hK
      have hwords := bw_words inn HIZ.out
      have hsf : shF l0 2 inn.reverse = some ([], false) := by
        rw [← hwords]
        have h_ := shF_skip (set := l0) (many := 2) ((bw inn inn.length).map fun x => x.1.2) [] (fun y hy => by
          obtain ⟨z, hz, rfl⟩ := List.mem_map.1 hy
          exact hsk z hz)
        rw [List.append_nil] at h_
        exact h_
      have hres := HFF.out
      rw [hsf] at hres
      simp only [Option.some.injEq, Prod.mk.injEq] at hres
      obtain ⟨rfl, rfl⟩ := hres
      have hq2 := HQ2L.out.below hBW HQ2L.out.lt
      have hq3 := HQ3L.out.below hBW HQ3L.out.lt
      have c2 := hq2.cell.1
      have f2 := hq2.cell.2
      have c3 := hq3.cell.1
      have f3 := hq3.cell.2
      have HQ2 := Aside0.mk hq2
      have HQ3 := Aside0.mk hq3
      have HBW := Aside0.mk hBW
      have HK := Aside0.mk hK
      have HD := Aside0.mk hD
      clear hwords hsf hq2 hq3 hsk hBW hK hD
      gi_wp2
      have hz := HSZL.out
      have hd := HD.out
      have hk2 : ((W.setCell ⟨w.heap.size + 1, 0, none⟩ (.slice none 0 0)).setCell ⟨w.heap.size + 1 + 1, 0, none⟩ (.bool false)).heap[D]? = some (.deferred (some [])) := ((KeepsOthers.setCell _ _ _).trans (KeepsOthers.setCell _ _ _)).same D _ HK.out rfl
      refine ⟨by simp, .inl ⟨_, _, rfl, run_takeDeferred hk2, ?_⟩⟩
      have q2 := (((HQ2.out.set (.slice none 0 0)).other (show w.heap.size + 1 ≠ w.heap.size + 1 + 1 by omega) (.bool false)).grown (grownBy_putObj' _ D (.deferred none)) (by simp; omega)).cell.1
      have q3 := (((HQ3.out.other (show w.heap.size + 1 + 1 ≠ w.heap.size + 1 by omega) (.slice none 0 0)).set (.bool false)).grown (grownBy_putObj' _ D (.deferred none)) (by simp; omega)).cell.1
      exact ⟨_, results_cell2 rfl rfl rfl (run_loadV (Tryd.isAgg22 _) q2) (run_loadV (Tryd.isAgg4 _) q3), .slice none 0 0, rfl, Kd.R_nil _ _ _ _ _, (below_set (below_set (HBL.out.trans (HBW.out.mono HBL.out.size)) (by omega)) (by omega)).trans (belowK_b (w := w) (Nat.le_refl _) _ D _ _ (by omega) hk2 rfl rfl)⟩
    case stop =>
      rintro D c pre W hD hSp ⟨rfl, pre', x, v, q1, q2, rfl, hsk, hns, hT, hb2, hb3, hR, hbw⟩ hK
      have hwords := bw_words inn HIZ.out
      obtain ⟨rest, hrest⟩ := hSp
      have hsf : shF l0 2 inn.reverse = some (q1, q2) := by
        rw [← hwords, ← hrest, List.map_append, List.map_append, List.append_assoc, shF_skip _ _ (fun y hy => by
          obtain ⟨z, hz, rfl⟩ := List.mem_map.1 hy
          exact hsk z hz)]
        show shF l0 2 (x.1.2 :: rest.map fun x => x.1.2) = _
        rw [shF, if_neg (by rw [hns]; decide)]
        exact hT
      have hres := HFF.out
      rw [hsf] at hres
      simp only [Option.some.injEq, Prod.mk.injEq] at hres
      obtain ⟨rfl, rfl⟩ := hres
      have HD := Aside0.mk hD
      clear hwords hsf hsk hns hT hrest
      gi_wp2
      have hz := HSZL.out
      have hd := HD.out
      refine ⟨by simp, .inl ⟨_, _, rfl, run_takeDeferred hK, ?_⟩⟩
      have q2' := (hb2.grown (grownBy_putObj' _ D (.deferred none)) (by simp; omega)).cell.1
      have q3' := (hb3.grown (grownBy_putObj' _ D (.deferred none)) (by simp; omega)).cell.1
      exact ⟨_, results_cell2 rfl rfl rfl (run_loadV (Tryd.isAgg22 _) q2') (run_loadV (Tryd.isAgg4 _) q3'), v, rfl, Kd.R_mono (Kd.R_grown hR (grownBy_putObj' _ D (.deferred none)) (fun k hk e => by
        obtain ⟨inner, ho⟩ := Kd.R_own hR
        obtain ⟨cells, hc⟩ := own_typed ho k hk.symm
        cases e
        rw [hc] at hK; cases hK)) (fun _ _ => trivial), hbw.trans (belowK_b (w := w) (Nat.le_refl _) _ D _ _ (by omega) hK rfl rfl)⟩
theorem impl_ShrinkPrefix.calls (k : Nat) (A0 : Option Addr) (c0 : Nat) (l0 : List ByteArray) (r1 : List ByteArray) (r2 : Bool) (w : World) (hr0 : Kd.C Kd.string w A0 l0.length l0) (hc0 : l0.length ≤ c0) (h : impl_ShrinkPrefix.f k l0 = some (r1, r2)) (hm : MaxAt w) :
    Calls Tryd.prog 18 #[.slice A0 l0.length c0] w fun e w' => ∃ v0_ : Value, e = .returned (.tuple #[v0_, .bool r2]) ∧ Kd.R Kd.string 9 w' w.heap.size (fun _ => True) v0_ r1 ∧ Below w.heap.size w w' := by
  unfold impl_ShrinkPrefix.f at h
  replace h := Option.bind_eq_some_iff.mp h
  obtain ⟨b, hb, h⟩ := h
  obtain ⟨W0, hW0⟩ : ∃ W0, ((w.alloc (.cells #[.slice A0 l0.length c0] 22)).alloc (.cells #[.slice none 0 0] 22)).alloc (.cells #[.bool false] 4) = W0 := ⟨_, rfl⟩
  have hb0 : Below w.heap.size w W0 := by rw [← hW0]; exact below_alloc (below_alloc (below_alloc (Below.refl _ _) _) _) _
  have hz0 : W0.heap.size = w.heap.size + 3 := by rw [← hW0]; simp
  have hq1 : Bq W0 w.heap.size (.slice A0 l0.length c0) 22 := by
    rw [← hW0]
    exact (Below.heap_alloc _ _ _ (by simp; omega)).trans ((Below.heap_alloc _ _ _ (by simp)).trans (heap_new w _))
  have hq2 : Bq W0 (w.heap.size + 1) (.slice none 0 0) 22 := by
    rw [← hW0]
    have e := heap_new (w.alloc (.cells #[.slice A0 l0.length c0] 22)) (.cells #[.slice none 0 0] 22)
    rw [show (w.alloc (.cells #[.slice A0 l0.length c0] 22)).heap.size = w.heap.size + 1 by simp] at e
    exact (Below.heap_alloc _ _ _ (by simp)).trans e
  have hq3 : Bq W0 (w.heap.size + 1 + 1) (.bool false) 4 := by
    rw [← hW0]
    have e := heap_new ((w.alloc (.cells #[.slice A0 l0.length c0] 22)).alloc (.cells #[.slice none 0 0] 22)) (.cells #[.bool false] 4)
    rw [show ((w.alloc (.cells #[.slice A0 l0.length c0] 22)).alloc (.cells #[.slice none 0 0] 22)).heap.size = w.heap.size + 1 + 1 by simp] at e
    exact e
  have HR0 := Aside0.mk hr0
  have HC0 := Aside0.mk hc0
  have HB0 := Aside0.mk hb0
  have HQ1 := Aside0.mk hq1
  have HQ2 := Aside0.mk hq2
  have HQ3 := Aside0.mk hq3
  have HZ0 := Aside0.mk hz0
  have HSET := Aside0.mk hb
  have bx1 := hq1.cell.1
  cases b with
  | false =>
    rw [if_neg (by decide)] at h
    simp only [Option.some.injEq, Prod.mk.injEq] at h
    obtain ⟨rfl, rfl⟩ := h
    clear hr0 hc0 hb hb0 hq1 hq2 hq3 hz0 hm
    go_enter Tryd.func18, Tryd.ntmps18
    go_wp2_with (go_at_call 22; refine (impl_isSet.calls k A0 c0 l0 false _ (Kd.C_below HR0.out HB0.out) HC0.out HSET.out).mono ?_; rintro e w1 ⟨rfl, hb1⟩; have HB1 := Aside0.mk (HB0.out.trans (hb1.mono HB0.out.size)); have hq2 := HQ2.out.below hb1 HQ2.out.lt; have hq3 := HQ3.out.below hb1 HQ3.out.lt; have c2 := hq2.cell.1; have f2 := hq2.cell.2; have c3 := hq3.cell.1; have f3 := hq3.cell.2; have HQ2w := Aside0.mk hq2; have HQ3w := Aside0.mk hq3; clear hb1 hq2 hq3)
    (try simp only [Exit.inBlock, Exit.then])
    have q2 := ((HQ2w.out.set (.slice none 0 0)).other (show w.heap.size + 1 ≠ w.heap.size + 1 + 1 by omega) (.bool false)).cell.1
    have q3 := ((HQ3w.out.other (show w.heap.size + 1 + 1 ≠ w.heap.size + 1 by omega) (.slice none 0 0)).set (.bool false)).cell.1
    refine bodyPost_ret (results_cell2 rfl rfl rfl (run_loadV (Tryd.isAgg22 _) q2) (run_loadV (Tryd.isAgg4 _) q3)) rfl ?_
    exact ⟨.slice none 0 0, rfl, Kd.R_nil _ _ _ _ _, below_set (below_set HB1.out (by omega)) (by omega)⟩
  | true =>
    rw [if_pos rfl] at h
    replace h := Option.bind_eq_some_iff.mp h
    obtain ⟨p, hp, h⟩ := h
    have HPRE := Aside0.mk hp
    cases p with
    | false =>
      rw [if_neg (by decide)] at h
      simp only [Option.some.injEq, Prod.mk.injEq] at h
      obtain ⟨rfl, rfl⟩ := h
      clear hr0 hc0 hb hb0 hq1 hq2 hq3 hz0 hm hp
      go_enter Tryd.func18, Tryd.ntmps18
      go_wp2_with (first
        | (go_at_call 22; refine (impl_isSet.calls k A0 c0 l0 true _ (Kd.C_below HR0.out HB0.out) HC0.out HSET.out).mono ?_; rintro e w1 ⟨rfl, hb1⟩; have HB1 := Aside0.mk (HB0.out.trans (hb1.mono HB0.out.size)); have HB01 := Aside0.mk hb1; have bx11 := (HQ1.out.below hb1 HQ1.out.lt).cell.1; clear hb1)
        | (go_at_call 33; refine (impl_isPrefixSet.calls A0 c0 l0 false _ (Kd.C_below HR0.out HB1.out) HC0.out HPRE.out).mono ?_; rintro e w2 ⟨rfl, hb2⟩; have HB2 := Aside0.mk (HB1.out.trans (hb2.mono HB1.out.size)); have hb02 := HB01.out.trans (hb2.mono HB01.out.size); have hq2 := HQ2.out.below hb02 HQ2.out.lt; have hq3 := HQ3.out.below hb02 HQ3.out.lt; have c2 := hq2.cell.1; have f2 := hq2.cell.2; have c3 := hq3.cell.1; have f3 := hq3.cell.2; have HQ2w := Aside0.mk hq2; have HQ3w := Aside0.mk hq3; clear hb2 hb02 hq2 hq3))
      (try simp only [Exit.inBlock, Exit.then])
      have q2 := ((HQ2w.out.set (.slice none 0 0)).other (show w.heap.size + 1 ≠ w.heap.size + 1 + 1 by omega) (.bool false)).cell.1
      have q3 := ((HQ3w.out.other (show w.heap.size + 1 + 1 ≠ w.heap.size + 1 by omega) (.slice none 0 0)).set (.bool false)).cell.1
      refine bodyPost_ret (results_cell2 rfl rfl rfl (run_loadV (Tryd.isAgg22 _) q2) (run_loadV (Tryd.isAgg4 _) q3)) rfl ?_
      exact ⟨.slice none 0 0, rfl, Kd.R_nil _ _ _ _ _, below_set (below_set HB2.out (by omega)) (by omega)⟩
    | true =>
      rw [if_pos rfl] at h
      by_cases hs : l0.all sz1000s = true ∧ l0.length ≤ 1000000
      case neg => rw [if_neg hs] at h; cases h
      rw [if_pos hs] at h
      replace h := Option.bind_eq_some_iff.mp h
      obtain ⟨inn, hinn, h⟩ := h
      by_cases hi : inn.all sz1000s = true ∧ inn.length ≤ 1000000 ∧ (l0.length = 0 → inn.length = 0)
      case neg => rw [if_neg hi] at h; cases h
      rw [if_pos hi] at h
      exact callsIn_wide.1 (impl_ShrinkPrefix.loop k A0 c0 l0 inn r1 r2 w hr0 hc0 hm hb hp (fun x hx => of_decide_eq_true (List.all_eq_true.1 hs.1 x hx)) hs.2 hinn (fun x hx => of_decide_eq_true (List.all_eq_true.1 hi.1 x hx)) hi.2.1 hi.2.2 _ _ rfl rfl h)
end

end Go.Proofs.YtgokegndboknfaaDoor.X

-- WRITTEN by xprint.py of this repo: the kit's print.py with contracts given by hand (given.py). Lean checks it.
import Derived.Test.YtgokegndboknfaaXx0
namespace Go.Proofs.Ytgokegndboknfaa.X
open Go.RowKit Go.Proofs.YtgokegndboknfaaW.PrintWords Go.Proofs.YtgokegndboknfaaW.PrintLast Go.Proofs.YtgokegndboknfaaW.PrintMore
attribute [local go_sem] max2_int min2_int max_two min_two max_three min_three max_four min_four   -- for this text's walks alone
set_option linter.unusedVariables false
set_option linter.unusedSimpArgs false

/-! ### GIVEN impl_trees: function 27 -/
theorem heap_new (w : World) (o : Obj) : (w.alloc o).heap[w.heap.size]? = some o := by
  have h : (w.alloc o).heap = w.heap.push o := rfl
  rw [h, Array.getElem?_push, if_pos rfl]
/-- A value that has been put into a box of its own. -/
theorem box_new (w : World) (v : Value) (e : Nat) : (w.alloc (.cells #[v] e)).cell? ⟨w.heap.size, 0, none⟩ = some v := by
  unfold World.cell?
  rw [show (w.alloc (.cells #[v] e)).heap[(⟨w.heap.size, 0, none⟩ : Addr).block]? = some (.cells #[v] e) from heap_new w _]
  rfl

theorem fw_store_func {P : Program} {w : World} {a : Addr} {m : Mode} (fn : Fn) (first captured : Array Value) : (store a (.func fn first captured) m).run P w = stored P w a (.func fn first captured) m := run_store P w a _ m rfl
attribute [local go_sem] fw_store_func
def Bx (W : World) (G : Nat) (v : Value) (t : Nat) : Prop := W.heap[G]? = some (.cells #[v] t (0, 0))
theorem Bx.cell {W : World} {G t : Nat} {v : Value} (h : Bx W G v t) : W.cell? ⟨G, 0, none⟩ = some v ∧ W.frozen? ⟨G, 0, none⟩ = false := by
  have h' : W.heap[G]? = some (.cells #[v] t (0, 0)) := h
  exact ⟨by simp [World.cell?, h'], by simp [World.frozen?, h']⟩
theorem Bx.lt {W : World} {G t : Nat} {v : Value} (h : Bx W G v t) : G < W.heap.size := (Array.getElem?_eq_some_iff.1 h).1
theorem Bx.below {W W' : World} {G n t : Nat} {v : Value} (h : Bx W G v t) (hb : Below n W W') (hG : G < n) : Bx W' G v t := (hb.block G hG).trans h
theorem Bx.set {W : World} {G t : Nat} {v : Value} (h : Bx W G v t) (v' : Value) : Bx (W.setCell ⟨G, 0, none⟩ v') G v' t := by
  have h' : W.heap[G]? = some (.cells #[v] t (0, 0)) := h
  show (W.setCell ⟨G, 0, none⟩ v').heap[G]? = _
  simp [World.setCell, Array.getElem?_modify, h']
theorem Bx.other {W : World} {G G' t : Nat} {v : Value} (h : Bx W G v t) (hne : G ≠ G') (v' : Value) : Bx (W.setCell ⟨G', 0, none⟩ v') G v t := (Below.heap_setCell W ⟨G', 0, none⟩ v' G hne).trans h
theorem Bx.grown {W W' : World} {G t : Nat} {v : Value} {row : Option Nat} (h : Bx W G v t) (hg : W.grownBy W' row) (hne : some G ≠ row) : Bx W' G v t := (hg.block G h.lt hne).trans h
theorem Bx.same {W W' : World} {G t : Nat} {v : Value} (h : Bx W G v t) (e : W'.heap[G]? = W.heap[G]?) : Bx W' G v t := e.trans h

def slices_Clone_string_string.f (l0 : List ByteArray) : Option (List ByteArray) := if l0.length < 8796093022208 then some l0 else none
set_option maxHeartbeats 4000000 in
set_option maxRecDepth 100000 in
theorem slices_Clone_string_string.calls (A0 : Option Addr) (c0 : Nat) (l0 : List ByteArray) (r : List ByteArray) (w : World) (hr0 : Kd.C Kd.string w A0 l0.length l0) (hc0 : l0.length ≤ c0) (h : slices_Clone_string_string.f l0 = some r) :
    Calls Try.prog 38 #[.slice A0 l0.length c0] w fun e w' => ∃ v0_ : Value, e = .returned (v0_) ∧ Kd.R Kd.string 9 w' w.heap.size (fun _ => True) v0_ r ∧ Below w.heap.size w w' := by
  unfold slices_Clone_string_string.f at h
  by_cases hlim : l0.length < 8796093022208
  · rw [if_pos hlim] at h
    obtain rfl := Option.some.inj h
    clear h
    cases A0 with
    | none =>
      have h0 : l0 = [] := by
        cases l0 with
        | nil => rfl
        | cons x l =>
          obtain ⟨ad, e, _⟩ := hr0.2.2 (by simp)
          cases e
      subst h0
      have hnil := fun (W : World) (n c n' c' : Nat) => Lib.run_eql_slice_nil (P := Try.prog) W 31 9 none n c n' c' Try.underlying31
      clear hr0
      go_enter Try.func38, Try.ntmps38
      go_wp2
      go_ret
      exact ⟨_, rfl, Kd.R_nil _ _ _ _ _, Below.refl _ _⟩
    | some ad =>
      have hnil := fun (W : World) (n c n' c' : Nat) => Lib.run_eql_slice_nil (P := Try.prog) W 31 9 (some ad) n c n' c' Try.underlying31
      have HR0 := Aside0.mk hr0
      have LMc2 := Aside0.mk hlim
      clear hr0 hlim
      have HB := Aside0.mk (Below.refl w.heap.size w)
      go_enter Try.func38, Try.ntmps38
      go_wp2_with (first
        | ((with_reducible refine gate_dst (N := 5) rfl ?_); refine Kd.R_lit Kd.string _ 9 ?hg (N := 5) ?hd (xs := ([] : List ByteArray)) (inner := []) (ok := fun _ => True) (okp := fun _ => True) ?hr ?hp (fun _ hk => hk) trivial (Below.refl _ _) (Nat.le_refl _) (by simp) ?_; (case hd => rfl); (case hg => rfl); (case hr => first | (go_simp; done) | (go_simp; rfl)); (case hp => exact (Reps.none _ _)); intro v106 w3 ho4 hb hg_ hnew_; clear hg_ hnew_; have n0_ := Aside0.mk (Kd.R_lower ho4 (below_size (by repeat (first | (with_reducible first | exact HB.out | apply below_alloc | apply pw_below_drewN | apply below_drew1) | exact HB.out)))); have n1_ := Aside0.mk (below_step (by repeat (first | (with_reducible first | exact HB.out | apply below_alloc | apply pw_below_drewN | apply below_drew1) | exact HB.out)) hb); clear HB; have HO107 := n0_; have HB := n1_; clear n0_ n1_; clear hb ho4)
        | ((with_reducible refine gate_builtin (b := .append) (xs := #[.tmp 5, .tmp 6]) rfl ?_); at_builtin; refine Kd.R_append_rows Kd.string (w0 := w) w.heap.size rfl (.tmp 5) (.tmp 6) 31 9 (.string ByteArray.empty) 16 rfl Try.underlying31 info9 rfl (by decide) (by omega) v106 [] l0 _ _ _ (fun _ => True) (fun _ => False) rfl rfl ?aO ?aR (fun _ _ h => h) (fun _ h => h.elim) ?aF ?aB ?aS ?aL ?_; (case aR => repeat (first | exact (Kd.C_below HR0.out HB.out) | (with_reducible refine Kd.C_alloc ?_ _) | (with_reducible refine Kd.C_drewN ?_ _) | (with_reducible refine Kd.C_drew ?_))); (case aB => exact (by repeat (first | (with_reducible first | exact HB.out | apply below_alloc | apply pw_below_drewN | apply below_drew1) | exact HB.out))); (case aF => exact (fun _ _ => trivial)); (case aO => exact (by (with_reducible repeat (first | apply Kd.R_alloc | apply Kd.R_drewN | apply Kd.R_drew)); exact HO107.out)); (case aS => exact (below_size (by repeat (first | (with_reducible first | exact HB.out | apply below_alloc | apply pw_below_drewN | apply below_drew1) | exact HB.out)))); (case aL => have := LMc2.out; simp; omega); intro v109 w5 ho hb hg hat; have n0_ := Aside0.mk (hb); have n1_ := Aside0.mk (ho); clear HB; clear HO107; have HB := n0_; have HO110 := n1_; clear n0_ n1_; clear ho hb hg hat))
      go_ret
      exact ⟨_, by first | rfl | (simp; done), by (with_reducible repeat (first | apply Kd.R_alloc | apply Kd.R_drewN | apply Kd.R_drew)); exact HO110.out, by repeat (first | (with_reducible first | exact HB.out | apply below_alloc | apply pw_below_drewN | apply below_drew1) | exact HB.out)⟩
  · rw [if_neg hlim] at h
    exact absurd h (by simp)

theorem infoRowT : (Try.prog.info? 31).map (fun i => (i.zero, i.size, i.bytes)) = some (some (.slice none 0 0), 1, 24) := by kernel_rfl
theorem infoStrT : (Try.prog.info? 9).map (fun i => (i.zero, i.size, i.bytes)) = some (some (.string ⟨#[]⟩), 1, 16) := by kernel_rfl
def abcT (j : Int) : ByteArray := (⟨#[97, 98, 99]⟩ : ByteArray).extract j.toNat (j + 1).toNat
def trL (g : List ByteArray → List (List ByteArray) → Option (List (List ByteArray))) (kb : ByteArray) (done : List ByteArray) : List (List ByteArray) → List (List ByteArray) → Option (List (List ByteArray))
  | [], Ls => some Ls
  | l :: ls, Ls => if l.length ≤ 1000 ∧ l.all (fun s => decide (s.size ≤ 1000)) = true then ((g (done ++ l.map (kb ++ ·)) Ls).bind fun L' => trL g kb done ls L') else none
def trO (T : Int → Option (List (List ByteArray))) (g : Int → List ByteArray → List (List ByteArray) → Option (List (List ByteArray))) (kb : ByteArray) (done : List ByteArray) (top : Int) : Nat → Int → List (List ByteArray) → Option (List (List ByteArray))
  | 0, _, _ => none
  | d + 1, own, Ls => if own ≤ top then ((T own).bind fun ls => if ls.length ≤ 1000000 then ((trL (g own) kb done ls Ls).bind fun L' => trO T g kb done top d (own + 1) L') else none) else some Ls
def ad (T : Int → Option (List (List ByteArray))) (m : Int) : Nat → Int → Int → List ByteArray → List (List ByteArray) → Option (List (List ByteArray))
  | 0, _, _, _, _ => none
  | s + 1, k, left, done, Ls => if ((0 ≤ k ∧ k ≤ m) ∧ m ≤ 3) ∧ (0 ≤ left ∧ left ≤ 1000) ∧ done.length ≤ 100000 ∧ Ls.length ≤ 1000000 then (if k = m then (if left = 0 then some (Ls ++ [done]) else some Ls) else trO T (fun own d L => ad T m s (k + 1) (left - own) d L) (abcT k) done (left - (m - k - 1)) 1100 1 Ls) else none
def trP (G3 G7 G5 G8 : Nat) : Array Value := #[.pointer (some ⟨G3, 0, none⟩), .pointer (some ⟨G7, 0, none⟩), .pointer (some ⟨G5, 0, none⟩), .pointer (some ⟨G8, 0, none⟩)]
def tG (G3 G5 G8 : Nat) (k : Nat) : Prop := k ≠ G3 ∧ k ≠ G5 ∧ k ≠ G8
/-- What the closure of trees finds: its boxes; what it has put, in blocks that ok tells (the box among them). -/
structure TrS (G3 G7 G5 G8 base : Nat) (m q : Int) (w1 : World) (ok : Nat → Prop) (Ls : List (List ByteArray)) (W : World) : Prop where
  m_ : Bx W G3 (.int .i64 m) 3
  d_ : Bx W G5 (.int .i64 q) 3
  a_ : Bx W G8 (.func (.func 37) #[] (trP G3 G7 G5 G8)) 53
  j : ∃ (A : Option Addr) (c : Nat), Bx W G7 (.slice A Ls.length c) 22 ∧ Kd.S (Kd.slice 9 Kd.string) 31 W base (fun k => ok k ∧ k ≠ G7) (.slice A Ls.length c) Ls
  g7 : ok G7
  ng : ∀ k, ok k → tG G3 G5 G8 k
  b : Below base w1 W
  le : base ≤ W.heap.size
  lo : base ≤ G7
section
variable {G3 G7 G5 G8 base : Nat} {m q : Int} {w1 W W' : World} {ok ok' : Nat → Prop} {Ls : List (List ByteArray)}
theorem TrS.fresh (h : TrS G3 G7 G5 G8 base m q w1 ok Ls W) {k : Nat} (hk : W.heap.size ≤ k) : tG G3 G5 G8 k :=
  ⟨by have := h.m_.lt; omega, by have := h.d_.lt; omega, by have := h.a_.lt; omega⟩
theorem TrS.lt7 (h : TrS G3 G7 G5 G8 base m q w1 ok Ls W) : G7 < W.heap.size := by
  obtain ⟨_, _, hx, _⟩ := h.j
  exact hx.lt
theorem TrS.keep (h : TrS G3 G7 G5 G8 base m q w1 ok Ls W) (hb : Below base W W') (hs : ∀ k, ok k ∨ ¬ tG G3 G5 G8 k → k < W.heap.size → W'.heap[k]? = W.heap[k]?) : TrS G3 G7 G5 G8 base m q w1 ok Ls W' := by
  obtain ⟨A, c, hx, hS⟩ := h.j
  exact ⟨h.m_.same (hs _ (.inr (fun q => q.1 rfl)) h.m_.lt), h.d_.same (hs _ (.inr (fun q => q.2.1 rfl)) h.d_.lt), h.a_.same (hs _ (.inr (fun q => q.2.2 rfl)) h.a_.lt), ⟨A, c, hx.same (hs _ (.inl h.g7) hx.lt), Kd.S_step hS (fun k hk hl => hs k (.inl hk.1) hl)⟩, h.g7, h.ng, h.b.trans hb, Nat.le_trans h.le hb.size, h.lo⟩
theorem TrS.below (h : TrS G3 G7 G5 G8 base m q w1 ok Ls W) (hb : Below W.heap.size W W') : TrS G3 G7 G5 G8 base m q w1 ok Ls W' :=
  h.keep (hb.mono h.le) (fun k _ hl => hb.block k hl)
theorem TrS.mono (h : TrS G3 G7 G5 G8 base m q w1 ok Ls W) (hk : ∀ k, ok k → k < W.heap.size → ok' k) (hn : ∀ k, ok' k → tG G3 G5 G8 k) : TrS G3 G7 G5 G8 base m q w1 ok' Ls W := by
  obtain ⟨A, c, hx, hS⟩ := h.j
  exact ⟨h.m_, h.d_, h.a_, ⟨A, c, hx, Kd.S_mono (Kd.S_bound hS) (fun k p => ⟨hk k p.1.1 p.2.2.1, p.1.2⟩)⟩, hk _ h.g7 hx.lt, hn, h.b, h.le, h.lo⟩
end
theorem at_rowT {w : World} {A : Option Addr} {n : Nat} {xs : List (List ByteArray)} (h : Kd.C (Kd.slice 9 Kd.string) w A n xs) (i : Nat) (h1 : i < xs.length) : ∃ ad A0 c0, A = some ad ∧ w.cell? (ad.add i) = some (.slice A0 xs[i].length c0) ∧ xs[i].length ≤ c0 ∧ Kd.string.C w A0 xs[i].length xs[i] := by
  have hn := Kd.C_len h
  obtain ⟨ad, c, e, _, hK, hc0⟩ := Kd.C_get h ([] : List ByteArray) (i : Int) (by omega) (by omega)
  have hg : xs.getD (i : Int).toNat ([] : List ByteArray) = xs[i] := by simp [List.getD_eq_getElem?_getD, h1]
  rw [hg] at hK
  have hc : ∀ j u, c[j]? = some u → w.cell? (ad.add ((i : Int).toNat * 1 + j)) = some u := hc0
  obtain ⟨A0, c0, rfl, l0, g0⟩ := hK
  exact ⟨ad, A0, c0, e, by have hq := hc 0 _ rfl; rwa [Nat.mul_one, Nat.add_zero, Int.toNat_natCast] at hq, l0, g0⟩

set_option maxRecDepth 100000 in
set_option maxHeartbeats 16000000 in
/-- The closure at its leaves. -/
theorem ad_leaf (T : Int → Option (List (List ByteArray))) (G3 G7 G5 G8 base : Nat) (m q : Int) (w1 : World) (ok : Nat → Prop) (left : Int) (done : List ByteArray) (Ls : List (List ByteArray)) (A : Option Addr) (c : Nat) (W : World) (hL : Ls.length ≤ 1000000)
    (hS : TrS G3 G7 G5 G8 base m q w1 ok Ls W) (hD : Kd.R Kd.string 9 W base (tG G3 G5 G8) (.slice A done.length c) done) (hNO : ∀ k, (Value.slice A done.length c).ownBlock = some k → ¬ ok k) :
    Calls Try.prog 37 (#[.int .i64 m, .int .i64 left, .slice A done.length c] ++ trP G3 G7 G5 G8) W fun e W' => (∃ r, e = .returned r) ∧ TrS G3 G7 G5 G8 base m q w1 (fun k => (ok k ∨ W.heap.size ≤ k ∨ some k = (Value.slice A done.length c).ownBlock) ∧ tG G3 G5 G8 k) (if left = 0 then Ls ++ [done] else Ls) W' ∧ (∀ k, k < W.heap.size → ¬ ok k → W'.heap[k]? = W.heap[k]?) ∧ W.heap.size ≤ W'.heap.size := by
  have bxm := hS.m_.cell.1
  obtain ⟨Av, cv, hx, hR⟩ := hS.j
  have HS := Aside0.mk hS
  have HX := Aside0.mk hx
  have HR := Aside0.mk hR
  have HD := Aside0.mk hD
  have HNO := Aside0.mk hNO
  have HLN := Aside0.mk hL
  have bx2 := hx.cell.1
  have fx2 := hx.cell.2
  clear hS hx hR hD hNO hL
  unfold trP
  by_cases hl : left = 0
  · rw [if_pos hl]
    have hlb : (left == 0) = true := by simpa using hl
    have HRR := Aside0.mk (Kd.R_tight rfl HD.out)
    clear hl
    go_enter Try.func37, Try.ntmps37
    go_wp2_with ((with_reducible refine gate_builtin (b := .append) (xs := #[.tmp 21, .tmp 23]) rfl ?_); at_builtin; refine Kd.S_append (Kd.slice 9 Kd.string) (w0 := W) base rfl (.tmp 21) (.tmp 23) 22 31 (.slice none 0 0) 24 rfl Try.underlying22 infoRowT rfl (by decide) (by omega) (.slice Av Ls.length cv) Ls done [.slice A done.length c] (fun k => ((ok k ∨ W.heap.size ≤ k ∨ some k = (Value.slice A done.length c).ownBlock) ∧ tG G3 G5 G8 k) ∧ k ≠ G7) (fun k => some k = (Value.slice A done.length c).ownBlock) rfl rfl ⟨_, rfl, HRR.out⟩ (fun k hk => ⟨⟨⟨.inr (.inr hk), HD.out.1 k hk.symm⟩, fun e => HNO.out k hk.symm (e ▸ HS.out.g7)⟩, fun e => HNO.out k hk.symm ((Kd.S_R HR.out).1 k e.symm).1⟩) (fun k hk => ⟨⟨.inr (.inl hk), HS.out.fresh hk⟩, fun e => by have h1_ := HX.out.lt; omega⟩) (Kd.S_mono HR.out (fun k hk => ⟨⟨⟨.inl hk.1, HS.out.ng k hk.1⟩, hk.2⟩, fun e => HNO.out k e.symm hk.1⟩)) (Below.refl _ _) HS.out.le (by have h1_ := HLN.out; omega) ?_; intro v24 w2 ho hb2 hg hat; have HO := Aside0.mk ho; have HB2 := Aside0.mk hb2; have HG := Aside0.mk hg; have HX2 := Aside0.mk (HX.out.grown hg (fun e => ((Kd.S_R HR.out).1 _ e.symm).2 rfl)); have bx2b := HX2.out.cell.1; have fx2b := HX2.out.cell.2; obtain ⟨A24, c24, e24, _, _⟩ := Kd.S_reads ho; subst e24; clear ho hb2 hg hat)
    refine bodyPost_ret (results_none rfl _ _ _) rfl ?_
    have ev : (Value.slice A24 (Ls.length + 1) c24) = .slice A24 (Ls ++ [done]).length c24 := by rw [List.length_append]; rfl
    have HR2 := Kd.S_far (p := ⟨G7, 0, none⟩) HO.out (fun k hk => hk.2) (Value.slice A24 (Ls.length + 1) c24)
    rw [← ev] at HR2
    have hfr : ∀ k, k < W.heap.size → ¬ ok k → (w2.setCell ⟨G7, 0, none⟩ (Value.slice A24 (Ls.length + 1) c24)).heap[k]? = W.heap[k]? := fun k hk hn =>
      (Below.heap_setCell w2 ⟨G7, 0, none⟩ _ k (fun e => hn (e ▸ HS.out.g7))).trans (HG.out.block k hk (fun e => hn ((Kd.S_R HR.out).1 k e.symm).1))
    have hnt : ∀ {k : Nat}, ¬ tG G3 G5 G8 k → ¬ ok k := fun h1_ h2_ => h1_ (HS.out.ng _ h2_)
    have hz2 := HB2.out.size
    refine ⟨⟨_, rfl⟩, ⟨HS.out.m_.same (hfr _ HS.out.m_.lt (hnt fun p => p.1 rfl)), HS.out.d_.same (hfr _ HS.out.d_.lt (hnt fun p => p.2.1 rfl)), HS.out.a_.same (hfr _ HS.out.a_.lt (hnt fun p => p.2.2 rfl)), ⟨A24, c24, by rw [← ev]; exact HX2.out.set _, by rw [← ev]; exact HR2⟩, ⟨.inl HS.out.g7, HS.out.ng _ HS.out.g7⟩, fun k hk => hk.2, HS.out.b.trans (HB2.out.setCell HS.out.lo _), by simpa using Nat.le_trans HS.out.le HG.out.size, HS.out.lo⟩, hfr, by simpa using HG.out.size⟩
  · rw [if_neg hl]
    have hlb : (left == 0) = false := by simpa using hl
    clear hl
    go_enter Try.func37, Try.ntmps37
    go_wp2_with fail
    refine bodyPost_ret (results_none rfl _ _ _) rfl ?_
    exact ⟨⟨_, rfl⟩, HS.out.mono (fun k hk _ => ⟨.inl hk, HS.out.ng k hk⟩) (fun k hk => hk.2), fun _ _ _ => rfl, Nat.le_refl _⟩

set_option maxRecDepth 100000 in
set_option maxHeartbeats 16000000 in
/-- The closure: all that it puts. -/
theorem ad_calls (T : Int → Option (List (List ByteArray))) (G3 G7 G5 G8 base : Nat) (m q : Int) (w1 : World) (hwq : IntKind.i64.wrap (q - 1) = q - 1)
    (hT : ∀ (own : Int) (L : List (List ByteArray)) (V : World), T own = some L → Calls Try.prog 27 #[.int .i64 m, .int .i64 own, .int .i64 (q - 1)] V fun e V' => ∃ v, e = .returned v ∧ Kd.S (Kd.slice 9 Kd.string) 31 V' V.heap.size (fun _ => True) v L ∧ Below V.heap.size V V')
    (s : Nat) : ∀ (ok : Nat → Prop) (k left : Int) (done : List ByteArray) (Ls L' : List (List ByteArray)) (A : Option Addr) (c : Nat) (W : World),
    TrS G3 G7 G5 G8 base m q w1 ok Ls W → Kd.R Kd.string 9 W base (tG G3 G5 G8) (.slice A done.length c) done → (∀ j, (Value.slice A done.length c).ownBlock = some j → ¬ ok j) → ad T m s k left done Ls = some L' →
    Calls Try.prog 37 (#[.int .i64 k, .int .i64 left, .slice A done.length c] ++ trP G3 G7 G5 G8) W fun e W' => (∃ r, e = .returned r) ∧ TrS G3 G7 G5 G8 base m q w1 (fun j => (ok j ∨ W.heap.size ≤ j ∨ some j = (Value.slice A done.length c).ownBlock) ∧ tG G3 G5 G8 j) L' W' ∧ (∀ j, j < W.heap.size → ¬ ok j → W'.heap[j]? = W.heap[j]?) ∧ W.heap.size ≤ W'.heap.size := by
  induction s with
  | zero => intro ok k left done Ls L' A c W _ _ _ h; cases h
  | succ s ih =>
    intro ok k left done Ls L' A c W hS hD hNO h
    unfold ad at h
    by_cases hb : ((0 ≤ k ∧ k ≤ m) ∧ m ≤ 3) ∧ (0 ≤ left ∧ left ≤ 1000) ∧ done.length ≤ 100000 ∧ Ls.length ≤ 1000000
    case neg => rw [if_neg hb] at h; cases h
    rw [if_pos hb] at h
    by_cases hk : k = m
    · rw [if_pos hk] at h
      subst hk
      have e : L' = if left = 0 then Ls ++ [done] else Ls := by
        split at h
        · rename_i hl; rw [if_pos hl]; exact (Option.some.inj h).symm
        · rename_i hl; rw [if_neg hl]; exact (Option.some.inj h).symm
      rw [e]
      exact ad_leaf T G3 G7 G5 G8 base k q w1 ok left done Ls A c W hb.2.2.2 hS hD hNO
    · rw [if_neg hk] at h
      have hkb : (k == m) = false := by simpa using hk
      have HK := Aside0.mk (show k < m by omega)
      have IH := Aside0.mk ih
      have HS := Aside0.mk hS
      have HD := Aside0.mk hD
      have HNO := Aside0.mk hNO
      have HBD := Aside0.mk hb
      have HT := Aside0.mk hT
      have HF := Aside0.mk h
      have bxm := hS.m_.cell.1
      clear ih hS hD hNO hb hT h hk
      unfold trP
      go_enter Try.func37, Try.ntmps37
      go_wp2_with fail
      go_loopg [10] 1100 (fun gg v10 wr => ∃ (own : Int) (Lk : List (List ByteArray)), v10 = .int .i64 own ∧ Aside0 (1 ≤ own) ∧ Aside0 (trO T (fun own d L => ad T m s (k + 1) (left - own) d L) (abcT k) done (left - (m - k - 1)) gg own Lk = some L') ∧ Aside0 (TrS G3 G7 G5 G8 base m q w1 (fun j => (ok j ∨ W.heap.size ≤ j) ∧ tG G3 G5 G8 j) Lk wr) ∧ Aside0 (∀ j, j < W.heap.size → ¬ ok j → wr.heap[j]? = W.heap[j]?) ∧ Aside0 (W.heap.size ≤ wr.heap.size))
      case atStart => exact ⟨1, Ls, rfl, ⟨by omega⟩, HF, ⟨HS.out.mono (fun j hj _ => ⟨.inl hj, HS.out.ng j hj⟩) (fun j hj => hj.2)⟩, ⟨fun _ _ _ => rfl⟩, ⟨Nat.le_refl _⟩⟩
      case round =>
        clear HF bxm
        obtain ⟨own, Lk, rfl, HO1, HW, HSk, HFR, HZ⟩ := hrel
        cases gk with
        | zero => exact absurd HW.out (by simp [trO])
        | succ gk =>
          have hw := HW.out
          unfold trO at hw
          have bxm := HSk.out.m_.cell.1
          have bxd := HSk.out.d_.cell.1
          have b1 := HK.out
          have b2 := HBD.out.1.1.1
          have b3 := HBD.out.1.2
          have b4 := HBD.out.2.1.1
          have b5 := HBD.out.2.1.2
          have b6 := HO1.out
          have e1 : IntKind.i64.wrap (m - k) = m - k := by rw [i64_w]; unfold wrap64; omega
          have e2 : IntKind.i64.wrap (m - k - 1) = m - k - 1 := by rw [i64_w]; unfold wrap64; omega
          have e3 : IntKind.i64.wrap (left - (m - k - 1)) = left - (m - k - 1) := by rw [i64_w]; unfold wrap64; omega
          by_cases hle : own ≤ left - (m - k - 1)
          · rw [if_pos hle] at hw
            replace hw := Option.bind_eq_some_iff.mp hw
            obtain ⟨ls, hls, hw⟩ := hw
            by_cases hll : ls.length ≤ 1000000
            case neg => rw [if_neg hll] at hw; cases hw
            rw [if_pos hll] at hw
            replace hw := Option.bind_eq_some_iff.mp hw
            obtain ⟨L1, hL1, hw⟩ := hw
            have e4 : IntKind.i64.wrap (own + 1) = own + 1 := by rw [i64_w]; unfold wrap64; omega
            have e5 : IntKind.i64.wrap (left - own) = left - own := by rw [i64_w]; unfold wrap64; omega
            have e6 : IntKind.i64.wrap (k + 1) = k + 1 := by rw [i64_w]; unfold wrap64; omega
            have HTC := Aside0.mk (fun V => HT.out own ls V hls)
            have HLL := Aside0.mk hll
            have HL1 := Aside0.mk hL1
            have HWN := Aside0.mk hw
            clear hw hls hll hL1 HW b1 b2 b3 b4 b5 b6
            obtain ⟨wo, hwo⟩ : ∃ X, X = wr := ⟨wr, rfl⟩
            obtain ⟨gko, hgko⟩ : ∃ X, X = gk := ⟨gk, rfl⟩
            subst hwo
            subst hgko
            go_wp2_with (go_at_call 27; refine (HTC.out _).mono ?_; rintro e w2 ⟨v2, rfl, hS2, hb2⟩; obtain ⟨A2, c2, e2_, _, _⟩ := Kd.S_reads hS2; subst e2_; have HL2 := Aside0.mk (Kd.R_bound (Kd.S_R hS2)); have HB2 := Aside0.mk hb2; clear hS2 hb2)
            go_loopg [41] ls.length (fun gi v41 wr => ∃ (jj : Nat) (Lj : List (List ByteArray)), v41 = .int .i64 jj ∧ Aside0 (jj ≤ ls.length) ∧ Aside0 (ls.length - jj ≤ gi) ∧ Aside0 (trL (fun d L => ad T m s (k + 1) (left - own) d L) (abcT k) done (ls.drop jj) Lj = some L1) ∧ Aside0 (TrS G3 G7 G5 G8 base m q w1 (fun j => (((ok j ∨ W.heap.size ≤ j) ∧ j < wo.heap.size) ∨ w2.heap.size ≤ j) ∧ tG G3 G5 G8 j) Lj wr) ∧ Aside0 (∀ j, j < W.heap.size → ¬ ok j → wr.heap[j]? = W.heap[j]?) ∧ Aside0 (w2.heap.size ≤ wr.heap.size) ∧ Aside0 (Kd.R (Kd.slice 9 Kd.string) 31 wr wo.heap.size (fun j => wo.heap.size ≤ j ∧ j < w2.heap.size) (.slice A2 ls.length c2) ls))
            case atStart => exact ⟨0, Lk, rfl, ⟨Nat.zero_le _⟩, ⟨by omega⟩, ⟨by rw [List.drop_zero]; exact HL1.out⟩, ⟨(HSk.out.mono (fun j hj hl => ⟨.inl ⟨hj.1, hl⟩, hj.2⟩) (fun j hj => hj.2)).below HB2.out⟩, ⟨fun j hj hn => (HB2.out.block j (Nat.lt_of_lt_of_le hj HZ.out)).trans (HFR.out j hj hn)⟩, ⟨Nat.le_refl _⟩, ⟨Kd.R_mono HL2.out (fun j hj => ⟨hj.2.1, hj.2.2.1⟩)⟩⟩
            case round =>
              clear HL1
              obtain ⟨jj, Lj, rfl, HJ, HG, HW2, HSj, HFj, HZj, HLS⟩ := hrel
              have bxmj := HSj.out.m_.cell.1
              by_cases hj : jj < ls.length
              · have hjz : (jj : Int) < (ls.length : Int) := by omega
                obtain ⟨ad_, A0, c0, eA, hcell, hc0, hrow⟩ := at_rowT (Kd.R_reads' HLS.out).2.2 jj hj
                have hw2 := HW2.out
                rw [List.drop_eq_getElem_cons hj] at hw2
                unfold trL at hw2
                generalize ls[jj] = row at hcell hc0 hrow hw2
                by_cases hrb : row.length ≤ 1000 ∧ row.all (fun s => decide (s.size ≤ 1000)) = true
                case neg => rw [if_neg hrb] at hw2; cases hw2
                rw [if_pos hrb] at hw2
                replace hw2 := Option.bind_eq_some_iff.mp hw2
                obtain ⟨L3, hL3, hw2⟩ := hw2
                subst eA
                have HROW := Aside0.mk hrow
                have HRB := Aside0.mk hrb
                have HL3 := Aside0.mk hL3
                have HWR := Aside0.mk hw2
                have HC0 := Aside0.mk hc0
                have HJL := Aside0.mk hj
                have hjd : IntKind.i64.wrap ((jj : Int) + 1) = ((jj + 1 : Nat) : Int) := by have h1_ := HLL.out; rw [i64_w]; unfold wrap64; omega
                have HDC := Aside0.mk (show Kd.C Kd.string wr A done.length done from (Kd.R_reads' (Kd.R_step (Kd.R_tight rfl (Kd.R_bound HD.out)) (fun j hj_ hl => HFj.out j hl (HNO.out j hj_.symm)))).2.2)
                have HDN := Aside0.mk (Kd.R_reads' HD.out).2.1
                clear hw2 hL3 hrb hrow hc0 hj HW2
                obtain ⟨wm, hwm⟩ : ∃ X, X = wr := ⟨wr, rfl⟩
                obtain ⟨gio, hgio⟩ : ∃ X, X = gk := ⟨gk, rfl⟩
                subst hwm
                subst hgio
                go_wp2_with (go_at_call 38; refine (slices_Clone_string_string.calls A c done done _ HDC.out HDN.out (by unfold slices_Clone_string_string.f; rw [if_pos (by have h1_ := HBD.out.2.2.1; omega)])).mono ?_; rintro e w4 ⟨v4, rfl, hR4, hb4⟩; obtain ⟨A4, c4, e4_, _, _⟩ := Kd.R_reads hR4; subst e4_; have HR4 := Aside0.mk hR4; have HB4 := Aside0.mk hb4; clear hR4 hb4)
                go_loopg [13, 49] row.length (fun gi v13 v49 wr => ∃ (ii : Nat) (nx : List ByteArray), v49 = .int .i64 ii ∧ Aside0 (ii ≤ row.length) ∧ Aside0 (row.length - ii ≤ gi) ∧ Aside0 (nx = done ++ (row.take ii).map (abcT k ++ ·)) ∧ Aside0 (Kd.R Kd.string 9 wr wm.heap.size (fun _ => True) v13 nx) ∧ Aside0 (Below wm.heap.size wm wr))
                case atStart => exact ⟨0, done, rfl, ⟨Nat.zero_le _⟩, ⟨by omega⟩, ⟨by simp⟩, HR4, HB4⟩
                case round =>
                  clear HR4 HB4
                  obtain ⟨ii, nx, rfl, HI, HGI, HNX, HRN, HBN⟩ := hrel
                  obtain ⟨A13, c13, e13, _, _⟩ := Kd.R_reads HRN.out
                  subst e13
                  by_cases hi : ii < row.length
                  · have hiz : (ii : Int) < (row.length : Int) := by omega
                    obtain ⟨ad2, ea2, hcell2⟩ := Kd.at_string (Kd.C_below HROW.out HBN.out) ii (by omega) hiz
                    have hra : rdOf ByteArray.empty row (ii : Int) = row[ii] := by simp [rdOf, List.getD_eq_getElem?_getD, hi]
                    rw [hra] at hcell2
                    simp only [Int.toNat_natCast] at hcell2
                    have hsz := List.all_eq_true.1 HRB.out.2 row[ii] (List.getElem_mem hi)
                    rw [decide_eq_true_eq] at hsz
                    have htk : (row.take (ii + 1)).map (abcT k ++ ·) = (row.take ii).map (abcT k ++ ·) ++ [abcT k ++ row[ii]] := by rw [List.take_succ_eq_append_getElem hi, List.map_append]; rfl
                    generalize row[ii] = st at hcell2 hsz htk
                    subst ea2
                    have HSZ := Aside0.mk hsz
                    have HTK := Aside0.mk htk
                    have HIL := Aside0.mk hi
                    have hb1 : k + 1 ≤ 3 := by have h1_ := HK.out; have h2_ := HBD.out.1.2; omega
                    have hb0 : 0 ≤ k := HBD.out.1.1.1
                    have hb2 : 0 ≤ k + 1 := by omega
                    have hb3 : k ≤ k + 1 := by omega
                    have hid : IntKind.i64.wrap ((ii : Int) + 1) = ((ii + 1 : Nat) : Int) := by have h1_ := HRB.out.1; rw [i64_w]; unfold wrap64; omega
                    have hlnx : nx.length ≤ 101000 := by rw [HNX.out, List.length_append, List.length_map, List.length_take]; have h1_ := HBD.out.2.2.1; have h2_ := HRB.out.1; omega
                    have HLNX := Aside0.mk hlnx
                    have hszf : (9223372036854775807 < (k + 1).toNat - k.toNat + st.size) = False := eq_false (by omega)
                    clear hra hsz htk hi hlnx
                    go_wp2_with ((with_reducible refine gate_builtin (b := .append) (xs := #[.tmp 53, .tmp 60]) rfl ?_); at_builtin; refine Kd.R_append Kd.string (w0 := wm) wm.heap.size rfl (.tmp 53) (.tmp 60) 31 9 (.string ⟨#[]⟩) 16 rfl Try.underlying31 infoStrT rfl (by decide) (by omega) (.slice A13 nx.length c13) nx (abcT k ++ st) [.string (abcT k ++ st)] (fun _ => True) (fun _ => False) rfl rfl rfl (fun _ hk => hk.elim) (fun _ _ => trivial) HRN.out HBN.out HBN.out.size (by have h1_ := HLNX.out; omega) ?_; intro v61 w7 ho7 hb7 hg7 hat7; have HO7 := Aside0.mk ho7; have HB7 := Aside0.mk hb7; clear ho7 hb7 hg7 hat7)
                    clear hszf hb0 hb1 hb2 hb3
                    go_roundg (row.length - (ii + 1))
                    case measure => have h1_ := HIL.out; have h2_ := HGI.out; omega
                    case rel => exact ⟨ii + 1, nx ++ [abcT k ++ st], by first | rfl | (congr 1; omega) | go_num, ⟨HIL.out⟩, ⟨by have h1_ := HGI.out; omega⟩, ⟨by rw [HNX.out, HTK.out, List.append_assoc]⟩, HO7, HB7⟩
                  · have hiz : ¬ ((ii : Int) < (row.length : Int)) := by omega
                    have hnx : nx = done ++ row.map (abcT k ++ ·) := by rw [HNX.out, List.take_of_length_le (by omega)]
                    have hL3 := HL3.out
                    rw [← hnx] at hL3
                    have HL3' := Aside0.mk hL3
                    clear hnx hL3
                    have HS5 := Aside0.mk ((HSj.out.mono (ok' := fun j => ((((ok j ∨ W.heap.size ≤ j) ∧ j < wo.heap.size) ∨ w2.heap.size ≤ j) ∧ tG G3 G5 G8 j) ∧ j < wm.heap.size) (fun j hj hl => ⟨hj, hl⟩) (fun j hj => hj.1.2)).below HBN.out)
                    have HFRS := Aside0.mk (fun j (hj : wm.heap.size ≤ j) => HSj.out.fresh hj)
                    have HRX := Aside0.mk (Kd.R_lower (base' := base) (Kd.R_mono (ok' := tG G3 G5 G8) (Kd.R_bound HRN.out) (fun j hj => HFRS.out j hj.2.1)) HSj.out.le)
                    have HRB2 := Aside0.mk (fun j hj => Kd.R_base HRN.out j hj)
                    have bxa := HS5.out.a_.cell.1
                    have HCALL := Aside0.mk (show Calls Try.prog 37 #[.int .i64 (k + 1), .int .i64 (left - own), .slice A13 nx.length c13, .pointer (some ⟨G3, 0, none⟩), .pointer (some ⟨G7, 0, none⟩), .pointer (some ⟨G5, 0, none⟩), .pointer (some ⟨G8, 0, none⟩)] wr _ from IH.out _ (k + 1) (left - own) nx Lj L3 A13 c13 wr HS5.out HRX.out (fun j hj q => by have h1_ := HRB2.out j hj; have h2_ := q.2; omega) HL3'.out)
                    clear hi
                    unfold trP at bxa
                    go_wp2_with (with_reducible refine HCALL.out.mono ?_; rintro e w8 ⟨⟨r8, rfl⟩, hS8, hf8, hz8⟩; have HS8 := Aside0.mk hS8; have HF8 := Aside0.mk hf8; have HZ8 := Aside0.mk hz8; clear hS8 hf8 hz8)
                    go_roundg (ls.length - (jj + 1))
                    case measure => have h1_ := HJL.out; have h2_ := HG.out; omega
                    case rel =>
                      have z1 := HB2.out.size
                      have z2 := HZj.out
                      have z3 := HBN.out.size
                      have z4 := HZ8.out
                      have z5 := HZ.out
                      have hne : ∀ j, j < wm.heap.size → ¬ (((((ok j ∨ W.heap.size ≤ j) ∧ j < wo.heap.size) ∨ w2.heap.size ≤ j) ∧ tG G3 G5 G8 j)) → w8.heap[j]? = wm.heap[j]? := fun j hj hn => (HF8.out j (by omega) (fun q => hn q.1)).trans (HBN.out.block j hj)
                      refine ⟨jj + 1, L3, by first | rfl | (congr 1; omega) | go_num, ⟨HJL.out⟩, ⟨by have h1_ := HG.out; omega⟩, HWR, ⟨HS8.out.mono (fun j hj _ => ⟨?_, hj.2⟩) (fun j hj => hj.2)⟩, ⟨fun j hj hn => (hne j (by omega) (fun q => ?_)).trans (HFj.out j hj hn)⟩, ⟨by omega⟩, ⟨Kd.R_step HLS.out (fun j hj hl => hne j hl (fun q => ?_))⟩⟩
                      · rcases hj.1 with q | q | q
                        · exact q.1.1
                        · exact .inr (by omega)
                        · have h1_ := HRB2.out j q.symm
                          exact .inr (by omega)
                      · rcases q.1 with q | q
                        · rcases q.1 with q | q
                          · exact hn q
                          · omega
                        · omega
                      · rcases q.1 with q | q
                        · omega
                        · omega
              · have hjz : ¬ ((jj : Int) < (ls.length : Int)) := by omega
                have hw2 := HW2.out
                rw [List.drop_of_length_le (by omega)] at hw2
                unfold trL at hw2
                obtain rfl := Option.some.inj hw2
                clear hw2 HW2 hj
                go_wp2_with fail
                go_roundg gko
                case measure => omega
                case rel =>
                  have z1 := HB2.out.size
                  have z2 := HZj.out
                  have z5 := HZ.out
                  refine ⟨own + 1, Lj, by first | rfl | (congr 1; omega) | go_num, ⟨by have h1_ := HO1.out; omega⟩, HWN, ⟨HSj.out.mono (fun j hj _ => ⟨?_, hj.2⟩) (fun j hj => hj.2)⟩, HFj, ⟨by omega⟩⟩
                  rcases hj.1 with q | q
                  · exact q.1
                  · exact .inr (by omega)
          · rw [if_neg hle] at hw
            obtain rfl := Option.some.inj hw
            clear hw HW
            go_wp2_with fail
            refine bodyPost_end (results_none rfl _ _ _) rfl ?_
            exact ⟨⟨_, rfl⟩, HSk.out.mono (fun j hj _ => ⟨hj.1.elim .inl (fun p => .inr (.inl p)), hj.2⟩) (fun j hj => hj.2), HFR.out, HZ.out⟩

attribute [local go_sem] fw_store_func
def tr : Nat → Int → Int → Int → Option (List (List ByteArray))
  | 0, _, _, _ => none
  | r + 1, m, n, q => if (0 ≤ m ∧ m ≤ 3) ∧ (0 ≤ n ∧ n ≤ 1000) ∧ 0 ≤ q ∧ q ≤ 1000 then (if n = 1 then some [[⟨#[]⟩]] else if q = 0 then some [] else if n < m then some [] else ad (fun own => tr r m own (q - 1)) m 5 0 n [] []) else none
theorem trL.mono {g g' : List ByteArray → List (List ByteArray) → Option (List (List ByteArray))} (hg : ∀ d L, LeO (g d L) (g' d L)) (kb : ByteArray) (done : List ByteArray) : ∀ ls Ls, LeO (trL g kb done ls Ls) (trL g' kb done ls Ls)
  | [], _ => LeO.refl _
  | l :: ls, Ls => by
    unfold trL
    exact LeO.ite (LeO.bind (hg _ _) fun _ => trL.mono hg kb done ls _) (LeO.refl _)
theorem trO.mono {T T' : Int → Option (List (List ByteArray))} {g g' : Int → List ByteArray → List (List ByteArray) → Option (List (List ByteArray))} (hT : ∀ o, LeO (T o) (T' o)) (hg : ∀ o d L, LeO (g o d L) (g' o d L)) (kb : ByteArray) (done : List ByteArray) (top : Int) : ∀ d own Ls, LeO (trO T g kb done top d own Ls) (trO T' g' kb done top d own Ls)
  | 0, _, _ => LeO.none _
  | d + 1, own, Ls => by
    unfold trO
    exact LeO.ite (LeO.bind (hT _) fun _ => LeO.ite (LeO.bind (trL.mono (hg _) kb done _ _) fun _ => trO.mono hT hg kb done top d _ _) (LeO.refl _)) (LeO.refl _)
theorem ad.mono {T T' : Int → Option (List (List ByteArray))} (hT : ∀ o, LeO (T o) (T' o)) (m : Int) : ∀ s k left done Ls, LeO (ad T m s k left done Ls) (ad T' m s k left done Ls)
  | 0, _, _, _, _ => LeO.none _
  | s + 1, k, left, done, Ls => by
    unfold ad
    exact LeO.ite (LeO.ite (LeO.refl _) (trO.mono hT (fun o d L => ad.mono hT m s _ _ d L) _ _ _ _ _ _)) (LeO.refl _)
theorem tr.mono : ∀ r m n q, LeO (tr r m n q) (tr (r + 1) m n q)
  | 0, _, _, _ => LeO.none _
  | r + 1, m, n, q => by
    rw [tr, tr]
    exact LeO.ite (LeO.ite (LeO.refl _) (LeO.ite (LeO.refl _) (LeO.ite (LeO.refl _) (ad.mono (fun o => tr.mono r m o (q - 1)) m 5 0 n [] [])))) (LeO.refl _)
def impl_trees.f (k : Nat) (a0 a1 a2 : Int) : Option (List (List ByteArray)) := tr k a0 a1 a2
theorem impl_trees.mono : ∀ a0 a1 a2 k, LeO (impl_trees.f k a0 a1 a2) (impl_trees.f (k + 1) a0 a1 a2) := fun a0 a1 a2 k => tr.mono k a0 a1 a2
set_option maxRecDepth 100000 in
set_option maxHeartbeats 16000000 in
theorem tr_calls (r : Nat) : ∀ (m n q : Int) (L : List (List ByteArray)) (w : World), tr r m n q = some L → Calls Try.prog 27 #[.int .i64 m, .int .i64 n, .int .i64 q] w fun e w' => ∃ v, e = .returned v ∧ Kd.S (Kd.slice 9 Kd.string) 31 w' w.heap.size (fun _ => True) v L ∧ Below w.heap.size w w' := by
  induction r with
  | zero => intro m n q L w h; cases h
  | succ r ih =>
    intro m n q L w h
    have IH := Aside0.mk ih
    clear ih
    unfold tr at h
    by_cases hb : (0 ≤ m ∧ m ≤ 3) ∧ (0 ≤ n ∧ n ≤ 1000) ∧ 0 ≤ q ∧ q ≤ 1000
    case neg => rw [if_neg hb] at h; cases h
    rw [if_pos hb] at h
    obtain ⟨W0, hW0⟩ : ∃ W0, (w.alloc (.cells #[.int .i64 m] 3)).alloc (.cells #[.int .i64 q] 3) = W0 := ⟨_, rfl⟩
    have hb0 : Below w.heap.size w W0 := by rw [← hW0]; exact below_alloc (below_alloc (Below.refl _ w) _) _
    have hz0 : W0.heap.size = w.heap.size + 2 := by rw [← hW0]; simp
    have hbm : Bx W0 w.heap.size (.int .i64 m) 3 := by rw [← hW0]; exact Bx.below (heap_new w _) (below_alloc (Below.refl _ _) _) (by simp)
    have hbq : Bx W0 (w.heap.size + 1) (.int .i64 q) 3 := by
      rw [← hW0]
      have := heap_new (w.alloc (.cells #[.int .i64 m] 3)) (.cells #[.int .i64 q] 3)
      unfold Bx
      rwa [show (w.alloc (.cells #[.int .i64 m] 3)).heap.size = w.heap.size + 1 by simp] at this
    have HB0 := Aside0.mk hb0
    have HZ0 := Aside0.mk hz0
    have HBM := Aside0.mk hbm
    have HBQ := Aside0.mk hbq
    have bxm := hbm.cell.1
    have bxq := hbq.cell.1
    clear hb0 hz0 hbm hbq
    by_cases hn : n = 1
    · rw [if_pos hn] at h
      obtain rfl := Option.some.inj h
      have hnb : (n == 1) = true := by simpa using hn
      clear h hn hb
      go_enter Try.func27, Try.ntmps27
      go_wp2_with (first
        | ((with_reducible refine gate_dst (N := 11) rfl ?_); refine Kd.R_lit Kd.string (w0 := w) w.heap.size 9 ?hg (N := 11) ?hd (xs := [(⟨#[]⟩ : ByteArray)]) (inner := [.string ⟨#[]⟩]) (ok := fun _ => True) (okp := fun _ => True) ?hr ?hp (fun _ hk => hk) trivial HB0.out HB0.out.size (by simp) ?_; (case hd => rfl); (case hg => rfl); (case hr => first | (go_simp; done) | (go_simp; rfl)); (case hp => exact Reps.one rfl (Reps.none _ _)); intro v11 w2 ho2 hb2 hg2 hnew2; obtain ⟨A11, c11, e11, _, _⟩ := Kd.R_reads ho2; subst e11; have HO2 := Aside0.mk (Kd.R_tight rfl ho2); have HB2 := Aside0.mk hb2; clear hg2 hnew2 ho2 hb2)
        | ((with_reducible refine gate_dst (N := 12) rfl ?_); refine Kd.S_lits (Kd.slice 9 Kd.string) (w0 := w) w.heap.size 31 ?hg (N := 12) ?hd (xs := [[(⟨#[]⟩ : ByteArray)]]) (inner := [.slice A11 1 c11]) (ok := fun _ => True) (fun j k => j = 0 ∧ some k = (Value.slice A11 1 c11).ownBlock) ?hr rfl ?hp (fun i j k hi hj => hi.1.trans hj.1.symm) (fun _ _ _ => trivial) trivial HB2.out HB2.out.size (by simp) ?_; (case hd => rfl); (case hg => rfl); (case hr => first | (go_simp; done) | (go_simp; rfl)); (case hp => (intro j x hj; obtain ⟨rfl, rfl⟩ : j = 0 ∧ [(⟨#[]⟩ : ByteArray)] = x := (by cases j with | zero => exact ⟨rfl, by simpa using hj⟩ | succ j => simp at hj); exact ⟨_, rfl, Kd.R_mono HO2.out (fun k hk => ⟨rfl, hk⟩)⟩)); intro v12 w3 ho3 hb3 hg3 hnew3; have HO3 := Aside0.mk ho3; have HB3 := Aside0.mk hb3; clear hg3 hnew3 ho3 hb3))
      go_ret
      exact ⟨_, rfl, HO3.out, HB3.out⟩
    · rw [if_neg hn] at h
      have hnb : (n == 1) = false := by simpa using hn
      by_cases hq : q = 0
      · rw [if_pos hq] at h
        obtain rfl := Option.some.inj h
        have hqb : (q == 0) = true := by simpa using hq
        clear h hn hb hq
        go_enter Try.func27, Try.ntmps27
        go_wp2_with fail
        go_ret
        exact ⟨_, rfl, Kd.S_nil _ _ _ _ _, HB0.out⟩
      · rw [if_neg hq] at h
        have hqb : (q == 0) = false := by simpa using hq
        by_cases hnm : n < m
        · rw [if_pos hnm] at h
          obtain rfl := Option.some.inj h
          have hnd : decide (n < m) = true := decide_eq_true hnm
          clear h hn hb hq
          go_enter Try.func27, Try.ntmps27
          go_wp2_with fail
          go_ret
          exact ⟨_, rfl, Kd.S_nil _ _ _ _ _, HB0.out⟩
        · rw [if_neg hnm] at h
          have hnd : decide (n < m) = false := decide_eq_false hnm
          have HF := Aside0.mk h
          have hwq : IntKind.i64.wrap (q - 1) = q - 1 := by rw [i64_w]; unfold wrap64; omega
          have HWQ := Aside0.mk hwq
          clear h hn hb hq hwq
          go_enter Try.func27, Try.ntmps27
          go_upto_region 8 with ((with_reducible refine gate_dst (N := 20) rfl ?_); refine Kd.S_lit (Kd.slice 9 Kd.string) (w0 := W0) W0.heap.size 31 ?hg (N := 20) ?hd (xs := ([] : List (List ByteArray))) (inner := []) (ok := fun _ => True) (okp := fun _ => True) ?hr ?hp (fun _ hk => hk) trivial (Below.refl _ _) (Nat.le_refl _) (by simp) ?_; (case hd => rfl); (case hg => rfl); (case hr => first | (go_simp; done) | (go_simp; rfl)); (case hp => exact (Reps.none _ _)); intro v20 w2 ho2 hb2 hg_ hnew_; clear hg_ hnew_; obtain ⟨A20, c20, e20, _, _⟩ := Kd.S_reads ho2; subst e20; have HO2 := Aside0.mk (Kd.S_bound ho2); have HB2 := Aside0.mk hb2; clear ho2 hb2)
          obtain ⟨W5, hW5⟩ : ∃ W5, ((w2.alloc (.cells #[.slice A20 0 c20] 22)).alloc (.cells #[.func (.func 37) #[] (trP w.heap.size w2.heap.size (w.heap.size + 1) (w2.heap.size + 1))] 53)) = W5 := ⟨_, rfl⟩
          have z2 := HB2.out.size
          have z0 := HZ0.out
          have hz5 : W5.heap.size = w2.heap.size + 2 := by rw [← hW5]; simp
          have hb5 : Below w2.heap.size w2 W5 := by rw [← hW5]; exact below_alloc (below_alloc (Below.refl _ _) _) _
          have k7 : Bx W5 w2.heap.size (.slice A20 ([] : List (List ByteArray)).length c20) 22 := by
            rw [← hW5]
            exact Bx.below (show Bx (w2.alloc (.cells #[.slice A20 0 c20] 22)) w2.heap.size (.slice A20 0 c20) 22 from heap_new w2 _) (below_alloc (Below.refl _ _) _) (by simp)
          have k8 : Bx W5 (w2.heap.size + 1) (.func (.func 37) #[] (trP w.heap.size w2.heap.size (w.heap.size + 1) (w2.heap.size + 1))) 53 := by
            rw [← hW5]
            have h_ := heap_new (w2.alloc (.cells #[.slice A20 0 c20] 22)) (.cells #[.func (.func 37) #[] (trP w.heap.size w2.heap.size (w.heap.size + 1) (w2.heap.size + 1))] 53)
            rwa [show (w2.alloc (.cells #[.slice A20 0 c20] 22)).heap.size = w2.heap.size + 1 by simp] at h_
          have k3 := HBM.out.below (HB2.out.trans (hb5.mono z2)) HBM.out.lt
          have k5 := HBQ.out.below (HB2.out.trans (hb5.mono z2)) HBQ.out.lt
          have hS20 : Kd.S (Kd.slice 9 Kd.string) 31 W5 w.heap.size (fun j => (W0.heap.size ≤ j ∧ j ≤ w2.heap.size) ∧ j ≠ w2.heap.size) (.slice A20 ([] : List (List ByteArray)).length c20) [] := by
            rw [← hW5]
            refine Kd.S_alloc (Kd.S_alloc (Kd.S_lower (Kd.S_mono HO2.out (fun j hj => ⟨⟨hj.2.1, by have := hj.2.2.1; omega⟩, by have := hj.2.2.1; omega⟩)) (by omega)) _) _
          have hS : TrS w.heap.size w2.heap.size (w.heap.size + 1) (w2.heap.size + 1) w.heap.size m q w (fun j => W0.heap.size ≤ j ∧ j ≤ w2.heap.size) [] W5 :=
            ⟨k3, k5, k8, ⟨A20, c20, k7, hS20⟩, ⟨z2, Nat.le_refl _⟩, fun j hj => ⟨by omega, by omega, by omega⟩, HB0.out.trans ((HB2.out.trans (hb5.mono z2)).mono (by omega)), by omega, by omega⟩
          have HS := Aside0.mk hS
          have HZ5 := Aside0.mk hz5
          have bxa := k8.cell.1
          unfold trP at bxa
          have hW5' := hW5
          unfold trP at hW5'
          rw [hW5']
          clear hW5 hW5' z2 z0 hz5 hb5 k7 k8 k3 k5 hS20 hS bxm bxq hW0
          go_wp2_with (first
            | ((with_reducible refine gate_dst (N := 24) rfl ?_); refine Kd.R_lit Kd.string (w0 := W5) W5.heap.size 9 ?hg (N := 24) ?hd (xs := ([] : List ByteArray)) (inner := []) (ok := fun _ => True) (okp := fun _ => True) ?hr ?hp (fun _ hk => hk) trivial (Below.refl _ _) (Nat.le_refl _) (by simp) ?_; (case hd => rfl); (case hg => rfl); (case hr => first | (go_simp; done) | (go_simp; rfl)); (case hp => exact (Reps.none _ _)); intro v24 w6 ho6 hb6 hg_ hnew_; clear hg_ hnew_; obtain ⟨A24, c24, e24, _, _⟩ := Kd.R_reads ho6; subst e24; have HO6 := Aside0.mk ho6; have HS6 := Aside0.mk (HS.out.below hb6); clear ho6 hb6)
            | (refine (show Calls Try.prog 37 #[.int .i64 0, .int .i64 n, .slice A24 0 c24, .pointer (some ⟨w.heap.size, 0, none⟩), .pointer (some ⟨w2.heap.size, 0, none⟩), .pointer (some ⟨w.heap.size + 1, 0, none⟩), .pointer (some ⟨w2.heap.size + 1, 0, none⟩)] w6 _ from ad_calls (fun own => tr r m own (q - 1)) w.heap.size w2.heap.size (w.heap.size + 1) (w2.heap.size + 1) w.heap.size m q w HWQ.out (fun own L V hL => IH.out m own (q - 1) L V hL) 5 (fun j => W0.heap.size ≤ j ∧ j ≤ w2.heap.size) 0 n [] [] L A24 c24 w6 HS6.out (Kd.R_lower (Kd.R_mono (Kd.R_bound HO6.out) (fun j hj => HS.out.fresh hj.2.1)) HS.out.le) (fun j hj p => by have h1_ := Kd.R_base HO6.out j hj; have h2_ := HZ5.out; omega) HF.out).mono ?_; rintro e w7 ⟨⟨r7, rfl⟩, hS7, _, _⟩; obtain ⟨A7, c7, hx7, hR7⟩ := hS7.j; have HR7 := Aside0.mk hR7; have HBW := Aside0.mk hS7.b; have bxo := hx7.cell.1; clear hS7 hx7 hR7))
          go_ret
          exact ⟨_, rfl, Kd.S_mono HR7.out (fun _ _ => trivial), HBW.out⟩
theorem impl_trees.calls (k : Nat) (a0 a1 a2 : Int) (r : List (List ByteArray)) (w : World) (h : impl_trees.f k a0 a1 a2 = some r) :
    Calls Try.prog 27 #[.int .i64 a0, .int .i64 a1, .int .i64 a2] w fun e w' => ∃ v0_ : Value, e = .returned (v0_) ∧ Kd.S (Kd.slice 9 Kd.string) 31 w' w.heap.size (fun _ => True) v0_ r ∧ Below w.heap.size w w' := tr_calls k a0 a1 a2 r w h

end Go.Proofs.Ytgokegndboknfaa.X

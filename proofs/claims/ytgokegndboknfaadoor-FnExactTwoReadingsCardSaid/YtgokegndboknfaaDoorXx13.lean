-- WRITTEN by xprint.py of this repo: the kit's print.py with contracts given by hand (given.py). Lean checks it.
import Derived.Test.YtgokegndboknfaaDoorXx0
import Derived.Test.YtgokegndboknfaaDoorXx10
import Derived.Test.YtgokegndboknfaaDoorXx11
import Derived.Test.YtgokegndboknfaaDoorXx12
namespace Go.Proofs.YtgokegndboknfaaDoor.X
open Go.RowKit Go.Proofs.YtgokegndboknfaaDoorW.PrintWords Go.Proofs.YtgokegndboknfaaDoorW.PrintLast Go.Proofs.YtgokegndboknfaaDoorW.PrintMore
attribute [local go_sem] max2_int min2_int max_two min_two max_three min_three max_four min_four   -- for this text's walks alone
set_option linter.unusedVariables false
set_option linter.unusedSimpArgs false

/-! ### GIVEN impl_firstReadings: function 25 -/
/-- What a function value tells of each element, in whatever world that keeps what lay. -/
def FnP (P : Program) (g : Nat) (cb : Array Value) {α : Type} (enc : α → Value) (p : α → Bool) (l : List α) (w : World) : Prop :=
  ∀ (W : World) (x : α), x ∈ l → Below w.heap.size w W → Calls P g (#[enc x] ++ cb) W fun e w' => e = .returned (.bool (p x)) ∧ Below W.heap.size W w'
def idxG {α : Type} (p : α → Bool) (l : List α) : Int := if l.any p then (l.findIdx p : Int) else -1

theorem idxG_hit {α : Type} {p : α → Bool} {l : List α} {k : Nat} (hk : k < l.length) (h : p l[k] = true) (hn : ∀ j (hj : j < k), p (l[j]'(by omega)) = false) : idxG p l = (k : Int) := by
  unfold idxG
  rw [if_pos (List.any_eq_true.2 ⟨_, List.getElem_mem hk, h⟩)]
  congr 1
  exact List.findIdx_eq hk |>.2 ⟨h, fun j hj => hn j hj⟩
theorem idxG_miss {α : Type} {p : α → Bool} {l : List α} (hn : ∀ j (hj : j < l.length), p l[j] = false) : idxG p l = -1 := by
  unfold idxG
  rw [if_neg]
  intro h
  obtain ⟨x, hx, hp⟩ := List.any_eq_true.1 h
  obtain ⟨j, hj, rfl⟩ := List.getElem_of_mem hx
  rw [hn j hj] at hp
  exact absurd hp (by simp)


theorem idxG_nonneg {α : Type} (p : α → Bool) (l : List α) : decide (0 ≤ idxG p l) = l.any p := by
  unfold idxG
  cases h : l.any p
  · simp
  · simp

theorem infoRow : (Tryd.prog.info? 22).map (fun i => (i.zero, i.size, i.bytes)) = some (some (.slice none 0 0), 1, 24) := by kernel_rfl
theorem at_row {w : World} {A : Option Addr} {n : Nat} {xs : List (List ByteArray)} (h : Kd.C (Kd.slice 9 Kd.string) w A n xs) (i : Nat) (h1 : i < xs.length) : ∃ ad A0 c0, A = some ad ∧ w.cell? (ad.add i) = some (.slice A0 xs[i].length c0) ∧ xs[i].length ≤ c0 ∧ Kd.string.C w A0 xs[i].length xs[i] := by
  have hn := Kd.C_len h
  obtain ⟨ad, c, e, _, hK, hc0⟩ := Kd.C_get h ([] : List ByteArray) (i : Int) (by omega) (by omega)
  have hg : xs.getD (i : Int).toNat ([] : List ByteArray) = xs[i] := by simp [List.getD_eq_getElem?_getD, h1]
  rw [hg] at hK
  have hc : ∀ j u, c[j]? = some u → w.cell? (ad.add ((i : Int).toNat * 1 + j)) = some u := hc0
  obtain ⟨A0, c0, rfl, l0, g0⟩ := hK
  exact ⟨ad, A0, c0, e, by have hq := hc 0 _ rfl; rwa [Nat.mul_one, Nat.add_zero, Int.toNat_natCast] at hq, l0, g0⟩

def begB (s t : ByteArray) : Bool := decide (t.size ≤ s.size) && ((s.extract 0 t.size).toList == t.toList)
theorem hasPrefix_f (s t : ByteArray) : strings_HasPrefix.f s t = some (begB s t) := by
  unfold strings_HasPrefix.f stringslite_HasPrefix.f begB
  by_cases h : t.size ≤ s.size
  · rw [if_pos (by omega), if_pos (by omega), if_pos (by omega), decide_eq_true h]; rfl
  · rw [if_neg (by omega), decide_eq_false h]; rfl

def slices_Clone_int_int.f (l0 : List Int) : Option (List Int) := if l0.length < 17592186044416 then some l0 else none
set_option maxHeartbeats 4000000 in
set_option maxRecDepth 100000 in
theorem slices_Clone_int_int.calls (A0 : Option Addr) (c0 : Nat) (l0 : List Int) (r : List Int) (w : World) (hr0 : Kd.C (Kd.int .i64) w A0 l0.length l0) (hc0 : l0.length ≤ c0) (h : slices_Clone_int_int.f l0 = some r) :
    Calls Tryd.prog 53 #[.slice A0 l0.length c0] w fun e w' => ∃ v0_ : Value, e = .returned (v0_) ∧ Kd.R (Kd.int .i64) 3 w' w.heap.size (fun _ => True) v0_ r ∧ Below w.heap.size w w' := by
  unfold slices_Clone_int_int.f at h
  by_cases hlim : l0.length < 17592186044416
  · rw [if_pos hlim] at h
    obtain rfl := Option.some.inj h
    clear h
    cases A0 with
    | none =>
      have h0 : l0 = [] := by
        cases l0 with
        | nil => rfl
        | cons x l =>
          obtain ⟨ad, e, _⟩ := hr0.2.2 (by simp)
          cases e
      subst h0
      have hnil := fun (W : World) (n c n' c' : Nat) => Lib.run_eql_slice_nil (P := Tryd.prog) W 29 3 none n c n' c' Tryd.underlying29
      clear hr0
      go_enter Tryd.func53, Tryd.ntmps53
      go_wp2
      go_ret
      exact ⟨_, rfl, Kd.R_nil _ _ _ _ _, Below.refl _ _⟩
    | some ad =>
      have hnil := fun (W : World) (n c n' c' : Nat) => Lib.run_eql_slice_nil (P := Tryd.prog) W 29 3 (some ad) n c n' c' Tryd.underlying29
      have HR0 := Aside0.mk hr0
      have LMc2 := Aside0.mk hlim
      clear hr0 hlim
      have HB := Aside0.mk (Below.refl w.heap.size w)
      go_enter Tryd.func53, Tryd.ntmps53
      go_wp2_with (first
        | ((with_reducible refine gate_dst (N := 5) rfl ?_); refine Kd.R_lit (Kd.int .i64) _ 3 ?hg (N := 5) ?hd (xs := ([] : List Int)) (inner := []) (ok := fun _ => True) (okp := fun _ => True) ?hr ?hp (fun _ hk => hk) trivial (Below.refl _ _) (Nat.le_refl _) (by simp) ?_; (case hd => rfl); (case hg => rfl); (case hr => first | (go_simp; done) | (go_simp; rfl)); (case hp => exact (Reps.none _ _)); intro v106 w3 ho4 hb hg_ hnew_; clear hg_ hnew_; have n0_ := Aside0.mk (Kd.R_lower ho4 (below_size (by repeat (first | (with_reducible first | exact HB.out | apply below_alloc | apply pw_below_drewN | apply below_drew1) | exact HB.out)))); have n1_ := Aside0.mk (below_step (by repeat (first | (with_reducible first | exact HB.out | apply below_alloc | apply pw_below_drewN | apply below_drew1) | exact HB.out)) hb); clear HB; have HO107 := n0_; have HB := n1_; clear n0_ n1_; clear hb ho4)
        | ((with_reducible refine gate_builtin (b := .append) (xs := #[.tmp 5, .tmp 6]) rfl ?_); at_builtin; refine Kd.R_append_rows (Kd.int .i64) (w0 := w) w.heap.size rfl (.tmp 5) (.tmp 6) 29 3 (.int .i64 0) 8 rfl Tryd.underlying29 info3 rfl (by decide) (by omega) v106 [] l0 _ _ _ (fun _ => True) (fun _ => False) rfl rfl ?aO ?aR (fun _ _ h => h) (fun _ h => h.elim) ?aF ?aB ?aS ?aL ?_; (case aR => repeat (first | exact (Kd.C_below HR0.out HB.out) | (with_reducible refine Kd.C_alloc ?_ _) | (with_reducible refine Kd.C_drewN ?_ _) | (with_reducible refine Kd.C_drew ?_))); (case aB => exact (by repeat (first | (with_reducible first | exact HB.out | apply below_alloc | apply pw_below_drewN | apply below_drew1) | exact HB.out))); (case aF => exact (fun _ _ => trivial)); (case aO => exact (by (with_reducible repeat (first | apply Kd.R_alloc | apply Kd.R_drewN | apply Kd.R_drew)); exact HO107.out)); (case aS => exact (below_size (by repeat (first | (with_reducible first | exact HB.out | apply below_alloc | apply pw_below_drewN | apply below_drew1) | exact HB.out)))); (case aL => have := LMc2.out; simp; omega); intro v109 w5 ho hb hg hat; have n0_ := Aside0.mk (hb); have n1_ := Aside0.mk (ho); clear HB; clear HO107; have HB := n0_; have HO110 := n1_; clear n0_ n1_; clear ho hb hg hat))
      go_ret
      exact ⟨_, by first | rfl | (simp; done), by (with_reducible repeat (first | apply Kd.R_alloc | apply Kd.R_drewN | apply Kd.R_drew)); exact HO110.out, by repeat (first | (with_reducible first | exact HB.out | apply below_alloc | apply pw_below_drewN | apply below_drew1) | exact HB.out)⟩
  · rw [if_neg hlim] at h
    exact absurd h (by simp)

theorem infoIntR : (Tryd.prog.info? 3).map (fun i => (i.zero, i.size, i.bytes)) = some (some (.int .i64 0), 1, 8) := by kernel_rfl
theorem infoRowI : (Tryd.prog.info? 29).map (fun i => (i.zero, i.size, i.bytes)) = some (some (.slice none 0 0), 1, 24) := by kernel_rfl
theorem lit1_C (W : World) (k : Int) : Kd.C (Kd.int .i64) (W.alloc (.cells #[.int .i64 k] 3)) (some ⟨W.heap.size, 0, none⟩) ([k] : List Int).length [k] :=
  Kd.C_of_reads (d := (0 : Int)) (h1 := fun _ => rfl) ⟨rfl, by simp, fun _ => ⟨_, rfl, fun j hj => by
    obtain rfl : j = 0 := by simpa using hj
    exact box_new W (.int .i64 k) 3⟩⟩
def Bx (W : World) (G : Nat) (v : Value) (t : Nat) : Prop := W.heap[G]? = some (.cells #[v] t (0, 0))
theorem Bx.cell {W : World} {G t : Nat} {v : Value} (h : Bx W G v t) : W.cell? ⟨G, 0, none⟩ = some v ∧ W.frozen? ⟨G, 0, none⟩ = false := by
  have h' : W.heap[G]? = some (.cells #[v] t (0, 0)) := h
  exact ⟨by simp [World.cell?, h'], by simp [World.frozen?, h']⟩
theorem Bx.lt {W : World} {G t : Nat} {v : Value} (h : Bx W G v t) : G < W.heap.size := (Array.getElem?_eq_some_iff.1 h).1
theorem Bx.below {W W' : World} {G n t : Nat} {v : Value} (h : Bx W G v t) (hb : Below n W W') (hG : G < n) : Bx W' G v t := (hb.block G hG).trans h
theorem Bx.set {W : World} {G t : Nat} {v : Value} (h : Bx W G v t) (v' : Value) : Bx (W.setCell ⟨G, 0, none⟩ v') G v' t := by
  have h' : W.heap[G]? = some (.cells #[v] t (0, 0)) := h
  show (W.setCell ⟨G, 0, none⟩ v').heap[G]? = _
  simp [World.setCell, Array.getElem?_modify, h']
theorem Bx.other {W : World} {G G' t : Nat} {v : Value} (h : Bx W G v t) (hne : G ≠ G') (v' : Value) : Bx (W.setCell ⟨G', 0, none⟩ v') G v t := (Below.heap_setCell W ⟨G', 0, none⟩ v' G hne).trans h
theorem Bx.grown {W W' : World} {G t : Nat} {v : Value} {row : Option Nat} (h : Bx W G v t) (hg : W.grownBy W' row) (hne : some G ≠ row) : Bx W' G v t := (hg.block G h.lt hne).trans h
/-- The closure's captured places: out, set, most, many, read. -/
def frP (G2 G3 G4 G5 G6 : Nat) : Array Value := #[.pointer (some ⟨G2, 0, none⟩), .pointer (some ⟨G3, 0, none⟩), .pointer (some ⟨G4, 0, none⟩), .pointer (some ⟨G5, 0, none⟩), .pointer (some ⟨G6, 0, none⟩)]
def frW (g : List Int → ByteArray → List (List Int) → Option (List (List Int))) (many : List Int) (most : Int) (done : List Int) (rest : ByteArray) : List ByteArray → Nat → List (List Int) → Option (List (List Int))
  | [], _, L => some L
  | x :: ws, i, L => if (L.length : Int) < most ∧ begB rest x = true ∧ 0 < Go.Proofs.YtgokegndboknfaaDoorW.PrintWords.rd many ((rest.size : Int) - (x.size : Int)) then (g (done ++ [(i : Int)]) (rest.extract x.size rest.size) L).bind fun L' => frW g many most done rest ws (i + 1) L' else frW g many most done rest ws (i + 1) L
def frL (set : List ByteArray) (many : List Int) (most : Int) : Nat → List Int → ByteArray → List (List Int) → Option (List (List Int))
  | 0, _, _, _ => none
  | n + 1, done, rest, L => if L.length ≤ 1000000 ∧ done.length ≤ 1000000 ∧ rest.size < many.length then (if rest.toList = [] then some (L ++ [done]) else frW (frL set many most n) many most done rest set 0 L) else none
def nG (G2 G3 G4 G5 G6 : Nat) (k : Nat) : Prop := k ≠ G2 ∧ k ≠ G3 ∧ k ≠ G4 ∧ k ≠ G5 ∧ k ≠ G6
/-- What the closure finds: its boxes, the rows that they tell, the readings so far. -/
structure FrS (w1 : World) (G2 G3 G4 G5 G6 base : Nat) (A0 Am : Option Addr) (c0 cm : Nat) (set : List ByteArray) (many : List Int) (most : Int) (ok : Nat → Prop) (W : World) (v : Value) (L : List (List Int)) : Prop where
  o : Bx W G2 v 37
  s : Bx W G3 (.slice A0 set.length c0) 22
  m : Bx W G4 (.int .i64 most) 3
  y : Bx W G5 (.slice Am many.length cm) 29
  r : Bx W G6 (.func (.func 52) #[] (frP G2 G3 G4 G5 G6)) 60
  sc : Kd.C Kd.string w1 A0 set.length set
  mc : Kd.C (Kd.int .i64) w1 Am many.length many
  b : Below w1.heap.size w1 W
  R : Kd.S (Kd.slice 3 (Kd.int .i64)) 29 W base (fun k => ok k ∧ nG G2 G3 G4 G5 G6 k) v L
  le : w1.heap.size ≤ G2 ∧ base ≤ W.heap.size ∧ w1.heap.size ≤ base
  ne : G2 ≠ G3 ∧ G2 ≠ G4 ∧ G2 ≠ G5 ∧ G2 ≠ G6
theorem FrS.nG {w1 : World} {G2 G3 G4 G5 G6 base : Nat} {A0 Am : Option Addr} {c0 cm : Nat} {set : List ByteArray} {many : List Int} {most : Int} {ok : Nat → Prop} {W : World} {v : Value} {L : List (List Int)} (h : FrS w1 G2 G3 G4 G5 G6 base A0 Am c0 cm set many most ok W v L) {k : Nat} (hk : W.heap.size ≤ k) : nG G2 G3 G4 G5 G6 k :=
  ⟨by have := h.o.lt; omega, by have := h.s.lt; omega, by have := h.m.lt; omega, by have := h.y.lt; omega, by have := h.r.lt; omega⟩
theorem FrS.own {w1 : World} {G2 G3 G4 G5 G6 base : Nat} {A0 Am : Option Addr} {c0 cm : Nat} {set : List ByteArray} {many : List Int} {most : Int} {ok : Nat → Prop} {W : World} {v : Value} {L : List (List Int)} (h : FrS w1 G2 G3 G4 G5 G6 base A0 Am c0 cm set many most ok W v L) {k : Nat} (hk : v.ownBlock = some k) : ok k ∧ X.nG G2 G3 G4 G5 G6 k := (Kd.S_R h.R).1 k hk
theorem FrS.below {w1 : World} {G2 G3 G4 G5 G6 base : Nat} {A0 Am : Option Addr} {c0 cm : Nat} {set : List ByteArray} {many : List Int} {most : Int} {ok : Nat → Prop} {W W' : World} {v : Value} {L : List (List Int)} (h : FrS w1 G2 G3 G4 G5 G6 base A0 Am c0 cm set many most ok W v L) (hb : Below W.heap.size W W') : FrS w1 G2 G3 G4 G5 G6 base A0 Am c0 cm set many most ok W' v L :=
  ⟨h.o.below hb h.o.lt, h.s.below hb h.s.lt, h.m.below hb h.m.lt, h.y.below hb h.y.lt, h.r.below hb h.r.lt, h.sc, h.mc, h.b.trans (hb.mono h.b.size), Kd.S_below h.R hb, ⟨h.le.1, Nat.le_trans h.le.2.1 hb.size, h.le.2.2⟩, h.ne⟩
theorem FrS.mono {w1 : World} {G2 G3 G4 G5 G6 base : Nat} {A0 Am : Option Addr} {c0 cm : Nat} {set : List ByteArray} {many : List Int} {most : Int} {ok ok' : Nat → Prop} {W : World} {v : Value} {L : List (List Int)} (h : FrS w1 G2 G3 G4 G5 G6 base A0 Am c0 cm set many most ok W v L) (hk : ∀ k, ok k → k < W.heap.size → ok' k) : FrS w1 G2 G3 G4 G5 G6 base A0 Am c0 cm set many most ok' W v L :=
  ⟨h.o, h.s, h.m, h.y, h.r, h.sc, h.mc, h.b, Kd.S_mono (Kd.S_bound h.R) (fun k q => ⟨hk k q.1.1 q.2.2.1, q.1.2⟩), h.le, h.ne⟩
set_option maxRecDepth 100000 in
set_option maxHeartbeats 16000000 in
theorem fr_calls (w1 : World) (G2 G3 G4 G5 G6 base : Nat) (A0 Am : Option Addr) (c0 cm : Nat) (set : List ByteArray) (many : List Int) (most : Int) (n : Nat) : ∀ (ok : Nat → Prop) (done : List Int) (rest : ByteArray) (L L' : List (List Int)) (A : Option Addr) (c : Nat) (W : World) (v : Value),
    FrS w1 G2 G3 G4 G5 G6 base A0 Am c0 cm set many most ok W v L → Kd.R (Kd.int .i64) 3 W base (nG G2 G3 G4 G5 G6) (.slice A done.length c) done → (∀ k, (Value.slice A done.length c).ownBlock = some k → ¬ ok k) → frL set many most n done rest L = some L' →
    Calls Tryd.prog 52 (#[.slice A done.length c, .string rest] ++ frP G2 G3 G4 G5 G6) W fun e W' => (∃ r, e = .returned r) ∧ ∃ v', FrS w1 G2 G3 G4 G5 G6 base A0 Am c0 cm set many most (fun k => ok k ∨ W.heap.size ≤ k ∨ some k = (Value.slice A done.length c).ownBlock) W' v' L' ∧ W'.heap.size ≥ W.heap.size ∧ (∀ k, k < W.heap.size → k ≠ G2 → some k ≠ v.ownBlock → W'.heap[k]? = W.heap[k]?) ∧ (v'.ownBlock = v.ownBlock ∨ ∃ q, v'.ownBlock = some q ∧ W.heap.size ≤ q) := by
  induction n with
  | zero => intro ok done rest L L' A c W v _ _ _ h; cases h
  | succ n ih =>
    intro ok done rest L L' A c W v hS hD hNO h
    have IH := Aside0.mk ih
    have HS := Aside0.mk hS
    have HD := Aside0.mk hD
    have HNO := Aside0.mk hNO
    unfold frL at h
    by_cases hb : L.length ≤ 1000000 ∧ done.length ≤ 1000000 ∧ rest.size < many.length
    case neg => rw [if_neg hb] at h; cases h
    rw [if_pos hb] at h
    have bx2 := hS.o.cell.1
    have fx2 := hS.o.cell.2
    obtain ⟨Av, cv, ev, _, _⟩ := Kd.S_reads hS.R
    subst ev
    clear ih hS hD hNO
    by_cases hr : rest.toList = []
    · rw [if_pos hr] at h
      obtain rfl := Option.some.inj h
      have hre : (rest.toList == []) = true := by rw [hr]; rfl
      have HB := Aside0.mk hb
      have HRR := Aside0.mk (Kd.R_tight rfl HD.out)
      clear hb h
      unfold frP
      go_enter Tryd.func52, Tryd.ntmps52
      go_wp2_with ((with_reducible refine gate_builtin (b := .append) (xs := #[.tmp 13, .tmp 15]) rfl ?_); at_builtin; refine Kd.S_append (Kd.slice 3 (Kd.int .i64)) (w0 := W) base rfl (.tmp 13) (.tmp 15) 37 29 (.slice none 0 0) 24 rfl Tryd.underlying37 infoRowI rfl (by decide) (by omega) (.slice Av L.length cv) L done [.slice A done.length c] (fun k => (ok k ∨ W.heap.size ≤ k ∨ some k = (Value.slice A done.length c).ownBlock) ∧ nG G2 G3 G4 G5 G6 k) (fun k => some k = (Value.slice A done.length c).ownBlock) rfl rfl ⟨_, rfl, HRR.out⟩ (fun k hk => ⟨⟨.inr (.inr hk), HD.out.1 k hk.symm⟩, fun e => HNO.out k hk.symm (HS.out.own e.symm).1⟩) (fun _ hk => ⟨.inr (.inl hk), HS.out.nG hk⟩) (Kd.S_mono HS.out.R (fun k hk => ⟨⟨.inl hk.1, hk.2⟩, fun q => HNO.out k q.symm hk.1⟩)) (Below.refl _ _) HS.out.le.2.1 (by have h1_ := HB.out.1; omega) ?_; intro v16 w2 ho hb2 hg hat; have HO := Aside0.mk ho; have HB2 := Aside0.mk hb2; have HG := Aside0.mk hg; have HAT := Aside0.mk hat; have HX := Aside0.mk (HS.out.o.grown hg (fun e => (HS.out.own e.symm).2.1 rfl)); have bx2b := HX.out.cell.1; have fx2b := HX.out.cell.2; obtain ⟨A16, c16, e16, _, _⟩ := Kd.S_reads ho; subst e16; clear ho hb2 hg hat)
      refine bodyPost_ret (results_none rfl _ _ _) rfl ?_
      have hl := HS.out.le
      have hn := HS.out.ne
      have ev : (Value.slice A16 (L.length + 1) c16) = .slice A16 (L ++ [done]).length c16 := by rw [List.length_append]; rfl
      have HR2 := Kd.S_far (p := ⟨G2, 0, none⟩) HO.out (fun k hk => hk.2.1) (Value.slice A16 (L.length + 1) c16)
      have hat := HAT.out
      rw [← ev] at HR2 hat
      have hg := HG.out
      have hne : ∀ {G t : Nat} {x : Value}, Bx W G x t → some G ≠ (Value.slice Av L.length cv).ownBlock → G2 ≠ G → Bx (w2.setCell ⟨G2, 0, none⟩ (Value.slice A16 (L.length + 1) c16)) G x t := fun hx hG hd => (hx.grown hg hG).other (Ne.symm hd) _
      have hsz : (w2.setCell ⟨G2, 0, none⟩ (Value.slice A16 (L.length + 1) c16)).heap.size = w2.heap.size := by simp
      have hs2 := HB2.out.size
      have hw2 : W.heap.size ≤ w2.heap.size := hg.size
      refine ⟨⟨_, rfl⟩, _, ⟨HX.out.set _, hne HS.out.s (fun e => (HS.out.own e.symm).2.2.1 rfl) hn.1, hne HS.out.m (fun e => (HS.out.own e.symm).2.2.2.1 rfl) hn.2.1, hne HS.out.y (fun e => (HS.out.own e.symm).2.2.2.2.1 rfl) hn.2.2.1, hne HS.out.r (fun e => (HS.out.own e.symm).2.2.2.2.2 rfl) hn.2.2.2, HS.out.sc, HS.out.mc, ?_, HR2, ⟨hl.1, by rw [hsz]; omega, hl.2.2⟩, hn⟩, by rw [hsz]; exact hw2, ?_, hat⟩
      · exact below_set (HS.out.b.trans (HB2.out.mono (by have := HS.out.le.2.2; omega))) hl.1
      · intro k hk h2 h3
        exact (Below.heap_setCell w2 ⟨G2, 0, none⟩ _ k h2).trans (hg.block k hk h3)
    · rw [if_neg hr] at h
      have hre : (rest.toList == []) = false := by rw [beq_eq_false_iff_ne]; exact hr
      have HB := Aside0.mk hb
      have HF := Aside0.mk h
      have bxs := HS.out.s.cell.1
      clear hb h bx2 fx2 hr
      unfold frP
      go_enter Tryd.func52, Tryd.ntmps52
      go_wp2_with fail
      go_loopg [9, 10, 19] set.length (fun gg _ _ v19 wr => ∃ (kk : Nat) (Lk : List (List Int)) (vk : Value), v19 = .int .i64 kk ∧ Aside0 (kk ≤ set.length) ∧ Aside0 (set.length - kk ≤ gg) ∧ Aside0 (frW (frL set many most n) many most done rest (set.drop kk) kk Lk = some L') ∧ Aside0 (FrS w1 G2 G3 G4 G5 G6 base A0 Am c0 cm set many most (fun k => ok k ∨ W.heap.size ≤ k) wr vk Lk) ∧ Aside0 (Kd.R (Kd.int .i64) 3 wr base (nG G2 G3 G4 G5 G6) (.slice A done.length c) done) ∧ Aside0 (wr.heap.size ≥ W.heap.size) ∧ Aside0 (∀ k, k < W.heap.size → k ≠ G2 → some k ≠ (Value.slice Av L.length cv).ownBlock → wr.heap[k]? = W.heap[k]?) ∧ Aside0 (vk.ownBlock = (Value.slice Av L.length cv).ownBlock ∨ ∃ q, vk.ownBlock = some q ∧ W.heap.size ≤ q))
      case atStart => exact ⟨0, L, _, rfl, ⟨Nat.zero_le _⟩, ⟨by omega⟩, ⟨by rw [List.drop_zero]; exact HF.out⟩, ⟨HS.out.mono (fun k hk _ => .inl hk)⟩, HD, ⟨Nat.le_refl _⟩, ⟨fun _ _ _ _ => rfl⟩, ⟨.inl rfl⟩⟩
      case round =>
        clear HF bxs
        obtain ⟨kk, Lk, vk, rfl, HK, HG, HW, HSk, HDk, HZ, HFR, HAT⟩ := hrel
        by_cases hlt : kk < set.length
        · have hltz : (kk : Int) < (set.length : Int) := by omega
          obtain ⟨ad, e1, hcell⟩ := Kd.at_string (Kd.C_below HSk.out.sc HSk.out.b) kk (by omega) hltz
          have hrd : rdOf ByteArray.empty set (kk : Int) = set[kk] := by simp [rdOf, List.getD_eq_getElem?_getD, hlt]
          rw [hrd] at hcell
          clear hrd
          simp only [Int.toNat_natCast] at hcell
          subst e1
          have hw := HW.out
          rw [List.drop_eq_getElem_cons hlt] at hw
          unfold frW at hw
          generalize set[kk] = x at hw hcell
          obtain ⟨Ak, ck, ek, _, _⟩ := Kd.S_reads HSk.out.R
          subst ek
          have bxo := HSk.out.o.cell.1
          have bxm := HSk.out.m.cell.1
          have HLT := Aside0.mk hlt
          by_cases c1 : (Lk.length : Int) < most
          · have hc1 : decide ((Lk.length : Int) < most) = true := decide_eq_true c1
            cases c2 : begB rest x with
            | false =>
              rw [if_neg (fun q => by rw [c2] at q; exact absurd q.2.1 (by decide))] at hw
              have HW2 := Aside0.mk hw
              clear hw HW hlt
              go_wp2_with (first | (go_at_call 42; refine (strings_HasPrefix.calls rest x _ _ (hasPrefix_f rest x)).mono ?_; rintro e w2 ⟨rfl, hd⟩; have HB2 : Aside0 (Below wr.heap.size wr w2) := ⟨by first | exact hd | exact hd.below | (obtain ⟨nd, rfl⟩ := hd; exact pw_below_drewN (Below.refl _ _) _)⟩; have HS2 := Aside0.mk (HSk.out.below HB2.out); have bxy2 := HS2.out.y.cell.1; have bxr2 := HS2.out.r.cell.1; clear hd))
              go_roundg (set.length - (kk + 1))
              (case measure => have h1_ := HLT.out; have h2_ := HG.out; omega)
              (case rel => exact ⟨kk + 1, Lk, _, by have h1_ := HLT.out; have h2_ := HSk.out.sc.2.1; first | (congr 1; unfold wrap64; omega) | go_num, ⟨HLT.out⟩, ⟨by have h1_ := HG.out; omega⟩, HW2, HS2, ⟨Kd.R_below HDk.out HB2.out⟩, ⟨Nat.le_trans HZ.out HB2.out.size⟩, ⟨fun k hk h2_ h3_ => (HB2.out.block k (Nat.lt_of_lt_of_le hk HZ.out)).trans (HFR.out k hk h2_ h3_)⟩, HAT⟩)
            | true =>
              have hxz : x.size ≤ rest.size := by unfold begB at c2; simp only [Bool.and_eq_true, decide_eq_true_eq] at c2; exact c2.1
              obtain ⟨q, hq⟩ : ∃ q, rest.size = x.size + q := ⟨rest.size - x.size, by omega⟩
              have hqz : (rest.size : Int) - (x.size : Int) = (q : Int) := by omega
              have hql : q < many.length := by have h1_ := HB.out.2.2; omega
              have hqlz : (q : Int) < (many.length : Int) := by omega
              have hwq : wrap64 ((x.size : Int) + (q : Int) - (x.size : Int)) = (q : Int) := by have h1_ := HSk.out.mc.2.1; unfold wrap64; omega
              obtain ⟨adm, em, hcm⟩ := Kd.at_int (Kd.C_below HSk.out.mc HSk.out.b) q (by omega) hqlz
              simp only [Int.toNat_natCast] at hcm
              subst em
              rw [hqz] at hw
              generalize Go.Proofs.YtgokegndboknfaaDoorW.PrintWords.rd many (q : Int) = mv at hw hcm
              have HCM := Aside0.mk hcm
              clear hcm
              by_cases c3 : 0 < mv
              · rw [if_pos ⟨c1, c2, c3⟩] at hw
                obtain ⟨L1, hg1, hw⟩ := Option.bind_eq_some_iff.mp hw
                have HW2 := Aside0.mk hw
                have HG1 := Aside0.mk hg1
                have hc3 : decide (0 < mv) = true := decide_eq_true c3
                clear hw HW hlt hg1
                go_upto_region 6 with (first | (go_at_call 42; refine (strings_HasPrefix.calls rest x _ _ (hasPrefix_f rest x)).mono ?_; rintro e w2 ⟨rfl, hd⟩; have HB2 : Aside0 (Below wr.heap.size wr w2) := ⟨by first | exact hd | exact hd.below | (obtain ⟨nd, rfl⟩ := hd; exact pw_below_drewN (Below.refl _ _) _)⟩; have HS2 := Aside0.mk (HSk.out.below HB2.out); have bxy2 := HS2.out.y.cell.1; have bxr2 := HS2.out.r.cell.1; unfold frP at bxr2; have hcm2 := (HB2.out.cell (World.block_lt_of_cell? _ _ HCM.out)).trans HCM.out; clear hd))
                clear hwq hqz hqlz hql
                have hxzi : (x.size : Int) ≤ (rest.size : Int) := by omega
                clear hq
                have HCL := Aside0.mk (fun (V : World) (hV : Below w2.heap.size w2 V) => slices_Clone_int_int.calls A c done done V (Kd.R_reads' (Kd.R_below (Kd.R_below HDk.out HB2.out) hV)).2.2 (Kd.R_reads' HDk.out).2.1 (by unfold slices_Clone_int_int.f; rw [if_pos (by have h1_ := HB.out.2.1; omega)]))
                have HREC := Aside0.mk (fun (A7 : Option Addr) (c7 : Nat) (V : World) (hV : Below w2.heap.size w2 V) (hR : Kd.R (Kd.int .i64) 3 V w2.heap.size (fun _ => True) (.slice A7 (done ++ [(kk : Int)]).length c7) (done ++ [(kk : Int)])) => (show Calls Tryd.prog 52 #[.slice A7 (done.length + 1) c7, .string (rest.extract x.size rest.size), .pointer (some ⟨G2, 0, none⟩), .pointer (some ⟨G3, 0, none⟩), .pointer (some ⟨G4, 0, none⟩), .pointer (some ⟨G5, 0, none⟩), .pointer (some ⟨G6, 0, none⟩)] V (fun e W' => (∃ r, e = .returned r) ∧ ∃ v', FrS w1 G2 G3 G4 G5 G6 base (some ad) (some adm) c0 cm set many most (fun k => ok k ∨ W.heap.size ≤ k) W' v' L1 ∧ W'.heap.size ≥ V.heap.size ∧ (∀ k, k < V.heap.size → k ≠ G2 → some k ≠ (Value.slice Ak Lk.length ck).ownBlock → W'.heap[k]? = V.heap[k]?) ∧ (v'.ownBlock = (Value.slice Ak Lk.length ck).ownBlock ∨ ∃ q, v'.ownBlock = some q ∧ V.heap.size ≤ q)) from by
                  have h0_ : W.heap.size ≤ w2.heap.size := Nat.le_trans HZ.out HB2.out.size
                  have q_ := IH.out (fun k => (ok k ∨ W.heap.size ≤ k) ∧ k < w2.heap.size) (done ++ [(kk : Int)]) (rest.extract x.size rest.size) Lk L1 A7 c7 V (.slice Ak Lk.length ck) ((HS2.out.mono (fun k hk hl => ⟨hk, hl⟩)).below hV) (Kd.R_lower (Kd.R_mono (Kd.R_bound hR) (fun k q => HS2.out.nG q.2.1)) HS2.out.le.2.1) (fun k hk q => by have h1_ := Kd.R_base hR k hk; have h2_ := q.2; omega) HG1.out
                  rw [List.length_append] at q_
                  refine q_.mono ?_
                  rintro e W' ⟨he, v', hS', hz', hf', ha'⟩
                  refine ⟨he, v', hS'.mono (fun k hk _ => ?_), hz', hf', ha'⟩
                  rcases hk with hk | hk | hk
                  · exact hk.1
                  · exact .inr (by have h1_ := hV.size; omega)
                  · rw [List.length_append] at hR
                    exact .inr (by have h1_ := Kd.R_base hR k hk.symm; omega)))
                have bxr2a : (w2.alloc (.cells #[.int .i64 (kk : Int)] 3)).cell? ⟨G6, 0, none⟩ = some (.func (.func 52) #[] #[.pointer (some ⟨G2, 0, none⟩), .pointer (some ⟨G3, 0, none⟩), .pointer (some ⟨G4, 0, none⟩), .pointer (some ⟨G5, 0, none⟩), .pointer (some ⟨G6, 0, none⟩)]) := (HS2.out.r.below (below_alloc (Below.refl _ _) _) HS2.out.r.lt).cell.1
                go_region_law (first
                  | (refine Kd.R_append_step (Kd.int .i64) (w0 := w2) (W := w5) w2.heap.size (by simp [Region.wanted]) (.tmp 46) (.tmp 48) 29 3 (.int .i64 0) 8 rfl Tryd.underlying29 infoIntR rfl (by decide) (by omega) (.slice A5 done.length c5) done (kk : Int) [.int .i64 (kk : Int)] (fun _ => True) (fun _ => False) (by simp [Act.eval, Act.put]) (by simp [Act.eval, Act.put]) rfl (fun _ hk => hk.elim) (fun _ _ => trivial) HR5.out HB5.out (by have h1_ := HB5.out.size; first | exact h1_ | (simp; omega)) (by have h1_ := HB.out.2.1; omega) ?_; intro v7 w7 ho7 hb7 hg7 hat7; have HB7 := Aside0.mk hb7; obtain ⟨A7, c7, e7, _, _⟩ := Kd.R_reads ho7; subst e7; have HR7 := Aside0.mk ho7; have bxr7 : (w7).cell? ⟨G6, 0, none⟩ = some (.func (.func 52) #[] #[.pointer (some ⟨G2, 0, none⟩), .pointer (some ⟨G3, 0, none⟩), .pointer (some ⟨G4, 0, none⟩), .pointer (some ⟨G5, 0, none⟩), .pointer (some ⟨G6, 0, none⟩)]) := (HS2.out.r.below (HB7.out) HS2.out.r.lt).cell.1; clear ho7 hb7 hg7 hat7)
                  | (refine Kd.R_append_rows_step (Kd.int .i64) (Rr := (Kd.int .i64).K w5) (w0 := w2) (W := w5) w2.heap.size (by simp [Region.wanted]) (.tmp 46) (.tmp 48) 29 3 (.int .i64 0) 8 rfl Tryd.underlying29 infoIntR rfl (by decide) (by omega) (.slice A5 done.length c5) done [(kk : Int)] (some ⟨w2.heap.size, 0, none⟩) 1 1 (fun _ => True) (fun _ => False) (by simp [Act.eval, Act.put]) (by simp [Act.eval, Act.put]) HR5.out HLI.out (fun _ _ hx => hx) (fun _ hk => hk.elim) (fun _ _ => trivial) HB5.out (by have h1_ := HB5.out.size; first | exact h1_ | (simp; omega)) (by have h1_ := HB.out.2.1; omega) ?_; intro v7 w7 ho7 hb7 hg7 hat7; have HB7 := Aside0.mk hb7; obtain ⟨A7, c7, e7, _, _⟩ := Kd.R_reads ho7; subst e7; have HR7 := Aside0.mk ho7; have bxr7 : (w7).cell? ⟨G6, 0, none⟩ = some (.func (.func 52) #[] #[.pointer (some ⟨G2, 0, none⟩), .pointer (some ⟨G3, 0, none⟩), .pointer (some ⟨G4, 0, none⟩), .pointer (some ⟨G5, 0, none⟩), .pointer (some ⟨G6, 0, none⟩)]) := (HS2.out.r.below (HB7.out) HS2.out.r.lt).cell.1; clear ho7 hb7 hg7 hat7)
                  | (go_simp; refine (HREC.out A7 c7 w7 HB7.out HR7.out).mono ?_; rintro e w8 ⟨⟨r8, rfl⟩, v8, hS8, hz8, hf8, ha8⟩; have HS8 := Aside0.mk hS8; have HZ8 := Aside0.mk hz8; have HF8 := Aside0.mk hf8; have HA8 := Aside0.mk ha8; clear hS8 hz8 hf8 ha8)
                  | ((fail_if_success (have hz_ := HR5)); go_simp; go_wp2_with (first | (go_at_call 53; refine (HCL.out _ (by repeat (first | (with_reducible first | exact Below.refl w2.heap.size w2 | apply below_alloc | apply pw_below_drewN | apply below_drew1) | exact Below.refl w2.heap.size w2))).mono ?_; rintro e w5 ⟨v5, rfl, hR5, hb5⟩; have HR5 := Aside0.mk (show Kd.R (Kd.int .i64) 3 w5 w2.heap.size (fun _ => True) v5 done from by first | exact hR5 | exact Kd.R_lower hR5 (below_size (by repeat (first | (with_reducible first | exact Below.refl w2.heap.size w2 | apply below_alloc | apply pw_below_drewN | apply below_drew1) | exact Below.refl w2.heap.size w2)))); have HB5 := Aside0.mk (show Below w2.heap.size w2 w5 from below_step (by repeat (first | (with_reducible first | exact Below.refl w2.heap.size w2 | apply below_alloc | apply pw_below_drewN | apply below_drew1) | exact Below.refl w2.heap.size w2)) hb5); obtain ⟨A5, c5, e5, _, _⟩ := Kd.R_reads hR5; subst e5; have bxr5 : (w5).cell? ⟨G6, 0, none⟩ = some (.func (.func 52) #[] #[.pointer (some ⟨G2, 0, none⟩), .pointer (some ⟨G3, 0, none⟩), .pointer (some ⟨G4, 0, none⟩), .pointer (some ⟨G5, 0, none⟩), .pointer (some ⟨G6, 0, none⟩)]) := (HS2.out.r.below (HB5.out) HS2.out.r.lt).cell.1; have bxr5a : (w5.alloc (.cells #[.int .i64 (kk : Int)] 3)).cell? ⟨G6, 0, none⟩ = some (.func (.func 52) #[] #[.pointer (some ⟨G2, 0, none⟩), .pointer (some ⟨G3, 0, none⟩), .pointer (some ⟨G4, 0, none⟩), .pointer (some ⟨G5, 0, none⟩), .pointer (some ⟨G6, 0, none⟩)]) := (HS2.out.r.below (below_alloc HB5.out _) HS2.out.r.lt).cell.1; (first | have HLI := Aside0.mk (Kd.C_below (lit1_C w2.drew (kk : Int)) hb5) | have HLI := Aside0.mk (Kd.C_below (lit1_C w2 (kk : Int)) hb5) | skip); clear hR5 hb5))))
                all_goals
                  go_wp2_with fail
                  go_roundg (set.length - (kk + 1))
                  (case measure => have h1_ := HLT.out; have h2_ := HG.out; omega)
                  (case rel =>
                    have hz2 : W.heap.size ≤ w2.heap.size := Nat.le_trans HZ.out HB2.out.size
                    have hz7 : W.heap.size ≤ w7.heap.size := Nat.le_trans hz2 HB7.out.size
                    have hne : ∀ k, k < W.heap.size → some k ≠ (Value.slice Av L.length cv).ownBlock → some k ≠ (Value.slice Ak Lk.length ck).ownBlock := by
                      intro k hk h e
                      rcases HAT.out with q | ⟨b, q, hl⟩
                      · exact h (e.trans q)
                      · rw [q] at e; injection e with e; omega
                    have hfr : ∀ k, k < W.heap.size → k ≠ G2 → some k ≠ (Value.slice Av L.length cv).ownBlock → w8.heap[k]? = W.heap[k]? := fun k hk h2 h3 => ((HF8.out k (by omega) h2 (hne k hk h3)).trans (HB7.out.block k (by omega))).trans ((HB2.out.block k (by have := HZ.out; omega)).trans (HFR.out k hk h2 h3))
                    have hd8 : Kd.R (Kd.int .i64) 3 w8 base (nG G2 G3 G4 G5 G6) (.slice A done.length c) done := Kd.R_mono (Kd.R_step (Kd.R_tight rfl HD.out) (fun k hk hlt => hfr k hlt (HD.out.1 k hk.symm).1 (fun e => HNO.out k hk.symm (HS.out.own e.symm).1))) (fun k hk => HD.out.1 k hk.symm)
                    have hat : v8.ownBlock = (Value.slice Av L.length cv).ownBlock ∨ ∃ q, v8.ownBlock = some q ∧ W.heap.size ≤ q := by
                      rcases HA8.out with q | ⟨b, q, hl⟩
                      · rw [q]; exact HAT.out
                      · exact .inr ⟨b, q, by omega⟩
                    exact ⟨kk + 1, L1, v8, by have h1_ := HLT.out; have h2_ := HSk.out.sc.2.1; first | (congr 1; unfold wrap64; omega) | go_num, ⟨HLT.out⟩, ⟨by have h1_ := HG.out; omega⟩, HW2, HS8, ⟨hd8⟩, ⟨by have h1_ := HZ8.out; omega⟩, ⟨hfr⟩, ⟨hat⟩⟩)
              · rw [if_neg (fun q => c3 q.2.2)] at hw
                have HW2 := Aside0.mk hw
                have hc3 : decide (0 < mv) = false := decide_eq_false c3
                clear hw HW hlt
                go_wp2_with (first | (go_at_call 42; refine (strings_HasPrefix.calls rest x _ _ (hasPrefix_f rest x)).mono ?_; rintro e w2 ⟨rfl, hd⟩; have HB2 : Aside0 (Below wr.heap.size wr w2) := ⟨by first | exact hd | exact hd.below | (obtain ⟨nd, rfl⟩ := hd; exact pw_below_drewN (Below.refl _ _) _)⟩; have HS2 := Aside0.mk (HSk.out.below HB2.out); have bxy2 := HS2.out.y.cell.1; have bxr2 := HS2.out.r.cell.1; have hcm2 := (HB2.out.cell (World.block_lt_of_cell? _ _ HCM.out)).trans HCM.out; clear hd))
                clear hwq
                go_roundg (set.length - (kk + 1))
                (case measure => have h1_ := HLT.out; have h2_ := HG.out; omega)
                (case rel => exact ⟨kk + 1, Lk, _, by have h1_ := HLT.out; have h2_ := HSk.out.sc.2.1; first | (congr 1; unfold wrap64; omega) | go_num, ⟨HLT.out⟩, ⟨by have h1_ := HG.out; omega⟩, HW2, HS2, ⟨Kd.R_below HDk.out HB2.out⟩, ⟨Nat.le_trans HZ.out HB2.out.size⟩, ⟨fun k hk h2_ h3_ => (HB2.out.block k (Nat.lt_of_lt_of_le hk HZ.out)).trans (HFR.out k hk h2_ h3_)⟩, HAT⟩)
          · rw [if_neg (fun q => c1 q.1)] at hw
            have HW2 := Aside0.mk hw
            have hc1 : decide ((Lk.length : Int) < most) = false := decide_eq_false c1
            clear hw HW hlt
            go_wp2_with fail
            go_roundg (set.length - (kk + 1))
            case measure => have h1_ := HLT.out; have h2_ := HG.out; omega
            case rel => exact ⟨kk + 1, Lk, _, by have h1_ := HLT.out; have h2_ := HSk.out.sc.2.1; first | (congr 1; unfold wrap64; omega) | go_num, ⟨HLT.out⟩, ⟨by have h1_ := HG.out; omega⟩, HW2, HSk, HDk, HZ, HFR, HAT⟩
        · have hltz : ¬ (kk : Int) < (set.length : Int) := by omega
          have hw := HW.out
          rw [List.drop_of_length_le (by omega)] at hw
          unfold frW at hw
          obtain rfl := Option.some.inj hw
          clear hw HW HK HG
          go_wp2_with fail
          go_end0
          exact ⟨⟨_, rfl⟩, _, HSk.out.mono (fun k hk _ => hk.elim .inl (fun q => .inr (.inl q))), HZ.out, HFR.out, HAT.out⟩

theorem fr_store_func {P : Program} {w : World} {a : Addr} {m : Mode} (fn : Fn) (first captured : Array Value) : (store a (.func fn first captured) m).run P w = stored P w a (.func fn first captured) m := run_store P w a _ m rfl
attribute [local go_sem] fr_store_func
theorem frW.mono {g g' : List Int → ByteArray → List (List Int) → Option (List (List Int))} (hg : ∀ d s L, LeO (g d s L) (g' d s L)) (many : List Int) (most : Int) (done : List Int) (rest : ByteArray) : ∀ ws i L, LeO (frW g many most done rest ws i L) (frW g' many most done rest ws i L)
  | [], _, _ => LeO.refl _
  | x :: ws, i, L => by
    unfold frW
    exact LeO.ite (LeO.bind (hg _ _ _) fun _ => frW.mono hg many most done rest ws _ _) (frW.mono hg many most done rest ws _ _)
theorem frL.mono (set : List ByteArray) (many : List Int) (most : Int) : ∀ n d s L, LeO (frL set many most n d s L) (frL set many most (n + 1) d s L)
  | 0, _, _, _ => LeO.none _
  | n + 1, d, s, L => by
    rw [frL, frL]
    exact LeO.ite (LeO.ite (LeO.refl _) (frW.mono (frL.mono set many most n) many most d s set 0 L)) (LeO.refl _)
def impl_firstReadings.f (k : Nat) (l0 : List ByteArray) (a1 : ByteArray) (a2 : Int) : Option (List (List Int)) := (impl_readings.f k l0 a1).bind fun many => if 0 < a2 then frL l0 many a2 k [] a1 [] else some []
theorem impl_firstReadings.mono : ∀ a0 a1 a2 k, LeO (impl_firstReadings.f k a0 a1 a2) (impl_firstReadings.f (k + 1) a0 a1 a2) := by
  intro a0 a1 a2 k
  unfold impl_firstReadings.f
  exact LeO.bind (impl_readings.mono _ _ _) fun _ => LeO.ite (frL.mono _ _ _ _ _ _ _) (LeO.refl _)
set_option maxRecDepth 100000 in
set_option maxHeartbeats 16000000 in
theorem impl_firstReadings.calls (k : Nat) (A0 : Option Addr) (c0 : Nat) (l0 : List ByteArray) (a1 : ByteArray) (a2 : Int) (r : List (List Int)) (w : World) (hr0 : Kd.C Kd.string w A0 l0.length l0) (hc0 : l0.length ≤ c0) (h : impl_firstReadings.f k l0 a1 a2 = some r) :
    Calls Tryd.prog 25 #[.slice A0 l0.length c0, .string a1, .int .i64 a2] w fun e w' => ∃ v0_ : Value, e = .returned (v0_) ∧ Kd.S (Kd.slice 3 (Kd.int .i64)) 29 w' w.heap.size (fun _ => True) v0_ r ∧ Below w.heap.size w w' := by
  unfold impl_firstReadings.f at h
  obtain ⟨many, hmany, h⟩ := Option.bind_eq_some_iff.mp h
  have HR0 := Aside0.mk hr0
  have HC0 := Aside0.mk hc0
  have HMY := Aside0.mk hmany
  have HH := Aside0.mk h
  clear hr0 hc0 hmany h
  obtain ⟨W0, hW0⟩ : ∃ W0, (w.alloc (.cells #[.slice A0 l0.length c0] 22)).alloc (.cells #[.int .i64 a2] 3) = W0 := ⟨_, rfl⟩
  have hb0 : Below w.heap.size w W0 := by rw [← hW0]; exact below_alloc (below_alloc (Below.refl _ w) _) _
  have hz0 : W0.heap.size = w.heap.size + 2 := by rw [← hW0]; simp
  have hbs : Bx W0 w.heap.size (.slice A0 l0.length c0) 22 := by rw [← hW0]; exact Bx.below (heap_new w _) (below_alloc (Below.refl _ _) _) (by simp)
  have hbm : Bx W0 (w.heap.size + 1) (.int .i64 a2) 3 := by
    rw [← hW0]
    have := heap_new (w.alloc (.cells #[.slice A0 l0.length c0] 22)) (.cells #[.int .i64 a2] 3)
    unfold Bx
    rwa [show (w.alloc (.cells #[.slice A0 l0.length c0] 22)).heap.size = w.heap.size + 1 by simp] at this
  have HB0 := Aside0.mk hb0
  have HZ0 := Aside0.mk hz0
  have HBS := Aside0.mk hbs
  have HBM := Aside0.mk hbm
  have bxs := hbs.cell.1
  have bxm := hbm.cell.1
  clear hb0 hz0 hbs hbm
  go_enter Tryd.func25, Tryd.ntmps25
  go_upto_region 4 with (first
    | (go_at_call 51; refine (impl_readings.calls k A0 c0 l0 a1 many W0 (Kd.C_below HR0.out HB0.out) HC0.out HMY.out).mono ?_; rintro e w1 ⟨v1, rfl, hR1, hb1⟩; obtain ⟨A1, c1, e1, _, _⟩ := Kd.R_reads hR1; subst e1; have HR1 := Aside0.mk hR1; have HB1 := Aside0.mk hb1; have HBS1 := Aside0.mk (HBS.out.below hb1 HBS.out.lt); have HBM1 := Aside0.mk (HBM.out.below hb1 HBM.out.lt); clear hR1 hb1)
    | ((with_reducible refine gate_dst (N := 13) rfl ?_); refine Kd.S_lit (Kd.slice 3 (Kd.int .i64)) (w0 := w1) w1.heap.size 29 ?hg (N := 13) ?hd (xs := ([] : List (List Int))) (inner := []) (ok := fun _ => True) (okp := fun _ => True) ?hr ?hp (fun _ hk => hk) trivial (Below.refl _ _) (Nat.le_refl _) (by simp) ?_; (case hd => rfl); (case hg => rfl); (case hr => first | (go_simp; done) | (go_simp; rfl)); (case hp => exact (Reps.none _ _)); intro v13 w2 ho2 hb2 hg_ hnew_; clear hg_ hnew_; obtain ⟨A13, c13, e13, _, _⟩ := Kd.S_reads ho2; subst e13; have HO2 := Aside0.mk ho2; have HB2 := Aside0.mk hb2; clear ho2 hb2))
  obtain ⟨W5, hW5⟩ : ∃ W5, (((w2.alloc (.cells #[.slice A1 many.length c1] 29)).alloc (.cells #[.slice A13 0 c13] 37)).alloc (.cells #[(.func (.func 52) #[] (frP (w2.heap.size + 1) w.heap.size (w.heap.size + 1) w2.heap.size (w2.heap.size + 1 + 1)))] 60)) = W5 := ⟨_, rfl⟩
  have hb5 : Below w1.heap.size w1 W5 := by
    rw [← hW5]
    exact below_alloc (below_alloc (below_alloc HB2.out _) _) _
  have hs2 := HB2.out.size
  have hs1 := HB1.out.size
  have hz0 := HZ0.out
  have k7 : Bx W5 w2.heap.size (.slice A1 many.length c1) 29 := by
    rw [← hW5]
    exact (Bx.below (show Bx (w2.alloc (.cells #[.slice A1 many.length c1] 29)) w2.heap.size (.slice A1 many.length c1) 29 from heap_new w2 _) (below_alloc (Below.refl _ _) _) (by simp)).below (below_alloc (Below.refl _ _) _) (by simp; omega)
  have k8 : Bx W5 (w2.heap.size + 1) (.slice A13 0 c13) 37 := by
    rw [← hW5]
    have h_ := heap_new (w2.alloc (.cells #[.slice A1 many.length c1] 29)) (.cells #[.slice A13 0 c13] 37)
    rw [show (w2.alloc (.cells #[.slice A1 many.length c1] 29)).heap.size = w2.heap.size + 1 by simp] at h_
    exact (show Bx _ (w2.heap.size + 1) (.slice A13 0 c13) 37 from h_).below (below_alloc (Below.refl _ _) _) (by simp)
  have k9 : Bx W5 (w2.heap.size + 1 + 1) (.func (.func 52) #[] (frP (w2.heap.size + 1) w.heap.size (w.heap.size + 1) w2.heap.size (w2.heap.size + 1 + 1))) 60 := by
    rw [← hW5]
    have h_ := heap_new ((w2.alloc (.cells #[.slice A1 many.length c1] 29)).alloc (.cells #[.slice A13 0 c13] 37)) (.cells #[(.func (.func 52) #[] (frP (w2.heap.size + 1) w.heap.size (w.heap.size + 1) w2.heap.size (w2.heap.size + 1 + 1)))] 60)
    rwa [show ((w2.alloc (.cells #[.slice A1 many.length c1] 29)).alloc (.cells #[.slice A13 0 c13] 37)).heap.size = w2.heap.size + 1 + 1 by simp] at h_
  have hOK : Kd.S (Kd.slice 3 (Kd.int .i64)) 29 W5 w1.heap.size (fun k => (k < w2.heap.size ∧ w1.heap.size ≤ k) ∧ nG (w2.heap.size + 1) w.heap.size (w.heap.size + 1) w2.heap.size (w2.heap.size + 1 + 1) k) (.slice A13 ([] : List (List Int)).length c13) [] := by
    rw [← hW5]
    refine Kd.S_alloc (Kd.S_alloc (Kd.S_alloc (Kd.S_mono (Kd.S_bound HO2.out) (fun k hk => ⟨⟨hk.2.2.1, hk.2.1⟩, ?_⟩)) _) _) _
    have h1_ := hk.2.1
    have h2_ := hk.2.2.1
    exact ⟨by omega, by omega, by omega, by omega, by omega⟩
  have hS : FrS w1 (w2.heap.size + 1) w.heap.size (w.heap.size + 1) w2.heap.size (w2.heap.size + 1 + 1) w1.heap.size A0 A1 c0 c1 l0 many a2 (fun k => k < w2.heap.size ∧ w1.heap.size ≤ k) W5 (.slice A13 ([] : List (List Int)).length c13) [] :=
    ⟨k8, HBS1.out.below hb5 (by omega), HBM1.out.below hb5 (by omega), k7, k9, Kd.C_below (Kd.C_below HR0.out HB0.out) HB1.out, (Kd.R_reads' HR1.out).2.2, hb5, hOK, ⟨by omega, by have := hb5.size; omega, Nat.le_refl _⟩, ⟨by omega, by omega, by omega, by omega⟩⟩
  have hz5 : W5.heap.size = w2.heap.size + 3 := by rw [← hW5]; simp
  have hW5' := hW5
  unfold frP at hW5'
  rw [hW5']
  have hbm5 := hS.m.cell.1
  have hbo5 := hS.o.cell.1
  have hbr5 := hS.r.cell.1
  unfold frP at hbr5
  have HS := Aside0.mk hS
  have HZ5 := Aside0.mk hz5
  have hbw : Below w.heap.size w W5 := (HB0.out.trans (HB1.out.mono HB0.out.size)).trans (hb5.mono (by omega))
  have HBW := Aside0.mk hbw
  have hgt : w.heap.size < w2.heap.size := by omega
  have HGT := Aside0.mk hgt
  have HS1W := Aside0.mk (show w.heap.size ≤ w1.heap.size by omega)
  have hh := HH.out
  clear hW5 hW5' hb5 hs2 hs1 hz0 k7 k8 k9 hOK hS hz5 hbw hgt HH bxs bxm hW0 h
  by_cases hp : 0 < a2
  · rw [if_pos hp] at hh
    have HF := Aside0.mk hh
    have hpd : decide (0 < a2) = true := decide_eq_true hp
    clear hh hp
    go_wp2_with (first
      | ((with_reducible refine gate_dst (N := 18) rfl ?_); refine Kd.R_lit (Kd.int .i64) (w0 := W5) W5.heap.size 3 ?hg (N := 18) ?hd (xs := ([] : List Int)) (inner := []) (ok := fun _ => True) (okp := fun _ => True) ?hr ?hp (fun _ hk => hk) trivial (Below.refl _ _) (Nat.le_refl _) (by simp) ?_; (case hd => rfl); (case hg => rfl); (case hr => first | (go_simp; done) | (go_simp; rfl)); (case hp => exact (Reps.none _ _)); intro v18 w6 ho6 hb6 hg_ hnew_; clear hg_ hnew_; obtain ⟨A18, c18, e18, _, _⟩ := Kd.R_reads ho6; subst e18; have HO6 := Aside0.mk ho6; have HB6 := Aside0.mk hb6; clear ho6 hb6)
      | (refine (show Calls Tryd.prog 52 #[.slice A18 0 c18, .string a1, .pointer (some ⟨w2.heap.size + 1, 0, none⟩), .pointer (some ⟨w.heap.size, 0, none⟩), .pointer (some ⟨w.heap.size + 1, 0, none⟩), .pointer (some ⟨w2.heap.size, 0, none⟩), .pointer (some ⟨w2.heap.size + 1 + 1, 0, none⟩)] w6 _ from fr_calls w1 (w2.heap.size + 1) w.heap.size (w.heap.size + 1) w2.heap.size (w2.heap.size + 1 + 1) w1.heap.size A0 A1 c0 c1 l0 many a2 k (fun k => k < w2.heap.size ∧ w1.heap.size ≤ k) [] a1 [] r A18 c18 w6 (.slice A13 ([] : List (List Int)).length c13) (HS.out.below HB6.out) (Kd.R_lower (Kd.R_mono (Kd.R_bound HO6.out) (fun k hk => HS.out.nG hk.2.1)) HS.out.le.2.1) (fun k hk q => by have h1_ := Kd.R_base HO6.out k hk; have h2_ := HZ5.out; omega) HF.out).mono ?_; rintro e w7 ⟨⟨r7, rfl⟩, v7, hS7, hz7, hf7, ha7⟩; have HS7 := Aside0.mk hS7; have bxo7 := hS7.o.cell.1; clear hS7 hz7 hf7 ha7))
    go_ret
    exact ⟨_, rfl, Kd.S_mono (Kd.S_lower HS7.out.R HS1W.out) (fun _ _ => trivial), (HB0.out.trans (HB1.out.mono HB0.out.size)).trans (HS7.out.b.mono HS1W.out)⟩
  · rw [if_neg hp] at hh
    obtain rfl := Option.some.inj hh
    have hpd : decide (0 < a2) = false := decide_eq_false hp
    clear hh hp
    go_wp2_with fail
    go_ret
    exact ⟨_, rfl, Kd.S_mono (Kd.S_lower HS.out.R HS1W.out) (fun _ _ => trivial), HBW.out⟩

end Go.Proofs.YtgokegndboknfaaDoor.X

-- WRITTEN by xprint.py of this repo: the kit's print.py with contracts given by hand (given.py). Lean checks it.
import Derived.Test.YtidjjcgfdkmefaaXx0
import Derived.Test.YtidjjcgfdkmefaaXx1
namespace Go.Proofs.Ytidjjcgfdkmefaa.X
open Go.RowKit Go.Proofs.YtidjjcgfdkmefaaW.PrintWords Go.Proofs.YtidjjcgfdkmefaaW.PrintLast Go.Proofs.YtidjjcgfdkmefaaW.PrintMore
attribute [local go_sem] max2_int min2_int max_two min_two max_three min_three max_four min_four   -- for this text's walks alone
set_option linter.unusedVariables false
set_option linter.unusedSimpArgs false

/-! ### GIVEN impl_CountLengths: function 8 -/
/-- What a function value tells of each element, in whatever world that keeps what lay. -/
def FnP (P : Program) (g : Nat) (cb : Array Value) {α : Type} (enc : α → Value) (p : α → Bool) (l : List α) (w : World) : Prop :=
  ∀ (W : World) (x : α), x ∈ l → Below w.heap.size w W → Calls P g (#[enc x] ++ cb) W fun e w' => e = .returned (.bool (p x)) ∧ Below W.heap.size W w'
def idxG {α : Type} (p : α → Bool) (l : List α) : Int := if l.any p then (l.findIdx p : Int) else -1

theorem idxG_hit {α : Type} {p : α → Bool} {l : List α} {k : Nat} (hk : k < l.length) (h : p l[k] = true) (hn : ∀ j (hj : j < k), p (l[j]'(by omega)) = false) : idxG p l = (k : Int) := by
  unfold idxG
  rw [if_pos (List.any_eq_true.2 ⟨_, List.getElem_mem hk, h⟩)]
  congr 1
  exact List.findIdx_eq hk |>.2 ⟨h, fun j hj => hn j hj⟩
theorem idxG_miss {α : Type} {p : α → Bool} {l : List α} (hn : ∀ j (hj : j < l.length), p l[j] = false) : idxG p l = -1 := by
  unfold idxG
  rw [if_neg]
  intro h
  obtain ⟨x, hx, hp⟩ := List.any_eq_true.1 h
  obtain ⟨j, hj, rfl⟩ := List.getElem_of_mem hx
  rw [hn j hj] at hp
  exact absurd hp (by simp)


theorem idxG_nonneg {α : Type} (p : α → Bool) (l : List α) : decide (0 ≤ idxG p l) = l.any p := by
  unfold idxG
  cases h : l.any p
  · simp
  · simp

theorem heap_new (w : World) (o : Obj) : (w.alloc o).heap[w.heap.size]? = some o := by
  have h : (w.alloc o).heap = w.heap.push o := rfl
  rw [h, Array.getElem?_push, if_pos rfl]
/-- A value that has been put into a box of its own. -/
theorem box_new (w : World) (v : Value) (e : Nat) : (w.alloc (.cells #[v] e)).cell? ⟨w.heap.size, 0, none⟩ = some v := by
  unfold World.cell?
  rw [show (w.alloc (.cells #[v] e)).heap[(⟨w.heap.size, 0, none⟩ : Addr).block]? = some (.cells #[v] e) from heap_new w _]
  rfl

def slices_Clone_int_int.f (l0 : List Int) : Option (List Int) := if l0.length < 17592186044416 then some l0 else none
set_option maxHeartbeats 4000000 in
set_option maxRecDepth 100000 in
theorem slices_Clone_int_int.calls (A0 : Option Addr) (c0 : Nat) (l0 : List Int) (r : List Int) (w : World) (hr0 : Kd.C (Kd.int .i64) w A0 l0.length l0) (hc0 : l0.length ≤ c0) (h : slices_Clone_int_int.f l0 = some r) :
    Calls Try.prog 49 #[.slice A0 l0.length c0] w fun e w' => ∃ v0_ : Value, e = .returned (v0_) ∧ Kd.R (Kd.int .i64) 3 w' w.heap.size (fun _ => True) v0_ r ∧ Below w.heap.size w w' := by
  unfold slices_Clone_int_int.f at h
  by_cases hlim : l0.length < 17592186044416
  · rw [if_pos hlim] at h
    obtain rfl := Option.some.inj h
    clear h
    cases A0 with
    | none =>
      have h0 : l0 = [] := by
        cases l0 with
        | nil => rfl
        | cons x l =>
          obtain ⟨ad, e, _⟩ := hr0.2.2 (by simp)
          cases e
      subst h0
      have hnil := fun (W : World) (n c n' c' : Nat) => Lib.run_eql_slice_nil (P := Try.prog) W 42 3 none n c n' c' Try.underlying42
      clear hr0
      go_enter Try.func49, Try.ntmps49
      go_wp2
      go_ret
      exact ⟨_, rfl, Kd.R_nil _ _ _ _ _, Below.refl _ _⟩
    | some ad =>
      have hnil := fun (W : World) (n c n' c' : Nat) => Lib.run_eql_slice_nil (P := Try.prog) W 42 3 (some ad) n c n' c' Try.underlying42
      have HR0 := Aside0.mk hr0
      have LMc2 := Aside0.mk hlim
      clear hr0 hlim
      have HB := Aside0.mk (Below.refl w.heap.size w)
      go_enter Try.func49, Try.ntmps49
      go_wp2_with (first
        | ((with_reducible refine gate_dst (N := 5) rfl ?_); refine Kd.R_lit (Kd.int .i64) _ 3 ?hg (N := 5) ?hd (xs := ([] : List Int)) (inner := []) (ok := fun _ => True) (okp := fun _ => True) ?hr ?hp (fun _ hk => hk) trivial (Below.refl _ _) (Nat.le_refl _) (by simp) ?_; (case hd => rfl); (case hg => rfl); (case hr => first | (go_simp; done) | (go_simp; rfl)); (case hp => exact (Reps.none _ _)); intro v106 w3 ho4 hb hg_ hnew_; clear hg_ hnew_; have n0_ := Aside0.mk (Kd.R_lower ho4 (below_size (by repeat (first | (with_reducible first | exact HB.out | apply below_alloc | apply pw_below_drewN | apply below_drew1) | exact HB.out)))); have n1_ := Aside0.mk (below_step (by repeat (first | (with_reducible first | exact HB.out | apply below_alloc | apply pw_below_drewN | apply below_drew1) | exact HB.out)) hb); clear HB; have HO107 := n0_; have HB := n1_; clear n0_ n1_; clear hb ho4)
        | ((with_reducible refine gate_builtin (b := .append) (xs := #[.tmp 5, .tmp 6]) rfl ?_); at_builtin; refine Kd.R_append_rows (Kd.int .i64) (w0 := w) w.heap.size rfl (.tmp 5) (.tmp 6) 42 3 (.int .i64 0) 8 rfl Try.underlying42 info3 rfl (by decide) (by omega) v106 [] l0 _ _ _ (fun _ => True) (fun _ => False) rfl rfl ?aO ?aR (fun _ _ h => h) (fun _ h => h.elim) ?aF ?aB ?aS ?aL ?_; (case aR => repeat (first | exact (Kd.C_below HR0.out HB.out) | (with_reducible refine Kd.C_alloc ?_ _) | (with_reducible refine Kd.C_drewN ?_ _) | (with_reducible refine Kd.C_drew ?_))); (case aB => exact (by repeat (first | (with_reducible first | exact HB.out | apply below_alloc | apply pw_below_drewN | apply below_drew1) | exact HB.out))); (case aF => exact (fun _ _ => trivial)); (case aO => exact (by (with_reducible repeat (first | apply Kd.R_alloc | apply Kd.R_drewN | apply Kd.R_drew)); exact HO107.out)); (case aS => exact (below_size (by repeat (first | (with_reducible first | exact HB.out | apply below_alloc | apply pw_below_drewN | apply below_drew1) | exact HB.out)))); (case aL => have := LMc2.out; simp; omega); intro v109 w5 ho hb hg hat; have n0_ := Aside0.mk (hb); have n1_ := Aside0.mk (ho); clear HB; clear HO107; have HB := n0_; have HO110 := n1_; clear n0_ n1_; clear ho hb hg hat))
      go_ret
      exact ⟨_, by first | rfl | (simp; done), by (with_reducible repeat (first | apply Kd.R_alloc | apply Kd.R_drewN | apply Kd.R_drew)); exact HO110.out, by repeat (first | (with_reducible first | exact HB.out | apply below_alloc | apply pw_below_drewN | apply below_drew1) | exact HB.out)⟩
  · rw [if_neg hlim] at h
    exact absurd h (by simp)

theorem infoIntW : (Try.prog.info? 3).map (fun i => (i.zero, i.size, i.bytes)) = some (some (.int .i64 0), 1, 8) := by kernel_rfl
theorem infoIntW' : ∃ i, Try.prog.info? 3 = some i ∧ i.zero = some (.int .i64 0) ∧ i.size = 1 ∧ i.bytes = 8 := by
  have h := infoIntW
  cases hq : Try.prog.info? 3 with
  | none => rw [hq] at h; cases h
  | some i =>
    rw [hq] at h
    simp only [Option.map_some, Option.some.injEq, Prod.mk.injEq] at h
    exact ⟨i, rfl, h.1, h.2.1, h.2.2⟩
/-- append of one number: the row that it was made of stands as it was, too. -/
theorem run_app_keep (W : World) (base : Nat) (A : Option Addr) (n c : Nat) (xs : List Value) (hown : W.ownsRow base 3 1 (.slice A n c) n xs) (ad : Addr) (y : Value) (hy1 : y.oneCell' = true) (hy : W.cell? ad = some y) (hn : n ≤ 1000000) (hbase : base ≤ W.heap.size) :
    ∃ v' w', (Builtin.append_ #[42, 42] 42 #[.slice A n c, .slice (some ad) 1 1]).run Try.prog W = .ok v' w' ∧ w'.ownsRow base 3 1 v' (n + 1) (xs ++ [y]) ∧ w'.ownsRow base 3 1 (.slice A n c) n xs ∧ W.grownBy w' (Value.slice A n c).ownBlock ∧ (v'.ownBlock = (Value.slice A n c).ownBlock ∨ ∃ b, v'.ownBlock = some b ∧ W.heap.size ≤ b) := by
  obtain ⟨i, hi, hz, hsz, hby⟩ := infoIntW'
  have hnews : ∀ (j : Nat) u, [y][j]? = some u → W.cell? (ad.add j) = some u := fun j u hj => by
    cases j with
    | zero =>
      obtain rfl : y = u := by simpa using hj
      have : ad.add 0 = ad := by unfold Addr.add; split <;> simp_all
      rw [this]; exact hy
    | succ j => simp at hj
  have h1c : ∀ u ∈ [y], u.oneCell' = true := fun u hu => by rw [List.mem_singleton.1 hu]; exact hy1
  have hfresh : ∀ {v' : Value} {w' : World}, w'.ownsRow W.heap.size 3 1 v' (n + 1) (xs ++ [y]) → ∃ b, v'.ownBlock = some b ∧ W.heap.size ≤ b := fun {v' w'} h => by
    rcases h.2 with ⟨_, h0⟩ | ⟨g, cap, cur, rfl, hg, _⟩
    · omega
    · exact ⟨g, rfl, hg⟩
  rcases hown.2 with ⟨hv, hn0⟩ | ⟨g, cap, cur, hv, hbg, hg, hnc, hcm, hcs, htake⟩
  · injection hv with e1 e2 e3
    subst e1 e2 e3
    have hx : xs = [] := List.eq_nil_of_length_eq_zero (by simpa using hown.1)
    subst hx
    obtain ⟨v', w', hr, h2, h3, _⟩ := run_append_own (P := Try.prog) W W.heap.size 42 42 3 i (.int .i64 0) 1 8 Try.underlying42 hi hz hsz hby rfl (by omega) (.slice none 0 0) 0 [] (World.ownsRow_nil W _ 3 1) ad 1 1 [y] rfl hnews h1c (by unfold maxLen; omega) (by omega) (Nat.le_refl _)
    exact ⟨v', w', hr, own_weaken h2 hbase, World.ownsRow_nil _ _ _ _, h3, .inr (hfresh h2)⟩
  · injection hv with e1 _ e3
    subst e1 e3
    by_cases hroom : n + 1 ≤ c
    · have hfit : n * i.size + [y].length ≤ cur.size := by rw [hsz, hcs]; simp; omega
      have hr := run_append_room (P := Try.prog) W 42 42 3 i Try.underlying42 hi g n c cur hg ad 1 1 [y] (by rw [hsz]; rfl) hnews h1c hroom hfit
      have hlen : xs.length = n := by have := hown.1; omega
      have hcl : cur.toList.length = c := by rw [Array.length_toList]; omega
      rw [Nat.mul_one] at htake
      rw [hsz, Nat.mul_one] at hr
      have htk : (cur.toList.take n ++ [y] ++ cur.toList.drop (n + [y].length)).take n = xs := by
        rw [List.append_assoc, List.take_append_of_le_length (by rw [List.length_take]; omega), List.take_take, Nat.min_self, htake]
      have htk2 : (cur.toList.take n ++ [y] ++ cur.toList.drop (n + [y].length)).take (n + 1) = xs ++ [y] := by
        rw [htake, List.take_append_of_le_length (by simp; omega), List.take_of_length_le (by simp; omega)]
      have hsz2 : (cur.toList.take n ++ [y] ++ cur.toList.drop (n + [y].length)).toArray.size = c * 1 := by
        simp only [List.size_toArray, List.length_append, List.length_take, List.length_drop, List.length_cons, List.length_nil]
        omega
      refine ⟨_, _, hr, ⟨by simp; omega, .inr ⟨g, c, _, rfl, hbg, setRow_heap W g cur _ 3 _ hg, hroom, hcm, hsz2, ?_⟩⟩, ⟨hown.1, .inr ⟨g, c, _, rfl, hbg, setRow_heap W g cur _ 3 _ hg, hnc, hcm, hsz2, ?_⟩⟩, ⟨rfl, rfl, rfl, by simp, fun k _ hk => setRow_other W g k _ (fun e => hk (by simp [Value.ownBlock, e]))⟩, .inl rfl⟩
      · rw [Nat.mul_one]; exact htk2
      · rw [Nat.mul_one]; exact htk
    · obtain ⟨v', w', hr, h2, h3⟩ := run_append_arg_grows (P := Try.prog) W 42 42 3 i (.int .i64 0) 1 8 Try.underlying42 hi hz hsz hby rfl (by omega) ⟨g, 0, none⟩ n c xs hown.1 (hown.cells (g := g) rfl) ad 1 1 [y] rfl hnews (by omega) (by unfold maxLen; omega) (by omega)
      exact ⟨v', w', hr, own_weaken h2 hbase, hown.kept h3 (.inr (by simp [Value.ownBlock])), ⟨h3.os, h3.tape, h3.output, h3.size, fun k hk _ => h3.block k hk (by simp)⟩, .inr (hfresh h2)⟩
theorem step_app_keep {ops : Array Oper} {o : Oper} {a : Act} {W : World} {Kc : Act → World → Prop} {Q : Exit → Act → World → Prop} (base : Nat) (hw : Region.wanted o (yielded ops a.tmps) = true) (s x : Operand) (ho : o.op = .call { callee := .builtin .append, args := #[s, x], argTypes := #[42, 42] }) (hty : o.type = 42)
    (A : Option Addr) (n c : Nat) (xs : List Value) (hs : a.eval s = .slice A n c) (hown : W.ownsRow base 3 1 (.slice A n c) n xs) (ad : Addr) (y : Value) (hx : a.eval x = .slice (some ad) 1 1) (hy1 : y.oneCell' = true) (hy : W.cell? ad = some y) (hn : n ≤ 1000000) (hbase : base ≤ W.heap.size)
    (h : ∀ v1 w1, w1.ownsRow base 3 1 v1 (n + 1) (xs ++ [y]) → w1.ownsRow base 3 1 (.slice A n c) n xs → W.grownBy w1 (Value.slice A n c).ownBlock → (v1.ownBlock = (Value.slice A n c).ownBlock ∨ ∃ b, v1.ownBlock = some b ∧ W.heap.size ≤ b) → Kc (a.put o.dst v1) w1) :
    if Region.wanted o (yielded ops a.tmps) = true then Oper.wp Try.prog o a W Kc Q else Kc (a.put o.dst undef) W := by
  rw [if_pos hw]
  obtain ⟨v', w', hr, h2, h3, h4, h5⟩ := run_app_keep W base A n c xs hown ad y hy1 hy hn hbase
  unfold Oper.wp
  simp [execOp, ho, hty, resolve, invoke, builtin, hs, hx, hr, Result.andThen]
  exact h v' w' h2 h3 h4 h5
theorem fw_store_func {P : Program} {w : World} {a : Addr} {m : Mode} (fn : Fn) (first captured : Array Value) : (store a (.func fn first captured) m).run P w = stored P w a (.func fn first captured) m := run_store P w a _ m rfl
attribute [local go_sem] fw_store_func
def Bx (W : World) (G : Nat) (v : Value) (t : Nat) : Prop := W.heap[G]? = some (.cells #[v] t (0, 0))
theorem Bx.cell {W : World} {G t : Nat} {v : Value} (h : Bx W G v t) : W.cell? ⟨G, 0, none⟩ = some v ∧ W.frozen? ⟨G, 0, none⟩ = false := by
  have h' : W.heap[G]? = some (.cells #[v] t (0, 0)) := h
  exact ⟨by simp [World.cell?, h'], by simp [World.frozen?, h']⟩
theorem Bx.lt {W : World} {G t : Nat} {v : Value} (h : Bx W G v t) : G < W.heap.size := (Array.getElem?_eq_some_iff.1 h).1
theorem Bx.below {W W' : World} {G n t : Nat} {v : Value} (h : Bx W G v t) (hb : Below n W W') (hG : G < n) : Bx W' G v t := (hb.block G hG).trans h
theorem Bx.set {W : World} {G t : Nat} {v : Value} (h : Bx W G v t) (v' : Value) : Bx (W.setCell ⟨G, 0, none⟩ v') G v' t := by
  have h' : W.heap[G]? = some (.cells #[v] t (0, 0)) := h
  show (W.setCell ⟨G, 0, none⟩ v').heap[G]? = _
  simp [World.setCell, Array.getElem?_modify, h']
theorem Bx.other {W : World} {G G' t : Nat} {v : Value} (h : Bx W G v t) (hne : G ≠ G') (v' : Value) : Bx (W.setCell ⟨G', 0, none⟩ v') G v t := (Below.heap_setCell W ⟨G', 0, none⟩ v' G hne).trans h
theorem Bx.grown {W W' : World} {G t : Nat} {v : Value} {row : Option Nat} (h : Bx W G v t) (hg : W.grownBy W' row) (hne : some G ≠ row) : Bx W' G v t := (hg.block G h.lt hne).trans h
theorem Bx.same {W W' : World} {G t : Nat} {v : Value} (h : Bx W G v t) (e : W'.heap[G]? = W.heap[G]?) : Bx W' G v t := e.trans h

/-- What is called with each list: its own memory (J, in blocks that ok tells), and what it does. -/
structure Cbk (g : Nat) (cb : Array Value) (base : Nat) (J : (Nat → Prop) → List (List Int) → World → Prop) : Prop where
  mono : ∀ {ok ok' : Nat → Prop} {Ls : List (List Int)} {W : World}, (∀ k, ok k → k < W.heap.size → ok' k) → J ok Ls W → J ok' Ls W
  step : ∀ {ok : Nat → Prop} {Ls : List (List Int)} {W W' : World}, J ok Ls W → (∀ k, ok k → k < W.heap.size → W'.heap[k]? = W.heap[k]?) → W.heap.size ≤ W'.heap.size → J ok Ls W'
  call : ∀ (ok : Nat → Prop) (Ls : List (List Int)) (l : List Int) (A : Option Addr) (c : Nat) (W : World), Ls.length ≤ 1000000 → J ok Ls W → Kd.R (Kd.int .i64) 3 W base (fun _ => True) (.slice A l.length c) l → (∀ k, (Value.slice A l.length c).ownBlock = some k → ¬ ok k) → base ≤ W.heap.size →
    Calls Try.prog g (#[.slice A l.length c] ++ cb) W fun e W' => (∃ r, e = .returned r) ∧ J (fun k => ok k ∨ W.heap.size ≤ k ∨ some k = (Value.slice A l.length c).ownBlock) (Ls ++ [l]) W' ∧ Below base W W' ∧ (∀ k, k < W.heap.size → ¬ ok k → W'.heap[k]? = W.heap[k]?)
def whF (g : List Int → Int → Int → List (List Int) → Option (List (List Int))) (pw : Int → Option Int) (n most : Int) (done : List Int) (left : Int) : Nat → Int → List (List Int) → Option (List (List Int))
  | 0, _, _ => none
  | d + 1, l, Ls => if l ≤ most then ((pw (8 - l)).bind fun part => (pw (8 - most)).bind fun low => if (0 ≤ part ∧ part ≤ 1000000) ∧ 0 ≤ low ∧ low ≤ 1000000 then (if part ≤ left ∧ left ≤ part * (n - (done.length : Int) - 1 + 1) ∧ (n - (done.length : Int) - 1) * low ≤ left - part then ((g (done ++ [l]) l (left - part) Ls).bind fun L' => whF g pw n most done left d (l + 1) L') else whF g pw n most done left d (l + 1) Ls) else none) else some Ls
def whL (k : Nat) (n most many : Int) : Nat → List Int → Int → Int → List (List Int) → Option (List (List Int))
  | 0, _, _, _, _ => none
  | r + 1, done, from_, left, Ls => if ((done.length : Int) ≤ n ∧ n ≤ 12) ∧ (1 ≤ from_ ∧ from_ ≤ 9) ∧ (1 ≤ most ∧ most ≤ 8) ∧ (0 ≤ left ∧ left ≤ 1000000) ∧ Ls.length ≤ 1000000 then (if (done.length : Int) = n then (if left = 0 then some (Ls ++ [done]) else some Ls) else whF (whL k n most many r) (fun e => impl_power.f k many e) n most done left 10 from_ Ls) else none
def whP (G3 G4 G5 G6 G7 : Nat) : Array Value := #[.pointer (some ⟨G3, 0, none⟩), .pointer (some ⟨G4, 0, none⟩), .pointer (some ⟨G5, 0, none⟩), .pointer (some ⟨G6, 0, none⟩), .pointer (some ⟨G7, 0, none⟩)]
def wG (G3 G4 G5 G6 G7 : Nat) (k : Nat) : Prop := k ≠ G3 ∧ k ≠ G4 ∧ k ≠ G5 ∧ k ≠ G6 ∧ k ≠ G7
structure WhS (g : Nat) (cb : Array Value) (J : (Nat → Prop) → List (List Int) → World → Prop) (G3 G4 G5 G6 G7 base : Nat) (n most many : Int) (w1 : World) (ok : Nat → Prop) (Ls : List (List Int)) (W : World) : Prop where
  n_ : Bx W G3 (.int .i64 n) 3
  f_ : Bx W G4 (.func (.func g) #[] cb) 43
  t_ : Bx W G5 (.int .i64 most) 3
  m_ : Bx W G6 (.int .i64 many) 3
  a_ : Bx W G7 (.func (.func 48) #[] (whP G3 G4 G5 G6 G7)) 59
  j : J ok Ls W
  ng : ∀ k, ok k → wG G3 G4 G5 G6 G7 k
  b : Below base w1 W
  le : base ≤ W.heap.size
section
variable {g : Nat} {cb : Array Value} {J : (Nat → Prop) → List (List Int) → World → Prop} {G3 G4 G5 G6 G7 base : Nat} {n most many : Int} {w1 W W' : World} {ok ok' : Nat → Prop} {Ls : List (List Int)}
theorem WhS.fresh (h : WhS g cb J G3 G4 G5 G6 G7 base n most many w1 ok Ls W) {k : Nat} (hk : W.heap.size ≤ k) : wG G3 G4 G5 G6 G7 k :=
  ⟨by have := h.n_.lt; omega, by have := h.f_.lt; omega, by have := h.t_.lt; omega, by have := h.m_.lt; omega, by have := h.a_.lt; omega⟩
/-- Elder blocks but those of one row stay. -/
theorem WhS.keep (hC : Cbk g cb base J) (h : WhS g cb J G3 G4 G5 G6 G7 base n most many w1 ok Ls W) (hb : Below base W W') (hs : ∀ k, ok k ∨ ¬ wG G3 G4 G5 G6 G7 k → k < W.heap.size → W'.heap[k]? = W.heap[k]?) : WhS g cb J G3 G4 G5 G6 G7 base n most many w1 ok Ls W' :=
  ⟨h.n_.same (hs _ (.inr (fun q => q.1 rfl)) h.n_.lt), h.f_.same (hs _ (.inr (fun q => q.2.1 rfl)) h.f_.lt), h.t_.same (hs _ (.inr (fun q => q.2.2.1 rfl)) h.t_.lt), h.m_.same (hs _ (.inr (fun q => q.2.2.2.1 rfl)) h.m_.lt), h.a_.same (hs _ (.inr (fun q => q.2.2.2.2 rfl)) h.a_.lt), hC.step h.j (fun k hk hl => hs k (.inl hk) hl) hb.size, h.ng, h.b.trans hb, Nat.le_trans h.le hb.size⟩
theorem WhS.below (hC : Cbk g cb base J) (h : WhS g cb J G3 G4 G5 G6 G7 base n most many w1 ok Ls W) (hb : Below W.heap.size W W') : WhS g cb J G3 G4 G5 G6 G7 base n most many w1 ok Ls W' :=
  h.keep hC (hb.mono h.le) (fun k _ hl => hb.block k hl)
theorem WhS.mono (hC : Cbk g cb base J) (h : WhS g cb J G3 G4 G5 G6 G7 base n most many w1 ok Ls W) (hk : ∀ k, ok k → k < W.heap.size → ok' k) (hn : ∀ k, ok' k → wG G3 G4 G5 G6 G7 k) : WhS g cb J G3 G4 G5 G6 G7 base n most many w1 ok' Ls W :=
  ⟨h.n_, h.f_, h.t_, h.m_, h.a_, hC.mono hk h.j, hn, h.b, h.le⟩
end
theorem own_cap {W : World} {base base' g n n' c c' : Nat} {xs xs' : List Value} (h : W.ownsRow base 3 1 (.slice (some ⟨g, 0, none⟩) n c) n xs) (h' : W.ownsRow base' 3 1 (.slice (some ⟨g, 0, none⟩) n' c') n' xs') : c = c' := by
  rcases h.2 with ⟨e, _⟩ | ⟨g1, c1, cur, e, _, hg, _, _, hs, _⟩
  · cases e
  rcases h'.2 with ⟨e', _⟩ | ⟨g2, c2, cur', e', _, hg', _, _, hs', _⟩
  · cases e'
  injection e with e1 _ e3
  injection e' with e1' _ e3'
  injection e1 with e1
  injection e1' with e1'
  injection e1 with e1
  injection e1' with e1'
  subst e1 e1' e3 e3'
  rw [hg] at hg'
  injection hg' with hg'
  injection hg' with hg'
  subst hg'
  omega
/-- Behind a call with the longer row: the shorter one stands, in the same block or in its own. -/
theorem row_back {W7 W8 : World} {base n c : Nat} {A : Option Addr} {v : Value} {xs : List Value} {y : Value} (h : W7.ownsRow base 3 1 (.slice A n c) n xs) (h7 : W7.ownsRow base 3 1 v (n + 1) (xs ++ [y])) (h8 : W8.ownsRow base 3 1 v (n + 1) (xs ++ [y])) (hs : ∀ k, (Value.slice A n c).ownBlock = some k → v.ownBlock ≠ some k → W8.heap[k]? = W7.heap[k]?) : W8.ownsRow base 3 1 (.slice A n c) n xs := by
  rcases h.2 with ⟨hv, hn⟩ | ⟨g, cap, cur, hv, hbg, hg, hnc, hcm, hcs, htake⟩
  · injection hv with e1 e2 e3
    subst e1 e2 e3
    have hx : xs = [] := List.eq_nil_of_length_eq_zero (by simpa using h.1)
    subst hx
    exact World.ownsRow_nil _ _ _ _
  · injection hv with e1 _ e3
    subst e1 e3
    rcases h7.2 with ⟨_, h0⟩ | ⟨g7, c7, cur7, rfl, _, _⟩
    · omega
    by_cases e : g7 = g
    · subst e
      obtain rfl := own_cap h h7
      rcases h8.2 with ⟨e, _⟩ | ⟨g8, c8, cur8, e8, _, hg8, _, hm8, hs8, ht8⟩
      · cases e
      injection e8 with e1 _ e3
      injection e1 with e1
      injection e1 with e1
      subst e1 e3
      refine ⟨h.1, .inr ⟨g7, c, cur8, rfl, hbg, hg8, hnc, hm8, hs8, ?_⟩⟩
      have hl := h.1
      rw [Nat.mul_one] at hl ht8 ⊢
      have h1_ := congrArg (List.take n) ht8
      rw [List.take_take, show min n (n + 1) = n by omega] at h1_
      refine h1_.trans ?_
      rw [← hl]
      exact List.take_left
    · have := hs g rfl (by simp [Value.ownBlock, e])
      exact ⟨h.1, .inr ⟨g, c, cur, rfl, hbg, this.trans hg, hnc, hcm, hcs, htake⟩⟩
theorem row_R {W : World} {base : Nat} {ok : Nat → Prop} {v : Value} {xs : List Int} (h : W.ownsRow base 3 1 v xs.length (xs.map (Value.int .i64))) (hk : ∀ k, v.ownBlock = some k → ok k) : Kd.R (Kd.int .i64) 3 W base ok v xs := Kd.R_of_own h hk
theorem R_row {W : World} {base : Nat} {ok : Nat → Prop} {v : Value} {xs : List Int} (h : Kd.R (Kd.int .i64) 3 W base ok v xs) : W.ownsRow base 3 1 v xs.length (xs.map (Value.int .i64)) := Kd.own_of_R h

set_option maxRecDepth 100000 in
set_option maxHeartbeats 16000000 in
theorem wh_calls (k g : Nat) (cb : Array Value) (J : (Nat → Prop) → List (List Int) → World → Prop) (G3 G4 G5 G6 G7 base : Nat) (n most many : Int) (w1 : World) (eg : ∀ args w, (callFunc g args).run Try.prog w = .ok (.enter g args) w) (hC : Cbk g cb base J) (r : Nat) : ∀ (ok : Nat → Prop) (done : List Int) (from_ left : Int) (Ls L' : List (List Int)) (A : Option Addr) (c : Nat) (W : World),
    WhS g cb J G3 G4 G5 G6 G7 base n most many w1 ok Ls W → Kd.R (Kd.int .i64) 3 W base (wG G3 G4 G5 G6 G7) (.slice A done.length c) done → (∀ k, (Value.slice A done.length c).ownBlock = some k → ¬ ok k) → whL k n most many r done from_ left Ls = some L' →
    Calls Try.prog 48 (#[.slice A done.length c, .int .i64 from_, .int .i64 left] ++ whP G3 G4 G5 G6 G7) W fun e W' => (∃ r, e = .returned r) ∧ WhS g cb J G3 G4 G5 G6 G7 base n most many w1 (fun k => (ok k ∨ W.heap.size ≤ k) ∧ wG G3 G4 G5 G6 G7 k) L' W' ∧ Kd.R (Kd.int .i64) 3 W' base (wG G3 G4 G5 G6 G7) (.slice A done.length c) done ∧ (∀ k, k < W.heap.size → ¬ ok k → some k ≠ (Value.slice A done.length c).ownBlock → W'.heap[k]? = W.heap[k]?) ∧ W.heap.size ≤ W'.heap.size := by
  induction r with
  | zero => intro ok done from_ left Ls L' A c W _ _ _ h; cases h
  | succ r ih =>
    intro ok done from_ left Ls L' A c W hS hD hNO h
    have IH := Aside0.mk ih
    have HS := Aside0.mk hS
    have HD := Aside0.mk hD
    have HNO := Aside0.mk hNO
    have HCB := Aside0.mk hC
    unfold whL at h
    by_cases hb : ((done.length : Int) ≤ n ∧ n ≤ 12) ∧ (1 ≤ from_ ∧ from_ ≤ 9) ∧ (1 ≤ most ∧ most ≤ 8) ∧ (0 ≤ left ∧ left ≤ 1000000) ∧ Ls.length ≤ 1000000
    case neg => rw [if_neg hb] at h; cases h
    rw [if_pos hb] at h
    have HB := Aside0.mk hb
    have bxn := hS.n_.cell.1
    clear ih hS hD hNO hC
    by_cases hr : (done.length : Int) = n
    · rw [if_pos hr] at h
      have hrb : ((done.length : Int) == n) = true := by simpa using hr
      by_cases hl : left = 0
      · rw [if_pos hl] at h
        obtain rfl := Option.some.inj h
        have hlb : (left == 0) = true := by simpa using hl
        have bxf := HS.out.f_.cell.1
        have HCL := Aside0.mk (fun (V : World) (hV : Below W.heap.size W V) => slices_Clone_int_int.calls A c done done V (Kd.R_reads' (Kd.R_below HD.out hV)).2.2 (Kd.R_reads' HD.out).2.1 (by unfold slices_Clone_int_int.f; rw [if_pos (by omega)]))
        have HCALL := Aside0.mk (fun (A5 : Option Addr) (c5 : Nat) (V : World) (hV : Below W.heap.size W V) (hR : Kd.R (Kd.int .i64) 3 V W.heap.size (fun _ => True) (.slice A5 done.length c5) done) => HCB.out.call (fun k => ok k ∧ k < W.heap.size) Ls done A5 c5 V (by omega) (HCB.out.mono (fun k hk hl => ⟨hk, hl⟩) HS.out.j |> fun q => HCB.out.step q (fun k hk hl => hV.block k hl) hV.size) (Kd.R_lower hR HS.out.le) (fun k hk q => by have h1_ := Kd.R_base hR k hk; have h2_ := q.2; omega) (Nat.le_trans HS.out.le hV.size))
        clear hb h hr hl
        unfold whP
        go_enter Try.func48, Try.ntmps48
        go_wp2_with fail
        go_region_law (first
          | ((fail_if_success (have hz_ := HR5)); go_simp; go_wp2_with (go_at_call 49; refine (HCL.out _ (by repeat (first | (with_reducible first | exact Below.refl W.heap.size W | apply below_alloc | apply pw_below_drewN | apply below_drew1) | exact Below.refl W.heap.size W))).mono ?_; rintro e w5 ⟨v5, rfl, hR5, hb5⟩; obtain ⟨A5, c5, e5, _, _⟩ := Kd.R_reads hR5; subst e5; have HR5 := Aside0.mk (show Kd.R (Kd.int .i64) 3 w5 W.heap.size (fun _ => True) (.slice A5 done.length c5) done from hR5); have HB5 := Aside0.mk (show Below W.heap.size W w5 from below_step (by repeat (first | (with_reducible first | exact Below.refl W.heap.size W | apply below_alloc | apply pw_below_drewN | apply below_drew1) | exact Below.refl W.heap.size W)) hb5); have bxf5 := (HS.out.f_.below HB5.out HS.out.f_.lt).cell.1; clear hR5 hb5))
          | (go_simp; refine (HCALL.out A5 c5 w5 HB5.out HR5.out).mono ?_; rintro e w8 ⟨⟨r8, rfl⟩, hJ8, hB8, hF8⟩; have HJ8 := Aside0.mk hJ8; have HB8 := Aside0.mk hB8; have HF8 := Aside0.mk hF8; clear hJ8 hB8 hF8))
        all_goals
          go_wp2_with fail
          refine bodyPost_ret (results_none rfl _ _ _) rfl ?_
          have hs5 := HB5.out.size
          have hok : ∀ k, k < W.heap.size → ¬ ok k → w8.heap[k]? = W.heap[k]? := fun k hk hn => (HF8.out k (by omega) (fun q => hn q.1)).trans (HB5.out.block k hk)
          have hbx : ∀ {G t : Nat} {v : Value}, Bx W G v t → ¬ ok G → Bx w8 G v t := fun hx hn => hx.same (hok _ hx.lt hn)
          refine ⟨⟨_, rfl⟩, ⟨hbx HS.out.n_ (fun q => (HS.out.ng _ q).1 rfl), hbx HS.out.f_ (fun q => (HS.out.ng _ q).2.1 rfl), hbx HS.out.t_ (fun q => (HS.out.ng _ q).2.2.1 rfl), hbx HS.out.m_ (fun q => (HS.out.ng _ q).2.2.2.1 rfl), hbx HS.out.a_ (fun q => (HS.out.ng _ q).2.2.2.2 rfl), HCB.out.mono (fun k hk _ => ?_) HJ8.out, fun k hk => hk.2, (HS.out.b.trans (HB5.out.mono HS.out.le)).trans HB8.out, Nat.le_trans HS.out.le (Nat.le_trans hs5 HB8.out.size)⟩, Kd.R_mono (Kd.R_step (Kd.R_tight rfl HD.out) (fun k hk hl => hok k hl (HNO.out k hk.symm))) (fun k hk => HD.out.1 k hk.symm), fun k hk hn _ => hok k hk hn, Nat.le_trans hs5 HB8.out.size⟩
          rcases hk with hk | hk | hk
          · exact ⟨.inl hk.1, HS.out.ng k hk.1⟩
          · exact ⟨.inr (by omega), HS.out.fresh (by omega)⟩
          · have h1_ := Kd.R_base HR5.out k hk.symm
            exact ⟨.inr h1_, HS.out.fresh h1_⟩
      · rw [if_neg hl] at h
        obtain rfl := Option.some.inj h
        have hlb : (left == 0) = false := by simpa using hl
        clear hb h hr hl
        unfold whP
        go_enter Try.func48, Try.ntmps48
        go_wp2_with fail
        refine bodyPost_ret (results_none rfl _ _ _) rfl ?_
        exact ⟨⟨_, rfl⟩, HS.out.mono HCB.out (fun k hk _ => ⟨.inl hk, HS.out.ng k hk⟩) (fun k hk => hk.2), HD.out, fun _ _ _ _ => rfl, Nat.le_refl _⟩
    · rw [if_neg hr] at h
      have hrb : ((done.length : Int) == n) = false := by simpa using hr
      have HF := Aside0.mk h
      clear hb h hr
      unfold whP
      go_enter Try.func48, Try.ntmps48
      go_wp2_with fail
      go_loopg [11, 12, 13] 10 (fun gg v11 _ _ wr => ∃ (l : Int) (Lk : List (List Int)), v11 = .int .i64 l ∧ Aside0 (1 ≤ l) ∧ Aside0 (whF (whL k n most many r) (fun e => impl_power.f k many e) n most done left gg l Lk = some L') ∧ Aside0 (WhS g cb J G3 G4 G5 G6 G7 base n most many w1 (fun k => (ok k ∨ W.heap.size ≤ k) ∧ wG G3 G4 G5 G6 G7 k) Lk wr) ∧ Aside0 (Kd.R (Kd.int .i64) 3 wr base (wG G3 G4 G5 G6 G7) (.slice A done.length c) done) ∧ Aside0 (∀ k, k < W.heap.size → ¬ ok k → some k ≠ (Value.slice A done.length c).ownBlock → wr.heap[k]? = W.heap[k]?) ∧ Aside0 (W.heap.size ≤ wr.heap.size))
      case atStart => exact ⟨from_, Ls, rfl, ⟨HB.out.2.1.1⟩, HF, ⟨HS.out.mono HCB.out (fun k hk _ => ⟨.inl hk, HS.out.ng k hk⟩) (fun k hk => hk.2)⟩, HD, ⟨fun _ _ _ _ => rfl⟩, ⟨Nat.le_refl _⟩⟩
      case round =>
        clear HF bxn
        obtain ⟨l, Lk, rfl, HL1, HW, HSk, HDk, HFR, HZ⟩ := hrel
        cases gk with
        | zero => exact absurd HW.out (by simp [whF])
        | succ gk =>
          have hw := HW.out
          unfold whF at hw
          have bxn := HSk.out.n_.cell.1
          have bxt := HSk.out.t_.cell.1
          have bxm := HSk.out.m_.cell.1
          by_cases hlm : l ≤ most
          · rw [if_pos hlm] at hw
            replace hw := Option.bind_eq_some_iff.mp hw
            obtain ⟨part, hpart, hw⟩ := hw
            replace hw := Option.bind_eq_some_iff.mp hw
            obtain ⟨low, hlow, hw⟩ := hw
            by_cases hbd : (0 ≤ part ∧ part ≤ 1000000) ∧ 0 ≤ low ∧ low ≤ 1000000
            case neg => rw [if_neg hbd] at hw; cases hw
            rw [if_pos hbd] at hw
            have HPW := Aside0.mk (fun (V : World) => impl_power.calls k many (8 - l) part V hpart)
            have HLW := Aside0.mk (fun (V : World) => impl_power.calls k many (8 - most) low V hlow)
            have HBD := Aside0.mk hbd
            have HWW := Aside0.mk hw
            have b1 := HL1.out
            have b2 := HB.out.2.2.1.2
            have b3 := HB.out.1.1
            have b4 := HB.out.1.2
            have b5 : 1 ≤ most := HB.out.2.2.1.1
            have hlmd : decide (l ≤ most) = true := decide_eq_true hlm
            have e1_ : IntKind.i64.wrap (8 - l) = 8 - l := by rw [i64_w]; unfold wrap64; omega
            have e2_ : IntKind.i64.wrap (n - (done.length : Int)) = n - (done.length : Int) := by rw [i64_w]; unfold wrap64; omega
            have e3_ : IntKind.i64.wrap (n - (done.length : Int) - 1) = n - (done.length : Int) - 1 := by rw [i64_w]; unfold wrap64; omega
            clear hw hpart hlow hbd HW
            go_upto_region 6 with fail
            go_cut [12, 13] from 30 to 38 (fun v12 v13 wx => v12 = .int .i64 part ∧ v13 = .int .i64 (n - (done.length : Int) - 1) ∧ Aside0 (Below wr.heap.size wr wx))
            case first =>
              go_quiet ((go_at_call 50; exact Calls.quiet_of ((HPW.out _).mono fun e w' ⟨he, hd⟩ => ⟨he, hd.out⟩)))
              all_goals (go_wp2_with fail; go_meet; exact ⟨rfl, by first | rfl | (congr 1; unfold wrap64; omega), ⟨by repeat (first | (with_reducible first | exact Below.refl wr.heap.size wr | apply pw_below_drewN | apply below_drew1) | exact Below.refl wr.heap.size wr)⟩⟩)
            case rest =>
              obtain ⟨rfl, rfl, HX⟩ := hcut
              clear e1_ e2_ e3_
              have bxt2 := (HSk.out.t_.below HX.out HSk.out.t_.lt).cell.1
              have bxm2 := (HSk.out.m_.below HX.out HSk.out.m_.lt).cell.1
              have bp0 := HBD.out.1.1
              have bp1 := HBD.out.1.2
              have bl0 := HBD.out.2.1
              have bl1 := HBD.out.2.2
              have bf0 := HB.out.2.2.2.1.1
              have bf1 := HB.out.2.2.2.1.2
              have hw := HWW.out
              rw [Int.sub_add_cancel] at hw
              have hpb : 0 ≤ part * (n - (done.length : Int)) ∧ part * (n - (done.length : Int)) ≤ 1000000 * 12 := ⟨Int.mul_nonneg bp0 (by omega), Int.mul_le_mul bp1 (by omega) (by omega) (by omega)⟩
              have hqb : 0 ≤ (n - (done.length : Int) - 1) * low ∨ True := .inr trivial
              have hlt : (done.length : Int) + 1 ≤ n := by have h1_ : (done.length : Int) ≠ n := (fun e => by rw [e] at hrb; simp at hrb); omega
              have hqb : 0 ≤ (n - (done.length : Int) - 1) * low ∧ (n - (done.length : Int) - 1) * low ≤ 12 * 1000000 := ⟨Int.mul_nonneg (by omega) bl0, Int.mul_le_mul (by omega) bl1 bl0 (by omega)⟩
              obtain ⟨P, hP⟩ : ∃ P, part * (n - (done.length : Int)) = P := ⟨_, rfl⟩
              obtain ⟨Q, hQ⟩ : ∃ Q, (n - (done.length : Int) - 1) * low = Q := ⟨_, rfl⟩
              rw [hP, hQ] at hw
              rw [hP] at hpb
              rw [hQ] at hqb
              obtain ⟨hp0, hp1⟩ := hpb
              obtain ⟨hq0, hq1⟩ := hqb
              by_cases c1 : part ≤ left
              · have d1 : decide (part ≤ left) = true := decide_eq_true c1
                by_cases c2 : left ≤ P
                · have d2 : decide (left ≤ P) = true := decide_eq_true c2
                  by_cases c3 : Q ≤ left - part
                  · have d3 : decide (Q ≤ left - part) = true := decide_eq_true c3
                    rw [if_pos ⟨c1, c2, c3⟩] at hw
                    replace hw := Option.bind_eq_some_iff.mp hw
                    obtain ⟨L1, hg1, hw⟩ := hw
                    have HG1 := Aside0.mk hg1
                    have HW2 := Aside0.mk hw
                    clear hw hg1 bxn bxt bxm
                    go_upto_region 8 with (first | go_at_call 50; refine (HLW.out _).mono ?_; rintro e wp ⟨rfl, hd⟩; have HXP := Aside0.mk (HX.out.trans (hd.below.mono HX.out.size)); clear hd)
                    have HSp := Aside0.mk (HSk.out.below HCB.out HXP.out)
                    have HDp := Aside0.mk (Kd.R_below HDk.out HXP.out)
                    have HZp := Aside0.mk (Nat.le_trans HZ.out HXP.out.size)
                    have e4_ : IntKind.i64.wrap (left - part) = left - part := by rw [i64_w]; unfold wrap64; omega
                    have hll : done.length ≤ 1000000 := by omega
                    have HLL := Aside0.mk hll
                    have bxa : wp.cell? ⟨G7, 0, none⟩ = some (.func (.func 48) #[] #[.pointer (some ⟨G3, 0, none⟩), .pointer (some ⟨G4, 0, none⟩), .pointer (some ⟨G5, 0, none⟩), .pointer (some ⟨G6, 0, none⟩), .pointer (some ⟨G7, 0, none⟩)]) := HSp.out.a_.cell.1
                    have bxa2 : (wp.alloc (.cells #[.int .i64 l] 3)).cell? ⟨G7, 0, none⟩ = some (.func (.func 48) #[] #[.pointer (some ⟨G3, 0, none⟩), .pointer (some ⟨G4, 0, none⟩), .pointer (some ⟨G5, 0, none⟩), .pointer (some ⟨G6, 0, none⟩), .pointer (some ⟨G7, 0, none⟩)]) := (HSp.out.a_.below (below_alloc (Below.refl _ _) _) HSp.out.a_.lt).cell.1
                    have HOWN := Aside0.mk (show (wp.drew.alloc (.cells #[.int .i64 l] 3)).ownsRow base 3 1 (.slice A done.length c) done.length (done.map (Value.int .i64)) from World.ownsRow.alloc (R_row HDp.out) _)
                    have HLC := Aside0.mk (box_new wp.drew (.int .i64 l) 3)
                    have HBL := Aside0.mk (show Below wp.heap.size wp (wp.drew.alloc (.cells #[.int .i64 l] 3)) from below_alloc (below_drew1 (Below.refl _ _)) _)
                    have HREC := Aside0.mk (fun (v7 : Value) (A7 : Option Addr) (c7 : Nat) (V : World) (hv : v7 = .slice A7 (done.length + 1) c7) (h7 : V.ownsRow base 3 1 v7 (done.length + 1) (done.map (Value.int .i64) ++ [.int .i64 l])) (hg7 : (wp.drew.alloc (.cells #[.int .i64 l] 3)).grownBy V (Value.slice A done.length c).ownBlock) (hat7 : v7.ownBlock = (Value.slice A done.length c).ownBlock ∨ ∃ b, v7.ownBlock = some b ∧ wp.heap.size ≤ b) => (show Calls Try.prog 48 #[.slice A7 (done.length + 1) c7, .int .i64 l, .int .i64 (left - part), .pointer (some ⟨G3, 0, none⟩), .pointer (some ⟨G4, 0, none⟩), .pointer (some ⟨G5, 0, none⟩), .pointer (some ⟨G6, 0, none⟩), .pointer (some ⟨G7, 0, none⟩)] V (fun e W' => (∃ r, e = .returned r) ∧ WhS g cb J G3 G4 G5 G6 G7 base n most many w1 (fun k => (ok k ∨ W.heap.size ≤ k) ∧ wG G3 G4 G5 G6 G7 k) L1 W' ∧ W'.ownsRow base 3 1 v7 (done.length + 1) (done.map (Value.int .i64) ++ [.int .i64 l]) ∧ (∀ k, k < V.heap.size → ¬ (((ok k ∨ W.heap.size ≤ k) ∧ wG G3 G4 G5 G6 G7 k) ∧ k < wp.heap.size) → some k ≠ v7.ownBlock → W'.heap[k]? = V.heap[k]?) ∧ V.heap.size ≤ W'.heap.size) from by
                      have hown : ∀ k, (Value.slice A done.length c).ownBlock = some k → wG G3 G4 G5 G6 G7 k ∧ k < W.heap.size ∧ ¬ ok k ∧ base ≤ k := fun k hk => ⟨HD.out.1 k hk, (Kd.R_lt HD.out) k hk, HNO.out k hk, Kd.R_base HD.out k hk⟩
                      have hVW : Below base wp V := pw_below_grown (HBL.out.mono HSp.out.le) _ (Nat.le_trans HSp.out.le HBL.out.size) hg7 (fun k hk => (hown k hk).2.2.2)
                      have hz := HZp.out
                      have hsame : ∀ k, k < wp.heap.size → some k ≠ (Value.slice A done.length c).ownBlock → V.heap[k]? = wp.heap[k]? := fun k hk hn => (hg7.block k (Nat.lt_of_lt_of_le hk HBL.out.size) hn).trans (HBL.out.block k hk)
                      have hSV : WhS g cb J G3 G4 G5 G6 G7 base n most many w1 (fun k => ((ok k ∨ W.heap.size ≤ k) ∧ wG G3 G4 G5 G6 G7 k) ∧ k < wp.heap.size) Lk V := (HSp.out.mono HCB.out (fun k hk hl => ⟨hk, hl⟩) (fun k hk => hk.1.2)).keep HCB.out hVW (fun k hk hl => hsame k hl (fun e => by
                        obtain ⟨q1, q2, q3, _⟩ := hown k e.symm
                        rcases hk with hk | hk
                        · rcases hk.1.1 with h1_ | h1_
                          · exact q3 h1_
                          · omega
                        · exact hk q1))
                      subst hv
                      have hlen : (done.length + 1) = (done ++ [l]).length := by rw [List.length_append]; rfl
                      have hmap : done.map (Value.int .i64) ++ [.int .i64 l] = (done ++ [l]).map (Value.int .i64) := by rw [List.map_append]; rfl
                      have hv7 : ∀ k, (Value.slice A7 (done.length + 1) c7).ownBlock = some k → wG G3 G4 G5 G6 G7 k ∧ ¬ (((ok k ∨ W.heap.size ≤ k) ∧ wG G3 G4 G5 G6 G7 k) ∧ k < wp.heap.size) := fun k hk => by
                        rcases hat7 with q | ⟨b, q, hb⟩
                        · obtain ⟨q1, q2, q3, _⟩ := hown k (q ▸ hk)
                          exact ⟨q1, fun h1_ => by
                            rcases h1_.1.1 with h2_ | h2_
                            · exact q3 h2_
                            · omega⟩
                        · have : b = k := by rw [q] at hk; exact Option.some.inj hk
                          subst this
                          exact ⟨HSp.out.fresh hb, fun h1_ => by have := h1_.2; omega⟩
                      rw [hlen, hmap] at h7
                      have hR7 : Kd.R (Kd.int .i64) 3 V base (wG G3 G4 G5 G6 G7) (.slice A7 (done ++ [l]).length c7) (done ++ [l]) := row_R h7 (fun k hk => (hv7 k (by rw [hlen]; exact hk)).1)
                      have q_ := IH.out (fun k => ((ok k ∨ W.heap.size ≤ k) ∧ wG G3 G4 G5 G6 G7 k) ∧ k < wp.heap.size) (done ++ [l]) l (left - part) Lk L1 A7 c7 V hSV hR7 (fun k hk => (hv7 k (by rw [hlen]; exact hk)).2) HG1.out
                      rw [← hlen] at q_
                      refine q_.mono ?_
                      rintro e W' ⟨he, hS', hR', hf', hz'⟩
                      refine ⟨he, hS'.mono HCB.out (fun k hk _ => ?_) (fun k hk => hk.2), ?_, hf', hz'⟩
                      · rcases hk.1 with h1_ | h1_
                        · exact h1_.1
                        · exact ⟨.inr (by have := hVW.size; omega), hk.2⟩
                      · have h1_ := R_row hR'
                        rw [← hlen] at h1_
                        rw [hmap]
                        exact h1_))
                    clear hll
                    go_region_law (first
                      | (refine step_app_keep base (by simp [Region.wanted]) (.tmp 63) (.tmp 65) rfl rfl A done.length c (done.map (Value.int .i64)) (by simp [Act.eval, Act.put]) HOWN.out ⟨wp.drew.heap.size, 0, none⟩ (.int .i64 l) (by simp [Act.eval, Act.put]) rfl HLC.out HLL.out (Nat.le_trans HSp.out.le HBL.out.size) ?_; intro v7 w7 h7 hk7 hg7 hat7; obtain ⟨A7, c7, e7⟩ := own_slice h7; have HH7 := Aside0.mk h7; have HK7 := Aside0.mk hk7; have HG7 := Aside0.mk hg7; have HAT7 := Aside0.mk (show v7.ownBlock = (Value.slice A done.length c).ownBlock ∨ ∃ b, v7.ownBlock = some b ∧ wp.heap.size ≤ b from hat7.elim .inl (fun q => .inr (by obtain ⟨b, q1, q2⟩ := q; exact ⟨b, q1, Nat.le_trans HBL.out.size q2⟩))); have HE7 := Aside0.mk e7; rw [e7]; have bxa7 : w7.cell? ⟨G7, 0, none⟩ = some (.func (.func 48) #[] #[.pointer (some ⟨G3, 0, none⟩), .pointer (some ⟨G4, 0, none⟩), .pointer (some ⟨G5, 0, none⟩), .pointer (some ⟨G6, 0, none⟩), .pointer (some ⟨G7, 0, none⟩)]) := ((HSp.out.a_.below HBL.out HSp.out.a_.lt).grown hg7 (fun q => (HD.out.1 _ q.symm).2.2.2.2 rfl)).cell.1; clear h7 hk7 hg7 hat7 e7)
                      | (go_simp; refine (HREC.out v7 A7 c7 w7 HE7.out HH7.out HG7.out HAT7.out).mono ?_; rintro e w8 ⟨⟨r8, rfl⟩, hS8, hR8, hf8, hz8⟩; have HS8 := Aside0.mk hS8; have HR8 := Aside0.mk hR8; have HF8 := Aside0.mk hf8; have HZ8 := Aside0.mk hz8; clear hS8 hR8 hf8 hz8))
                    all_goals
                      go_wp2_with fail
                      go_roundg gk
                      (case measure => omega)
                      (case rel =>
                        have hz := HZp.out
                        have hz7 : wp.heap.size ≤ w7.heap.size := Nat.le_trans HBL.out.size HG7.out.size
                        have hnb : ∀ k, k < W.heap.size → ¬ ok k → ¬ (((ok k ∨ W.heap.size ≤ k) ∧ wG G3 G4 G5 G6 G7 k) ∧ k < wp.heap.size) := fun k hk hn q => by
                          rcases q.1.1 with q | q
                          · exact hn q
                          · omega
                        have hn7 : ∀ k, k < W.heap.size → some k ≠ (Value.slice A done.length c).ownBlock → some k ≠ v7.ownBlock := fun k hk hn e => by
                          rcases HAT7.out with q | ⟨b, q, hb⟩
                          · exact hn (e.trans q)
                          · have : k = b := by rw [q] at e; exact Option.some.inj e
                            omega
                        have hfr : ∀ k, k < W.heap.size → ¬ ok k → some k ≠ (Value.slice A done.length c).ownBlock → w8.heap[k]? = W.heap[k]? := fun k hk h1_ h2_ => (HF8.out k (by omega) (hnb k hk h1_) (hn7 k hk h2_)).trans ((HG7.out.block k (Nat.lt_of_lt_of_le (Nat.lt_of_lt_of_le hk hz) HBL.out.size) h2_).trans ((HBL.out.block k (by omega)).trans ((HXP.out.block k (Nat.lt_of_lt_of_le hk HZ.out)).trans (HFR.out k hk h1_ h2_))))
                        have hd8 := row_back HK7.out HH7.out HR8.out (fun k hk hne => HF8.out k (by have := (Kd.R_lt HD.out) k hk; omega) (hnb k ((Kd.R_lt HD.out) k hk) (HNO.out k hk)) (fun e => hne e.symm))
                        exact ⟨l + 1, L1, by first | rfl | (congr 1; unfold wrap64; omega) | go_num, ⟨by omega⟩, HW2, HS8, ⟨row_R hd8 (fun k hk => HD.out.1 k hk)⟩, ⟨hfr⟩, ⟨by have := HZ8.out; omega⟩⟩)
                  · have d3 : decide (Q ≤ left - part) = false := decide_eq_false c3
                    rw [if_neg (fun q => c3 q.2.2)] at hw
                    have HW2 := Aside0.mk hw
                    clear hw bxn bxt bxm
                    go_wp2_with (first | go_at_call 50; refine (HLW.out _).mono ?_; rintro e wp ⟨rfl, hd⟩; have HXP := Aside0.mk (HX.out.trans (hd.below.mono HX.out.size)); clear hd)
                    go_roundg gk
                    (case measure => omega)
                    (case rel => exact ⟨l + 1, Lk, by first | rfl | (congr 1; unfold wrap64; omega) | go_num, ⟨by omega⟩, HW2, ⟨HSk.out.below HCB.out HXP.out⟩, ⟨Kd.R_below HDk.out HXP.out⟩, ⟨fun k hk h1_ h2_ => (HXP.out.block k (Nat.lt_of_lt_of_le hk HZ.out)).trans (HFR.out k hk h1_ h2_)⟩, ⟨Nat.le_trans HZ.out HXP.out.size⟩⟩)
                · have d2 : decide (left ≤ P) = false := decide_eq_false c2
                  rw [if_neg (fun q => c2 q.2.1)] at hw
                  have HW2 := Aside0.mk hw
                  clear hw bxn bxt bxm
                  go_wp2_with fail
                  go_roundg gk
                  (case measure => omega)
                  (case rel => exact ⟨l + 1, Lk, by first | rfl | (congr 1; unfold wrap64; omega) | go_num, ⟨by omega⟩, HW2, ⟨HSk.out.below HCB.out HX.out⟩, ⟨Kd.R_below HDk.out HX.out⟩, ⟨fun k hk h1_ h2_ => (HX.out.block k (Nat.lt_of_lt_of_le hk HZ.out)).trans (HFR.out k hk h1_ h2_)⟩, ⟨Nat.le_trans HZ.out HX.out.size⟩⟩)
              · have d1 : decide (part ≤ left) = false := decide_eq_false c1
                rw [if_neg (fun q => c1 q.1)] at hw
                have HW2 := Aside0.mk hw
                clear hw bxn bxt bxm
                go_wp2_with fail
                go_roundg gk
                (case measure => omega)
                (case rel => exact ⟨l + 1, Lk, by first | rfl | (congr 1; unfold wrap64; omega) | go_num, ⟨by omega⟩, HW2, ⟨HSk.out.below HCB.out HX.out⟩, ⟨Kd.R_below HDk.out HX.out⟩, ⟨fun k hk h1_ h2_ => (HX.out.block k (Nat.lt_of_lt_of_le hk HZ.out)).trans (HFR.out k hk h1_ h2_)⟩, ⟨Nat.le_trans HZ.out HX.out.size⟩⟩)
          · rw [if_neg hlm] at hw
            obtain rfl := Option.some.inj hw
            have hlmd : decide (l ≤ most) = false := decide_eq_false hlm
            clear hw HW HL1
            go_wp2_with fail
            go_end0
            exact ⟨⟨_, rfl⟩, HSk.out, HDk.out, HFR.out, HZ.out⟩

def whA (k : Nat) (n most many : Int) (Ls : List (List Int)) : Option (List (List Int)) := (impl_power.f k many 8).bind fun left => whL k n most many k [] 1 left Ls
set_option maxRecDepth 100000 in
set_option maxHeartbeats 16000000 in
theorem wholes_calls (k g : Nat) (cb : Array Value) (J : (Nat → Prop) → List (List Int) → World → Prop) (base : Nat) (n most many : Int) (w1 : World) (eg : ∀ args w, (callFunc g args).run Try.prog w = .ok (.enter g args) w) (hC : Cbk g cb base J) (ok : Nat → Prop) (Ls L' : List (List Int)) (W : World)
    (hJ : J ok Ls W) (hb : Below base w1 W) (hle : base ≤ W.heap.size) (h : whA k n most many Ls = some L') :
    Calls Try.prog 26 #[.int .i64 n, .int .i64 most, .int .i64 many, .func (.func g) #[] cb] W fun e W' => (∃ r, e = .returned r) ∧ J (fun k => ok k ∨ W.heap.size ≤ k) L' W' ∧ Below base w1 W' := by
  unfold whA at h
  replace h := Option.bind_eq_some_iff.mp h
  obtain ⟨left, hleft, h⟩ := h
  have HJ := Aside0.mk hJ
  have HB := Aside0.mk hb
  have HLE := Aside0.mk hle
  have HCB := Aside0.mk hC
  have HF := Aside0.mk h
  have HPW := Aside0.mk (fun (V : World) => impl_power.calls k many 8 left V hleft)
  clear hJ hb hle hC h hleft
  go_enter Try.func26, Try.ntmps26
  go_upto_region 3 with fail
  obtain ⟨W5, hW5⟩ : ∃ W5, (((((W.alloc (.cells #[.int .i64 n] 3)).alloc (.cells #[.int .i64 most] 3)).alloc (.cells #[.int .i64 many] 3)).alloc (.cells #[.func (.func g) #[] cb] 43)).alloc (.cells #[.func (.func 48) #[] (whP W.heap.size (W.heap.size + 1 + 1 + 1) (W.heap.size + 1) (W.heap.size + 1 + 1) (W.heap.size + 1 + 1 + 1 + 1))] 59)) = W5 := ⟨_, rfl⟩
  have hsz : W5.heap.size = W.heap.size + 5 := by rw [← hW5]; simp
  have hb5 : Below W.heap.size W W5 := by rw [← hW5]; exact below_alloc (below_alloc (below_alloc (below_alloc (below_alloc (Below.refl _ _) _) _) _) _) _
  have k3 : Bx W5 W.heap.size (.int .i64 n) 3 := by
    rw [← hW5]
    exact ((((Bx.below (show Bx (W.alloc (.cells #[.int .i64 n] 3)) W.heap.size (.int .i64 n) 3 from heap_new W _) (below_alloc (Below.refl _ _) _) (by simp)).below (below_alloc (Below.refl _ _) _) (by simp <;> omega)).below (below_alloc (Below.refl _ _) _) (by simp <;> omega)).below (below_alloc (Below.refl _ _) _) (by simp <;> omega))
  have k5 : Bx W5 (W.heap.size + 1) (.int .i64 most) 3 := by
    rw [← hW5]
    have h_ := heap_new (W.alloc (.cells #[.int .i64 n] 3)) (.cells #[.int .i64 most] 3)
    rw [show (W.alloc (.cells #[.int .i64 n] 3)).heap.size = W.heap.size + 1 by simp] at h_
    exact (((Bx.below (show Bx _ (W.heap.size + 1) (.int .i64 most) 3 from h_) (below_alloc (Below.refl _ _) _) (by simp)).below (below_alloc (Below.refl _ _) _) (by simp <;> omega)).below (below_alloc (Below.refl _ _) _) (by simp <;> omega))
  have k6 : Bx W5 (W.heap.size + 1 + 1) (.int .i64 many) 3 := by
    rw [← hW5]
    have h_ := heap_new ((W.alloc (.cells #[.int .i64 n] 3)).alloc (.cells #[.int .i64 most] 3)) (.cells #[.int .i64 many] 3)
    rw [show ((W.alloc (.cells #[.int .i64 n] 3)).alloc (.cells #[.int .i64 most] 3)).heap.size = W.heap.size + 1 + 1 by simp] at h_
    exact ((Bx.below (show Bx _ (W.heap.size + 1 + 1) (.int .i64 many) 3 from h_) (below_alloc (Below.refl _ _) _) (by simp)).below (below_alloc (Below.refl _ _) _) (by simp <;> omega))
  have k4 : Bx W5 (W.heap.size + 1 + 1 + 1) (.func (.func g) #[] cb) 43 := by
    rw [← hW5]
    have h_ := heap_new (((W.alloc (.cells #[.int .i64 n] 3)).alloc (.cells #[.int .i64 most] 3)).alloc (.cells #[.int .i64 many] 3)) (.cells #[.func (.func g) #[] cb] 43)
    rw [show (((W.alloc (.cells #[.int .i64 n] 3)).alloc (.cells #[.int .i64 most] 3)).alloc (.cells #[.int .i64 many] 3)).heap.size = W.heap.size + 1 + 1 + 1 by simp] at h_
    exact Bx.below (show Bx _ (W.heap.size + 1 + 1 + 1) (.func (.func g) #[] cb) 43 from h_) (below_alloc (Below.refl _ _) _) (by simp)
  have k7 : Bx W5 (W.heap.size + 1 + 1 + 1 + 1) (.func (.func 48) #[] (whP W.heap.size (W.heap.size + 1 + 1 + 1) (W.heap.size + 1) (W.heap.size + 1 + 1) (W.heap.size + 1 + 1 + 1 + 1))) 59 := by
    rw [← hW5]
    have h_ := heap_new ((((W.alloc (.cells #[.int .i64 n] 3)).alloc (.cells #[.int .i64 most] 3)).alloc (.cells #[.int .i64 many] 3)).alloc (.cells #[.func (.func g) #[] cb] 43)) (.cells #[.func (.func 48) #[] (whP W.heap.size (W.heap.size + 1 + 1 + 1) (W.heap.size + 1) (W.heap.size + 1 + 1) (W.heap.size + 1 + 1 + 1 + 1))] 59)
    rwa [show ((((W.alloc (.cells #[.int .i64 n] 3)).alloc (.cells #[.int .i64 most] 3)).alloc (.cells #[.int .i64 many] 3)).alloc (.cells #[.func (.func g) #[] cb] 43)).heap.size = W.heap.size + 1 + 1 + 1 + 1 by simp] at h_
  have hjs : J (fun k => ok k ∧ k < W.heap.size) Ls W5 := HCB.out.step (HCB.out.mono (fun k hk hl => ⟨hk, hl⟩) HJ.out) (fun k hk hl => hb5.block k hl) hb5.size
  have hS : WhS g cb J W.heap.size (W.heap.size + 1 + 1 + 1) (W.heap.size + 1) (W.heap.size + 1 + 1) (W.heap.size + 1 + 1 + 1 + 1) base n most many w1 (fun k => ok k ∧ k < W.heap.size) Ls W5 :=
    ⟨k3, k4, k5, k6, k7, hjs, fun k hk => ⟨by omega, by omega, by omega, by omega, by omega⟩, HB.out.trans (hb5.mono HLE.out), Nat.le_trans HLE.out hb5.size⟩
  have hW5' := hW5
  unfold whP at hW5'
  rw [hW5']
  have bxa : W5.cell? ⟨W.heap.size + 1 + 1 + 1 + 1, 0, none⟩ = some (.func (.func 48) #[] #[.pointer (some ⟨W.heap.size, 0, none⟩), .pointer (some ⟨W.heap.size + 1 + 1 + 1, 0, none⟩), .pointer (some ⟨W.heap.size + 1, 0, none⟩), .pointer (some ⟨W.heap.size + 1 + 1, 0, none⟩), .pointer (some ⟨W.heap.size + 1 + 1 + 1 + 1, 0, none⟩)]) := k7.cell.1
  have bxa2 : (W5.alloc (.cells #[] 3)).cell? ⟨W.heap.size + 1 + 1 + 1 + 1, 0, none⟩ = some (.func (.func 48) #[] #[.pointer (some ⟨W.heap.size, 0, none⟩), .pointer (some ⟨W.heap.size + 1 + 1 + 1, 0, none⟩), .pointer (some ⟨W.heap.size + 1, 0, none⟩), .pointer (some ⟨W.heap.size + 1 + 1, 0, none⟩), .pointer (some ⟨W.heap.size + 1 + 1 + 1 + 1, 0, none⟩)]) := (k7.below (below_alloc (Below.refl _ _) _) k7.lt).cell.1
  have bxm := k6.cell.1
  have bxm2 : (W5.alloc (.cells #[] 3)).cell? ⟨W.heap.size + 1 + 1, 0, none⟩ = some (.int .i64 many) := (k6.below (below_alloc (Below.refl _ _) _) k6.lt).cell.1
  have HS := Aside0.mk hS
  have HSZ := Aside0.mk hsz
  have HREC := Aside0.mk (fun (V : World) (hV : Below W5.heap.size W5 V) (hrow : V.heap[W5.heap.size]? = some (.cells #[] 3 (0, 0))) => (show Calls Try.prog 48 #[.slice (some ⟨W5.heap.size, 0, none⟩) 0 0, .int .i64 1, .int .i64 left, .pointer (some ⟨W.heap.size, 0, none⟩), .pointer (some ⟨W.heap.size + 1 + 1 + 1, 0, none⟩), .pointer (some ⟨W.heap.size + 1, 0, none⟩), .pointer (some ⟨W.heap.size + 1 + 1, 0, none⟩), .pointer (some ⟨W.heap.size + 1 + 1 + 1 + 1, 0, none⟩)] V (fun e W' => (∃ r, e = .returned r) ∧ J (fun k => ok k ∨ W.heap.size ≤ k) L' W' ∧ Below base w1 W') from by
    have hR : Kd.R (Kd.int .i64) 3 V base (wG W.heap.size (W.heap.size + 1 + 1 + 1) (W.heap.size + 1) (W.heap.size + 1 + 1) (W.heap.size + 1 + 1 + 1 + 1)) (.slice (some ⟨W5.heap.size, 0, none⟩) ([] : List Int).length 0) [] :=
      row_R ⟨rfl, .inr ⟨W5.heap.size, 0, #[], rfl, HS.out.le, hrow, Nat.le_refl _, by unfold maxLen; omega, rfl, rfl⟩⟩ (fun k hk => by
        have : W5.heap.size = k := by simpa [Value.ownBlock] using hk
        subst this
        exact HS.out.fresh (Nat.le_refl _))
    refine (wh_calls k g cb J W.heap.size (W.heap.size + 1 + 1 + 1) (W.heap.size + 1) (W.heap.size + 1 + 1) (W.heap.size + 1 + 1 + 1 + 1) base n most many w1 eg HCB.out k (fun k => ok k ∧ k < W.heap.size) [] 1 left Ls L' (some ⟨W5.heap.size, 0, none⟩) 0 V (HS.out.below HCB.out hV) hR (fun k hk q => by
      have : W5.heap.size = k := by simpa [Value.ownBlock] using hk
      have h1_ := q.2
      have h2_ := HSZ.out
      omega) HF.out).mono ?_
    rintro e W' ⟨he, hS', _, _, _⟩
    refine ⟨he, HCB.out.mono (fun k hk _ => ?_) hS'.j, hS'.b⟩
    rcases hk.1 with q | q
    · exact .inl q.1
    · exact .inr (by have h1_ := hV.size; have h2_ := HSZ.out; omega)))
  clear hW5 hW5' hsz hb5 k3 k4 k5 k6 k7 hjs hS
  go_region_law (first
    | ((fail_if_success (have hz_ := HPD)); go_simp; go_wp2_with (go_at_call 50; refine (HPW.out _).mono ?_; rintro e wp ⟨rfl, ⟨nd, rfl⟩⟩; have bxa3 : ((W5.drewN (1 + nd)).alloc (.cells #[] 3)).cell? ⟨W.heap.size + 1 + 1 + 1 + 1, 0, none⟩ = _ := bxa2; have bxm3 : ((W5.drewN (1 + nd)).alloc (.cells #[] 3)).cell? ⟨W.heap.size + 1 + 1, 0, none⟩ = _ := bxm2; have HPD := Aside0.mk trivial))
    | (go_simp; refine (HREC.out _ (by repeat (first | (with_reducible first | exact Below.refl W5.heap.size W5 | apply below_alloc | apply pw_below_drewN | apply below_drew1) | exact Below.refl W5.heap.size W5)) (by first | exact heap_new W5 _ | exact heap_new _ _)).mono ?_; rintro e w8 ⟨⟨r8, rfl⟩, hJ8, hb8⟩; have HJ8 := Aside0.mk hJ8; have HB8 := Aside0.mk hb8; clear hJ8 hb8))
  all_goals
    exact bodyPost_end (results_none rfl _ _ _) rfl ⟨⟨_, rfl⟩, HJ8.out, HB8.out⟩

theorem whF.mono {g g' : List Int → Int → Int → List (List Int) → Option (List (List Int))} {pw pw' : Int → Option Int} (hg : ∀ d l s L, LeO (g d l s L) (g' d l s L)) (hp : ∀ e, LeO (pw e) (pw' e)) (n most : Int) (done : List Int) (left : Int) : ∀ d l Ls, LeO (whF g pw n most done left d l Ls) (whF g' pw' n most done left d l Ls)
  | 0, _, _ => LeO.none _
  | d + 1, l, Ls => by
    unfold whF
    exact LeO.ite (LeO.bind (hp _) fun _ => LeO.bind (hp _) fun _ => LeO.ite (LeO.ite (LeO.bind (hg _ _ _ _) fun _ => whF.mono hg hp n most done left d _ _) (whF.mono hg hp n most done left d _ _)) (LeO.refl _)) (LeO.refl _)
theorem whL.mono (n most many : Int) : ∀ r k done from_ left Ls, LeO (whL k n most many r done from_ left Ls) (whL (k + 1) n most many (r + 1) done from_ left Ls)
  | 0, _, _, _, _, _ => LeO.none _
  | r + 1, k, done, from_, left, Ls => by
    rw [whL, whL]
    exact LeO.ite (LeO.ite (LeO.refl _) (whF.mono (fun d l s L => whL.mono n most many r k d l s L) (fun e => impl_power.mono _ _ _) n most done left 10 from_ Ls)) (LeO.refl _)
theorem whA.mono (k : Nat) (n most many : Int) (Ls : List (List Int)) : LeO (whA k n most many Ls) (whA (k + 1) n most many Ls) := LeO.bind (impl_power.mono _ _ _) fun _ => whL.mono n most many k k [] 1 _ Ls

def clJ (G2 : Nat) (ok : Nat → Prop) (Ls : List (List Int)) (W : World) : Prop := Bx W G2 (.int .i64 (Ls.length : Int)) 3 ∧ ok G2
set_option maxRecDepth 100000 in
set_option maxHeartbeats 8000000 in
theorem cl_call (G2 base : Nat) (hle : base ≤ G2) (ok : Nat → Prop) (Ls : List (List Int)) (l : List Int) (A : Option Addr) (c : Nat) (W : World) (hL : Ls.length ≤ 1000000) (hJ : clJ G2 ok Ls W) : Calls Try.prog 27 (#[.slice A l.length c] ++ #[.pointer (some ⟨G2, 0, none⟩)]) W fun e W' => (∃ r, e = .returned r) ∧ clJ G2 (fun k => ok k ∨ W.heap.size ≤ k ∨ some k = (Value.slice A l.length c).ownBlock) (Ls ++ [l]) W' ∧ Below base W W' ∧ (∀ k, k < W.heap.size → ¬ ok k → W'.heap[k]? = W.heap[k]?) := by
  have bx := hJ.1.cell.1
  have fx := hJ.1.cell.2
  have hw : IntKind.i64.wrap ((Ls.length : Int) + 1) = (Ls.length : Int) + 1 := by rw [i64_w]; unfold wrap64; omega
  have HJ := Aside0.mk hJ
  have HLE := Aside0.mk hle
  clear hJ hL hle
  go_enter Try.func27, Try.ntmps27
  go_wp2_with fail
  refine bodyPost_end (results_none rfl _ _ _) rfl ?_
  refine ⟨⟨_, rfl⟩, ⟨?_, .inl HJ.out.2⟩, (Below.refl _ _).setCell HLE.out _, fun k hk hn => Below.heap_setCell W ⟨G2, 0, none⟩ _ k (fun e => hn (e ▸ HJ.out.2))⟩
  rw [show ((Ls ++ [l]).length : Int) = (Ls.length : Int) + 1 by simp]
  exact HJ.out.1.set _
theorem cl_cbk (G2 base : Nat) (hle : base ≤ G2) : Cbk 27 #[.pointer (some ⟨G2, 0, none⟩)] base (clJ G2) where
  mono := fun hk h => ⟨h.1, hk _ h.2 h.1.lt⟩
  step := fun h hs _ => ⟨h.1.same (hs _ h.2 h.1.lt), h.2⟩
  call := fun ok Ls l A c W hL hJ _ _ _ => cl_call G2 base hle ok Ls l A c W hL hJ
def impl_CountLengths.f (k : Nat) (a0 a1 a2 : Int) : Option (Int × Bool) := (impl_in.f a0 0 12).bind fun b1 => if b1 = true then ((impl_in.f a1 1 8).bind fun b2 => if b2 = true then ((impl_areLetters.f a2).bind fun b3 => if b3 = true then ((whA k a0 a1 a2 []).bind fun Ls => some ((Ls.length : Int), true)) else some (0, false)) else some (0, false)) else some (0, false)
theorem impl_CountLengths.mono : ∀ a0 a1 a2 k, LeO (impl_CountLengths.f k a0 a1 a2) (impl_CountLengths.f (k + 1) a0 a1 a2) := by
  intro a0 a1 a2 k
  unfold impl_CountLengths.f
  exact LeO.bind (LeO.refl _) fun _ => LeO.ite (LeO.bind (LeO.refl _) fun _ => LeO.ite (LeO.bind (LeO.refl _) fun _ => LeO.ite (LeO.bind (whA.mono _ _ _ _ _) fun _ => LeO.refl _) (LeO.refl _)) (LeO.refl _)) (LeO.refl _)
set_option maxRecDepth 100000 in
set_option maxHeartbeats 8000000 in
theorem impl_CountLengths.calls (k : Nat) (a0 : Int) (a1 : Int) (a2 : Int) (r1 : Int) (r2 : Bool) (w : World) (h : impl_CountLengths.f k a0 a1 a2 = some (r1, r2)) :
    Calls Try.prog 8 #[.int .i64 a0, .int .i64 a1, .int .i64 a2] w fun e w' => e = .returned (.tuple #[.int .i64 r1, .bool r2]) ∧ Below w.heap.size w w' := by
  unfold impl_CountLengths.f at h
  replace h := Option.bind_eq_some_iff.mp h
  obtain ⟨b1, h1, h⟩ := h
  have H1 := Aside0.mk h1
  clear h1
  have HB := Aside0.mk (Below.refl w.heap.size w)
  cases b1 with
  | false =>
    rw [if_neg (by decide)] at h
    obtain ⟨rfl, rfl⟩ := Prod.mk.inj (Option.some.inj h)
    clear h
    go_enter Try.func8, Try.ntmps8
    go_wp2_with ((with_reducible refine gate_callee (f := 24) rfl ?_); refine goesL_ (some 10) rfl rfl Try.func24 (by kernel_rfl) rfl #[.int .i64 a0, .int .i64 0, .int .i64 12] rfl (by (try simp only [List.map_toArray, List.map_cons, List.map_nil]); first | done | rfl) ?_; (with_reducible refine (impl_in.calls a0 0 12 false _ H1.out).mono ?_); rintro e w' ⟨rfl, ⟨nd, rfl⟩⟩; refine ⟨_, rfl, ?_⟩)
    go_ret2
    exact ⟨rfl, by repeat (first | (with_reducible first | exact HB.out | apply below_alloc | apply pw_below_drewN | apply below_drew1) | exact HB.out)⟩
  | true =>
  rw [if_pos rfl] at h
  replace h := Option.bind_eq_some_iff.mp h
  obtain ⟨b2, h2, h⟩ := h
  have H2 := Aside0.mk h2
  clear h2
  cases b2 with
  | false =>
    rw [if_neg (by decide)] at h
    obtain ⟨rfl, rfl⟩ := Prod.mk.inj (Option.some.inj h)
    clear h
    go_enter Try.func8, Try.ntmps8
    go_wp2_with (first
      | ((with_reducible refine gate_callee (f := 24) rfl ?_); refine goesL_ (some 10) rfl rfl Try.func24 (by kernel_rfl) rfl #[.int .i64 a0, .int .i64 0, .int .i64 12] rfl (by (try simp only [List.map_toArray, List.map_cons, List.map_nil]); first | done | rfl) ?_; (with_reducible refine (impl_in.calls a0 0 12 true _ H1.out).mono ?_); rintro e w' ⟨rfl, ⟨nd, rfl⟩⟩; refine ⟨_, rfl, ?_⟩)
      | (go_at_call 24; (with_reducible refine (impl_in.calls a1 1 8 false _ H2.out).mono ?_); rintro e w' ⟨rfl, ⟨nd2, rfl⟩⟩))
    go_ret2
    exact ⟨rfl, by repeat (first | (with_reducible first | exact HB.out | apply below_alloc | apply pw_below_drewN | apply below_drew1) | exact HB.out)⟩
  | true =>
  rw [if_pos rfl] at h
  replace h := Option.bind_eq_some_iff.mp h
  obtain ⟨b3, h3, h⟩ := h
  have H3 := Aside0.mk h3
  clear h3
  cases b3 with
  | false =>
    rw [if_neg (by decide)] at h
    obtain ⟨rfl, rfl⟩ := Prod.mk.inj (Option.some.inj h)
    clear h
    go_enter Try.func8, Try.ntmps8
    go_wp2_with (first
      | ((with_reducible refine gate_callee (f := 24) rfl ?_); refine goesL_ (some 10) rfl rfl Try.func24 (by kernel_rfl) rfl #[.int .i64 a0, .int .i64 0, .int .i64 12] rfl (by (try simp only [List.map_toArray, List.map_cons, List.map_nil]); first | done | rfl) ?_; (with_reducible refine (impl_in.calls a0 0 12 true _ H1.out).mono ?_); rintro e w' ⟨rfl, ⟨nd, rfl⟩⟩; refine ⟨_, rfl, ?_⟩)
      | (go_at_call 24; (with_reducible refine (impl_in.calls a1 1 8 true _ H2.out).mono ?_); rintro e w' ⟨rfl, ⟨nd2, rfl⟩⟩)
      | (go_at_call 25; (with_reducible refine (impl_areLetters.calls a2 false _ H3.out).mono ?_); rintro e w' ⟨rfl, ⟨nd3, rfl⟩⟩))
    go_ret2
    exact ⟨rfl, by repeat (first | (with_reducible first | exact HB.out | apply below_alloc | apply pw_below_drewN | apply below_drew1) | exact HB.out)⟩
  | true =>
  rw [if_pos rfl] at h
  replace h := Option.bind_eq_some_iff.mp h
  obtain ⟨Ls, hL, h⟩ := h
  obtain ⟨rfl, rfl⟩ := Prod.mk.inj (Option.some.inj h)
  have HL := Aside0.mk hL
  clear h hL
  have eg := enters_of Try.func27 (by kernel_rfl) rfl
  have EG := Aside0.mk eg
  clear eg
  go_enter Try.func8, Try.ntmps8
  go_upto_region 4 with (first
      | ((with_reducible refine gate_callee (f := 24) rfl ?_); refine goesL_ (some 10) rfl rfl Try.func24 (by kernel_rfl) rfl #[.int .i64 a0, .int .i64 0, .int .i64 12] rfl (by (try simp only [List.map_toArray, List.map_cons, List.map_nil]); first | done | rfl) ?_; (with_reducible refine (impl_in.calls a0 0 12 true _ H1.out).mono ?_); rintro e w' ⟨rfl, ⟨nd, rfl⟩⟩; refine ⟨_, rfl, ?_⟩)
      | (go_at_call 24; (with_reducible refine (impl_in.calls a1 1 8 true _ H2.out).mono ?_); rintro e w' ⟨rfl, ⟨nd2, rfl⟩⟩)
      | (go_at_call 25; (with_reducible refine (impl_areLetters.calls a2 true _ H3.out).mono ?_); rintro e w' ⟨rfl, ⟨nd3, rfl⟩⟩; have BX0 := (show Bx ((w.drewN (nd + nd2 + nd3)).alloc (.cells #[.int .i64 0] 3)) w.heap.size (.int .i64 0) 3 from heap_new (w.drewN (nd + nd2 + nd3)) _); have bxo := BX0.cell.1; have fxo := BX0.cell.2; clear BX0))
  obtain ⟨W1, hW1⟩ : ∃ W1, (((w.drewN (nd + nd2 + nd3)).alloc (.cells #[.int .i64 0] 3)).setCell ⟨w.heap.size, 0, none⟩ (.int .i64 0)) = W1 := ⟨_, rfl⟩
  have k2 : Bx W1 w.heap.size (.int .i64 0) 3 := by
    rw [← hW1]
    exact (show Bx ((w.drewN (nd + nd2 + nd3)).alloc (.cells #[.int .i64 0] 3)) w.heap.size (.int .i64 0) 3 from heap_new (w.drewN (nd + nd2 + nd3)) _).set _
  have hb1 : Below w.heap.size w W1 := by
    rw [← hW1]
    exact (below_alloc (pw_below_drewN HB.out _) _).setCell (Nat.le_refl _) _
  have K2 := Aside0.mk k2
  have HB1 := Aside0.mk hb1
  rw [hW1]
  clear hW1 k2 hb1 bxo fxo
  go_wp2_with (go_at_call 26; refine (wholes_calls k 27 #[.pointer (some ⟨w.heap.size, 0, none⟩)] (clJ w.heap.size) w.heap.size a0 a1 a2 w EG.out (cl_cbk w.heap.size w.heap.size (Nat.le_refl _)) (fun k => k = w.heap.size) [] Ls W1 ⟨K2.out, rfl⟩ HB1.out HB1.out.size HL.out).mono ?_; rintro e w8 ⟨⟨r8, rfl⟩, hJ8, hb8⟩; have HB8 := Aside0.mk hb8; have bxo := hJ8.1.cell.1; clear hJ8 hb8)
  go_ret2
  exact ⟨rfl, HB8.out⟩

end Go.Proofs.Ytidjjcgfdkmefaa.X

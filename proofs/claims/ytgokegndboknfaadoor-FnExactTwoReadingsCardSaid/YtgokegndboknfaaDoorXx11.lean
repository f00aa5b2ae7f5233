-- WRITTEN by xprint.py of this repo: the kit's print.py with contracts given by hand (given.py). Lean checks it.
import Derived.Test.YtgokegndboknfaaDoorXx0
import Derived.Test.YtgokegndboknfaaDoorXx8
import Derived.Test.YtgokegndboknfaaDoorXx9
import Derived.Test.YtgokegndboknfaaDoorXx10
namespace Go.Proofs.YtgokegndboknfaaDoor.X
open Go.RowKit Go.Proofs.YtgokegndboknfaaDoorW.PrintWords Go.Proofs.YtgokegndboknfaaDoorW.PrintLast Go.Proofs.YtgokegndboknfaaDoorW.PrintMore
attribute [local go_sem] max2_int min2_int max_two min_two max_three min_three max_four min_four   -- for this text's walks alone
set_option linter.unusedVariables false
set_option linter.unusedSimpArgs false

/-! ### GIVEN impl_shortestDouble: function 23 -/
theorem heap_new (w : World) (o : Obj) : (w.alloc o).heap[w.heap.size]? = some o := by
  have h : (w.alloc o).heap = w.heap.push o := rfl
  rw [h, Array.getElem?_push, if_pos rfl]
/-- A value that has been put into a box of its own. -/
theorem box_new (w : World) (v : Value) (e : Nat) : (w.alloc (.cells #[v] e)).cell? ⟨w.heap.size, 0, none⟩ = some v := by
  unfold World.cell?
  rw [show (w.alloc (.cells #[v] e)).heap[(⟨w.heap.size, 0, none⟩ : Addr).block]? = some (.cells #[v] e) from heap_new w _]
  rfl

def Bq (W : World) (G : Nat) (v : Value) (t : Nat) : Prop := W.heap[G]? = some (.cells #[v] t (0, 0))
theorem Bq.cell {W : World} {G t : Nat} {v : Value} (h : Bq W G v t) : W.cell? ⟨G, 0, none⟩ = some v ∧ W.frozen? ⟨G, 0, none⟩ = false := by
  have h' : W.heap[G]? = some (.cells #[v] t (0, 0)) := h
  exact ⟨by simp [World.cell?, h'], by simp [World.frozen?, h']⟩
theorem Bq.lt {W : World} {G t : Nat} {v : Value} (h : Bq W G v t) : G < W.heap.size := (Array.getElem?_eq_some_iff.1 h).1
theorem Bq.below {W W' : World} {G n t : Nat} {v : Value} (h : Bq W G v t) (hb : Below n W W') (hG : G < n) : Bq W' G v t := (hb.block G hG).trans h
theorem Bq.set {W : World} {G t : Nat} {v : Value} (h : Bq W G v t) (v' : Value) : Bq (W.setCell ⟨G, 0, none⟩ v') G v' t := by
  have h' : W.heap[G]? = some (.cells #[v] t (0, 0)) := h
  show (W.setCell ⟨G, 0, none⟩ v').heap[G]? = _
  simp [World.setCell, Array.getElem?_modify, h']
theorem Bq.other {W : World} {G G' t : Nat} {v : Value} (h : Bq W G v t) (hne : G ≠ G') (v' : Value) : Bq (W.setCell ⟨G', 0, none⟩ v') G v t := (Below.heap_setCell W ⟨G', 0, none⟩ v' G hne).trans h
theorem Bq.grown {W W' : World} {G t : Nat} {v : Value} {row : Option Nat} (h : Bq W G v t) (hg : W.grownBy W' row) (hne : some G ≠ row) : Bq W' G v t := (hg.block G h.lt hne).trans h
theorem Bq.same {W W' : World} {G t : Nat} {v : Value} (h : Bq W G v t) (e : W'.heap[G]? = W.heap[G]?) : Bq W' G v t := e.trans h

section
open Go.MapKept Go.ChangeMaps
/-- What a map from texts holds at a key. -/
def mget {β : Type} (M : List (ByteArray × β)) (k : ByteArray) : Option β := (M.find? fun p => decide (p.1 = k)).map Prod.snd
def mput {β : Type} (M : List (ByteArray × β)) (k : ByteArray) (v : β) : List (ByteArray × β) := if (mget M k).isSome then M.map (fun p => if p.1 = k then (p.1, v) else p) else M ++ [(k, v)]
/-- Block b of W is a map from texts: its entries in the order in which they came. -/
def Mp {β : Type} (V : β → Value) (W : World) (b : Nat) (M : List (ByteArray × β)) : Prop :=
  ∃ es clock, W.heap[b]? = some (.map es clock) ∧ Stamped es clock ∧ es.toList.map (fun e => (e.key, e.val)) = M.map (fun p => (Value.string p.1, V p.2))
section
variable {β : Type} {V : β → Value} {W W' : World} {b r : Nat} {M S : List (ByteArray × β)} {P : Program}
theorem Mp.lt (h : Mp V W b M) : b < W.heap.size := by
  obtain ⟨es, clock, hb, _⟩ := h
  exact (Array.getElem?_eq_some_iff.1 hb).1
theorem Mp.same (h : Mp V W b M) (e : W'.heap[b]? = W.heap[b]?) : Mp V W' b M := by
  obtain ⟨es, clock, hb, hs, hm⟩ := h
  exact ⟨es, clock, e.trans hb, hs, hm⟩
theorem Mp.below (h : Mp V W b M) (hB : Below W.heap.size W W') : Mp V W' b M := h.same (hB.block b h.lt)
theorem mp_keys {es : Array MapEntry} (hm : es.toList.map (fun e => (e.key, e.val)) = M.map (fun p => (Value.string p.1, V p.2))) : ∀ x ∈ es.toList, ∃ p ∈ M, x.key = .string p.1 ∧ x.val = V p.2 := by
  intro x hx
  have : (x.key, x.val) ∈ M.map (fun p => (Value.string p.1, V p.2)) := by rw [← hm]; exact List.mem_map.2 ⟨x, hx, rfl⟩
  obtain ⟨p, hp, e⟩ := List.mem_map.1 this
  exact ⟨p, hp, (Prod.mk.inj e).1.symm, (Prod.mk.inj e).2.symm⟩
theorem mp_isKey {es : Array MapEntry} (hm : es.toList.map (fun e => (e.key, e.val)) = M.map (fun p => (Value.string p.1, V p.2))) : ∀ x ∈ es.toList, IsKey .string x.key := by
  intro x hx
  obtain ⟨p, _, e, _⟩ := mp_keys hm x hx
  rw [e]; simp [IsKey]
theorem mp_at {es : Array MapEntry} (hm : es.toList.map (fun e => (e.key, e.val)) = M.map (fun p => (Value.string p.1, V p.2))) (j : Nat) : (es.toList[j]?).map (fun e => (e.key, e.val)) = (M[j]?).map (fun p => (Value.string p.1, V p.2)) := by
  rw [← List.getElem?_map, ← List.getElem?_map, hm]
theorem Mp.nodup (h : Mp V W b M) : (M.map Prod.fst).Nodup := by
  obtain ⟨es, clock, hb, hs, hm⟩ := h
  have hp := ((stamped_iff es clock).1 hs).2.2
  have h1 : (es.toList.map (fun e => (e.key, e.val))).Pairwise (fun x y => x.1 ≠ y.1) := by rw [List.pairwise_map]; exact hp
  rw [hm, List.pairwise_map] at h1
  rw [List.Nodup, List.pairwise_map]
  exact h1.imp (fun h e => h (by rw [e]))
theorem mget_none {k : ByteArray} (h : ∀ p ∈ M, p.1 ≠ k) : mget M k = none := by
  unfold mget
  rw [List.find?_eq_none.2 (fun p hp => by simpa using h p hp)]; rfl
theorem mget_some {k : ByteArray} {v : β} (h : mget M k = some v) : (k, v) ∈ M := by
  unfold mget at h
  cases hf : M.find? (fun p => decide (p.1 = k)) with
  | none => rw [hf] at h; cases h
  | some p =>
    rw [hf] at h
    have h1 := List.mem_of_find?_eq_some hf
    have h2 := List.find?_some hf
    simp only [decide_eq_true_eq] at h2
    have h3 := Option.some.inj h
    subst h2; subst h3; exact h1
theorem mget_mem (hn : (M.map Prod.fst).Nodup) {k : ByteArray} {v : β} (h : (k, v) ∈ M) : mget M k = some v := by
  induction M with
  | nil => cases h
  | cons p M ih =>
    rw [List.map_cons, List.nodup_cons] at hn
    unfold mget
    by_cases e : p.1 = k
    · rw [List.find?_cons_of_pos (by simpa using e)]
      rcases List.mem_cons.1 h with rfl | h
      · rfl
      · exact absurd (List.mem_map.2 ⟨_, h, rfl⟩) (e ▸ hn.1)
    · rw [List.find?_cons_of_neg (by simpa using e)]
      rcases List.mem_cons.1 h with rfl | h
      · exact absurd rfl e
      · exact ih hn.2 h
theorem Mp.find (h : Mp V W b M) (k : ByteArray) : ∃ es clock, W.heap[b]? = some (.map es clock) ∧ Stamped es clock ∧ es.toList.map (fun e => (e.key, e.val)) = M.map (fun p => (Value.string p.1, V p.2)) ∧
    ((Instr.findNow .string (.string k) es.toList 0 = some none ∧ mget M k = none ∧ ∀ x ∈ es.toList, x.key ≠ .string k) ∨ ∃ j v, Instr.findNow .string (.string k) es.toList 0 = some (some (j, V v)) ∧ mget M k = some v ∧ M[j]? = some (k, v) ∧ ∃ e, es.toList[j]? = some e ∧ e.key = .string k) := by
  have hn := h.nodup
  obtain ⟨es, clock, hb, hs, hm⟩ := h
  refine ⟨es, clock, hb, hs, hm, ?_⟩
  have hk : IsKey .string (Value.string k) := by simp [IsKey]
  rcases findNow_spec hk es.toList 0 (mp_isKey hm) with ⟨h1, h2⟩ | ⟨j, e, h1, h2, h3⟩
  · refine .inl ⟨h1, mget_none ?_, h2⟩
    intro p hp e
    have : (Value.string p.1, V p.2) ∈ es.toList.map (fun e => (e.key, e.val)) := by rw [hm]; exact List.mem_map.2 ⟨p, hp, rfl⟩
    obtain ⟨x, hx, ex⟩ := List.mem_map.1 this
    exact h2 x hx ((Prod.mk.inj ex).1.trans (by rw [e]))
  · have h4 := mp_at hm j
    rw [h2] at h4
    obtain ⟨p, hp, ep⟩ := Option.map_eq_some_iff.1 h4.symm
    have e1 : p.1 = k := by have := (Prod.mk.inj ep).1; rw [h3] at this; exact Value.string.inj this
    have e2 : p = (k, p.2) := by rw [← e1]
    have hmem : (k, p.2) ∈ M := by rw [← e2]; exact List.mem_of_getElem? hp
    refine .inr ⟨j, p.2, ?_, mget_mem hn hmem, by rw [hp, ← e2], e, h2, h3⟩
    rw [h1, ← (Prod.mk.inj ep).2, Nat.zero_add]
/-- m[k], without ok. -/
theorem Mp.look (h : Mp V W b M) (k : ByteArray) {t kt et : TypeId} {z : Value} (ht : P.underlying t = some (.map kt et)) (hk : P.underlying kt = some .string) (hz : (zeroValue et).run P W = .ok z W) :
    (Instr.lookup t (.map (some b)) (.string k) false).run P W = .ok (((mget M k).map V).getD z) W := by
  obtain ⟨es, clock, hb, _, _, h⟩ := h.find k
  have hK : IsKey .string (Value.string k) := by simp [IsKey]
  rcases h with ⟨h1, h2, _⟩ | ⟨j, v, h1, h2, _⟩
  · simp [Instr.lookup, run_underlying ht, Result.andThen, MapKept.run_getObj_map hb, run_checkKey hk hK, run_findKey hk h1, hz, h2]
  · simp [Instr.lookup, run_underlying ht, Result.andThen, MapKept.run_getObj_map hb, run_checkKey hk hK, run_findKey hk h1, h2]
/-- v, ok := m[k]. -/
theorem Mp.lookOk (h : Mp V W b M) (k : ByteArray) {t kt et : TypeId} {z : Value} (ht : P.underlying t = some (.map kt et)) (hk : P.underlying kt = some .string) (hz : (zeroValue et).run P W = .ok z W) :
    (Instr.lookup t (.map (some b)) (.string k) true).run P W = .ok (.tuple #[((mget M k).map V).getD z, .bool (mget M k).isSome]) W := by
  obtain ⟨es, clock, hb, _, _, h⟩ := h.find k
  have hK : IsKey .string (Value.string k) := by simp [IsKey]
  rcases h with ⟨h1, h2, _⟩ | ⟨j, v, h1, h2, _⟩
  · simp [Instr.lookup, run_underlying ht, Result.andThen, MapKept.run_getObj_map hb, run_checkKey hk hK, run_findKey hk h1, hz, h2]
  · simp [Instr.lookup, run_underlying ht, Result.andThen, MapKept.run_getObj_map hb, run_checkKey hk hK, run_findKey hk h1, h2]
theorem mput_new {k : ByteArray} {v : β} (h : mget M k = none) : mput M k v = M ++ [(k, v)] := by unfold mput; rw [h]; rfl
theorem mput_old {k : ByteArray} {v u : β} (h : mget M k = some u) : mput M k v = M.map (fun p => if p.1 = k then (p.1, v) else p) := by unfold mput; rw [h]; rfl
/-- m[k] = v. -/
theorem Mp.put (h : Mp V W b M) (k : ByteArray) (v : β) {t kt et : TypeId} (ht : P.underlying t = some (.map kt et)) (hk : P.underlying kt = some .string) :
    ∃ o, (Instr.mapUpdate t (.map (some b)) (.string k) (V v)).run P W = .ok () (setBlock W b o) ∧ Mp V (setBlock W b o) b (mput M k v) := by
  have hnd := h.nodup
  obtain ⟨es, clock, hb, hs, hm, h⟩ := h.find k
  have hK : IsKey .string (Value.string k) := by simp [IsKey]
  rcases h with ⟨h1, h2, h3⟩ | ⟨j, u, h1, h2, h3, e, h4, h5⟩
  · refine ⟨.map (es.push { key := .string k, val := V v, born := clock }) (clock + 1), ?_, ?_⟩
    · simp [Instr.mapUpdate, run_underlying ht, Result.andThen, MapKept.run_getObj_map hb, run_checkKey hk hK, run_findKey hk h1, run_setObj_map _ hb, setBlock]
    · refine ⟨_, _, heap_setBlock_same hb _, stamped_push hs h3, ?_⟩
      rw [mput_new h2, Array.toList_push, List.map_append, hm, List.map_append]; rfl
  · have hje : es[j]? = some e := by rw [← Array.getElem?_toList]; exact h4
    refine ⟨.map (es.modify j fun x => { x with key := .string k, val := V v }) clock, ?_, ?_⟩
    · simp [Instr.mapUpdate, run_underlying ht, Result.andThen, MapKept.run_getObj_map hb, run_checkKey hk hK, run_findKey hk h1, run_setObj_map _ hb, setBlock, hje, h5, run_keyThatStays hK]
    · have hw : ∀ x ∈ es.toList, es[j]? = some x → ({ x with key := Value.string k, val := V v } : MapEntry).key = x.key := by
        intro x _ hx
        rw [hje] at hx
        cases hx
        exact h5.symm
      refine ⟨_, _, heap_setBlock_same hb _, stamped_modify hs j _ (fun _ _ => rfl) hw, ?_⟩
      rw [mput_old h2]
      apply List.ext_getElem?
      intro i
      rw [Array.toList_modify, List.getElem?_map, List.getElem?_modify, List.getElem?_map, List.getElem?_map]
      have hi := mp_at hm i
      by_cases e1 : j = i
      · subst e1
        rw [h4, h3]
        simp
      · simp only [e1, if_false]
        show Option.map _ (id <$> es.toList[i]?) = _
        rw [id_map, Option.map_map]
        cases hM : M[i]? with
        | none => rw [hM] at hi; simpa using hi
        | some p =>
          rw [hM] at hi
          have hne : p.1 ≠ k := by
            intro q
            obtain ⟨hil, hie⟩ := List.getElem?_eq_some_iff.1 hM
            obtain ⟨hjl, hje'⟩ := List.getElem?_eq_some_iff.1 h3
            rw [List.Nodup, List.pairwise_map, List.pairwise_iff_getElem] at hnd
            rcases Nat.lt_or_ge i j with q1 | q1
            · exact hnd i j hil hjl q1 (by rw [hie, hje', q])
            · exact hnd j i hjl hil (by omega) (by rw [hie, hje', q])
          simp only [Option.map_some, Function.comp_apply, hne, if_false] at hi ⊢
          exact hi
/-- An iterator over a map that stands still: what it has handed out. -/
def It {β : Type} (V : β → Value) (W : World) (r b : Nat) (M S : List (ByteArray × β)) : Prop :=
  ∃ es clock seen, W.heap[b]? = some (.map es clock) ∧ Stamped es clock ∧ es.toList.map (fun e => (e.key, e.val)) = M.map (fun p => (Value.string p.1, V p.2)) ∧ W.heap[r]? = some (.mapIter (some b) clock seen clock) ∧
    S.Nodup ∧ (∀ p ∈ S, p ∈ M) ∧ ∀ (j : Nat) (e : MapEntry) (p : ByteArray × β), es.toList[j]? = some e → M[j]? = some p → (p ∈ S ↔ e.born ∈ seen.toList)
theorem It.same (h : It V W r b M S) (eb : W'.heap[b]? = W.heap[b]?) (er : W'.heap[r]? = W.heap[r]?) : It V W' r b M S := by
  obtain ⟨es, clock, seen, hb, hs, hm, hr, hi⟩ := h
  exact ⟨es, clock, seen, eb.trans hb, hs, hm, er.trans hr, hi⟩
theorem It.lt (h : It V W r b M S) : b < W.heap.size ∧ r < W.heap.size := by
  obtain ⟨es, clock, seen, hb, hs, hm, hr, hi⟩ := h
  exact ⟨(Array.getElem?_eq_some_iff.1 hb).1, (Array.getElem?_eq_some_iff.1 hr).1⟩
theorem It.sub (h : It V W r b M S) : ∀ p ∈ S, p ∈ M := by
  obtain ⟨es, clock, seen, hb, hs, hm, hr, hn, hsub, hi⟩ := h
  exact hsub
theorem It.below (h : It V W r b M S) (hB : Below W.heap.size W W') : It V W' r b M S := h.same (hB.block b h.lt.1) (hB.block r h.lt.2)
theorem mp_nodup_len {α : Type} : ∀ (S M : List α), S.Nodup → (∀ p ∈ S, p ∈ M) → S.length ≤ M.length
  | [], _, _, _ => Nat.zero_le _
  | x :: S, M, hn, hs => by
    obtain ⟨a, b, rfl⟩ := List.append_of_mem (hs x List.mem_cons_self)
    have h := mp_nodup_len S (a ++ b) (List.nodup_cons.1 hn).2 (fun p hp => by
      have h1 := hs p (List.mem_cons_of_mem _ hp)
      have h2 : p ≠ x := fun e => (List.nodup_cons.1 hn).1 (e ▸ hp)
      rcases List.mem_append.1 h1 with h1 | h1
      · exact List.mem_append_left _ h1
      · exact List.mem_append_right _ ((List.mem_cons.1 h1).resolve_left h2))
    rw [List.length_append] at h ⊢
    rw [List.length_cons, List.length_cons]
    omega
/-- The iterator is made. -/
theorem Mp.range (h : Mp V W b M) {t kt et : TypeId} (ht : P.underlying t = some (.map kt et)) :
    ∃ o, (Instr.range t (.map (some b))).run P W = .ok (.pointer (some ⟨W.heap.size, 0, none⟩)) (W.alloc o) ∧ It V (W.alloc o) W.heap.size b M [] := by
  have hl := h.lt
  obtain ⟨es, clock, hb, hs, hm⟩ := h
  refine ⟨_, run_range_map W t kt et b es clock ht hb, es, clock, #[], (Below.heap_alloc W _ b hl).trans hb, hs, hm, heap_alloc_new W _, List.nodup_nil, by simp, ?_⟩
  intro j e p _ _
  simp
/-- The iterator's step. -/
theorem It.next (h : It V W r b M S) (ty : TypeId) :
    ((Instr.next (.pointer (some ⟨r, 0, none⟩)) false ty).run P W = .ok (.tuple #[.bool false]) W ∧ ∀ p ∈ M, p ∈ S) ∨
    ∃ p ∈ M, p ∉ S ∧ S.length < M.length ∧ ∃ W1, (Instr.next (.pointer (some ⟨r, 0, none⟩)) false ty).run P W = .ok (.tuple #[.bool true, .string p.1, V p.2]) W1 ∧ It V W1 r b M (p :: S) ∧
      (Instr.entry (.pointer (some ⟨r, 0, none⟩))).run P W1 = .ok (.tuple #[.string p.1, V p.2]) W1 ∧ (∀ k, k ≠ r → W1.heap[k]? = W.heap[k]?) ∧ W1.heap.size = W.heap.size ∧ W1.os = W.os ∧ W1.tape = W.tape ∧ W1.output = W.output := by
  have hmp : Mp V W b M := by obtain ⟨es, clock, seen, hb, hs, hm, _⟩ := h; exact ⟨es, clock, hb, hs, hm⟩
  have hndM := hmp.nodup
  obtain ⟨es, clock, seen, hb, hs, hm, hr, hn, hsub, hi⟩ := h
  obtain ⟨s1, s2, s3⟩ := (stamped_iff es clock).1 hs
  have hne : r ≠ b := by
    intro e
    rw [e, hb] at hr
    cases hr
  rcases run_next_at (P := P) W ty r b clock clock seen es clock hr hb s1 (Nat.le_refl _) with ⟨h0, hrun⟩ | ⟨e, he, w1, hw1, hrun⟩
  · refine .inl ⟨hrun, fun p hp => ?_⟩
    obtain ⟨j, hj⟩ := List.mem_iff_getElem?.1 hp
    have ha := mp_at hm j
    rw [hj] at ha
    obtain ⟨e, hje, _⟩ := Option.map_eq_some_iff.1 ha
    refine (hi j e p hje hj).2 ?_
    have hmem : e ∈ es.toList := List.mem_of_getElem? hje
    have : e ∉ leftOf es seen := by
      rw [Array.eq_empty_of_size_eq_zero h0]; simp
    unfold leftOf at this
    rw [Array.mem_filter] at this
    simp only [Array.mem_toList_iff] at hmem ⊢
    simpa [hmem] using this
  · right
    unfold leftOf at he
    rw [Array.mem_toList_iff, Array.mem_filter] at he
    obtain ⟨hmem, hns⟩ := he
    have hmem' : e ∈ es.toList := by simpa using hmem
    obtain ⟨j, hje⟩ := List.mem_iff_getElem?.1 hmem'
    have ha := mp_at hm j
    rw [hje] at ha
    obtain ⟨p, hp, ep⟩ := Option.map_eq_some_iff.1 ha.symm
    have e1 : e.key = .string p.1 := (Prod.mk.inj ep).1.symm
    have e2 : e.val = V p.2 := (Prod.mk.inj ep).2.symm
    have hpM : p ∈ M := List.mem_of_getElem? hp
    have hpS : p ∉ S := fun q => by
      have := (hi j e p hje hp).1 q
      simp at hns
      exact hns (by simpa using this)
    have hlt : S.length < M.length := by
      have := mp_nodup_len (p :: S) M (List.nodup_cons.2 ⟨hpS, hn⟩) (fun q hq => by
        rcases List.mem_cons.1 hq with rfl | hq
        · exact hpM
        · exact hsub q hq)
      rw [List.length_cons] at this; omega
    have hb1 : w1.heap[b]? = some (.map es clock) := by rcases hw1 with rfl | rfl <;> exact hb
    have hr1 : w1.heap[r]? = some (.mapIter (some b) clock seen clock) := by rcases hw1 with rfl | rfl <;> exact hr
    have hh : w1.heap = W.heap := by rcases hw1 with rfl | rfl <;> rfl
    have hrl : r < w1.heap.size := (Array.getElem?_eq_some_iff.1 hr1).1
    have hoth : ∀ k, k ≠ r → (setBlock w1 r (.mapIter (some b) clock (seen.push e.born) clock)).heap[k]? = W.heap[k]? := fun k hk => by
      rw [← hh]; simp [setBlock, Ne.symm hk]
    have hown : (setBlock w1 r (.mapIter (some b) clock (seen.push e.born) clock)).heap[r]? = some (.mapIter (some b) clock (seen.push e.born) clock) := by
      simp [setBlock, hrl]
    have hb2 := (hoth b (Ne.symm hne)).trans hb
    refine ⟨p, hpM, hpS, hlt, _, by rw [← e1, ← e2]; exact hrun, ⟨es, clock, seen.push e.born, hb2, hs, hm, hown, List.nodup_cons.2 ⟨hpS, hn⟩, fun q hq => ?_, ?_⟩, ?_, hoth, by simp [setBlock, hh], by rcases hw1 with rfl | rfl <;> rfl, by rcases hw1 with rfl | rfl <;> rfl, by rcases hw1 with rfl | rfl <;> rfl⟩
    · rcases List.mem_cons.1 hq with rfl | hq
      · exact hpM
      · exact hsub q hq
    · intro i e' p' hie hip
      have h1 := hi i e' p' hie hip
      obtain ⟨hil, hie'⟩ := List.getElem?_eq_some_iff.1 hie
      obtain ⟨hjl, hje'⟩ := List.getElem?_eq_some_iff.1 hje
      obtain ⟨hil2, hip'⟩ := List.getElem?_eq_some_iff.1 hip
      obtain ⟨hjl2, hjp'⟩ := List.getElem?_eq_some_iff.1 hp
      rw [List.mem_cons, Array.toList_push, List.mem_append, List.mem_singleton, h1]
      by_cases q : i = j
      · subst q
        have : p' = p := by rw [← hip', ← hjp']
        have h2 : e' = e := by rw [← hie', ← hje']
        simp [this, h2]
      · have n1 : p' ≠ p := by
          intro e0
          rw [List.Nodup, List.pairwise_map, List.pairwise_iff_getElem] at hndM
          rcases Nat.lt_or_ge i j with q1 | q1
          · exact hndM i j hil2 hjl2 q1 (by rw [hip', hjp', e0])
          · exact hndM j i hjl2 hil2 (by omega) (by rw [hip', hjp', e0])
        have n2 : e'.born ≠ e.born := by
          intro e0
          rw [List.Nodup, List.pairwise_map, List.pairwise_iff_getElem] at s2
          rcases Nat.lt_or_ge i j with q1 | q1
          · exact s2 i j hil hjl q1 (by rw [hie', hje', e0])
          · exact s2 j i hjl hil (by omega) (by rw [hie', hje', e0])
        simp [n1, n2]
    · rw [← e1, ← e2]
      exact run_entry_at _ r b clock seen es clock e hown hb2 hmem' s2
end
end

def cf1 (x y : List UInt8) : Int := if (x.length : Int) < (y.length : Int) then -1 else if (x.length : Int) > (y.length : Int) then 1 else 0
def cfW (x y : List UInt8) : Int := if cf1 x y = 0 then Lib.compareBytes x y else cf1 x y
theorem cmp1 (x y : List UInt8) : cmp_Compare_int.f (x.length : Int) (y.length : Int) = some (cf1 x y) := by
  unfold cmp_Compare_int.f cmp_isNaN_int.f cf1
  simp only [bne_self_eq_false, Option.bind_some]
  rw [if_neg (by decide), if_neg (by decide)]
  split
  · rfl
  · split <;> rfl
theorem cmpOr2 (a b : Int) : cmp_Or_int.f 5 [a, b] = some (if a = 0 then b else a) := by
  have w1 : wrap64 (0 + 1) = 1 := by unfold wrap64; omega
  have w2 : wrap64 (1 + 1) = 2 := by unfold wrap64; omega
  have r0 : rd [a, b] 0 = a := rfl
  have r1 : rd [a, b] 1 = b := rfl
  have hl : ((([a, b] : List Int).length : Nat) : Int) = 2 := rfl
  unfold cmp_Or_int.f
  rw [hl]
  rw [cmp_Or_int.l0, if_pos (by decide), if_pos (by decide), hl, if_pos (by decide), r0, w1]
  by_cases h : a = 0
  · rw [if_pos h, if_pos h, cmp_Or_int.l0, if_pos (by decide), if_pos (by decide), hl, if_pos (by decide), r1, w2]
    by_cases h2 : b = 0
    · rw [if_pos h2, cmp_Or_int.l0, if_neg (by decide), h2]
    · rw [if_neg h2]
  · rw [if_neg h, if_neg h]
theorem cmpB_lt : ∀ x y : List UInt8, Lib.compareBytes x y < 0 ↔ x < y
  | [], [] => by simp [Lib.compareBytes]
  | [], _ :: _ => by simp [Lib.compareBytes]
  | _ :: _, [] => by simp [Lib.compareBytes]
  | a :: x, b :: y => by
    rw [Lib.compareBytes, List.cons_lt_cons_iff]
    by_cases h1 : a < b
    · simp [h1]
    · by_cases h2 : b < a
      · have h3 : ¬ a = b := by rintro rfl; exact h1 h2
        simp [h1, h2, h3]
      · have h3 : a = b := by
          rw [UInt8.lt_iff_toNat_lt] at h1 h2
          exact UInt8.toNat_inj.1 (by omega)
        simp [h3, cmpB_lt x y]
theorem cfW_lt (x y : List UInt8) : cfW x y < 0 ↔ x.length < y.length ∨ (x.length = y.length ∧ x < y) := by
  unfold cfW cf1
  by_cases h1 : x.length < y.length
  · rw [if_pos (show (x.length : Int) < y.length by omega)]
    simp [h1]
  · rw [if_neg (show ¬ (x.length : Int) < y.length by omega)]
    by_cases h2 : y.length < x.length
    · rw [if_pos (show (x.length : Int) > y.length by omega)]
      simp
      omega
    · rw [if_neg (show ¬ (x.length : Int) > y.length by omega), if_pos rfl, cmpB_lt]
      have : x.length = y.length := by omega
      simp [this]
theorem swoW : Go.Sort.SWO (ltOf cfW) where
  irrefl x := by
    unfold ltOf
    rw [decide_eq_false_iff_not, cfW_lt]
    rintro (h | ⟨_, h⟩)
    · omega
    · exact List.lt_irrefl x h
  trans x y z h1 h2 := by
    unfold ltOf at *
    rw [decide_eq_true_eq, cfW_lt] at *
    rcases h1 with h1 | ⟨e1, h1⟩ <;> rcases h2 with h2 | ⟨e2, h2⟩
    · left; omega
    · left; omega
    · left; omega
    · right; exact ⟨by omega, List.lt_trans h1 h2⟩
  ntrans x y z h1 h2 := by
    unfold ltOf at *
    rw [decide_eq_false_iff_not, cfW_lt] at *
    rintro (h | ⟨e, h⟩)
    · apply h1; by_cases k : x.length < y.length
      · exact .inl k
      · exact absurd (.inl (by omega)) h2
    · by_cases k : x.length = y.length
      · have e2 : y.length = z.length := by omega
        have n1 : ¬ x < y := fun q => h1 (.inr ⟨k, q⟩)
        have n2 : ¬ y < z := fun q => h2 (.inr ⟨e2, q⟩)
        exact (List.not_lt.1 n1 |> fun q1 => List.not_lt.1 n2 |> fun q2 => List.not_lt.2 (List.le_trans q2 q1)) h
      · by_cases k2 : x.length < y.length
        · exact h1 (.inl k2)
        · exact h2 (.inl (by omega))
theorem totW (x y : List UInt8) (h1 : ltOf cfW x y = false) (h2 : ltOf cfW y x = false) : x = y := by
  unfold ltOf at *
  rw [decide_eq_false_iff_not, cfW_lt] at *
  have e : x.length = y.length := by
    by_cases k : x.length < y.length
    · exact absurd (.inl k) h1
    · by_cases k2 : y.length < x.length
      · exact absurd (.inl k2) h2
      · omega
  have n1 : ¬ x < y := fun q => h1 (.inr ⟨e, q⟩)
  have n2 : ¬ y < x := fun q => h2 (.inr ⟨e.symm, q⟩)
  exact List.le_antisymm (List.not_lt.1 n2) (List.not_lt.1 n1)

/-- The order of words: by their lengths, then as texts. -/
def wl (a b : ByteArray) : Bool := ltOf cfW a.data.toList b.data.toList
theorem cw_eq (a b : ByteArray) : impl_compareWords.f 5 a b = some (cfW a.data.toList b.data.toList) := by
  unfold impl_compareWords.f strings_Compare.f
  have h := cmp1 a.data.toList b.data.toList
  rw [show ((a.size : Nat) : Int) = (a.data.toList.length : Int) from rfl, show ((b.size : Nat) : Int) = (b.data.toList.length : Int) from rfl, h, Option.bind_some, Option.bind_some, cmpOr2]
  rfl
theorem wl_true {a b : ByteArray} (h : wl a b = true) : cfW a.data.toList b.data.toList < 0 := by simpa [wl, ltOf] using h
theorem wl_false {a b : ByteArray} (h : wl a b = false) : ¬ cfW a.data.toList b.data.toList < 0 := by simpa [wl, ltOf] using h
/-- The first word that is read so far, with what one reading has more: put, if it is less than what was there. -/
def rch (M : List (ByteArray × ByteArray)) (rest word : ByteArray) : List (ByteArray × ByteArray) :=
  if word.size ≤ 60 then (match mget M rest with | none => mput M rest word | some old => if wl word old = true then mput M rest word else M) else M
section
open Go.MapKept Go.ChangeMaps
theorem gb_below {W W' : World} {row : Option Nat} (h : Below W.heap.size W W') : W.grownBy W' row := ⟨h.os, h.tape, h.output, h.size, fun k hk _ => h.block k hk⟩
theorem grown_set (W : World) (b : Nat) (o : Obj) : W.grownBy (setBlock W b o) (some b) :=
  ⟨rfl, rfl, rfl, by simp [setBlock], fun k _ hk => by simp [setBlock, Ne.symm (show k ≠ b from fun e => hk (by rw [e]))]⟩
end
set_option maxRecDepth 100000 in
set_option maxHeartbeats 4000000 in
theorem reach_calls (M : List (ByteArray × ByteArray)) (rest word : ByteArray) (L X : Nat) (W : World) (hM : Mp Value.string W L M) (hx : Bq W X (.map (some L)) 54) :
    Calls Tryd.prog 48 #[.string rest, .string word, .pointer (some ⟨X, 0, none⟩)] W fun e W' => (∃ r, e = .returned r) ∧ Mp Value.string W' L (rch M rest word) ∧ W.grownBy W' (some L) := by
  have bx := hx.cell.1
  have hlk := hM.lookOk rest (P := Tryd.prog) Tryd.underlying54 Tryd.underlying9 (Tryd.zeroValue9 _)
  obtain ⟨o, hup, hM'⟩ := hM.put rest word (P := Tryd.prog) Tryd.underlying54 Tryd.underlying9
  have HM := Aside0.mk hM
  have HM' := Aside0.mk hM'
  have HX := Aside0.mk hx
  clear hM hM' hx
  by_cases h60 : word.size ≤ 60
  · have h60i : (word.size : Int) ≤ 60 := by omega
    have h60d : decide ((word.size : Int) ≤ 60) = true := decide_eq_true h60i
    cases hg : mget M rest with
    | none =>
      have hr : rch M rest word = mput M rest word := by unfold rch; rw [if_pos h60, hg]
      rw [hg] at hlk
      simp only [Option.map_none, Option.getD_none, Option.isSome_none] at hlk
      rw [hr]
      clear hr hg h60
      go_enter Tryd.func48, Tryd.ntmps48
      go_wp2_with fail
      refine bodyPost_end (results_none rfl _ _ _) rfl ?_
      exact ⟨⟨_, rfl⟩, HM'.out, grown_set _ _ _⟩
    | some old =>
      rw [hg] at hlk
      simp only [Option.map_some, Option.getD_some, Option.isSome_some] at hlk
      cases hc : wl word old with
      | true =>
        have hr : rch M rest word = mput M rest word := by unfold rch; rw [if_pos h60, hg]; simp only [hc, if_true]
        have hcd : decide (cfW word.data.toList old.data.toList < 0) = true := decide_eq_true (wl_true hc)
        have HCD2 := Aside0.mk hcd
        rw [hr]
        clear hr hg h60 hc hcd
        go_enter Tryd.func48, Tryd.ntmps48
        go_wp2_with fail
        go_at_call 47
        refine (impl_compareWords.calls 5 word old _ W (cw_eq _ _)).mono ?_
        rintro e w1 ⟨rfl, hb1⟩
        have bx1 := (HX.out.below hb1 HX.out.lt).cell.1
        obtain ⟨o1, hup1, hM1⟩ := (HM.out.below hb1).put rest word (P := Tryd.prog) Tryd.underlying54 Tryd.underlying9
        have HM1 := Aside0.mk hM1
        have HB1 := Aside0.mk hb1
        clear hb1 hM1 hup bx hlk
        have hcd := HCD2.out
        go_wp2_with fail
        refine bodyPost_end (results_none rfl _ _ _) rfl ?_
        exact ⟨⟨_, rfl⟩, HM1.out, (gb_below HB1.out).trans (grown_set _ _ _)⟩
      | false =>
        have hr : rch M rest word = M := by unfold rch; rw [if_pos h60, hg]; simp only [hc]; rfl
        have hcd : decide (cfW word.data.toList old.data.toList < 0) = false := decide_eq_false (wl_false hc)
        rw [hr]
        clear hr hg h60 hc
        go_enter Tryd.func48, Tryd.ntmps48
        go_wp2_with (go_at_call 47; refine (impl_compareWords.calls 5 word old _ W (cw_eq _ _)).mono ?_; rintro e w1 ⟨rfl, hb1⟩; have HB1 := Aside0.mk hb1; clear hb1)
        refine bodyPost_end (results_none rfl _ _ _) rfl ?_
        exact ⟨⟨_, rfl⟩, HM.out.below HB1.out, gb_below HB1.out⟩
  · have h60d : decide ((word.size : Int) ≤ 60) = false := decide_eq_false (by omega)
    have h60i : ¬ (word.size : Int) ≤ 60 := by omega
    have hr : rch M rest word = M := by unfold rch; rw [if_neg h60]
    rw [hr]
    clear hr h60
    go_enter Tryd.func48, Tryd.ntmps48
    go_wp2_with fail
    refine bodyPost_end (results_none rfl _ _ _) rfl ?_
    exact ⟨⟨_, rfl⟩, HM.out, gb_below (Below.refl _ _)⟩

def sdB (i : Nat) (s : ByteArray) : List ByteArray → Nat → List (ByteArray × ByteArray) → Option (List (ByteArray × ByteArray))
  | [], _, M => some M
  | t :: ts, j, M => (strings_CutPrefix.f t s).bind fun c => sdB i s ts (j + 1) (if c.2 = true ∧ i ≠ j then rch M c.1 t else M)
def sdA (set : List ByteArray) : List ByteArray → Nat → List (ByteArray × ByteArray) → Option (List (ByteArray × ByteArray))
  | [], _, M => some M
  | s :: ss, i, M => (sdB i s set 0 M).bind fun M' => sdA set ss (i + 1) M'
/-- Which of two entries is the first one. -/
def bfr (a b : ByteArray × ByteArray) : Bool := wl a.2 b.2 || (decide (a.2 = b.2) && wl a.1 b.1)
def isDone (D : List (ByteArray × Bool)) (k : ByteArray) : Bool := (mget D k).getD false
def pkS (D : List (ByteArray × Bool)) (b : Option (ByteArray × ByteArray)) (e : ByteArray × ByteArray) : Option (ByteArray × ByteArray) :=
  if isDone D e.1 = true then b else match b with | none => some e | some c => if bfr e c = true then some e else some c
def pk (M : List (ByteArray × ByteArray)) (D : List (ByteArray × Bool)) : Option (ByteArray × ByteArray) := M.foldl (pkS D) none
def sdN (rest word : ByteArray) : List ByteArray → List (ByteArray × ByteArray) → Option (List (ByteArray × ByteArray))
  | [], M => some M
  | s :: ss, M => (strings_CutPrefix.f rest s).bind fun c => if c.2 = true then sdN rest word ss (rch M c.1 word) else
      (strings_CutPrefix.f s rest).bind fun d => if d.2 = true then (if word.size + d.1.size ≤ 9223372036854775807 then sdN rest word ss (rch M d.1 (word ++ d.1)) else none) else sdN rest word ss M
def sdL (set : List ByteArray) : Nat → List (ByteArray × ByteArray) → List (ByteArray × Bool) → Option (ByteArray × Bool)
  | 0, _, _ => none
  | n + 1, M, D => match pk M D with
    | none => some (⟨#[]⟩, false)
    | some b => if b.1.toList = [] then some (b.2, true) else (sdN b.1 b.2 set M).bind fun M' => sdL set n M' (mput D b.1 true)
def impl_shortestDouble.f (k : Nat) (l0 : List ByteArray) : Option (ByteArray × Bool) := (sdA l0 l0 0 []).bind fun M => sdL l0 k M []
theorem sdL.mono (set : List ByteArray) : ∀ n M D, LeO (sdL set n M D) (sdL set (n + 1) M D)
  | 0, _, _ => LeO.none _
  | n + 1, M, D => by
    rw [sdL, sdL]
    cases pk M D with
    | none => exact LeO.refl _
    | some b => exact LeO.ite (LeO.refl _) (LeO.bind (LeO.refl _) fun _ => sdL.mono set n _ _)
theorem impl_shortestDouble.mono : ∀ a0 k, LeO (impl_shortestDouble.f k a0) (impl_shortestDouble.f (k + 1) a0) := fun a0 k => LeO.bind (LeO.refl _) fun _ => sdL.mono a0 k _ _
/-! ### The order of the entries -/
theorem wl_irr (a : ByteArray) : wl a a = false := swoW.irrefl _
theorem wl_trans {a b c : ByteArray} (h : wl a b = true) (h' : wl b c = true) : wl a c = true := swoW.trans _ _ _ h h'
theorem ba_ext0 {a b : ByteArray} (h : a.data.toList = b.data.toList) : a = b := by
  cases a; cases b; simp only [ByteArray.mk.injEq]; exact Array.toList_inj.1 h
theorem wl_tot {a b : ByteArray} (h : wl a b = false) (h' : wl b a = false) : a = b := ba_ext0 (totW _ _ h h')
theorem wl_asymm {a b : ByteArray} (h : wl a b = true) : wl b a = false := by
  cases e : wl b a with
  | false => rfl
  | true => have := wl_trans h e; rw [wl_irr] at this; cases this
theorem bfr_iff (a b : ByteArray × ByteArray) : bfr a b = true ↔ wl a.2 b.2 = true ∨ (a.2 = b.2 ∧ wl a.1 b.1 = true) := by simp [bfr]
theorem bfr_trans {a b c : ByteArray × ByteArray} (h : bfr a b = true) (h' : bfr b c = true) : bfr a c = true := by
  rw [bfr_iff] at *
  rcases h with h | ⟨h, h1⟩ <;> rcases h' with h' | ⟨h', h1'⟩
  · exact .inl (wl_trans h h')
  · exact .inl (h' ▸ h)
  · exact .inl (h ▸ h')
  · exact .inr ⟨h.trans h', wl_trans h1 h1'⟩
theorem bfr_irr (a : ByteArray × ByteArray) : bfr a a = false := by
  rw [Bool.eq_false_iff]; intro h; rw [bfr_iff, wl_irr, wl_irr] at h; rcases h with h | ⟨_, h⟩ <;> cases h
theorem bfr_tot {a b : ByteArray × ByteArray} (h : bfr a b = false) (h' : bfr b a = false) : a = b := by
  rw [Bool.eq_false_iff, Ne, bfr_iff, not_or] at h h'
  have e : a.2 = b.2 := wl_tot (by simpa using h.1) (by simpa using h'.1)
  have e1 : a.1 = b.1 := wl_tot (by simpa using fun q => h.2 ⟨e, q⟩) (by simpa using fun q => h'.2 ⟨e.symm, q⟩)
  exact Prod.ext e1 e
theorem bfr_asymm {a b : ByteArray × ByteArray} (h : bfr a b = true) : bfr b a = false := by
  cases e : bfr b a with
  | false => rfl
  | true => have := bfr_trans h e; rw [bfr_irr] at this; cases this
/-- b is the first of the entries S that are not done. -/
def PkI (D : List (ByteArray × Bool)) (S : List (ByteArray × ByteArray)) (b : Option (ByteArray × ByteArray)) : Prop :=
  (∀ e ∈ S, isDone D e.1 = false → ∃ c, b = some c ∧ bfr e c = false) ∧ ∀ c, b = some c → c ∈ S ∧ isDone D c.1 = false
theorem PkI.nil (D : List (ByteArray × Bool)) : PkI D [] none := ⟨by simp, by simp⟩
theorem PkI.step {D : List (ByteArray × Bool)} {S : List (ByteArray × ByteArray)} {b : Option (ByteArray × ByteArray)} (h : PkI D S b) (e : ByteArray × ByteArray) : PkI D (e :: S) (pkS D b e) := by
  unfold pkS
  by_cases hd : isDone D e.1 = true
  · rw [if_pos hd]
    refine ⟨fun x hx hn => ?_, fun c hc => ⟨List.mem_cons_of_mem _ (h.2 c hc).1, (h.2 c hc).2⟩⟩
    rcases List.mem_cons.1 hx with rfl | hx
    · rw [hd] at hn; cases hn
    · exact h.1 x hx hn
  · rw [if_neg hd]
    have hd' : isDone D e.1 = false := by simpa using hd
    cases b with
    | none =>
      refine ⟨fun x hx hn => ⟨e, rfl, ?_⟩, fun c hc => ?_⟩
      · rcases List.mem_cons.1 hx with rfl | hx
        · exact bfr_irr _
        · obtain ⟨c, hc, _⟩ := h.1 x hx hn; cases hc
      · cases hc; exact ⟨List.mem_cons_self, hd'⟩
    | some c =>
      by_cases hb : bfr e c = true
      · simp only [hb, if_true]
        refine ⟨fun x hx hn => ⟨e, rfl, ?_⟩, fun c' hc => ?_⟩
        · rcases List.mem_cons.1 hx with rfl | hx
          · exact bfr_irr _
          · obtain ⟨c', hc, hx'⟩ := h.1 x hx hn
            cases hc
            rw [Bool.eq_false_iff]
            intro q
            have := bfr_trans q hb
            rw [hx'] at this; cases this
        · cases hc; exact ⟨List.mem_cons_self, hd'⟩
      · have hb' : bfr e c = false := by simpa using hb
        simp only [hb']
        refine ⟨fun x hx hn => ⟨c, rfl, ?_⟩, fun c' hc => ?_⟩
        · rcases List.mem_cons.1 hx with rfl | hx
          · exact hb'
          · obtain ⟨c', hc, hx'⟩ := h.1 x hx hn; cases hc; exact hx'
        · cases hc; exact ⟨List.mem_cons_of_mem _ (h.2 c rfl).1, (h.2 c rfl).2⟩
theorem PkI.one {D : List (ByteArray × Bool)} {S S' : List (ByteArray × ByteArray)} {b b' : Option (ByteArray × ByteArray)} (h : PkI D S b) (h' : PkI D S' b') (hs : ∀ x, x ∈ S ↔ x ∈ S') : b = b' := by
  cases b with
  | none =>
    cases b' with
    | none => rfl
    | some c =>
      obtain ⟨m, n⟩ := h'.2 c rfl
      obtain ⟨_, hc, _⟩ := h.1 c ((hs c).2 m) n
      cases hc
  | some c =>
    obtain ⟨m, n⟩ := h.2 c rfl
    obtain ⟨c', rfl, h1⟩ := h'.1 c ((hs c).1 m) n
    obtain ⟨m', n'⟩ := h'.2 c' rfl
    obtain ⟨c2, hc2, h2⟩ := h.1 c' ((hs c').2 m') n'
    cases hc2
    rw [bfr_tot h1 h2]
theorem pk_I (D : List (ByteArray × Bool)) : ∀ (M S : List (ByteArray × ByteArray)) (b : Option (ByteArray × ByteArray)), PkI D S b → ∃ S', (∀ x, x ∈ S' ↔ x ∈ M ∨ x ∈ S) ∧ PkI D S' (M.foldl (pkS D) b)
  | [], S, b, h => ⟨S, by simp, h⟩
  | e :: M, S, b, h => by
    obtain ⟨S', h1, h2⟩ := pk_I D M (e :: S) _ (h.step e)
    exact ⟨S', fun x => by rw [h1]; simp only [List.mem_cons]; exact ⟨fun q => q.elim (fun q => .inl (.inr q)) (fun q => q.elim (fun q => .inl (.inl q)) .inr), fun q => q.elim (fun q => q.elim (fun q => .inr (.inl q)) .inl) (fun q => .inr (.inr q))⟩, h2⟩
theorem pk_eq {M S : List (ByteArray × ByteArray)} {D : List (ByteArray × Bool)} {b : Option (ByteArray × ByteArray)} (h : PkI D S b) (h1 : ∀ p ∈ M, p ∈ S) (h2 : ∀ p ∈ S, p ∈ M) : pk M D = b := by
  obtain ⟨S', h3, h4⟩ := pk_I D M [] none (PkI.nil D)
  exact h4.one h (fun x => by rw [h3]; exact ⟨fun q => q.elim (h1 x) (fun q => by cases q), fun q => .inl (h2 x q)⟩)
theorem isDone_look (D : List (ByteArray × Bool)) (k : ByteArray) : ((mget D k).map Value.bool).getD (.bool false) = .bool (isDone D k) := by
  unfold isDone; cases mget D k <;> rfl
theorem ba_toL (s : ByteArray) : s.toList = s.data.toList := by
  obtain ⟨⟨l⟩⟩ := s
  exact ByteArray.toList_mk l
theorem ba_eqL {a b : ByteArray} (h : a.toList = b.toList) : a = b := by
  rw [ba_toL, ba_toL] at h
  exact ba_ext0 h
/-- What the search finds in memory: both maps, the box of the first one. -/
structure SdS (w : World) (L Dn X : Nat) (M : List (ByteArray × ByteArray)) (D : List (ByteArray × Bool)) (W : World) : Prop where
  l : Mp Value.string W L M
  d : Mp Value.bool W Dn D
  x : Bq W X (.map (some L)) 54
  b : Below w.heap.size w W
  le : w.heap.size ≤ L ∧ w.heap.size ≤ Dn
  ne : L ≠ Dn ∧ L ≠ X ∧ Dn ≠ X
section
open Go.MapKept Go.ChangeMaps
variable {w W W' : World} {L Dn X : Nat} {M M' : List (ByteArray × ByteArray)} {D D' : List (ByteArray × Bool)}
theorem SdS.below (h : SdS w L Dn X M D W) (hb : Below W.heap.size W W') : SdS w L Dn X M D W' :=
  ⟨h.l.below hb, h.d.below hb, h.x.below hb h.x.lt, h.b.trans (hb.mono h.b.size), h.le, h.ne⟩
theorem SdS.reach (h : SdS w L Dn X M D W) (hl : Mp Value.string W' L M') (hg : W.grownBy W' (some L)) : SdS w L Dn X M' D W' :=
  ⟨hl, h.d.same (hg.block Dn h.d.lt (by simpa using Ne.symm h.ne.1)), h.x.grown hg (by simpa using Ne.symm h.ne.2.1), h.b.grown hg h.b.size (fun k e => by cases e; exact h.le.1), h.le, h.ne⟩
theorem SdS.done (h : SdS w L Dn X M D W) {o : Obj} (hd : Mp Value.bool (setBlock W Dn o) Dn D') : SdS w L Dn X M D' (setBlock W Dn o) :=
  ⟨h.l.same ((grown_set W Dn o).block L h.l.lt (by simpa using h.ne.1)), hd, h.x.grown (grown_set W Dn o) (by simpa using Ne.symm h.ne.2.2), h.b.grown (grown_set W Dn o) h.b.size (fun k e => by cases e; exact h.le.2), h.le, h.ne⟩
/-- What changes at an iterator alone. -/
theorem SdS.iter (h : SdS w L Dn X M D W) {R : Nat} (hR : w.heap.size ≤ R) (hrL : R ≠ L) (hrD : R ≠ Dn) (hrX : R ≠ X) (hoth : ∀ k, k ≠ R → W'.heap[k]? = W.heap[k]?) (hsz : W'.heap.size = W.heap.size) (h1 : W'.os = W.os) (h2 : W'.tape = W.tape) (h3 : W'.output = W.output) : SdS w L Dn X M D W' :=
  ⟨h.l.same (hoth _ (Ne.symm hrL)), h.d.same (hoth _ (Ne.symm hrD)), h.x.same (hoth _ (Ne.symm hrX)), ⟨h1.trans h.b.os, h2.trans h.b.tape, h3.trans h.b.output, by rw [hsz]; exact h.b.size, fun k hk => (hoth k (by omega)).trans (h.b.block k hk)⟩, h.le, h.ne⟩
end
theorem SdS.start (w : World) : SdS w w.heap.size (w.heap.size + 1) (w.heap.size + 1 + 1) [] [] (((w.alloc (.map #[] 0)).alloc (.map #[] 0)).alloc (.cells #[.map (some w.heap.size)] 54)) := by
  have e1 := heap_new w (.map #[] 0)
  have e2 := heap_new (w.alloc (.map #[] 0)) (.map #[] 0)
  have e3 := heap_new ((w.alloc (.map #[] 0)).alloc (.map #[] 0)) (.cells #[.map (some w.heap.size)] 54)
  rw [show (w.alloc (.map #[] 0)).heap.size = w.heap.size + 1 by simp] at e2
  rw [show ((w.alloc (.map #[] 0)).alloc (.map #[] 0)).heap.size = w.heap.size + 2 by simp] at e3
  have b1 := Below.heap_alloc (w.alloc (.map #[] 0)) (.map #[] 0) w.heap.size (by simp)
  have b2 := Below.heap_alloc ((w.alloc (.map #[] 0)).alloc (.map #[] 0)) (.cells #[.map (some w.heap.size)] 54) w.heap.size (by simp; omega)
  have b3 := Below.heap_alloc ((w.alloc (.map #[] 0)).alloc (.map #[] 0)) (.cells #[.map (some w.heap.size)] 54) (w.heap.size + 1) (by simp)
  exact ⟨⟨#[], 0, b2.trans (b1.trans e1), MapKept.stamped_empty 0, rfl⟩, ⟨#[], 0, b3.trans e2, MapKept.stamped_empty 0, rfl⟩, e3, below_alloc (below_alloc (below_alloc (Below.refl _ _) _) _) _, ⟨by omega, by omega⟩, ⟨by omega, by omega, by omega⟩⟩
set_option maxRecDepth 100000 in
set_option maxHeartbeats 16000000 in
theorem impl_shortestDouble.calls (k : Nat) (A0 : Option Addr) (c0 : Nat) (l0 : List ByteArray) (r1 : ByteArray) (r2 : Bool) (w : World) (hr0 : Kd.C Kd.string w A0 l0.length l0) (hc0 : l0.length ≤ c0) (h : impl_shortestDouble.f k l0 = some (r1, r2)) :
    Calls Tryd.prog 23 #[.slice A0 l0.length c0] w fun e w' => e = .returned (.tuple #[.string r1, .bool r2]) ∧ Below w.heap.size w w' := by
  unfold impl_shortestDouble.f at h
  replace h := Option.bind_eq_some_iff.mp h
  obtain ⟨M1, hA, hL⟩ := h
  have HA := Aside0.mk hA
  have HL := Aside0.mk hL
  have HR0 := Aside0.mk hr0
  have HC0 := Aside0.mk hc0
  clear hr0 hc0 hA hL
  have hmm := @run_makeMap Tryd.prog
  go_enter Tryd.func23, Tryd.ntmps23
  go_wp2_with fail
  have H0 := Aside0.mk (SdS.start w)
  generalize (((w.alloc (.map #[] 0)).alloc (.map #[] 0)).alloc (.cells #[.map (some w.heap.size)] 54)) = W0 at H0 ⊢
  generalize w.heap.size + 1 + 1 = X at H0 ⊢
  generalize w.heap.size + 1 = Dn at H0 ⊢
  go_loopg [29] l0.length (fun gg v29 wr => ∃ (i : Nat) (M : List (ByteArray × ByteArray)), v29 = .int .i64 i ∧ Aside0 (i ≤ l0.length) ∧ Aside0 (l0.length - i ≤ gg) ∧ Aside0 (sdA l0 (l0.drop i) i M = some M1) ∧ Aside0 (SdS w w.heap.size Dn X M [] wr))
  case atStart =>
    exact ⟨0, [], rfl, ⟨Nat.zero_le _⟩, ⟨by omega⟩, ⟨by rw [List.drop_zero]; exact HA.out⟩, H0⟩
  case round =>
    clear HA
    obtain ⟨i, M, rfl, HI, HG, HD, HS⟩ := hrel
    by_cases hlt : i < l0.length
    · have hltz : (i : Int) < (l0.length : Int) := by omega
      obtain ⟨ad, e1, hcell⟩ := Kd.at_string (Kd.C_below HR0.out HS.out.b) i (by omega) hltz
      have hrd : rdOf ByteArray.empty l0 (i : Int) = l0[i] := by simp [rdOf, List.getD_eq_getElem?_getD, hlt]
      rw [hrd] at hcell
      clear hrd
      simp only [Int.toNat_natCast] at hcell
      subst e1
      have hd := HD.out
      rw [List.drop_eq_getElem_cons hlt] at hd
      unfold sdA at hd
      generalize l0[i] = s at hd hcell
      have HD2 := Aside0.mk hd
      have HLT := Aside0.mk hlt
      have HMAX := Aside0.mk HR0.out.2.1
      clear HD hd hlt
      obtain ⟨wo, hwo⟩ : ∃ Y, Y = wr := ⟨wr, rfl⟩
      subst hwo
      obtain ⟨gko, hgo⟩ : ∃ Y, Y = gk := ⟨gk, rfl⟩
      subst hgo
      go_wp2_with fail
      go_loopg [36] l0.length (fun gg v36 wr => ∃ (j : Nat) (M' : List (ByteArray × ByteArray)), v36 = .int .i64 j ∧ Aside0 (j ≤ l0.length) ∧ Aside0 (l0.length - j ≤ gg) ∧ Aside0 ((sdB i s (l0.drop j) j M').bind (fun M' => sdA l0 (l0.drop (i + 1)) (i + 1) M') = some M1) ∧ Aside0 (SdS w w.heap.size Dn X M' [] wr))
      case atStart => exact ⟨0, M, rfl, ⟨Nat.zero_le _⟩, ⟨by omega⟩, ⟨by rw [List.drop_zero]; exact HD2.out⟩, HS⟩
      case round =>
        clear HS HD2 hcell hltz
        obtain ⟨j, M', rfl, HJ, HG2, HE, HS⟩ := hrel
        by_cases hlt : j < l0.length
        · have hltz : (j : Int) < (l0.length : Int) := by omega
          obtain ⟨ad2, e1, hcell⟩ := Kd.at_string (Kd.C_below HR0.out HS.out.b) j (by omega) hltz
          have hrd : rdOf ByteArray.empty l0 (j : Int) = l0[j] := by simp [rdOf, List.getD_eq_getElem?_getD, hlt]
          rw [hrd] at hcell
          clear hrd
          simp only [Int.toNat_natCast] at hcell
          cases e1
          have hd := HE.out
          rw [List.drop_eq_getElem_cons hlt] at hd
          unfold sdB at hd
          generalize l0[j] = t at hd hcell
          rw [Option.bind_assoc] at hd
          replace hd := Option.bind_eq_some_iff.mp hd
          obtain ⟨⟨cr, cb⟩, hcp, hd⟩ := hd
          have HCP := Aside0.mk hcp
          have HE2 := Aside0.mk hd
          have HJL := Aside0.mk hlt
          clear HE hd hlt hcp
          cases cb with
          | false =>
            go_wp2_with (go_at_call 49; refine (strings_CutPrefix.calls t s cr false _ HCP.out).mono ?_; rintro e w2 ⟨rfl, hd2⟩; have HS2 := Aside0.mk (HS.out.below hd2.below); clear hd2)
            go_roundg (l0.length - (j + 1))
            case measure => have h1_ := HJL.out; have h2_ := HG2.out; omega
            case rel => exact ⟨j + 1, M', by have h1_ := HJL.out; have h2_ := HMAX.out; first | (congr 1; unfold wrap64; omega) | go_num, ⟨HJL.out⟩, ⟨by omega⟩, ⟨by have q_ := HE2.out; rw [if_neg (by simp)] at q_; exact q_⟩, HS2⟩
          | true =>
            by_cases hij : i = j
            · have hne : ((i : Int) == (j : Int)) = true := by rw [hij]; simp
              have hned : decide ((i : Int) = (j : Int)) = true := by rw [hij]; simp
              have HIJ := Aside0.mk hij
              clear hij
              go_wp2_with (go_at_call 49; refine (strings_CutPrefix.calls t s cr true _ HCP.out).mono ?_; rintro e w2 ⟨rfl, hd2⟩; have HS2 := Aside0.mk (HS.out.below hd2.below); clear hd2)
              go_roundg (l0.length - (j + 1))
              case measure => have h1_ := HJL.out; have h2_ := HG2.out; omega
              case rel => exact ⟨j + 1, M', by have h1_ := HJL.out; have h2_ := HMAX.out; first | (congr 1; unfold wrap64; omega) | go_num, ⟨HJL.out⟩, ⟨by omega⟩, ⟨by have q_ := HE2.out; rw [if_neg (by simp [HIJ.out])] at q_; exact q_⟩, HS2⟩
            · have hne : ((i : Int) == (j : Int)) = false := by rw [beq_eq_false_iff_ne]; omega
              have hned : decide ((i : Int) = (j : Int)) = false := decide_eq_false (by omega)
              have HIJ := Aside0.mk hij
              clear hij
              go_wp2_with (first | (go_at_call 49; refine (strings_CutPrefix.calls t s cr true _ HCP.out).mono ?_; rintro e w2 ⟨rfl, hd2⟩; have HS2 := Aside0.mk (HS.out.below hd2.below); clear hd2) | (go_at_call 48; refine (reach_calls M' cr t w.heap.size X _ HS2.out.l HS2.out.x).mono ?_; rintro e w3 ⟨⟨r3, rfl⟩, hl3, hg3⟩; have HS3 := Aside0.mk (HS2.out.reach hl3 hg3); clear hl3 hg3))
              go_roundg (l0.length - (j + 1))
              case measure => have h1_ := HJL.out; have h2_ := HG2.out; omega
              case rel => exact ⟨j + 1, rch M' cr t, by have h1_ := HJL.out; have h2_ := HMAX.out; first | (congr 1; unfold wrap64; omega) | go_num, ⟨HJL.out⟩, ⟨by omega⟩, ⟨by have q_ := HE2.out; rw [if_pos (by simp [HIJ.out])] at q_; exact q_⟩, HS3⟩
        · have hltz : ¬ (j : Int) < (l0.length : Int) := by omega
          obtain rfl : j = l0.length := by have := HJ.out; omega
          have hd := HE.out
          rw [List.drop_of_length_le (Nat.le_refl _)] at hd
          unfold sdB at hd
          have HE2 := Aside0.mk hd
          clear HE hd hlt
          go_wp2_with fail
          go_roundg (l0.length - (i + 1))
          case measure => have h1_ := HLT.out; have h2_ := HG.out; omega
          case rel => exact ⟨i + 1, M', by have h1_ := HLT.out; have h2_ := HMAX.out; first | (congr 1; unfold wrap64; omega) | go_num, ⟨HLT.out⟩, ⟨by omega⟩, ⟨by have q_ := HE2.out; rw [Option.bind_some] at q_; exact q_⟩, HS⟩
    · have hltz : ¬ (i : Int) < (l0.length : Int) := by omega
      obtain rfl : i = l0.length := by have := HI.out; omega
      have hd := HD.out
      rw [List.drop_of_length_le (Nat.le_refl _)] at hd
      unfold sdA at hd
      obtain rfl := Option.some.inj hd
      have HMAX := Aside0.mk HR0.out.2.1
      clear HD hd hlt HG HI
      obtain ⟨wo, hwo⟩ : ∃ Y, Y = wr := ⟨wr, rfl⟩
      subst hwo
      obtain ⟨gko, hgo⟩ : ∃ Y, Y = gk := ⟨gk, rfl⟩
      subst hgo
      go_wp2_with fail
      go_loopg [] k (fun gg wr => ∃ (n : Nat) (Mn : List (ByteArray × ByteArray)) (Dd : List (ByteArray × Bool)), Aside0 (n ≤ gg) ∧ Aside0 (sdL l0 n Mn Dd = some (r1, r2)) ∧ Aside0 (SdS w w.heap.size Dn X Mn Dd wr))
      case atStart => exact ⟨k, M, [], ⟨Nat.le_refl _⟩, HL, HS⟩
      case round =>
        clear HS HL hltz
        obtain ⟨n, Mn, Dd, HN, HLn, HS⟩ := hrel
        cases n with
        | zero => exact absurd HLn.out (by simp [sdL])
        | succ n =>
          have hl := HLn.out
          unfold sdL at hl
          have HLs := Aside0.mk hl
          clear HLn hl
          obtain ⟨o, hrg, hit⟩ := HS.out.l.range (P := Tryd.prog) Tryd.underlying54
          have hb0 : Below wr.heap.size wr (wr.alloc o) := below_alloc (Below.refl _ _) _
          have HS1 := Aside0.mk (HS.out.below hb0)
          have bx := HS.out.x.cell.1
          have hRl := HS.out.l.lt
          have hRd := HS.out.d.lt
          have hRx := HS.out.x.lt
          have hRs := HS.out.b.size
          have HIT := Aside0.mk hit
          clear hit hb0
          generalize hW1 : wr.alloc o = W1 at hrg HS1 HIT
          obtain ⟨R, hR⟩ : ∃ R, wr.heap.size = R := ⟨_, rfl⟩
          rw [hR] at hrg HIT hRl hRd hRx hRs
          have HRR := Aside0.mk (show w.heap.size ≤ R ∧ R ≠ w.heap.size ∧ R ≠ Dn ∧ R ≠ X from ⟨by omega, by omega, by omega, by omega⟩)
          obtain ⟨wo2, hwo2⟩ : ∃ Y, Y = wr := ⟨wr, rfl⟩
          subst hwo2
          obtain ⟨gk2, hgo2⟩ : ∃ Y, Y = gk := ⟨gk, rfl⟩
          subst hgo2
          clear hRl hRd hRx hRs
          go_wp2_with fail
          go_loopg [13, 14] Mn.length (fun gg v13 v14 wr => ∃ (S : List (ByteArray × ByteArray)) (b : Option (ByteArray × ByteArray)), v13 = .string ((b.map Prod.fst).getD ⟨#[]⟩) ∧ v14 = .bool b.isSome ∧ Aside0 (PkI Dd S b) ∧ Aside0 (Mn.length - S.length ≤ gg) ∧ Aside0 (It Value.string wr R w.heap.size Mn S) ∧ Aside0 (SdS w w.heap.size Dn X Mn Dd wr))
          case atStart => exact ⟨[], none, rfl, rfl, ⟨PkI.nil _⟩, ⟨by simp⟩, HIT, HS1⟩
          case round =>
            clear HIT HS1 bx HS hW1 hR hrg
            obtain ⟨S, b, rfl, rfl, HP, HG2, HIt, HSs⟩ := hrel
            rcases HIt.out.next (P := Tryd.prog) 0 with ⟨hrun, hall⟩ | ⟨p, hpM, hpS, hlt2, W2, hrun, hit2, hen, hoth, hsz, ho1, ho2, ho3⟩
            · have hpk : pk Mn Dd = b := pk_eq HP.out hall HIt.out.sub
              have hl := HLs.out
              rw [hpk] at hl
              have HLt := Aside0.mk hl
              have HF := Aside0.mk (HP.out.2)
              have HSUB := Aside0.mk HIt.out.sub
              clear hl hpk hall HG2 HLs HP HIt
              cases b with
              | none =>
                have hl := HLt.out
                simp only [Option.some.injEq, Prod.mk.injEq] at hl
                obtain ⟨rfl, rfl⟩ := hl
                simp only [Option.map_none, Option.getD_none, Option.isSome_none]
                go_wp2_with fail
                go_ret2
                exact ⟨rfl, HSs.out.b⟩
              | some c =>
                have hcM : (c.1, c.2) ∈ Mn := HSUB.out c (HF.out c rfl).1
                have HMG := Aside0.mk (mget_mem HSs.out.l.nodup hcM)
                clear HF HSUB hcM
                simp only [Option.map_some, Option.getD_some, Option.isSome_some]
                by_cases hem : c.1.toList = []
                · have hemb : (c.1.toList == []) = true := by rw [hem]; rfl
                  have hll := HSs.out.l.look c.1 (P := Tryd.prog) Tryd.underlying54 Tryd.underlying9 (Tryd.zeroValue9 _)
                  rw [HMG.out] at hll
                  simp only [Option.map_some, Option.getD_some] at hll
                  have bx := HSs.out.x.cell.1
                  have hl := HLt.out
                  simp only [hem, if_true, Option.some.injEq, Prod.mk.injEq] at hl
                  obtain ⟨rfl, rfl⟩ := hl
                  clear hem HLt
                  go_wp2_with fail
                  go_ret2
                  exact ⟨rfl, HSs.out.b⟩
                · have hemb : (c.1.toList == []) = false := by rw [beq_eq_false_iff_ne]; exact hem
                  have hl := HLt.out
                  simp only [hem, if_false] at hl
                  have HLu := Aside0.mk hl
                  obtain ⟨o2, hup, hD2⟩ := HSs.out.d.put c.1 true (P := Tryd.prog) Tryd.underlying55 Tryd.underlying9
                  have HS2 := Aside0.mk (HSs.out.done hD2)
                  have hll := HS2.out.l.look c.1 (P := Tryd.prog) Tryd.underlying54 Tryd.underlying9 (Tryd.zeroValue9 _)
                  rw [HMG.out] at hll
                  simp only [Option.map_some, Option.getD_some] at hll
                  have bx := HS2.out.x.cell.1
                  clear hl HLt hem hD2
                  generalize Go.ChangeMaps.setBlock wr Dn o2 = W2 at hup hll bx HS2
                  obtain ⟨cr, cw⟩ := c
                  simp only at hemb hup hll HLu HMG ⊢
                  go_wp2_with fail
                  go_loopg [110] l0.length (fun gg v110 wr => ∃ (j : Nat) (M' : List (ByteArray × ByteArray)), v110 = .int .i64 j ∧ Aside0 (j ≤ l0.length) ∧ Aside0 (l0.length - j ≤ gg) ∧ Aside0 ((sdN cr cw (l0.drop j) M').bind (fun M' => sdL l0 n M' (mput Dd cr true)) = some (r1, r2)) ∧ Aside0 (SdS w w.heap.size Dn X M' (mput Dd cr true) wr))
                  case atStart => exact ⟨0, Mn, rfl, ⟨Nat.zero_le _⟩, ⟨by omega⟩, ⟨by rw [List.drop_zero]; exact HLu.out⟩, HS2⟩
                  case round =>
                    clear HS2 HSs HLu hll hup bx HMG
                    obtain ⟨j, M', rfl, HJ, HG3, HE, HSs⟩ := hrel
                    by_cases hlt : j < l0.length
                    · have hltz : (j : Int) < (l0.length : Int) := by omega
                      obtain ⟨ad2, e1, hcell⟩ := Kd.at_string (Kd.C_below HR0.out HSs.out.b) j (by omega) hltz
                      have hrd : rdOf ByteArray.empty l0 (j : Int) = l0[j] := by simp [rdOf, List.getD_eq_getElem?_getD, hlt]
                      rw [hrd] at hcell
                      clear hrd
                      simp only [Int.toNat_natCast] at hcell
                      subst e1
                      have hd := HE.out
                      rw [List.drop_eq_getElem_cons hlt] at hd
                      unfold sdN at hd
                      generalize l0[j] = s at hd hcell
                      rw [Option.bind_assoc] at hd
                      replace hd := Option.bind_eq_some_iff.mp hd
                      obtain ⟨⟨a1, ab⟩, hcp, hd⟩ := hd
                      have HCP := Aside0.mk hcp
                      have HJL := Aside0.mk hlt
                      clear HE hlt hcp
                      cases ab with
                      | true =>
                        simp only [if_true] at hd
                        have HE2 := Aside0.mk hd
                        clear hd
                        go_wp2_with (first | (go_at_call 49; (fail_if_success (have z_ := HS3)); with_reducible refine (strings_CutPrefix.calls cr s a1 true _ HCP.out).mono ?_; rintro e w3 ⟨rfl, hd3⟩; have HS3 := Aside0.mk (HSs.out.below hd3.below); clear hd3) | (go_at_call 48; refine (reach_calls M' a1 cw w.heap.size X _ HS3.out.l HS3.out.x).mono ?_; rintro e w5 ⟨⟨r5, rfl⟩, hl5, hg5⟩; have HS5 := Aside0.mk (HS3.out.reach hl5 hg5); clear hl5 hg5))
                        go_roundg (l0.length - (j + 1))
                        case measure => have h1_ := HJL.out; have h2_ := HG3.out; omega
                        case rel => exact ⟨j + 1, rch M' a1 cw, by have h1_ := HJL.out; have h2_ := HMAX.out; first | (congr 1; unfold wrap64; omega) | go_num, ⟨HJL.out⟩, ⟨by omega⟩, HE2, HS5⟩
                      | false =>
                        simp only [Bool.false_eq_true, if_false] at hd
                        rw [Option.bind_assoc] at hd
                        replace hd := Option.bind_eq_some_iff.mp hd
                        obtain ⟨⟨d1, db⟩, hcq, hd⟩ := hd
                        have HCQ := Aside0.mk hcq
                        clear hcq
                        cases db with
                        | true =>
                          by_cases hsz : cw.size + d1.size ≤ 9223372036854775807
                          case neg => simp only [if_true, if_neg hsz, Option.bind_none] at hd; cases hd
                          simp only [if_true, if_pos hsz] at hd
                          have HE2 := Aside0.mk hd
                          clear hd
                          go_wp2_with (first | (go_at_call 49; (fail_if_success (have z_ := HS3)); with_reducible refine (strings_CutPrefix.calls cr s a1 false _ HCP.out).mono ?_; rintro e w3 ⟨rfl, hd3⟩; have HS3 := Aside0.mk (HSs.out.below hd3.below); clear hd3) | (go_at_call 49; (have z_ := HS3); with_reducible refine (strings_CutPrefix.calls s cr d1 true _ HCQ.out).mono ?_; rintro e w4 ⟨rfl, hd4⟩; have HS4 := Aside0.mk (HS3.out.below hd4.below); clear hd4) | (go_at_call 48; refine (reach_calls M' d1 (cw ++ d1) w.heap.size X _ HS4.out.l HS4.out.x).mono ?_; rintro e w5 ⟨⟨r5, rfl⟩, hl5, hg5⟩; have HS5 := Aside0.mk (HS4.out.reach hl5 hg5); clear hl5 hg5))
                          go_roundg (l0.length - (j + 1))
                          case measure => have h1_ := HJL.out; have h2_ := HG3.out; omega
                          case rel => exact ⟨j + 1, rch M' d1 (cw ++ d1), by have h1_ := HJL.out; have h2_ := HMAX.out; first | (congr 1; unfold wrap64; omega) | go_num, ⟨HJL.out⟩, ⟨by omega⟩, HE2, HS5⟩
                        | false =>
                          simp only [Bool.false_eq_true, if_false] at hd
                          have HE2 := Aside0.mk hd
                          clear hd
                          go_wp2_with (first | (go_at_call 49; (fail_if_success (have z_ := HS3)); with_reducible refine (strings_CutPrefix.calls cr s a1 false _ HCP.out).mono ?_; rintro e w3 ⟨rfl, hd3⟩; have HS3 := Aside0.mk (HSs.out.below hd3.below); clear hd3) | (go_at_call 49; (have z_ := HS3); with_reducible refine (strings_CutPrefix.calls s cr d1 false _ HCQ.out).mono ?_; rintro e w4 ⟨rfl, hd4⟩; have HS4 := Aside0.mk (HS3.out.below hd4.below); clear hd4))
                          go_roundg (l0.length - (j + 1))
                          case measure => have h1_ := HJL.out; have h2_ := HG3.out; omega
                          case rel => exact ⟨j + 1, M', by have h1_ := HJL.out; have h2_ := HMAX.out; first | (congr 1; unfold wrap64; omega) | go_num, ⟨HJL.out⟩, ⟨by omega⟩, HE2, HS4⟩
                    · have hltz : ¬ (j : Int) < (l0.length : Int) := by omega
                      obtain rfl : j = l0.length := by have := HJ.out; omega
                      have hd := HE.out
                      rw [List.drop_of_length_le (Nat.le_refl _)] at hd
                      unfold sdN at hd
                      rw [Option.bind_some] at hd
                      have HE2 := Aside0.mk hd
                      clear HE hd hlt
                      go_wp2_with fail
                      go_roundg n
                      case measure => have h1_ := HN.out; omega
                      case rel => exact ⟨n, M', mput Dd cr true, ⟨Nat.le_refl _⟩, HE2, HSs⟩
            · have HS2 := Aside0.mk (HSs.out.iter HRR.out.1 HRR.out.2.1 HRR.out.2.2.1 HRR.out.2.2.2 hoth hsz ho1 ho2 ho3)
              have HIT2 := Aside0.mk hit2
              have HLT2 := Aside0.mk hlt2
              have hdl := HS2.out.d.look p.1 (P := Tryd.prog) Tryd.underlying55 Tryd.underlying9 (Tryd.zeroValue4 _)
              rw [isDone_look] at hdl
              clear hoth hsz ho1 ho2 ho3 hit2 hlt2 hpS
              cases hd : isDone Dd p.1 with
              | true =>
                rw [hd] at hdl
                have HPK := Aside0.mk (show PkI Dd (p :: S) b by have q_ := HP.out.step p; unfold pkS at q_; rw [if_pos hd] at q_; exact q_)
                clear hd
                go_wp2_with fail
                go_roundg (Mn.length - (S.length + 1))
                case measure => have h1_ := HLT2.out; have h2_ := HG2.out; omega
                case rel => exact ⟨p :: S, b, rfl, rfl, HPK, ⟨by simp⟩, HIT2, HS2⟩
              | false =>
                rw [hd] at hdl
                cases b with
                | none =>
                  have HPK := Aside0.mk (show PkI Dd (p :: S) (some p) by have q_ := HP.out.step p; unfold pkS at q_; rw [if_neg (by rw [hd]; decide)] at q_; exact q_)
                  clear hd
                  go_wp2_with fail
                  go_roundg (Mn.length - (S.length + 1))
                  case measure => have h1_ := HLT2.out; have h2_ := HG2.out; omega
                  case rel => exact ⟨p :: S, some p, rfl, rfl, HPK, ⟨by simp⟩, HIT2, HS2⟩
                | some c =>
                  have hcM : (c.1, c.2) ∈ Mn := HIt.out.sub c (HP.out.2 c rfl).1
                  have HMG := Aside0.mk (mget_mem HS2.out.l.nodup hcM)
                  have HLL := Aside0.mk (fun (W : World) (hW : SdS w w.heap.size Dn X Mn Dd W) => by
                    have q_ := hW.l.look c.1 (P := Tryd.prog) Tryd.underlying54 Tryd.underlying9 (Tryd.zeroValue9 _)
                    rw [HMG.out] at q_
                    exact q_)
                  have hll := HLL.out _ HS2.out
                  simp only [Option.map_some, Option.getD_some] at hll
                  have bx2 := HS2.out.x.cell.1
                  have hpk : PkI Dd (p :: S) (if bfr p c = true then some p else some c) := by have q_ := HP.out.step p; unfold pkS at q_; rw [if_neg (by rw [hd]; decide)] at q_; exact q_
                  have HPK := Aside0.mk hpk
                  clear hd hpk hcM
                  simp only [Option.map_some, Option.getD_some, Option.isSome_some]
                  cases hc : wl p.2 c.2 with
                  | true =>
                    have hcd : decide (cfW p.2.data.toList c.2.data.toList < 0) = true := decide_eq_true (wl_true hc)
                    have HPK2 := Aside0.mk (show PkI Dd (p :: S) (some p) by have q_ := HPK.out; rw [if_pos ((bfr_iff _ _).2 (.inl hc))] at q_; exact q_)
                    clear hc HPK
                    go_wp2_with (go_at_call 47; with_reducible refine (impl_compareWords.calls 5 p.2 c.2 _ W2 (cw_eq _ _)).mono ?_; rintro e w3 ⟨rfl, hb3⟩; have HS3 := Aside0.mk (HS2.out.below hb3); have HIT3 := Aside0.mk (HIT2.out.below hb3); clear hb3)
                    go_roundg (Mn.length - (S.length + 1))
                    case measure => have h1_ := HLT2.out; have h2_ := HG2.out; omega
                    case rel => exact ⟨p :: S, some p, rfl, rfl, HPK2, ⟨by simp⟩, HIT3, HS3⟩
                  | false =>
                    have hcd : decide (cfW p.2.data.toList c.2.data.toList < 0) = false := decide_eq_false (wl_false hc)
                    by_cases he : p.2 = c.2
                    · have hed : (p.2.toList == c.2.toList) = true := by rw [he]; exact beq_iff_eq.2 rfl
                      cases hc2 : wl p.1 c.1 with
                      | true =>
                        have hcd2 : decide (cfW p.1.data.toList c.1.data.toList < 0) = true := decide_eq_true (wl_true hc2)
                        have HPK2 := Aside0.mk (show PkI Dd (p :: S) (some p) by have q_ := HPK.out; rw [if_pos ((bfr_iff _ _).2 (.inr ⟨he, hc2⟩))] at q_; exact q_)
                        clear hc hc2 HPK he
                        go_wp2_with (first | (go_at_call 47; (fail_if_success (have z_ := HIT3)); with_reducible refine (impl_compareWords.calls 5 p.2 c.2 _ W2 (cw_eq _ _)).mono ?_; rintro e w3 ⟨rfl, hb3⟩; have HS3 := Aside0.mk (HS2.out.below hb3); have HIT3 := Aside0.mk (HIT2.out.below hb3); have bx3 := HS3.out.x.cell.1; have hll3 := HLL.out _ HS3.out; simp only [Option.map_some, Option.getD_some] at hll3; clear hb3) | (go_at_call 47; (have z_ := HIT3); with_reducible refine (impl_compareWords.calls 5 p.1 c.1 _ _ (cw_eq _ _)).mono ?_; rintro e w4 ⟨rfl, hb4⟩; have HS4 := Aside0.mk (HS3.out.below hb4); have HIT4 := Aside0.mk (HIT3.out.below hb4); clear hb4))
                        go_roundg (Mn.length - (S.length + 1))
                        case measure => have h1_ := HLT2.out; have h2_ := HG2.out; omega
                        case rel => exact ⟨p :: S, some p, rfl, rfl, HPK2, ⟨by simp⟩, HIT4, HS4⟩
                      | false =>
                        have hcd2 : decide (cfW p.1.data.toList c.1.data.toList < 0) = false := decide_eq_false (wl_false hc2)
                        have HPK2 := Aside0.mk (show PkI Dd (p :: S) (some c) by have q_ := HPK.out; rw [if_neg (by rw [bfr_iff, hc, hc2]; simp)] at q_; exact q_)
                        clear hc hc2 HPK he
                        go_wp2_with (first | (go_at_call 47; (fail_if_success (have z_ := HIT3)); with_reducible refine (impl_compareWords.calls 5 p.2 c.2 _ W2 (cw_eq _ _)).mono ?_; rintro e w3 ⟨rfl, hb3⟩; have HS3 := Aside0.mk (HS2.out.below hb3); have HIT3 := Aside0.mk (HIT2.out.below hb3); have bx3 := HS3.out.x.cell.1; have hll3 := HLL.out _ HS3.out; simp only [Option.map_some, Option.getD_some] at hll3; clear hb3) | (go_at_call 47; (have z_ := HIT3); with_reducible refine (impl_compareWords.calls 5 p.1 c.1 _ _ (cw_eq _ _)).mono ?_; rintro e w4 ⟨rfl, hb4⟩; have HS4 := Aside0.mk (HS3.out.below hb4); have HIT4 := Aside0.mk (HIT3.out.below hb4); clear hb4))
                        go_roundg (Mn.length - (S.length + 1))
                        case measure => have h1_ := HLT2.out; have h2_ := HG2.out; omega
                        case rel => exact ⟨p :: S, some c, rfl, rfl, HPK2, ⟨by simp⟩, HIT4, HS4⟩
                    · have hed : (p.2.toList == c.2.toList) = false := beq_eq_false_iff_ne.2 (fun q => he (ba_eqL q))
                      have HPK2 := Aside0.mk (show PkI Dd (p :: S) (some c) by have q_ := HPK.out; rw [if_neg (by rw [bfr_iff, hc]; simp [he])] at q_; exact q_)
                      clear hc HPK he
                      go_wp2_with (go_at_call 47; with_reducible refine (impl_compareWords.calls 5 p.2 c.2 _ W2 (cw_eq _ _)).mono ?_; rintro e w3 ⟨rfl, hb3⟩; have HS3 := Aside0.mk (HS2.out.below hb3); have HIT3 := Aside0.mk (HIT2.out.below hb3); have bx3 := HS3.out.x.cell.1; have hll3 := HLL.out _ HS3.out; simp only [Option.map_some, Option.getD_some] at hll3; clear hb3)
                      go_roundg (Mn.length - (S.length + 1))
                      case measure => have h1_ := HLT2.out; have h2_ := HG2.out; omega
                      case rel => exact ⟨p :: S, some c, rfl, rfl, HPK2, ⟨by simp⟩, HIT3, HS3⟩

end Go.Proofs.YtgokegndboknfaaDoor.X

-- WRITTEN by xprint.py of this repo: the kit's print.py with contracts given by hand (given.py). Lean checks it.
import Derived.Test.YtmgankgjjnegaaaDoorXx0
import Derived.Test.YtmgankgjjnegaaaDoorXx5
namespace Go.Proofs.YtmgankgjjnegaaaDoor.X
open Go.RowKit Go.Proofs.YtmgankgjjnegaaaDoorW.PrintWords Go.Proofs.YtmgankgjjnegaaaDoorW.PrintLast Go.Proofs.YtmgankgjjnegaaaDoorW.PrintMore
attribute [local go_sem] max2_int min2_int max_two min_two max_three min_three max_four min_four   -- for this text's walks alone
set_option linter.unusedVariables false
set_option linter.unusedSimpArgs false

/-! ### GIVEN impl_ParseSet: function 49 -/
theorem heap_new (w : World) (o : Obj) : (w.alloc o).heap[w.heap.size]? = some o := by
  have h : (w.alloc o).heap = w.heap.push o := rfl
  rw [h, Array.getElem?_push, if_pos rfl]
/-- A value that has been put into a box of its own. -/
theorem box_new (w : World) (v : Value) (e : Nat) : (w.alloc (.cells #[v] e)).cell? ⟨w.heap.size, 0, none⟩ = some v := by
  unfold World.cell?
  rw [show (w.alloc (.cells #[v] e)).heap[(⟨w.heap.size, 0, none⟩ : Addr).block]? = some (.cells #[v] e) from heap_new w _]
  rfl

/-- The cell of internal/bytealg.MaxLen holds some number. -/
def MaxAt (w : World) : Prop := ∃ m, w.cell? ⟨0, 0, none⟩ = some (.int .i64 m)
theorem maxAt_below {w W : World} (h : MaxAt w) (hb : Below w.heap.size w W) : MaxAt W := by
  obtain ⟨m, hm⟩ := h
  exact ⟨m, (hb.cell (World.block_lt_of_cell? w _ hm)).trans hm⟩

theorem own_alloc (w : World) (e : Nat) (xs : List Value) (hm : xs.length ≤ maxLen) : (w.alloc (.cells xs.toArray e)).ownsRow w.heap.size e 1 (.slice (some ⟨w.heap.size, 0, none⟩) xs.length xs.length) xs.length xs :=
  ⟨by simp, .inr ⟨w.heap.size, xs.length, xs.toArray, rfl, Nat.le_refl _, heap_new w _, Nat.le_refl _, hm, by simp, by simp⟩⟩
/-- The parts of a text between the commas. -/
def spB (s : ByteArray) : List ByteArray := Lib.splitB ⟨#[44]⟩ 0 (Lib.countB s ⟨#[44]⟩) s
def impl_ParseSet.f (k : Nat) (a0 : ByteArray) : Option (List ByteArray × Bool) := if a0.toList = [45] then some ([], true) else (if a0.size ≤ 1048576 then (impl_isSet.f k (spB a0)).bind fun b => (if b = true then some (spB a0, true) else some ([], false)) else none)
theorem impl_ParseSet.mono : ∀ a0 k, LeO (impl_ParseSet.f k a0) (impl_ParseSet.f (k + 1) a0) := by
  intro a0 k
  unfold impl_ParseSet.f
  exact LeO.ite (LeO.refl _) (LeO.ite (LeO.bind (impl_isSet.mono _ _) (fun _ => LeO.refl _)) (LeO.refl _))
set_option maxRecDepth 100000 in
set_option maxHeartbeats 4000000 in
theorem impl_ParseSet.calls (k : Nat) (a0 : ByteArray) (r1 : List ByteArray) (r2 : Bool) (w : World) (h : impl_ParseSet.f k a0 = some (r1, r2)) (hm : MaxAt w) :
    Calls Tryd.prog 49 #[.string a0] w fun e w' => ∃ v0_ : Value, e = .returned (.tuple #[v0_, .bool r2]) ∧ Kd.R Kd.string 9 w' w.heap.size (fun _ => True) v0_ r1 ∧ Below w.heap.size w w' := by
  unfold impl_ParseSet.f at h
  by_cases h1 : a0.toList = [45]
  · rw [if_pos h1] at h
    obtain ⟨rfl, rfl⟩ := Prod.mk.inj (Option.some.inj h)
    have q0 : (a0.toList == [45]) = true := beq_iff_eq.2 h1
    have q1 : (a0.toList != [45]) = false := by rw [bne, q0]; rfl
    clear h hm
    go_enter Tryd.func49, Tryd.ntmps49
    go_wp2_with ((with_reducible refine gate_dst (N := 7) rfl ?_); refine Kd.R_lit Kd.string _ 9 ?hg (N := 7) ?hd (xs := ([] : List ByteArray)) (inner := []) (ok := fun _ => True) (okp := fun _ => True) ?hr ?hp (fun _ hk => hk) trivial (Below.refl _ _) (Nat.le_refl _) (by simp) ?_; (case hd => rfl); (case hg => rfl); (case hr => first | (go_simp; done) | (go_simp; rfl)); (case hp => exact (Reps.none _ _)); intro v218 w2 ho3 hb hg_ hnew_; clear hg_ hnew_; have HO := Aside0.mk ho3; have HB := Aside0.mk hb; clear ho3 hb)
    go_ret2
    exact ⟨_, rfl, HO.out, HB.out⟩
  · rw [if_neg h1] at h
    by_cases hz : a0.size ≤ 1048576
    · rw [if_pos hz] at h
      obtain ⟨b, hb, h⟩ := Option.bind_eq_some_iff.mp h
      obtain ⟨m, hm⟩ := hm
      have q0 : (a0.toList == [45]) = false := beq_eq_false_iff_ne.2 h1
      have q1 : (a0.toList != [45]) = true := by rw [bne, q0]; rfl
      have hsp := Tryd.strings_Split a0 ⟨#[44]⟩ m w (by omega) hm (by decide)
      have hlen : (spB a0).length = Lib.countB a0 ⟨#[44]⟩ + 1 := Lib.splitB_all ⟨#[44]⟩ (by decide) 0 _ a0 rfl
      have hle := Lib.countB_le ⟨#[44]⟩ (by decide) a0.size a0 (Nat.le_refl _)
      rw [← hlen, show Lib.splitB ⟨#[44]⟩ 0 (Lib.countB a0 ⟨#[44]⟩) a0 = spB a0 from rfl] at hsp
      have hown := own_alloc w 9 ((spB a0).map Value.string) (by rw [List.length_map, hlen]; unfold maxLen; omega)
      rw [List.length_map] at hown
      obtain ⟨L, hL⟩ : ∃ L, spB a0 = L := ⟨_, rfl⟩
      rw [hL] at hsp hown hb h
      obtain ⟨W1, hW1⟩ : ∃ W1, w.alloc (.cells (L.map Value.string).toArray 9) = W1 := ⟨_, rfl⟩
      have hbl : Below w.heap.size w W1 := by rw [← hW1]; exact (Below.refl _ w).alloc (Nat.le_refl _) _
      rw [hW1] at hsp hown
      have hR : Kd.R Kd.string 9 W1 w.heap.size (fun _ => True) (.slice (some ⟨w.heap.size, 0, none⟩) L.length L.length) L := Kd.R_of_own hown (fun _ _ => trivial)
      obtain ⟨A1, c1, e1, hc1, hC1⟩ := Kd.R_reads hR
      have HSET := Aside0.mk (impl_isSet.calls k A1 c1 L b W1 hC1 hc1 hb)
      rw [e1] at hsp hR
      have HR := Aside0.mk hR
      have HBL := Aside0.mk hbl
      have HSP := Aside0.mk hsp
      clear hb hm hlen hle hL hW1 hown hbl hC1 hc1 e1 hR hsp hz
      cases b with
      | true =>
        rw [if_pos rfl] at h
        obtain ⟨rfl, rfl⟩ := Prod.mk.inj (Option.some.inj h)
        clear h
        go_enter Tryd.func49, Tryd.ntmps49
        go_wp2_with (first | (go_at_call 78; refine HSP.out.mono ?_; rintro e w1 ⟨rfl, rfl⟩) | (go_at_call 53; refine HSET.out.mono ?_; rintro e w2 ⟨rfl, hb2⟩; have HB2 := Aside0.mk hb2; clear hb2))
        go_ret2
        exact ⟨_, rfl, Kd.R_below HR.out HB2.out, HBL.out.trans (HB2.out.mono HBL.out.size)⟩
      | false =>
        rw [if_neg (by decide)] at h
        obtain ⟨rfl, rfl⟩ := Prod.mk.inj (Option.some.inj h)
        clear h
        go_enter Tryd.func49, Tryd.ntmps49
        go_wp2_with (first | (go_at_call 78; refine HSP.out.mono ?_; rintro e w1 ⟨rfl, rfl⟩) | (go_at_call 53; refine HSET.out.mono ?_; rintro e w2 ⟨rfl, hb2⟩; have HB2 := Aside0.mk hb2; clear hb2))
        go_ret2
        exact ⟨_, rfl, Kd.R_nil _ _ _ _ _, HBL.out.trans (HB2.out.mono HBL.out.size)⟩
    · rw [if_neg hz] at h; cases h

end Go.Proofs.YtmgankgjjnegaaaDoor.X

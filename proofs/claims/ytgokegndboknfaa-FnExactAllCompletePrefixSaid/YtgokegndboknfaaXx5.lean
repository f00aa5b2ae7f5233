-- WRITTEN by xprint.py of this repo: the kit's print.py with contracts given by hand (given.py). Lean checks it.
import Derived.Test.YtgokegndboknfaaXx0
import Derived.Test.YtgokegndboknfaaXx4
namespace Go.Proofs.Ytgokegndboknfaa.X
open Go.RowKit Go.Proofs.YtgokegndboknfaaW.PrintWords Go.Proofs.YtgokegndboknfaaW.PrintLast Go.Proofs.YtgokegndboknfaaW.PrintMore
attribute [local go_sem] max2_int min2_int max_two min_two max_three min_three max_four min_four   -- for this text's walks alone
set_option linter.unusedVariables false
set_option linter.unusedSimpArgs false

/-! ### impl_completePrefix: function 16 -/
def impl_completePrefix.f (k : Nat) (a0 : Int) (a1 : Int) : Option ((List (List ByteArray))) := if a1 = 1 then (some ([] : List (List ByteArray))) else ((impl_trees.f k a0 a1 8).bind fun t210 => (some t210))
theorem impl_completePrefix.mono : ∀ a0 a1 k, LeO (impl_completePrefix.f k a0 a1) (impl_completePrefix.f (k + 1) a0 a1) := by
  intro a0 a1 k
  unfold impl_completePrefix.f
  repeat' first
      | (with_reducible exact impl_trees.mono _ _ _ _)
      | (with_reducible exact LeO.refl _)
      | (with_reducible exact LeO.none _)
      | (with_reducible refine LeO.ite ?_ ?_)
      | (with_reducible refine LeO.bind ?_ (fun _ => ?_))
      | exact impl_trees.mono _ _ _ _
      | exact LeO.none _
      | refine LeO.ite ?_ ?_
      | refine LeO.bind ?_ (fun _ => ?_)
set_option maxHeartbeats 8000000 in
set_option maxRecDepth 100000 in
theorem impl_completePrefix.calls (k : Nat) (a0 : Int) (a1 : Int) (r : List (List ByteArray)) (w : World) (h : impl_completePrefix.f k a0 a1 = some r) :
    Calls Try.prog 16 #[.int .i64 a0, .int .i64 a1] w fun e w' => ∃ v0_ : Value, e = .returned (v0_) ∧ Kd.S (Kd.slice 9 Kd.string) 31 w' w.heap.size (fun _ => True) v0_ r ∧ Below w.heap.size w w' := by
  have HB := Aside0.mk (Below.refl w.heap.size w)
  have H : (if a1 = 1 then (some ([] : List (List ByteArray))) else ((impl_trees.f k a0 a1 8).bind fun t210 => (some t210))) = some r := h
  clear h
  by_cases c3 : a1 = 1
  · rw [if_pos c3] at H
    have c3b0 : (a1 == 1) = true := beq_iff_eq.mpr c3
    have c3b1 : (a1 != 1) = false := bne_eq_false_iff_eq.mpr c3
    clear c3
    obtain rfl := Option.some.inj H
    go_enter Try.func16, Try.ntmps16
    go_wp2
    go_ret
    exact ⟨_, by first | rfl | (simp [errW_none, errW_some] <;> rfl) | (simp [*, errW_none, errW_some] <;> rfl), by first | exact Kd.S_nil _ _ _ _ _ | exact Kd.N_nil _ _ _ _ _ | exact Kd.V_nil _ _ _ _ _ | exact Kd.Q_nil _ _ _ _ _ | exact Kd.R_nil _ _ _ _ _, by repeat (first | (with_reducible first | exact HB.out | apply below_alloc | apply pw_below_drewN | apply below_drew1) | exact HB.out)⟩
  · rw [if_neg c3] at H
    have c3b0 : (a1 == 1) = false := beq_eq_false_iff_ne.mpr c3
    have c3b1 : (a1 != 1) = true := bne_iff_ne.mpr c3
    replace H := Option.bind_eq_some_iff.mp H
    obtain ⟨t210, A40, H⟩ := H
    replace H : (some t210) = some r := H
    have A4 := Aside0.mk A40
    clear A40
    obtain rfl := Option.some.inj H
    go_enter Try.func16, Try.ntmps16
    go_wp2_with (first | ((with_reducible refine gate_callee (f := 27) rfl ?_); refine goesL_ (some 9) rfl rfl Try.func27 (by kernel_rfl) rfl #[.int .i64 a0, .int .i64 a1, .int .i64 8] rfl (by (try simp only [List.map_toArray, List.map_cons, List.map_nil]); first | done | rfl | (simp only [List.length_drop, List.length_take]; rfl)) ?_; (with_reducible refine (impl_trees.calls k a0 a1 8 t210 _ A4.out).mono ?_); rintro e w5 ⟨v211, rfl, ho0, hb⟩; refine ⟨_, rfl, ?_⟩; have n0_ := Aside0.mk (Kd.S_lower ho0 (below_size (by repeat (first | (with_reducible first | exact HB.out | apply below_alloc | apply pw_below_drewN | apply below_drew1) | exact HB.out)))); have n1_ := Aside0.mk (below_step (by repeat (first | (with_reducible first | exact HB.out | apply below_alloc | apply pw_below_drewN | apply below_drew1) | exact HB.out)) hb); clear HB; have HO212 := n0_; have HB := n1_; clear n0_ n1_; (try clear hb); (try clear hb2); (try clear hk); (try clear hi); (try clear ho0)))
    go_ret
    exact ⟨_, by first | rfl | (simp [errW_none, errW_some] <;> rfl) | (simp [*, errW_none, errW_some] <;> rfl), by (with_reducible repeat (first | apply Kd.S_alloc | apply Kd.S_drewN | apply Kd.S_drew)); exact HO212.out, by repeat (first | (with_reducible first | exact HB.out | apply below_alloc | apply pw_below_drewN | apply below_drew1) | exact HB.out)⟩

-- NOT PRINTED: function 58 (slices_AppendSeq_string_string)

-- NOT PRINTED: function 39 (slices_Collect_string)

-- NOT PRINTED: function 52 (bits_Len32)

-- NOT PRINTED: function 53 (bits_Len64)

-- NOT PRINTED: function 33 (bits_Len)

-- NOT PRINTED: function 68 (slices_insertionSortCmpFunc_string_68)

-- NOT PRINTED: function 79 (slices_siftDownCmpFunc_string_79)

-- NOT PRINTED: function 69 (slices_heapSortCmpFunc_string_69)

-- NOT PRINTED: function 62 (slices_nextPowerOfTwo)

-- NOT PRINTED: function 63 (slices_xorshift_Next)

-- NOT PRINTED: function 70 (slices_breakPatternsCmpFunc_string_70)

-- NOT PRINTED: function 82 (slices_order2CmpFunc_string_82)

-- NOT PRINTED: function 81 (slices_medianCmpFunc_string_81)

-- NOT PRINTED: function 80 (slices_medianAdjacentCmpFunc_string_80)

-- NOT PRINTED: function 71 (slices_choosePivotCmpFunc_string_71)

-- NOT PRINTED: function 72 (slices_reverseRangeCmpFunc_string_72)

-- NOT PRINTED: function 73 (slices_partialInsertionSortCmpFunc_string_73)

-- NOT PRINTED: function 74 (slices_partitionEqualCmpFunc_string_74)

-- NOT PRINTED: function 75 (slices_partitionCmpFunc_string_75)

-- NOT PRINTED: function 59 (slices_pdqsortCmpFunc_string_59)

-- NOT PRINTED: function 40 (slices_SortFunc_string_string_40)

-- NOT PRINTED: function 28 (slices_SortedFunc_string)

-- NOT PRINTED: function 29 (slices_Values_string_string)

-- NOT PRINTED: function 54 (bytealg_abigen_runtime_cmpstring)

-- NOT PRINTED: function 34 (bytealg_CompareString)

end Go.Proofs.Ytgokegndboknfaa.X

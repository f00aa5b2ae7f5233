-- WRITTEN by xprint.py of this repo: the kit's print.py with contracts given by hand (given.py). Lean checks it.
import Derived.Test.YtmopadfhddmgfaaDoorXx0
import Derived.Test.YtmopadfhddmgfaaDoorXx8
import Derived.Test.YtmopadfhddmgfaaDoorXx14
import Derived.Test.YtmopadfhddmgfaaDoorXx16
namespace Go.Proofs.YtmopadfhddmgfaaDoor.X
open Go.RowKit Go.Proofs.YtmopadfhddmgfaaDoorW.PrintWords Go.Proofs.YtmopadfhddmgfaaDoorW.PrintLast Go.Proofs.YtmopadfhddmgfaaDoorW.PrintMore
attribute [local go_sem] max2_int min2_int max_two min_two max_three min_three max_four min_four   -- for this text's walks alone
set_option linter.unusedVariables false
set_option linter.unusedSimpArgs false

/-! ### GIVEN impl_FirstRefused: function 29 -/
set_option maxHeartbeats 1000000 in
theorem impl_FirstRefused_1.calls (B : Nat) (A : Option Addr) (c : Nat) (l : List ByteArray) (x : ByteArray) (W : World) (hB : BoxV W B (.slice A l.length c)) (hC : Kd.C Kd.string W A l.length l) :
    Calls Tryd.prog 66 (#[.string x] ++ #[.pointer (some ⟨B, 0, none⟩)]) W fun e w' => e = .returned (.bool (!(Lib.containsS l x))) ∧ Below W.heap.size W w' := by
  have hc1 := hB.cell.1
  have HC := Aside0.mk hC
  clear hC hB
  go_enter Tryd.func66, Tryd.ntmps66
  go_wp2_with (go_at_call 67; refine (contains_calls A c l x _ HC.out).mono ?_; rintro e w' ⟨rfl, rfl⟩)
  go_ret
  exact ⟨rfl, Below.refl _ _⟩
def frP (l : List ByteArray) (x : ByteArray) : Bool := !(Lib.containsS l x)
def impl_FirstRefused.f (k : Nat) (l0 : List ByteArray) : Option (Int × Bool) := (impl_isSet.f k l0).bind fun b => if b = true then ((impl_greatestCode.f k l0).bind fun code => some (if idxG (frP code) l0 < 0 then 0 else idxG (frP code) l0, decide (0 ≤ idxG (frP code) l0))) else some (0, false)
theorem impl_FirstRefused.mono : ∀ a0 k, LeO (impl_FirstRefused.f k a0) (impl_FirstRefused.f (k + 1) a0) := by
  intro a0 k
  unfold impl_FirstRefused.f
  exact LeO.bind (impl_isSet.mono _ _) (fun _ => LeO.ite (LeO.bind (impl_greatestCode.mono _ _) (fun _ => LeO.refl _)) (LeO.refl _))
set_option maxRecDepth 100000 in
set_option maxHeartbeats 16000000 in
theorem impl_FirstRefused.calls (k : Nat) (A0 : Option Addr) (c0 : Nat) (l0 : List ByteArray) (r1 : Int) (r2 : Bool) (w : World) (hr0 : Kd.C Kd.string w A0 l0.length l0) (hc0 : l0.length ≤ c0) (h : impl_FirstRefused.f k l0 = some (r1, r2)) :
    Calls Tryd.prog 29 #[.slice A0 l0.length c0] w fun e w' => e = .returned (.tuple #[.int .i64 r1, .bool r2]) ∧ Below w.heap.size w w' := by
  unfold impl_FirstRefused.f at h
  obtain ⟨b, hb, h⟩ := Option.bind_eq_some_iff.mp h
  have HR0 := Aside0.mk hr0
  have HC0 := Aside0.mk hc0
  have HSET := Aside0.mk (impl_isSet.calls k A0 c0 l0 b w hr0 hc0 hb)
  clear hb hr0 hc0
  cases b with
  | false =>
    rw [if_neg (by decide)] at h
    simp only [Option.some.injEq, Prod.mk.injEq] at h
    obtain ⟨rfl, rfl⟩ := h
    go_enter Tryd.func29, Tryd.ntmps29
    go_wp2_with (go_at_call 47; refine HSET.out.mono ?_; rintro e w1 ⟨rfl, hb1⟩; have HB1 := Aside0.mk hb1; clear hb1)
    go_ret2
    exact ⟨rfl, HB1.out⟩
  | true =>
    rw [if_pos rfl] at h
    obtain ⟨code, hcode, h⟩ := Option.bind_eq_some_iff.mp h
    have HG := Aside0.mk (fun (W : World) (hW : Below w.heap.size w W) => impl_greatestCode.calls k A0 c0 l0 code W (Kd.C_below HR0.out hW) HC0.out hcode)
    clear hcode
    simp only [Option.some.injEq, Prod.mk.injEq] at h
    obtain ⟨e1, e2⟩ := h
    have eg1 := enters_of Tryd.func66 (by kernel_rfl) rfl
    have HIDX := Aside0.mk (fun (W' : World) (B : Nat) (A1 : Option Addr) (c1 : Nat) (hW : Below w.heap.size w W') (hB : BoxV W' B (.slice A1 code.length c1)) (hC1 : Kd.C Kd.string W' A1 code.length code) => slices_IndexFunc_string.calls_g _ #[.pointer (some ⟨B, 0, none⟩)] (frP code) eg1 A0 c0 l0 W' (Kd.C_below HR0.out hW) HC0.out (fun V x _ hV => impl_FirstRefused_1.calls B A1 c1 code x V (hB.below hV hB.lt) (Kd.C_below hC1 hV)))
    clear eg1
    obtain ⟨ix, hix⟩ : ∃ ix, idxG (frP code) l0 = ix := ⟨_, rfl⟩
    rw [hix] at e1 e2 HIDX
    clear hix
    have HE1 := Aside0.mk (show max ix 0 = r1 from by rw [← e1, Int.max_def]; split <;> split <;> omega)
    clear e1
    go_enter Tryd.func29, Tryd.ntmps29
    go_wp2_with (first | (go_at_call 47; refine HSET.out.mono ?_; rintro e w1 ⟨rfl, hb1⟩; have HB1 := Aside0.mk hb1; clear hb1) | (go_at_call 64; refine (HG.out _ HB1.out).mono ?_; rintro e w2 ⟨v2, rfl, hR2, hb2⟩; obtain ⟨A2, c2, e2', hc2, hC2⟩ := Kd.R_reads hR2; subst e2'; have HB2 := Aside0.mk (HB1.out.trans (hb2.mono HB1.out.size)); have HC2 := Aside0.mk hC2; clear hb2 hR2 hc2 hC2) | (go_at_call 65; refine (HIDX.out (w2.alloc (.cells #[.slice A2 code.length c2] 22)) w2.heap.size A2 c2 (below_alloc HB2.out _) (heap_new w2 _) (Kd.C_alloc HC2.out _)).mono ?_; rintro e w3 ⟨rfl, hb3⟩; have HB3 := Aside0.mk (below_step (below_alloc HB2.out _) hb3); clear hb3))
    all_goals first
      | (rw [HE1.out]; go_ret2; exact ⟨rfl, HB3.out⟩)
      | (have hm_ := HE1.out; rw [Int.max_def] at hm_; clear HE1; (obtain rfl : r1 = 0 := by split at hm_ <;> omega); go_ret2; exact ⟨rfl, HB3.out⟩)
      | (have hm_ := HE1.out; rw [Int.max_def] at hm_; clear HE1; (obtain rfl : r1 = ix := by split at hm_ <;> omega); go_ret2; exact ⟨rfl, HB3.out⟩)

end Go.Proofs.YtmopadfhddmgfaaDoor.X

-- WRITTEN by xprint.py of this repo: the kit's print.py with contracts given by hand (given.py). Lean checks it.
import Derived.Test.YtidjjcgfdkmefaaGreatDoorXx0
import Derived.Test.YtidjjcgfdkmefaaGreatDoorXx9
import Derived.Test.YtidjjcgfdkmefaaGreatDoorXx11
namespace Go.Proofs.YtidjjcgfdkmefaaGreatDoor.X
open Go.RowKit Go.Proofs.YtidjjcgfdkmefaaGreatDoorW.PrintWords Go.Proofs.YtidjjcgfdkmefaaGreatDoorW.PrintLast Go.Proofs.YtidjjcgfdkmefaaGreatDoorW.PrintMore
attribute [local go_sem] max2_int min2_int max_two min_two max_three min_three max_four min_four   -- for this text's walks alone
set_option linter.unusedVariables false
set_option linter.unusedSimpArgs false

/-! ### GIVEN impl_without: function 52 -/
def impl_without.f (l0 : List ByteArray) (a1 : Int) : Option (List ByteArray) := if 0 ≤ a1 then (if a1 < (l0.length : Int) then (if l0.length < 8796093022208 then some (l0.eraseIdx a1.toNat) else none) else none) else none
theorem encStr_bytes (x : ByteArray) : encStr x.data.toList = Value.string x := rfl
set_option maxHeartbeats 4000000 in
theorem impl_without.calls (A0 : Option Addr) (c0 : Nat) (l0 : List ByteArray) (a1 : Int) (r : List ByteArray) (w : World) (hr0 : Kd.C Kd.string w A0 l0.length l0) (hc0 : l0.length ≤ c0) (h : impl_without.f l0 a1 = some r) :
    Calls Tryz.prog 52 #[.slice A0 l0.length c0, .int .i64 a1] w fun e w' => ∃ v0_ : Value, e = .returned (v0_) ∧ Kd.R Kd.string 9 w' w.heap.size (fun _ => True) v0_ r ∧ Below w.heap.size w w' := by
  unfold impl_without.f at h
  by_cases h0 : 0 ≤ a1
  · rw [if_pos h0] at h
    by_cases h1 : a1 < (l0.length : Int)
    · rw [if_pos h1] at h
      by_cases hl : l0.length < 8796093022208
      · rw [if_pos hl] at h
        obtain rfl := Option.some.inj h
        clear h
        obtain ⟨i, rfl⟩ : ∃ i : Nat, a1 = i := ⟨a1.toNat, by omega⟩
        rw [Int.toNat_natCast]
        have hclone := fun (W : World) (hW : Below w.heap.size w W) => slices_Clone_string_string.calls A0 c0 l0 l0 W (Kd.C_below hr0 hW) hc0 (by unfold slices_Clone_string_string.f; rw [if_pos hl])
        have hi : i < l0.length := by omega
        have Hi := Aside0.mk hi
        have b1 : (i : Int) + 1 ≤ 8796093022208 := by omega
        clear hr0 hl h1 hi
        go_enter Tryz.func52, Tryz.ntmps52
        go_wp2_with fail
        go_at_call 71
        refine (hclone _ (Below.refl _ _)).mono ?_
        rintro e w1 ⟨v1, rfl, hR, hb⟩
        have HB := Aside0.mk hb
        have hown := Kd.own_of_R hR
        obtain ⟨g, cap, rfl, hg, _, _⟩ := Kd.R_form hR (by have := Hi.out; omega)
        have HG := Aside0.mk hg
        have hown' : w1.ownsRow w.heap.size 9 1 (.slice (some ⟨g, 0, none⟩) l0.length cap) l0.length ((l0.map (·.data.toList)).map encStr) := by
          rw [List.map_map]; exact hown
        have hcap : l0.length ≤ cap ∧ cap ≤ maxLen := by
          obtain ⟨_, hh⟩ := hown
          rcases hh with ⟨hh, _⟩ | ⟨g', cap', cur, he, _, _, hn, hcap, _, _⟩
          · cases hh
          · cases he; exact ⟨hn, hcap⟩
        have hd := Tryz.slices_Delete_string g 0 cap i (i + 1) (l0.map (·.data.toList)) w1 (own_holds hown') (by rw [List.length_map]; exact hcap.1) (by have := hcap.2; unfold maxLen at this; exact this) (by omega) (by rw [List.length_map]; have := Hi.out; omega)
        rw [List.length_map, show ((i + 1 : Nat) : Int) = (i : Int) + 1 by omega, show i + 1 - i = 1 by omega] at hd
        obtain ⟨D, hD⟩ : ∃ D, ((l0.map (·.data.toList)).take i ++ (l0.map (·.data.toList)).drop (i + 1) ++ List.replicate 1 ([] : List UInt8)).toArray = D := ⟨_, rfl⟩
        rw [hD] at hd
        have HDD := Aside0.mk hD
        clear hD
        have HD := Aside0.mk hd
        have HO := Aside0.mk hown'
        clear hd hown hown' hR hb hg hcap hclone
        go_wp2_with (go_at_call 70; refine HD.out.mono ?_; rintro e w2 ⟨rfl, q, rfl⟩)
        go_ret
        refine ⟨.slice (some ⟨g, 0, none⟩) (l0.length - 1) cap, rfl, ?_, below_putRow HB.out HG.out _ _ _⟩
        have hi := Hi.out
        have he : l0.length - 1 = (l0.eraseIdx i).length := by rw [List.length_eraseIdx, if_pos hi]
        have hsz : D.size = l0.length := by
          rw [← HDD.out]; simp; omega
        have hfin := own_put (enc := encStr) HO.out D hsz (l0.length - 1) (by omega) q
        have hcells : (D.toList.take (l0.length - 1)).map encStr = (l0.eraseIdx i).map Value.string := by
          rw [← HDD.out, List.take_append_of_le_length (by simp; omega), List.take_of_length_le (by simp; omega), List.eraseIdx_eq_take_drop_succ, ← List.map_take, ← List.map_drop, ← List.map_append, List.map_map]
          rfl
        rw [hcells] at hfin
        rw [he] at hfin ⊢
        exact Kd.R_of_own hfin (fun _ _ => trivial)
      · rw [if_neg hl] at h; cases h
    · rw [if_neg h1] at h; cases h
  · rw [if_neg h0] at h; cases h

end Go.Proofs.YtidjjcgfdkmefaaGreatDoor.X

-- WRITTEN by xprint.py of this repo: the kit's print.py with contracts given by hand (given.py). Lean checks it.
import Derived.Test.YtmgankgjjnegaaaDoorXx0
import Derived.Test.YtmgankgjjnegaaaDoorXx1
namespace Go.Proofs.YtmgankgjjnegaaaDoor.X
open Go.RowKit Go.Proofs.YtmgankgjjnegaaaDoorW.PrintWords Go.Proofs.YtmgankgjjnegaaaDoorW.PrintLast Go.Proofs.YtmgankgjjnegaaaDoorW.PrintMore
attribute [local go_sem] max2_int min2_int max_two min_two max_three min_three max_four min_four   -- for this text's walks alone
set_option linter.unusedVariables false
set_option linter.unusedSimpArgs false

/-! ### GIVEN spec_Concat: function 65 -/
def spec_Concat.l0 : Nat → List ByteArray → ByteArray → Option (ByteArray × Bool)
  | _, [], out => some (out, true)
  | k, s :: l, out => (spec_wdGood.f k s).bind fun b => if b = true then (if out.size + s.size ≤ 60 then spec_Concat.l0 k l (out ++ s) else some (⟨#[]⟩, false)) else some (⟨#[]⟩, false)
def spec_Concat.f (k : Nat) (l0 : List ByteArray) : Option (ByteArray × Bool) := if l0.length ≤ 60 then spec_Concat.l0 k l0 ⟨#[]⟩ else some (⟨#[]⟩, false)
theorem spec_Concat.mono_l (k : Nat) : ∀ l out, LeO (spec_Concat.l0 k l out) (spec_Concat.l0 (k + 1) l out)
  | [], out => LeO.refl _
  | s :: l, out => by
    unfold spec_Concat.l0
    refine LeO.bind (spec_wdGood.mono _ _) (fun b => LeO.ite (LeO.ite (spec_Concat.mono_l k l _) (LeO.refl _)) (LeO.refl _))
theorem spec_Concat.mono : ∀ a0 k, LeO (spec_Concat.f k a0) (spec_Concat.f (k + 1) a0) := by
  intro a0 k
  unfold spec_Concat.f
  exact LeO.ite (spec_Concat.mono_l k _ _) (LeO.refl _)
set_option maxHeartbeats 4000000 in
theorem spec_Concat.calls (k : Nat) (A0 : Option Addr) (c0 : Nat) (l0 : List ByteArray) (r1 : ByteArray) (r2 : Bool) (w : World) (hr0 : Kd.C Kd.string w A0 l0.length l0) (hc0 : l0.length ≤ c0) (h : spec_Concat.f k l0 = some (r1, r2)) :
    Calls Tryd.prog 65 #[.slice A0 l0.length c0] w fun e w' => e = .returned (.tuple #[.string r1, .bool r2]) ∧ Drawn0 w w' := by
  have hbig := hr0.2.1
  have HR0 := Aside0.mk hr0
  clear hr0
  unfold spec_Concat.f at h
  by_cases h60 : l0.length ≤ 60
  · rw [if_pos h60] at h
    have d60 : decide (60 < (l0.length : Int)) = false := decide_eq_false (by omega)
    have d60' : decide (60 < l0.length) = false := decide_eq_false (by omega)
    have H := Aside0.mk h
    have H60 := Aside0.mk h60
    clear h h60
    go_enter Tryd.func65, Tryd.ntmps65
    go_wp2
    go_loopg [4, 12] l0.length (fun gg s4 s12 wr => ∃ (i : Nat) (out : ByteArray), i ≤ l0.length ∧ l0.length - i ≤ gg ∧ out.size ≤ 60 ∧ s4 = .string out ∧ s12 = .int .i64 i ∧ Aside0 (spec_Concat.l0 k (l0.drop i) out = some (r1, r2)) ∧ Drawn0 w wr)
    case atStart => exact ⟨0, ⟨#[]⟩, Nat.zero_le _, by omega, by decide, rfl, rfl, H, Drawn0.refl _⟩
    case round =>
      obtain ⟨i, out, hi, hg, ho, rfl, rfl, HA, ⟨m, rfl⟩⟩ := hrel
      by_cases hlt : i < l0.length
      · have hltz : (i : Int) < (l0.length : Int) := by omega
        obtain ⟨ad, e1, hcell⟩ := Kd.at_string (Kd.C_drewN HR0.out m) i (by omega) hltz
        have hrd : rdOf ByteArray.empty l0 (i : Int) = l0[i] := by simp [rdOf, List.getD_eq_getElem?_getD, hlt]
        rw [hrd] at hcell
        clear hrd
        simp only [Int.toNat_natCast] at hcell
        subst e1
        have ha := HA.out
        rw [List.drop_eq_getElem_cons hlt] at ha
        unfold spec_Concat.l0 at ha
        obtain ⟨b, hb, ha⟩ := Option.bind_eq_some_iff.mp ha
        generalize l0[i] = y at hcell ha hb
        have HG := Aside0.mk hb
        clear hb
        cases b with
        | false =>
          rw [if_neg (by decide)] at ha
          obtain ⟨rfl, rfl⟩ := Prod.mk.inj (Option.some.inj ha)
          clear ha
          go_wp2_with (go_at_call 69; refine (spec_wdGood.calls k y false _ HG.out).mono ?_; rintro e w' ⟨rfl, ⟨nd, rfl⟩⟩)
          go_ret2
          exact ⟨rfl, by repeat (first | exact Drawn0.refl _ | apply Drawn0.step)⟩
        | true =>
          rw [if_pos rfl] at ha
          by_cases hs : out.size + y.size ≤ 60
          · rw [if_pos hs] at ha
            have HS := Aside0.mk hs
            have q1 : (out.size : Int) + (y.size : Int) ≤ 60 := by omega
            have q2 : decide (60 < (out.size : Int) + (y.size : Int)) = false := decide_eq_false (by omega)
            have q3 : (out ++ y).size ≤ 9223372036854775807 := by rw [ByteArray.size_append]; omega
            have HA2 := Aside0.mk ha
            clear ha HA
            go_wp2_with (go_at_call 69; refine (spec_wdGood.calls k y true _ HG.out).mono ?_; rintro e w' ⟨rfl, ⟨nd, rfl⟩⟩)
            go_roundg (l0.length - (i + 1))
            case measure => omega
            case rel =>
              refine ⟨i + 1, out ++ y, by omega, by omega, by rw [ByteArray.size_append]; exact HS.out, rfl, by go_num, HA2, by repeat (first | exact Drawn0.refl _ | apply Drawn0.step)⟩
          · rw [if_neg hs] at ha
            obtain ⟨rfl, rfl⟩ := Prod.mk.inj (Option.some.inj ha)
            have hy : y.size ≤ 60 := by
              have hg := HG.out
              unfold spec_wdGood.f at hg
              by_cases hy : (y.size : Int) ≤ 60
              · omega
              · rw [if_neg hy] at hg
                cases hg
            have q1 : 60 < (out.size : Int) + (y.size : Int) := by omega
            have q2 : decide (60 < (out.size : Int) + (y.size : Int)) = true := decide_eq_true (by omega)
            have q4 : (out.size : Int) + (y.size : Int) ≤ 120 := by omega
            clear ha hs
            go_wp2_with (go_at_call 69; refine (spec_wdGood.calls k y true _ HG.out).mono ?_; rintro e w' ⟨rfl, ⟨nd, rfl⟩⟩)
            go_ret2
            exact ⟨rfl, by repeat (first | exact Drawn0.refl _ | apply Drawn0.step)⟩
      · have hltz : ¬ (i : Int) < (l0.length : Int) := by omega
        have ha := HA.out
        rw [List.drop_of_length_le (by omega)] at ha
        obtain ⟨rfl, rfl⟩ := Prod.mk.inj (Option.some.inj ha)
        clear ha
        go_wp2
        go_ret2
        exact ⟨rfl, by repeat (first | exact Drawn0.refl _ | apply Drawn0.step)⟩
  · rw [if_neg h60] at h
    obtain ⟨rfl, rfl⟩ := Prod.mk.inj (Option.some.inj h)
    have d60 : decide (60 < (l0.length : Int)) = true := decide_eq_true (by omega)
    have d60' : decide (60 < l0.length) = true := decide_eq_true (by omega)
    clear h
    go_enter Tryd.func65, Tryd.ntmps65
    go_wp2
    go_ret2
    exact ⟨rfl, Drawn0.refl _⟩

end Go.Proofs.YtmgankgjjnegaaaDoor.X

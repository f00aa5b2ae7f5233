-- WRITTEN by xprint.py of this repo: the kit's print.py with contracts given by hand (given.py). Lean checks it.
import Derived.Test.YtkphnakihjiebaaDoorXx0
import Derived.Test.YtkphnakihjiebaaDoorXx4
namespace Go.Proofs.YtkphnakihjiebaaDoor.X
open Go.RowKit Go.Proofs.YtkphnakihjiebaaDoorW.PrintWords Go.Proofs.YtkphnakihjiebaaDoorW.PrintLast Go.Proofs.YtkphnakihjiebaaDoorW.PrintMore
attribute [local go_sem] max2_int min2_int max_two min_two max_three min_three max_four min_four   -- for this text's walks alone
set_option linter.unusedVariables false
set_option linter.unusedSimpArgs false

/-! ### GIVEN impl_rootOf: function 53 -/
/-- A text is a power of its first letters. -/
def rootAt (s : ByteArray) (n : Nat) : Bool := s.size % n == 0 && ((⟨(Lib.repeatL (s.extract 0 n).data.toList (s.size / n)).toArray⟩ : ByteArray).toList == s.toList)
theorem repeat_ok (x : ByteArray) (q : Nat) (hq : q ≤ 1000) (h : x.size * q ≤ 140737488355328) : strings_Repeat.f x (q : Int) = some ⟨(Lib.repeatL x.data.toList q).toArray⟩ := by
  have h1 : (q : Int) ≤ 9223372036854775807 := by clear h; omega
  unfold strings_Repeat.f
  rw [if_pos (Int.natCast_nonneg q), if_pos h1, Int.toNat_natCast, if_pos h]
def impl_rootOf.l0 (s : ByteArray) : Nat → Nat → Option (ByteArray × Int)
  | 0, _ => none
  | d + 1, n => if rootAt s n = true then some (s.extract 0 n, ((s.size / n : Nat) : Int)) else impl_rootOf.l0 s d (n + 1)
def impl_rootOf.f (s : ByteArray) : Option (ByteArray × Int) := if s.size ≤ 1000 then impl_rootOf.l0 s s.size 1 else none
set_option maxHeartbeats 4000000 in
theorem impl_rootOf.calls (s : ByteArray) (r1 : ByteArray) (r2 : Int) (w : World) (h : impl_rootOf.f s = some (r1, r2)) :
    Calls Tryd.prog 53 #[.string s] w fun e w' => e = .returned (.tuple #[.string r1, .int .i64 r2]) ∧ Below w.heap.size w w' := by
  unfold impl_rootOf.f at h
  by_cases h60 : s.size ≤ 1000
  · rw [if_pos h60] at h
    have H := Aside0.mk h
    clear h
    go_enter Tryd.func53, Tryd.ntmps53
    go_wp2
    go_loopg [4, 5] s.size (fun gg s4 s5 wr => ∃ (n d : Nat) (N : Int), N = (n : Int) ∧ 1 ≤ n ∧ n + d = s.size + 1 ∧ d ≤ gg ∧ s4 = .int .i64 N ∧ Aside0 (impl_rootOf.l0 s d n = some (r1, r2)) ∧ Aside0 (Below w.heap.size w wr))
    case atStart => exact ⟨1, s.size, 1, rfl, by omega, by omega, by omega, rfl, H, ⟨Below.refl _ _⟩⟩
    case round =>
      obtain ⟨n, d, N, hN, h1, hnd, hg, rfl, HA, HB⟩ := hrel
      have ha := HA.out
      cases d with
      | zero => cases ha
      | succ d =>
        rw [impl_rootOf.l0] at ha
        unfold rootAt at ha
        have hqle := Nat.div_le_self s.size n
        have hqmul := Nat.div_mul_le_self s.size n
        have e1 : ((s.size : Int).tdiv N) = ((s.size / n : Nat) : Int) := by rw [hN]; exact (Int.ofNat_tdiv _ _).symm
        have e2 : ((s.size : Int).tmod N) = ((s.size % n : Nat) : Int) := by rw [hN]; exact (Int.ofNat_tmod _ _).symm
        have e3 : (N == 0) = false := by rw [beq_eq_false_iff_ne]; omega
        obtain ⟨q, hQ⟩ : ∃ q, s.size / n = q := ⟨_, rfl⟩
        obtain ⟨m, hM⟩ : ∃ m, s.size % n = m := ⟨_, rfl⟩
        rw [hQ] at ha hqle hqmul e1
        rw [hM] at ha e2
        clear hQ hM
        have hNt : N.toNat = n := by omega
        have b1 : 0 ≤ N := by omega
        have b2 : N ≤ (s.size : Int) := by omega
        obtain ⟨Q, hQ⟩ : ∃ Q : Int, (q : Int) = Q := ⟨_, rfl⟩
        obtain ⟨M, hM⟩ : ∃ M : Int, (m : Int) = M := ⟨_, rfl⟩
        rw [hQ] at ha e1
        rw [hM] at e2
        have e4 : wrap64 Q = Q := by unfold wrap64; omega
        have e6 : ¬ N = 0 := by omega
        have e7 : (N != 0) = true := bne_iff_ne.mpr e6
        have e8 : (N = 0) = False := eq_false e6
        have HN := Aside0.mk hN
        have HNt := Aside0.mk hNt
        by_cases hm : m = 0
        · have q1 : (M == 0) = true := by rw [← hM, hm]; rfl
          have hsz : (s.extract 0 n).size = n := by rw [ByteArray.size_extract]; omega
          have hlen : (s.extract 0 n).size * q ≤ 140737488355328 := by
            rw [hsz, Nat.mul_comm]
            omega
          have hcall := fun W => strings_Repeat.calls (s.extract 0 n) (q : Int) ⟨(Lib.repeatL (s.extract 0 n).data.toList q).toArray⟩ W (repeat_ok _ _ (Nat.le_trans hqle h60) hlen)
          rw [hm] at ha
          obtain ⟨z, hz⟩ : ∃ z : ByteArray, (⟨(Lib.repeatL (s.extract 0 n).data.toList q).toArray⟩ : ByteArray) = z := ⟨_, rfl⟩
          rw [hz] at ha hcall
          rw [hQ] at hcall
          rw [← hNt] at hcall ha
          clear hz hsz hlen hqmul hqle hQ hM hm hN hNt
          cases hq : (z.toList == s.toList) with
          | true =>
            rw [hq, if_pos (by decide)] at ha
            obtain ⟨rfl, rfl⟩ := Prod.mk.inj (Option.some.inj ha)
            clear ha
            go_wp2_with (go_at_call 78; refine (hcall _).mono ?_; rintro e w' ⟨rfl, hb⟩)
            go_ret2
            exact ⟨rfl, HB.out.trans (hb.mono HB.out.size)⟩
          | false =>
            rw [hq, if_neg (by decide)] at ha
            have HA2 := Aside0.mk ha
            clear ha
            go_wp2_with (go_at_call 78; refine (hcall _).mono ?_; rintro e w' ⟨rfl, hb⟩)
            go_roundg d
            case measure => omega
            case rel => exact ⟨n + 1, d, ((n + 1 : Nat) : Int), rfl, by omega, by omega, by omega, by rw [HN.out]; go_num, by rw [← HNt.out]; exact HA2, ⟨HB.out.trans (hb.mono HB.out.size)⟩⟩
        · have q1 : (M == 0) = false := by rw [beq_eq_false_iff_ne]; omega
          have hr : (m == 0) = false := by rw [beq_eq_false_iff_ne]; exact hm
          rw [hr, Bool.false_and, if_neg (by decide)] at ha
          have HA2 := Aside0.mk ha
          clear ha hqmul hqle hQ hM hm hr hN hNt
          go_wp2
          go_roundg d
          case measure => omega
          case rel => exact ⟨n + 1, d, ((n + 1 : Nat) : Int), rfl, by omega, by omega, by omega, by rw [HN.out]; go_num, HA2, HB⟩
  · rw [if_neg h60] at h; cases h

end Go.Proofs.YtkphnakihjiebaaDoor.X

-- WRITTEN by xprint.py of this repo: the kit's print.py with contracts given by hand (given.py). Lean checks it.
import Derived.Test.YtidjjcgfdkmefaaXx0
namespace Go.Proofs.Ytidjjcgfdkmefaa.X
open Go.RowKit Go.Proofs.YtidjjcgfdkmefaaW.PrintWords Go.Proofs.YtidjjcgfdkmefaaW.PrintLast Go.Proofs.YtidjjcgfdkmefaaW.PrintMore
attribute [local go_sem] max2_int min2_int max_two min_two max_three min_three max_four min_four   -- for this text's walks alone
set_option linter.unusedVariables false
set_option linter.unusedSimpArgs false

/-! ### GIVEN spec_pfSplit: function 30 -/
def pfF (g h : Int → Option Int) (top : Int) : Nat → Int → Int → Option Int
  | 0, _, _ => none
  | d + 1, k, sum => if k ≤ top then ((g k).bind fun a => (h k).bind fun b => if ((0 ≤ a ∧ a ≤ 1000000) ∧ 0 ≤ b ∧ b ≤ 1000000) ∧ 0 ≤ sum ∧ sum ≤ 1000000000000 then pfF g h top d (k + 1) (sum + a * b) else none) else some sum
/-- true: trees with so many words; false: lists of so many trees with so many words together. -/
def pf : Nat → Bool → Int → Int → Int → Int → Option Int
  | 0, _, _, _, _, _ => none
  | r + 1, true, m, _, n, q => if (0 ≤ n ∧ n ≤ 1000) ∧ 0 ≤ q ∧ q ≤ 1000 then (if 0 < q then ((pf r false m m n (q - 1)).bind fun s => if 0 ≤ s ∧ s ≤ 1000000 then some ((if n = 1 then 1 else 0) + s) else none) else some (if n = 1 then 1 else 0)) else none
  | r + 1, false, m, p, n, q => if (0 ≤ p ∧ p ≤ 1000) ∧ 0 ≤ n ∧ n ≤ 1000 then (if p = 0 then some (if n = 0 then 1 else 0) else pfF (fun k => pf r true m 0 k q) (fun k => pf r false m (p - 1) (n - k) q) (n - p + 1) 1100 1 0) else none
def spec_pfSplit.f (k : Nat) (a0 a1 a2 a3 : Int) : Option Int := pf k false a0 a1 a2 a3
theorem pfF.mono {g g' h h' : Int → Option Int} (hg : ∀ k, LeO (g k) (g' k)) (hh : ∀ k, LeO (h k) (h' k)) (top : Int) : ∀ d k s, LeO (pfF g h top d k s) (pfF g' h' top d k s)
  | 0, _, _ => LeO.none _
  | d + 1, k, s => by
    unfold pfF
    exact LeO.ite (LeO.bind (hg _) fun _ => LeO.bind (hh _) fun _ => LeO.ite (pfF.mono hg hh top d _ _) (LeO.refl _)) (LeO.refl _)
theorem pf.mono : ∀ r b m p n q, LeO (pf r b m p n q) (pf (r + 1) b m p n q)
  | 0, _, _, _, _, _ => LeO.none _
  | r + 1, true, m, p, n, q => by
    rw [pf, pf]
    exact LeO.ite (LeO.ite (LeO.bind (pf.mono r false m m n (q - 1)) fun _ => LeO.refl _) (LeO.refl _)) (LeO.refl _)
  | r + 1, false, m, p, n, q => by
    rw [pf, pf]
    exact LeO.ite (LeO.ite (LeO.refl _) (pfF.mono (fun k => pf.mono r true m 0 k q) (fun k => pf.mono r false m (p - 1) (n - k) q) _ _ _ _)) (LeO.refl _)
theorem spec_pfSplit.mono : ∀ a0 a1 a2 a3 k, LeO (spec_pfSplit.f k a0 a1 a2 a3) (spec_pfSplit.f (k + 1) a0 a1 a2 a3) := fun a0 a1 a2 a3 k => pf.mono k false a0 a1 a2 a3
set_option maxRecDepth 100000 in
set_option maxHeartbeats 8000000 in
theorem pf_calls (r : Nat) : (∀ (m p n q v : Int) (w : World), pf r true m p n q = some v → Calls Try.prog 51 #[.int .i64 m, .int .i64 n, .int .i64 q] w fun e w' => e = .returned (.int .i64 v) ∧ Drawn0 w w') ∧ (∀ (m p n q v : Int) (w : World), pf r false m p n q = some v → Calls Try.prog 30 #[.int .i64 m, .int .i64 p, .int .i64 n, .int .i64 q] w fun e w' => e = .returned (.int .i64 v) ∧ Drawn0 w w') := by
  induction r with
  | zero => exact ⟨fun _ _ _ _ _ _ h => (by cases h), fun _ _ _ _ _ _ h => (by cases h)⟩
  | succ r ih =>
    have IH := Aside0.mk ih
    clear ih
    refine ⟨fun m p n q v w h => ?_, fun m p n q v w h => ?_⟩
    · unfold pf at h
      by_cases hb : (0 ≤ n ∧ n ≤ 1000) ∧ 0 ≤ q ∧ q ≤ 1000
      case neg => rw [if_neg hb] at h; cases h
      rw [if_pos hb] at h
      have hw1 : IntKind.i64.wrap (q - 1) = q - 1 := by rw [i64_w]; unfold wrap64; omega
      have hn1 : ∀ x : Int, x = n → decide (x = 1) = decide (n = 1) := fun x e => by rw [e]
      clear hn1
      by_cases hq : 0 < q
      · rw [if_pos hq] at h
        replace h := Option.bind_eq_some_iff.mp h
        obtain ⟨s, hs, h⟩ := h
        by_cases hsb : 0 ≤ s ∧ s ≤ 1000000
        case neg => rw [if_neg hsb] at h; cases h
        rw [if_pos hsb] at h
        obtain rfl := Option.some.inj h
        have HC := Aside0.mk (fun V => IH.out.2 m m n (q - 1) s V hs)
        have hws : IntKind.i64.wrap s = s := by rw [i64_w]; unfold wrap64; omega
        have hws1 : IntKind.i64.wrap (1 + s) = 1 + s := by rw [i64_w]; unfold wrap64; omega
        have hws0 : IntKind.i64.wrap (0 + s) = s := by rw [i64_w]; unfold wrap64; omega
        by_cases hn : n = 1
        · have hnb : (n == 1) = true := by simpa using hn
          rw [if_pos hn]
          clear h hs hsb hn hb
          go_enter Try.func51, Try.ntmps51
          go_wp2_with (go_at_call 30; refine (HC.out _).mono ?_; rintro e w' ⟨rfl, ⟨nd, rfl⟩⟩)
          go_ret
          exact ⟨rfl, ⟨_, rfl⟩⟩
        · have hnb : (n == 1) = false := by simpa using hn
          rw [if_neg hn, Int.zero_add]
          clear h hs hsb hn hb
          go_enter Try.func51, Try.ntmps51
          go_wp2_with (go_at_call 30; refine (HC.out _).mono ?_; rintro e w' ⟨rfl, ⟨nd, rfl⟩⟩)
          go_ret
          exact ⟨rfl, ⟨_, rfl⟩⟩
      · rw [if_neg hq] at h
        obtain rfl := Option.some.inj h
        by_cases hn : n = 1
        · have hnb : (n == 1) = true := by simpa using hn
          rw [if_pos hn]
          clear h hn hb
          go_enter Try.func51, Try.ntmps51
          go_wp2_with fail
          go_ret
          exact ⟨rfl, Drawn0.refl _⟩
        · have hnb : (n == 1) = false := by simpa using hn
          rw [if_neg hn]
          clear h hn hb
          go_enter Try.func51, Try.ntmps51
          go_wp2_with fail
          go_ret
          exact ⟨rfl, Drawn0.refl _⟩
    · unfold pf at h
      by_cases hb : (0 ≤ p ∧ p ≤ 1000) ∧ 0 ≤ n ∧ n ≤ 1000
      case neg => rw [if_neg hb] at h; cases h
      rw [if_pos hb] at h
      by_cases hp : p = 0
      · rw [if_pos hp] at h
        have hpb : (p == 0) = true := by simpa using hp
        obtain rfl := Option.some.inj h
        by_cases hn : n = 0
        · have hnb : (n == 0) = true := by simpa using hn
          rw [if_pos hn]
          clear h hn hb hp
          go_enter Try.func30, Try.ntmps30
          go_wp2_with fail
          go_ret
          exact ⟨rfl, Drawn0.refl _⟩
        · have hnb : (n == 0) = false := by simpa using hn
          rw [if_neg hn]
          clear h hn hb hp
          go_enter Try.func30, Try.ntmps30
          go_wp2_with fail
          go_ret
          exact ⟨rfl, Drawn0.refl _⟩
      · rw [if_neg hp] at h
        have hpb : (p == 0) = false := by simpa using hp
        have HF := Aside0.mk h
        have HB := Aside0.mk hb
        clear h hb hp
        go_enter Try.func30, Try.ntmps30
        go_wp2_with fail
        go_loopg [9, 10] 1100 (fun gg v9 v10 wr => ∃ (kk sum : Int), v9 = .int .i64 sum ∧ v10 = .int .i64 kk ∧ Aside0 (1 ≤ kk) ∧ Aside0 (pfF (fun k => pf r true m 0 k q) (fun k => pf r false m (p - 1) (n - k) q) (n - p + 1) gg kk sum = some v) ∧ Aside0 (Drawn0 w wr))
        case atStart => exact ⟨1, 0, rfl, rfl, ⟨by omega⟩, HF, ⟨Drawn0.refl _⟩⟩
        case round =>
          clear HF
          obtain ⟨kk, sum, rfl, rfl, HK, HW, ⟨nd0, rfl⟩⟩ := hrel
          have hw1 : IntKind.i64.wrap (n - p) = n - p := by have := HB.out; rw [i64_w]; unfold wrap64; omega
          have hw2 : IntKind.i64.wrap (n - p + 1) = n - p + 1 := by have := HB.out; rw [i64_w]; unfold wrap64; omega
          have hw3 : IntKind.i64.wrap (p - 1) = p - 1 := by have := HB.out; rw [i64_w]; unfold wrap64; omega
          cases gk with
          | zero => exact absurd HW.out (by simp [pfF])
          | succ gk =>
            have hw := HW.out
            unfold pfF at hw
            by_cases hle : kk ≤ n - p + 1
            · rw [if_pos hle] at hw
              replace hw := Option.bind_eq_some_iff.mp hw
              obtain ⟨a, ha, hw⟩ := hw
              replace hw := Option.bind_eq_some_iff.mp hw
              obtain ⟨b, hb, hw⟩ := hw
              by_cases hr : ((0 ≤ a ∧ a ≤ 1000000) ∧ 0 ≤ b ∧ b ≤ 1000000) ∧ 0 ≤ sum ∧ sum ≤ 1000000000000
              case neg => rw [if_neg hr] at hw; cases hw
              rw [if_pos hr] at hw
              have hab0 : 0 ≤ a * b := Int.mul_nonneg hr.1.1.1 hr.1.2.1
              have hab1 : a * b ≤ 1000000000000 := by
                have := Int.mul_le_mul hr.1.1.2 hr.1.2.2 hr.1.2.1 (by omega)
                omega
              have hw4 : IntKind.i64.wrap (n - kk) = n - kk := by have h1_ := HB.out; have h2_ := HK.out; rw [i64_w]; unfold wrap64; omega
              have hw5 : IntKind.i64.wrap (a * b) = a * b := by rw [i64_w]; unfold wrap64; omega
              have hw6 : IntKind.i64.wrap (sum + a * b) = sum + a * b := by rw [i64_w]; unfold wrap64; omega
              have hw7 : IntKind.i64.wrap (kk + 1) = kk + 1 := by have h1_ := HB.out; have h2_ := HK.out; rw [i64_w]; unfold wrap64; omega
              have HA := Aside0.mk (fun V => IH.out.1 m 0 kk q a V ha)
              have HBB := Aside0.mk (fun V => IH.out.2 m (p - 1) (n - kk) q b V hb)
              have HWN := Aside0.mk hw
              clear hw ha hb hr hab0 hab1 HW
              go_wp2_with (first
                | (go_at_call 51; refine (HA.out _).mono ?_; rintro e w' ⟨rfl, ⟨nd1, rfl⟩⟩)
                | (go_at_call 30; refine (HBB.out _).mono ?_; rintro e w' ⟨rfl, ⟨nd2, rfl⟩⟩))
              go_roundg gk
              case measure => omega
              case rel => exact ⟨kk + 1, sum + a * b, rfl, rfl, ⟨by have h2_ := HK.out; omega⟩, HWN, ⟨⟨_, rfl⟩⟩⟩
            · rw [if_neg hle] at hw
              obtain rfl := Option.some.inj hw
              clear hw HW
              go_wp2_with fail
              go_ret
              exact ⟨rfl, ⟨_, rfl⟩⟩
theorem spec_pfSplit.calls (k : Nat) (a0 a1 a2 a3 : Int) (r : Int) (w : World) (h : spec_pfSplit.f k a0 a1 a2 a3 = some r) :
    Calls Try.prog 30 #[.int .i64 a0, .int .i64 a1, .int .i64 a2, .int .i64 a3] w fun e w' => e = .returned (.int .i64 r) ∧ Drawn0 w w' := (pf_calls k).2 a0 a1 a2 a3 r w h

end Go.Proofs.Ytidjjcgfdkmefaa.X

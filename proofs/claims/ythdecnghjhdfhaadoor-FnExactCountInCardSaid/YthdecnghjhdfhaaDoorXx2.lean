-- WRITTEN by xprint.py of this repo: the kit's print.py with contracts given by hand (given.py). Lean checks it.
import Derived.Test.YthdecnghjhdfhaaDoorXx0
import Derived.Test.YthdecnghjhdfhaaDoorXx1
namespace Go.Proofs.YthdecnghjhdfhaaDoor.X
open Go.RowKit Go.Proofs.YthdecnghjhdfhaaDoorW.PrintWords Go.Proofs.YthdecnghjhdfhaaDoorW.PrintLast Go.Proofs.YthdecnghjhdfhaaDoorW.PrintMore
attribute [local go_sem] max2_int min2_int max_two min_two max_three min_three max_four min_four   -- for this text's walks alone
set_option linter.unusedVariables false
set_option linter.unusedSimpArgs false

/-! ### GIVEN spec_CountIn: function 15 -/
/-- From place i on, how often t begins there, and n more. -/
def spec_CountIn.l0 (s t : ByteArray) : Nat → Nat → Nat → Option Int
  | 0, _, n => some (n : Int)
  | d + 1, i, n => (spec_wdBegins.f (s.extract i s.size) t).bind fun b => spec_CountIn.l0 s t d (i + 1) (if b = true then n + 1 else n)
def asciiB (s : ByteArray) : Bool := s.data.toList.all (fun c => decide (c.toNat < 128))
def spec_CountIn.f (k : Nat) (s t : ByteArray) : Option (Int × Bool) := (spec_wdGood.f k s).bind fun g => if g = true then ((spec_wdGood.f k t).bind fun g2 => if g2 = true then (if t.toList = ([] : List UInt8) then some (0, false) else (if s.size ≤ 60 then (if asciiB s = true then ((spec_CountIn.l0 s t s.size 0 0).bind fun n => some (n, true)) else none) else none)) else some (0, false)) else some (0, false)
theorem spec_CountIn.mono : ∀ a0 a1 k, LeO (spec_CountIn.f k a0 a1) (spec_CountIn.f (k + 1) a0 a1) := by
  intro a0 a1 k
  unfold spec_CountIn.f
  refine LeO.bind (spec_wdGood.mono _ _) (fun _ => LeO.ite (LeO.bind (spec_wdGood.mono _ _) (fun _ => LeO.refl _)) (LeO.refl _))
set_option maxHeartbeats 4000000 in
theorem spec_CountIn.calls (k : Nat) (s t : ByteArray) (r1 : Int) (r2 : Bool) (w : World) (h : spec_CountIn.f k s t = some (r1, r2)) :
    Calls Tryd.prog 15 #[.string s, .string t] w fun e w' => e = .returned (.tuple #[.int .i64 r1, .bool r2]) ∧ Below w.heap.size w w' := by
  have HB := Aside0.mk (Below.refl w.heap.size w)
  unfold spec_CountIn.f at h
  obtain ⟨g, hg1, h⟩ := Option.bind_eq_some_iff.mp h
  have G1 := Aside0.mk hg1
  clear hg1
  cases g with
  | false =>
    rw [if_neg (by decide)] at h
    obtain ⟨rfl, rfl⟩ := Prod.mk.inj (Option.some.inj h)
    clear h
    go_enter Tryd.func15, Tryd.ntmps15
    go_wp2_with (go_at_call 47; with_reducible refine (spec_wdGood.calls k s false _ G1.out).mono ?_; rintro e w' ⟨rfl, ⟨nd, rfl⟩⟩)
    go_ret2
    exact ⟨rfl, by repeat (first | exact HB.out | apply pw_below_drewN)⟩
  | true =>
    rw [if_pos rfl] at h
    obtain ⟨g2, hg2, h⟩ := Option.bind_eq_some_iff.mp h
    have G2 := Aside0.mk hg2
    clear hg2
    cases g2 with
    | false =>
      rw [if_neg (by decide)] at h
      obtain ⟨rfl, rfl⟩ := Prod.mk.inj (Option.some.inj h)
      clear h
      go_enter Tryd.func15, Tryd.ntmps15
      go_wp2_with (first | (go_at_call 47; with_reducible refine (spec_wdGood.calls k s true _ G1.out).mono ?_; rintro e w' ⟨rfl, ⟨nd, rfl⟩⟩) | (go_at_call 47; with_reducible refine (spec_wdGood.calls k t false _ G2.out).mono ?_; rintro e w' ⟨rfl, ⟨nd, rfl⟩⟩))
      go_ret2
      exact ⟨rfl, by repeat (first | exact HB.out | apply pw_below_drewN)⟩
    | true =>
      rw [if_pos rfl] at h
      by_cases c7 : t.toList = ([] : List UInt8)
      · rw [if_pos c7] at h
        have c7b0 : (t.toList == ([] : List UInt8)) = true := beq_iff_eq.mpr c7
        have c7b1 : (t.toList != ([] : List UInt8)) = false := bne_eq_false_iff_eq.mpr c7
        clear c7
        obtain ⟨rfl, rfl⟩ := Prod.mk.inj (Option.some.inj h)
        clear h
        go_enter Tryd.func15, Tryd.ntmps15
        go_wp2_with (first | (go_at_call 47; with_reducible refine (spec_wdGood.calls k s true _ G1.out).mono ?_; rintro e w' ⟨rfl, ⟨nd, rfl⟩⟩) | (go_at_call 47; with_reducible refine (spec_wdGood.calls k t true _ G2.out).mono ?_; rintro e w' ⟨rfl, ⟨nd, rfl⟩⟩))
        go_ret2
        exact ⟨rfl, by repeat (first | exact HB.out | apply pw_below_drewN)⟩
      · rw [if_neg c7] at h
        have c7b0 : (t.toList == ([] : List UInt8)) = false := beq_eq_false_iff_ne.mpr c7
        have c7b1 : (t.toList != ([] : List UInt8)) = true := bne_iff_ne.mpr c7
        clear c7
        by_cases h60 : s.size ≤ 60
        · rw [if_pos h60] at h
          by_cases has : asciiB s = true
          · rw [if_pos has] at h
            obtain ⟨n0, hl, h⟩ := Option.bind_eq_some_iff.mp h
            obtain ⟨rfl, rfl⟩ := Prod.mk.inj (Option.some.inj h)
            have H := Aside0.mk hl
            have HA := Aside0.mk has
            clear hl has h
            go_enter Tryd.func15, Tryd.ntmps15
            go_wp2_with (first | (go_at_call 47; with_reducible refine (spec_wdGood.calls k s true _ G1.out).mono ?_; rintro e w' ⟨rfl, ⟨nd, rfl⟩⟩) | (go_at_call 47; with_reducible refine (spec_wdGood.calls k t true _ G2.out).mono ?_; rintro e w' ⟨rfl, ⟨nd, rfl⟩⟩))
            go_loopg [6] (s.size + 1) (fun gg s6 wr => ∃ (i d n m : Nat), i + d = s.size ∧ d + 1 ≤ gg ∧ n ≤ i ∧ s6 = .int .i64 (n : Int) ∧ wr = (w.drewN m).iter s i ∧ Aside0 (spec_CountIn.l0 s t d i n = some n0))
            case atStart => exact ⟨0, s.size, 0, _, by omega, by omega, by omega, rfl, rfl, H⟩
            case round =>
              obtain ⟨i, d, n, m, hid, hgg, hni, rfl, rfl, HL⟩ := hrel
              cases d with
              | zero =>
                have hnx : ∀ ty, (Instr.next (.pointer (some ⟨w.heap.size, 0, none⟩)) true ty).run Tryd.prog ((w.drewN m).iter s i) = .ok (.tuple #[.bool false]) ((w.drewN m).iter s i) := fun ty => run_next_end (P := Tryd.prog) (w.drewN m) s i ty (by omega)
                obtain rfl := Option.some.inj HL.out
                go_wp2
                go_ret2
                exact ⟨rfl, below_alloc (pw_below_drewN HB.out _) _⟩
              | succ d =>
                have hi : i < s.size := by omega
                have ha : (s[i]'hi).toNat < 128 := by
                  have := List.all_eq_true.1 HA.out (s[i]'hi) (by
                    have : s[i]'hi = s.data.toList[i]'(by rw [Array.length_toList]; exact hi) := rfl
                    rw [this]
                    exact List.getElem_mem _)
                  simpa using this
                have hnx : ∀ ty, (Instr.next (.pointer (some ⟨w.heap.size, 0, none⟩)) true ty).run Tryd.prog ((w.drewN m).iter s i) = .ok (.tuple #[.bool true, .int .i64 i, .int .i32 (s[i]'hi).toNat]) ((w.drewN m).iter s (i + 1)) := fun ty => run_next_ascii (P := Tryd.prog) (w.drewN m) s i ty hi ha
                have hl := HL.out
                rw [spec_CountIn.l0] at hl
                obtain ⟨b, hb, hl⟩ := Option.bind_eq_some_iff.mp hl
                have BB := Aside0.mk hb
                have HL2 := Aside0.mk hl
                have ib : (i : Int) ≤ (s.size : Int) := by omega
                clear hb hl ha
                generalize (s[i]'hi).toNat = cc at hnx
                cases b with
                | true =>
                  go_wp2_with (go_at_call 48; with_reducible refine (spec_wdBegins.calls (s.extract i s.size) t true _ BB.out).mono ?_; rintro e w' ⟨rfl, ⟨nd, rfl⟩⟩)
                  go_roundg (d + 1)
                  case measure => omega
                  case rel => exact ⟨i + 1, d, n + 1, m + nd, by omega, by omega, by omega, by go_num, by (first | rfl | (simp only [World.drewN, World.iter, World.alloc]; congr 1; omega)), HL2⟩
                | false =>
                  go_wp2_with (go_at_call 48; with_reducible refine (spec_wdBegins.calls (s.extract i s.size) t false _ BB.out).mono ?_; rintro e w' ⟨rfl, ⟨nd, rfl⟩⟩)
                  go_roundg (d + 1)
                  case measure => omega
                  case rel => exact ⟨i + 1, d, n, m + nd, by omega, by omega, by omega, rfl, by (first | rfl | (simp only [World.drewN, World.iter, World.alloc]; congr 1; omega)), HL2⟩
          · rw [if_neg has] at h; cases h
        · rw [if_neg h60] at h; cases h

end Go.Proofs.YthdecnghjhdfhaaDoor.X

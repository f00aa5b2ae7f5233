-- WRITTEN by xprint.py of this repo: the kit's print.py with contracts given by hand (given.py). Lean checks it.
import Derived.Test.YtnfpcgjdpcmkcaaXx0
import Derived.Test.YtnfpcgjdpcmkcaaXx3
import Derived.Test.YtnfpcgjdpcmkcaaXx4
import Derived.Test.YtnfpcgjdpcmkcaaXx6
namespace Go.Proofs.Ytnfpcgjdpcmkcaa.X
open Go.RowKit Go.Proofs.YtnfpcgjdpcmkcaaW.PrintWords Go.Proofs.YtnfpcgjdpcmkcaaW.PrintLast Go.Proofs.YtnfpcgjdpcmkcaaW.PrintMore
attribute [local go_sem] max2_int min2_int max_two min_two max_three min_three max_four min_four   -- for this text's walks alone
set_option linter.unusedVariables false
set_option linter.unusedSimpArgs false

/-! ### GIVEN impl_FirstCommaFree: function 28 -/
def ccL (k : Nat) : List ByteArray → List ByteArray → Option (List ByteArray)
  | [], out => some out
  | s :: W, out => if out.length < 12 then ((impl_firstInside.f k (out ++ [s])).bind fun t => if t = [] then ccL k W (out ++ [s]) else ccL k W out) else ccL k W out
theorem ccL.mono (k : Nat) : ∀ W out, LeO (ccL k W out) (ccL (k + 1) W out)
  | [], out => LeO.refl _
  | s :: W, out => by
    unfold ccL
    refine LeO.ite (LeO.bind (impl_firstInside.mono _ _) (fun t => ?_)) (ccL.mono k W out)
    exact LeO.ite (ccL.mono k W _) (ccL.mono k W out)
theorem infoStr : (Try.prog.info? 9).map (fun i => (i.zero, i.size, i.bytes)) = some (some (.string ⟨#[]⟩), 1, 16) := by kernel_rfl
def impl_FirstCommaFree.f (k : Nat) (a0 : Int) (a1 : Int) : Option (List ByteArray × Bool) := (impl_areLetters.f a0).bind fun b => if b = true then ((impl_in.f a1 1 4).bind fun c => if c = true then ((impl_allWords.f k a1 a0).bind fun W => (ccL k W []).bind fun out => some (out, true)) else some ([], false)) else some ([], false)
theorem impl_FirstCommaFree.mono : ∀ a0 a1 k, LeO (impl_FirstCommaFree.f k a0 a1) (impl_FirstCommaFree.f (k + 1) a0 a1) := by
  intro a0 a1 k
  unfold impl_FirstCommaFree.f
  refine LeO.bind (LeO.refl _) (fun b => LeO.ite (LeO.bind (LeO.refl _) (fun c => LeO.ite (LeO.bind (impl_allWords.mono _ _ _) (fun W => LeO.bind (ccL.mono _ _ _) (fun _ => LeO.refl _))) (LeO.refl _))) (LeO.refl _))
set_option maxRecDepth 100000 in
set_option maxHeartbeats 8000000 in
theorem impl_FirstCommaFree.calls (k : Nat) (a0 : Int) (a1 : Int) (r1 : List ByteArray) (r2 : Bool) (w : World) (h : impl_FirstCommaFree.f k a0 a1 = some (r1, r2)) :
    Calls Try.prog 28 #[.int .i64 a0, .int .i64 a1] w fun e w' => ∃ v0_ : Value, e = .returned (.tuple #[v0_, .bool r2]) ∧ Kd.R Kd.string 9 w' w.heap.size (fun _ => True) v0_ r1 ∧ Below w.heap.size w w' := by
  unfold impl_FirstCommaFree.f at h
  obtain ⟨b, hb, h⟩ := Option.bind_eq_some_iff.mp h
  have HL := Aside0.mk hb
  clear hb
  cases b with
  | false =>
    rw [if_neg (by decide)] at h
    obtain ⟨rfl, rfl⟩ := Prod.mk.inj (Option.some.inj h)
    clear h
    go_enter Try.func28, Try.ntmps28
    go_wp2_with (go_at_call 42; refine (impl_areLetters.calls a0 _ _ HL.out).mono ?_; rintro e w' ⟨rfl, ⟨nd, rfl⟩⟩)
    go_ret2
    exact ⟨_, rfl, Kd.R_nil _ _ _ _ _, by repeat (first | (with_reducible first | exact Below.refl _ _ | apply below_alloc | apply pw_below_drewN | apply below_drew1) | exact Below.refl _ _)⟩
  | true =>
    rw [if_pos rfl] at h
    obtain ⟨c, hc, h⟩ := Option.bind_eq_some_iff.mp h
    have HI := Aside0.mk hc
    clear hc
    cases c with
    | false =>
      rw [if_neg (by decide)] at h
      obtain ⟨rfl, rfl⟩ := Prod.mk.inj (Option.some.inj h)
      clear h
      go_enter Try.func28, Try.ntmps28
      go_wp2_with (first | (go_at_call 42; refine (impl_areLetters.calls a0 _ _ HL.out).mono ?_; rintro e w' ⟨rfl, ⟨nd, rfl⟩⟩) | (go_at_call 41; refine (impl_in.calls a1 1 4 _ _ HI.out).mono ?_; rintro e w' ⟨rfl, ⟨nd2, rfl⟩⟩))
      go_ret2
      exact ⟨_, rfl, Kd.R_nil _ _ _ _ _, by repeat (first | (with_reducible first | exact Below.refl _ _ | apply below_alloc | apply pw_below_drewN | apply below_drew1) | exact Below.refl _ _)⟩
    | true =>
      rw [if_pos rfl] at h
      obtain ⟨W, hw, h⟩ := Option.bind_eq_some_iff.mp h
      obtain ⟨r, hr, h⟩ := Option.bind_eq_some_iff.mp h
      obtain ⟨rfl, rfl⟩ := Prod.mk.inj (Option.some.inj h)
      have HW := Aside0.mk hw
      have HCC := Aside0.mk hr
      clear h hw hr
      have HB := Aside0.mk (Below.refl w.heap.size w)
      go_enter Try.func28, Try.ntmps28
      go_wp2_with (first | (go_at_call 42; refine (impl_areLetters.calls a0 _ _ HL.out).mono ?_; rintro e w' ⟨rfl, ⟨nd, rfl⟩⟩) | (go_at_call 41; refine (impl_in.calls a1 1 4 _ _ HI.out).mono ?_; rintro e w' ⟨rfl, ⟨nd2, rfl⟩⟩) | ((with_reducible refine gate_dst (N := 18) rfl ?_); refine Kd.R_lit Kd.string _ 9 ?hg (N := 18) ?hd (xs := ([] : List ByteArray)) (inner := []) (ok := fun _ => True) (okp := fun _ => True) ?hr ?hp (fun _ hk => hk) trivial (Below.refl _ _) (Nat.le_refl _) (by simp) ?_; (case hd => rfl); (case hg => rfl); (case hr => first | (go_simp; done) | (go_simp; rfl)); (case hp => exact (Reps.none _ _)); intro v218 w2 ho3 hb hg_ hnew_; clear hg_ hnew_; have HO := Aside0.mk (Kd.R_lower ho3 (below_size (by repeat (first | (with_reducible first | exact HB.out | apply below_alloc | apply pw_below_drewN | apply below_drew1) | exact HB.out)))); have HB1 := Aside0.mk (below_step (by repeat (first | (with_reducible first | exact HB.out | apply below_alloc | apply pw_below_drewN | apply below_drew1) | exact HB.out)) hb); clear HB hb ho3) | (go_at_call 59; refine (impl_allWords.calls k a1 a0 W _ HW.out).mono ?_; rintro e w5 ⟨v5, rfl, hR5, hb5⟩; obtain ⟨AW, cW, eW, hcW, hCW⟩ := Kd.R_reads hR5; subst eW; have HCW := Aside0.mk hCW; have HO5 := Aside0.mk (Kd.R_below HO.out hb5); have HB5 := Aside0.mk (HB1.out.trans (hb5.mono HB1.out.size)); clear hR5 hcW hCW hb5))
      go_loopg [6, 23] W.length (fun gg v6 v23 wr => ∃ (kk : Nat) (out : List ByteArray), v23 = .int .i64 kk ∧ Aside0 (kk ≤ W.length) ∧ Aside0 (W.length - kk ≤ gg) ∧ Aside0 (ccL k (W.drop kk) out = some r) ∧ Aside0 (out.length ≤ 12) ∧ Aside0 (Kd.C Kd.string wr AW W.length W) ∧ Aside0 (Kd.R Kd.string 9 wr w.heap.size (fun _ => True) v6 out) ∧ Aside0 (Below w.heap.size w wr))
      case atStart => exact ⟨0, [], rfl, ⟨by omega⟩, ⟨by omega⟩, ⟨by rw [List.drop_zero]; exact HCC.out⟩, ⟨by simp⟩, HCW, HO5, HB5⟩
      case round =>
        clear HO HB1 HCW HO5 HB5 HCC HW HL HI
        obtain ⟨kk, out, rfl, HK, HM, HCC, HO12, HCW, HO, HB⟩ := hrel
        by_cases hlt : kk < W.length
        · have hltz : (kk : Int) < (W.length : Int) := by omega
          obtain ⟨ad, e1, hcell⟩ := Kd.at_string HCW.out kk (by omega) hltz
          have hrd : rdOf ByteArray.empty W (kk : Int) = W[kk] := by simp [rdOf, List.getD_eq_getElem?_getD, hlt]
          rw [hrd] at hcell
          clear hrd
          simp only [Int.toNat_natCast] at hcell
          subst e1
          have hcc := HCC.out
          rw [List.drop_eq_getElem_cons hlt] at hcc
          unfold ccL at hcc
          generalize W[kk] = s at hcell hcc
          have HLT := Aside0.mk hlt
          obtain ⟨Ao, co, e6, hco, hCo⟩ := Kd.R_reads HO.out
          subst e6
          have HCL := Aside0.mk (slices_Clone_string_string.calls Ao co out out wr hCo hco (by unfold slices_Clone_string_string.f; rw [if_pos (by have := HO12.out; omega)]))
          obtain ⟨nx, hnx⟩ : ∃ nx, out ++ [s] = nx := ⟨_, rfl⟩
          rw [hnx] at hcc
          have hnl : nx.length = out.length + 1 := by rw [← hnx]; simp
          have HNL := Aside0.mk hnl
          have HNX := Aside0.mk hnx
          clear HCC hco hCo hnl hnx
          by_cases h12 : out.length < 12
          · rw [if_pos h12] at hcc
            obtain ⟨t, ht, hcc⟩ := Option.bind_eq_some_iff.mp hcc
            have HT := Aside0.mk ht
            have HCC := Aside0.mk hcc
            have H12 := Aside0.mk h12
            have d12 : decide ((out.length : Int) < 12) = true := decide_eq_true (by omega)
            have d12' : decide (out.length < 12) = true := decide_eq_true h12
            clear ht hcc h12
            go_wp2_with fail
            go_at_call 60
            refine HCL.out.mono ?_
            rintro e w3 ⟨v3, rfl, hR3, hb3⟩
            have HR3 := Aside0.mk hR3
            have HB3 := Aside0.mk hb3
            clear hR3 hb3
            go_wp2_with ((with_reducible refine gate_builtin (b := .append) (xs := #[.tmp 28, .tmp 30]) rfl ?_); at_builtin; refine Kd.R_append Kd.string (w0 := wr) wr.heap.size rfl (.tmp 28) (.tmp 30) 41 9 (.string ⟨#[]⟩) 16 rfl Try.underlying41 infoStr rfl (by decide) (by omega) v3 out s [.string s] (fun _ => True) (fun _ => False) rfl rfl ?aP (fun _ hk => hk.elim) ?aF ?aO ?aB ?aS ?aL ?_; (case aP => exact rfl); (case aB => exact (by repeat (first | (with_reducible first | exact HB3.out | apply below_alloc | apply pw_below_drewN | apply below_drew1) | exact HB3.out))); (case aF => exact (fun _ _ => trivial)); (case aO => exact (by (with_reducible repeat (first | apply Kd.R_alloc | apply Kd.R_drewN | apply Kd.R_drew)); exact HR3.out)); (case aS => exact (below_size (by repeat (first | (with_reducible first | exact HB3.out | apply below_alloc | apply pw_below_drewN | apply below_drew1) | exact HB3.out)))); (case aL => have := HO12.out; omega); intro v4 w4 ho hb hg hat; rw [HNX.out] at ho; have HR4 := Aside0.mk ho; have HB4 := Aside0.mk hb; clear ho hb hg hat; obtain ⟨A4, c4, e4, hc4, hC4⟩ := Kd.R_reads HR4.out; subst e4; have HC4 := Aside0.mk hC4; have HCC4 := Aside0.mk hc4; clear hC4 hc4)
            go_at_call 61
            refine (impl_firstInside.calls k A4 c4 nx t _ HC4.out HCC4.out HT.out).mono ?_
            rintro e w5 ⟨v5, rfl, hR5, hb5, hnil⟩
            have HB5 := Aside0.mk (HB4.out.trans (hb5.mono HB4.out.size))
            have HR5 := Aside0.mk (Kd.R_lower (Kd.R_below HR4.out hb5) HB.out.size)
            clear hb5
            cases t with
            | nil =>
              obtain rfl := hnil rfl
              have hcmp := fun (W : World) (n c n' c' : Nat) => Lib.run_eql_slice_nil (P := Try.prog) W 28 3 none n c n' c' Try.underlying28
              clear hnil hR5
              go_wp2
              go_roundg (W.length - (kk + 1))
              case measure => have := HM.out; have := HLT.out; omega
              case rel => exact ⟨kk + 1, nx, by have h1_ := HLT.out; have h2_ := HCW.out.2.1; first | (congr 1; unfold wrap64; omega) | go_num, ⟨HLT.out⟩, ⟨by have := HM.out; omega⟩, ⟨by have := HCC.out; first | rwa [if_pos rfl] at this | rwa [if_pos trivial] at this⟩, ⟨by have := HNL.out; have := H12.out; omega⟩, ⟨Kd.C_below HCW.out HB5.out⟩, HR5, ⟨HB.out.trans (HB5.out.mono HB.out.size)⟩⟩
            | cons x l =>
              obtain ⟨g, cap, rfl, _, _, _⟩ := Kd.R_form hR5 (by simp)
              have hcmp := fun (W : World) (n c n' c' : Nat) => Lib.run_eql_slice_nil (P := Try.prog) W 28 3 (some ⟨g, 0, none⟩) n c n' c' Try.underlying28
              clear hnil hR5
              go_wp2
              go_roundg (W.length - (kk + 1))
              case measure => have := HM.out; have := HLT.out; omega
              case rel => exact ⟨kk + 1, out, by have h1_ := HLT.out; have h2_ := HCW.out.2.1; first | (congr 1; unfold wrap64; omega) | go_num, ⟨HLT.out⟩, ⟨by have := HM.out; omega⟩, ⟨by have := HCC.out; rwa [if_neg (by simp)] at this⟩, HO12, ⟨Kd.C_below HCW.out HB5.out⟩, ⟨Kd.R_below HO.out HB5.out⟩, ⟨HB.out.trans (HB5.out.mono HB.out.size)⟩⟩
          · rw [if_neg h12] at hcc
            have HCC := Aside0.mk hcc
            have d12 : decide ((out.length : Int) < 12) = false := decide_eq_false (by omega)
            have d12' : decide (out.length < 12) = false := decide_eq_false h12
            clear hcc h12
            go_wp2_with fail
            go_at_call 60
            refine HCL.out.mono ?_
            rintro e w3 ⟨v3, rfl, hR3, hb3⟩
            have HR3 := Aside0.mk hR3
            have HB3 := Aside0.mk hb3
            clear hR3 hb3
            go_wp2_with ((with_reducible refine gate_builtin (b := .append) (xs := #[.tmp 28, .tmp 30]) rfl ?_); at_builtin; refine Kd.R_append Kd.string (w0 := wr) wr.heap.size rfl (.tmp 28) (.tmp 30) 41 9 (.string ⟨#[]⟩) 16 rfl Try.underlying41 infoStr rfl (by decide) (by omega) v3 out s [.string s] (fun _ => True) (fun _ => False) rfl rfl ?aP (fun _ hk => hk.elim) ?aF ?aO ?aB ?aS ?aL ?_; (case aP => exact rfl); (case aB => exact (by repeat (first | (with_reducible first | exact HB3.out | apply below_alloc | apply pw_below_drewN | apply below_drew1) | exact HB3.out))); (case aF => exact (fun _ _ => trivial)); (case aO => exact (by (with_reducible repeat (first | apply Kd.R_alloc | apply Kd.R_drewN | apply Kd.R_drew)); exact HR3.out)); (case aS => exact (below_size (by repeat (first | (with_reducible first | exact HB3.out | apply below_alloc | apply pw_below_drewN | apply below_drew1) | exact HB3.out)))); (case aL => have := HO12.out; omega); intro v4 w4 ho hb hg hat; rw [HNX.out] at ho; have HR4 := Aside0.mk ho; have HB4 := Aside0.mk hb; clear ho hb hg hat; skip)
            go_roundg (W.length - (kk + 1))
            case measure => have := HM.out; have := HLT.out; omega
            case rel => exact ⟨kk + 1, out, by have h1_ := HLT.out; have h2_ := HCW.out.2.1; first | (congr 1; unfold wrap64; omega) | go_num, ⟨HLT.out⟩, ⟨by have := HM.out; omega⟩, HCC, HO12, ⟨Kd.C_below HCW.out HB4.out⟩, ⟨Kd.R_below HO.out HB4.out⟩, ⟨HB.out.trans (HB4.out.mono HB.out.size)⟩⟩
        · have hltz : ¬ (kk : Int) < (W.length : Int) := by omega
          have hcc := HCC.out
          rw [List.drop_of_length_le (by omega)] at hcc
          unfold ccL at hcc
          obtain rfl := Option.some.inj hcc
          obtain ⟨Ao, co, e6, _, _⟩ := Kd.R_reads HO.out
          subst e6
          clear HCC hcc
          go_wp2
          go_ret2
          exact ⟨_, rfl, HO.out, HB.out⟩

end Go.Proofs.Ytnfpcgjdpcmkcaa.X

-- WRITTEN by xprint.py of this repo: the kit's print.py with contracts given by hand (given.py). Lean checks it.
import Derived.Test.YtidjjcgfdkmefaaDoorXx0
import Derived.Test.YtidjjcgfdkmefaaDoorXx7
import Derived.Test.YtidjjcgfdkmefaaDoorXx8
import Derived.Test.YtidjjcgfdkmefaaDoorXx9
import Derived.Test.YtidjjcgfdkmefaaDoorXx11
namespace Go.Proofs.YtidjjcgfdkmefaaDoor.X
open Go.RowKit Go.Proofs.YtidjjcgfdkmefaaDoorW.PrintWords Go.Proofs.YtidjjcgfdkmefaaDoorW.PrintLast Go.Proofs.YtidjjcgfdkmefaaDoorW.PrintMore
attribute [local go_sem] max2_int min2_int max_two min_two max_three min_three max_four min_four   -- for this text's walks alone
set_option linter.unusedVariables false
set_option linter.unusedSimpArgs false

/-! ### GIVEN impl_LevelsOf: function 29 -/
theorem infoILv : (Tryd.prog.info? 3).map (fun i => (i.zero, i.size, i.bytes)) = some (some (.int .i64 0), 1, 8) := by kernel_rfl
theorem infoRLv : (Tryd.prog.info? 37).map (fun i => (i.zero, i.size, i.bytes)) = some (some (.slice none 0 0), 1, 24) := by kernel_rfl
/-- At each word's length one more, at place j. -/
def lvB (j : Nat) : List ByteArray → List (List Int) → Option (List (List Int))
  | [], L => some L
  | s :: ws, L => (L[s.size]?).bind fun x => match x with
    | [p, q] => lvB j ws (L.set s.size (if j = 0 then [wrap64 (p + 1), q] else [p, wrap64 (q + 1)]))
    | _ => none
def impl_LevelsOf.f (k : Nat) (l0 : List ByteArray) : Option (List (List Int) × Bool) := (impl_isSet.f k l0).bind fun b => if b = true then ((impl_lengthsOf.f k l0).bind fun ln => if 0 ≤ Lib.maxOf (ln ++ [0]) ∧ Lib.maxOf (ln ++ [0]) ≤ 1000000 ∧ ln.length ≤ 1000000 then ((lvB 0 l0 (List.replicate ((Lib.maxOf (ln ++ [0])).toNat + 1) [0, 0])).bind fun L1 => (impl_innerWords.f k l0).bind fun inn => (lvB 1 inn L1).bind fun L2 => some (L2, true)) else none) else some ([], false)
theorem impl_LevelsOf.mono : ∀ a0 k, LeO (impl_LevelsOf.f k a0) (impl_LevelsOf.f (k + 1) a0) := by
  intro a0 k
  unfold impl_LevelsOf.f
  exact LeO.bind (impl_isSet.mono _ _) fun _ => LeO.ite (LeO.bind (impl_lengthsOf.mono _ _) fun _ => LeO.ite (LeO.bind (LeO.refl _) fun _ => LeO.bind (impl_innerWords.mono _ _) fun _ => LeO.refl _) (LeO.refl _)) (LeO.refl _)
/-- What a round finds of the row at a place, and how it is put back. -/
theorem lv_at {W : World} {base g n cap : Nat} {ok : Nat → Prop} {L : List (List Int)} (h : Kd.S (Kd.slice 3 (Kd.int .i64)) 37 W base ok (.slice (some ⟨g, 0, none⟩) n cap) L) {i : Nat} {p q : Int} (hx : L[i]? = some [p, q]) :
    ∃ gi cp, i < n ∧ (base ≤ gi ∧ ok gi) ∧ W.cell? ⟨g, i, none⟩ = some (.slice (some ⟨gi, 0, none⟩) 2 cp) ∧ 2 ≤ cp ∧ (W.cell? ⟨gi, 0, none⟩ = some (.int .i64 p) ∧ W.frozen? ⟨gi, 0, none⟩ = false) ∧ (W.cell? ⟨gi, 1, none⟩ = some (.int .i64 q) ∧ W.frozen? ⟨gi, 1, none⟩ = false) ∧
      (∀ p', Kd.S (Kd.slice 3 (Kd.int .i64)) 37 (W.setCell ⟨gi, 0, none⟩ (.int .i64 p')) base ok (.slice (some ⟨g, 0, none⟩) n cap) (L.set i [p', q])) ∧
      (∀ q', Kd.S (Kd.slice 3 (Kd.int .i64)) 37 (W.setCell ⟨gi, 1, none⟩ (.int .i64 q')) base ok (.slice (some ⟨g, 0, none⟩) n cap) (L.set i [p, q'])) := by
  have hn := (Kd.S_reads' h).1
  obtain ⟨hil, hxe⟩ := List.getElem?_eq_some_iff.1 hx
  have hin : i < n := by omega
  obtain ⟨oki, c, _, hM, hcc, hoki, hback⟩ := Kd.S_borrow h ([] : List Int) (i : Int) (by omega) (by omega)
  have hgd : L.getD (i : Int).toNat ([] : List Int) = [p, q] := by rw [Int.toNat_natCast, List.getD_eq_getElem?_getD, hx]; rfl
  rw [hgd] at hM
  obtain ⟨v, rfl, hv⟩ := hM
  obtain ⟨gi, cp, rfl, hbi, _, _⟩ := Kd.R_form hv (by simp)
  have hrd := Kd.R_reads' hv
  have hcell : W.cell? ⟨g, i, none⟩ = some (.slice (some ⟨gi, 0, none⟩) 2 cp) := by
    have h1_ := hcc 0 _ rfl
    rw [Int.toNat_natCast] at h1_
    have h2_ : (⟨g, 0, none⟩ : Addr).add (i * (Kd.slice 3 (Kd.int .i64)).sz + 0) = ⟨g, i, none⟩ := by
      show (⟨g, 0, none⟩ : Addr).add (i * 1 + 0) = _
      rw [add_plain, Nat.mul_one, Nat.add_zero]
    rw [h2_] at h1_
    exact h1_
  have hv' : (Kd.scalar (Value.int .i64) (fun _ => rfl)).R 3 W base oki (.slice (some ⟨gi, 0, none⟩) 2 cp) [p, q] := hv
  have c0 := Kd.R_celln (0 : Int) hv' 0 (by omega) (by decide)
  have c1 := Kd.R_celln (0 : Int) hv' 1 (by omega) (by decide)
  have hgi : oki gi := hv.1 gi (by simp [Value.ownBlock])
  refine ⟨gi, cp, hin, ⟨hbi, (hoki gi hgi).1⟩, hcell, hrd.2.1, c0, c1, fun p' => ?_, fun q' => ?_⟩
  · obtain ⟨h1_, h2_⟩ := Kd.R_putg hv' 0 p'
    have := hback h2_ (fun k hk => by injection hk with hk; subst hk; exact hgi) (x' := [p', q]) ⟨_, rfl, h1_⟩
    rwa [Int.toNat_natCast] at this
  · obtain ⟨h1_, h2_⟩ := Kd.R_putg hv' 1 q'
    have := hback h2_ (fun k hk => by injection hk with hk; subst hk; exact hgi) (x' := [p, q']) ⟨_, rfl, h1_⟩
    rwa [Int.toNat_natCast] at this
set_option maxRecDepth 100000 in
set_option maxHeartbeats 16000000 in
theorem impl_LevelsOf.calls (k : Nat) (A0 : Option Addr) (c0 : Nat) (l0 : List ByteArray) (r1 : List (List Int)) (r2 : Bool) (w : World) (hr0 : Kd.C Kd.string w A0 l0.length l0) (hc0 : l0.length ≤ c0) (h : impl_LevelsOf.f k l0 = some (r1, r2)) :
    Calls Tryd.prog 29 #[.slice A0 l0.length c0] w fun e w' => ∃ v0_ : Value, e = .returned (.tuple #[v0_, .bool r2]) ∧ Kd.S (Kd.slice 3 (Kd.int .i64)) 37 w' w.heap.size (fun _ => True) v0_ r1 ∧ Below w.heap.size w w' := by
  unfold impl_LevelsOf.f at h
  obtain ⟨b, hb, h⟩ := Option.bind_eq_some_iff.mp h
  have HR0 := Aside0.mk hr0
  have HC0 := Aside0.mk hc0
  have HSET := Aside0.mk hb
  clear hr0 hc0 hb
  cases b with
  | false =>
    rw [if_neg (by decide)] at h
    simp only [Option.some.injEq, Prod.mk.injEq] at h
    obtain ⟨rfl, rfl⟩ := h
    go_enter Tryd.func29, Tryd.ntmps29
    go_wp2_with (go_at_call 38; refine (impl_isSet.calls k A0 c0 l0 false w HR0.out HC0.out HSET.out).mono ?_; rintro e w1 ⟨rfl, hb1⟩; have HB1 := Aside0.mk hb1; clear hb1)
    go_ret2
    exact ⟨_, rfl, Kd.S_nil _ _ _ _ _, HB1.out⟩
  | true =>
    rw [if_pos rfl] at h
    obtain ⟨ln, hln, h⟩ := Option.bind_eq_some_iff.mp h
    by_cases hm : 0 ≤ Lib.maxOf (ln ++ [0]) ∧ Lib.maxOf (ln ++ [0]) ≤ 1000000 ∧ ln.length ≤ 1000000
    case neg => rw [if_neg hm] at h; cases h
    rw [if_pos hm] at h
    obtain ⟨mN, hmN⟩ : ∃ mN : Nat, Lib.maxOf (ln ++ [0]) = (mN : Int) := ⟨(Lib.maxOf (ln ++ [0])).toNat, by omega⟩
    rw [hmN, Int.toNat_natCast] at h
    obtain ⟨L1, hL1, h⟩ := Option.bind_eq_some_iff.mp h
    obtain ⟨inn, hinn, h⟩ := Option.bind_eq_some_iff.mp h
    obtain ⟨L2, hL2, h⟩ := Option.bind_eq_some_iff.mp h
    simp only [Option.some.injEq, Prod.mk.injEq] at h
    obtain ⟨rfl, rfl⟩ := h
    have HLN := Aside0.mk hln
    have HM := Aside0.mk hm
    have HMN := Aside0.mk hmN
    have HL1 := Aside0.mk hL1
    have HINN := Aside0.mk hinn
    have HL2 := Aside0.mk hL2
    have hmle : (mN : Int) ≤ 1000000 := by omega
    have HMX := Aside0.mk (show slices_Max_int_int.f (ln ++ [0]) = some (mN : Int) by unfold slices_Max_int_int.f; rw [if_pos (by simp), hmN])
    clear hln hm hmN hL1 hinn hL2
    go_enter Tryd.func29, Tryd.ntmps29
    go_wp2_with (first
      | (go_at_call 38; refine (impl_isSet.calls k A0 c0 l0 true w HR0.out HC0.out HSET.out).mono ?_; rintro e w1 ⟨rfl, hb1⟩; have HB1 := Aside0.mk hb1; clear hb1)
      | ((with_reducible refine gate_dst (N := 12) rfl ?_); refine Kd.R_lit (Kd.int .i64) (w0 := w) w.heap.size 3 ?hg (N := 12) ?hd (xs := [0, 0]) (inner := [.int .i64 0, .int .i64 0]) (ok := fun _ => True) (okp := fun _ => True) ?hr ?hp (fun _ hk => hk) trivial HB1.out HB1.out.size (by simp) ?_; (case hd => rfl); (case hg => rfl); (case hr => first | (go_simp; done) | (go_simp; rfl)); (case hp => exact Reps.one rfl (Reps.one rfl (Reps.none _ _))); intro v12 w2 ho2 hb2 hg2 hnew2; obtain ⟨A12, c12, e12, _, _⟩ := Kd.R_reads ho2; subst e12; have HO2 := Aside0.mk (Kd.R_tight rfl ho2); have HB2 := Aside0.mk hb2; clear hg2 hnew2 ho2 hb2)
      | ((with_reducible refine gate_dst (N := 13) rfl ?_); refine Kd.S_lits (Kd.slice 3 (Kd.int .i64)) (w0 := w) w.heap.size 37 ?hg (N := 13) ?hd (xs := [[0, 0]]) (inner := [.slice A12 2 c12]) (ok := fun _ => True) (fun j k => j = 0 ∧ some k = (Value.slice A12 2 c12).ownBlock) ?hr rfl ?hp (fun i j k hi hj => hi.1.trans hj.1.symm) (fun _ _ _ => trivial) trivial HB2.out HB2.out.size (by simp) ?_; (case hd => rfl); (case hg => rfl); (case hr => first | (go_simp; done) | (go_simp; rfl)); (case hp => (intro j x hj; obtain ⟨rfl, rfl⟩ : j = 0 ∧ [0, 0] = x := (by cases j with | zero => exact ⟨rfl, by simpa using hj⟩ | succ j => simp at hj); exact ⟨_, rfl, Kd.R_mono HO2.out (fun k hk => ⟨rfl, hk⟩)⟩)); intro v13 w3 ho3 hb3 hg3 hnew3; obtain ⟨A13, c13, e13, _, _⟩ := Kd.S_reads ho3; subst e13; have HO3 := Aside0.mk ho3; have HB3 := Aside0.mk hb3; clear hg3 hnew3 ho3 hb3)
      | (go_at_call 48; refine (impl_lengthsOf.calls k A0 c0 l0 ln w3 (Kd.C_below HR0.out HB3.out) HC0.out HLN.out).mono ?_; rintro e w4 ⟨v4, rfl, hR4, hb4⟩; obtain ⟨A4, c4, e4, _, _⟩ := Kd.R_reads hR4; subst e4; have HR4 := Aside0.mk hR4; have HO4 := Aside0.mk (Kd.S_below HO3.out hb4); have HB4 := Aside0.mk (HB3.out.trans (hb4.mono HB3.out.size)); have HB43 := Aside0.mk hb4; clear hR4 hb4)
      | ((with_reducible refine gate_builtin (b := .append) (xs := #[.tmp 15, .tmp 16]) rfl ?_); at_builtin; refine Kd.R_append (Kd.int .i64) (w0 := w4) w3.heap.size rfl (.tmp 15) (.tmp 16) 37 3 (.int .i64 0) 8 rfl Tryd.underlying37 infoILv rfl (by decide) (by omega) (.slice A4 ln.length c4) ln 0 [.int .i64 0] (fun _ => True) (fun _ => False) rfl rfl rfl (fun _ hk => hk.elim) (fun _ _ => trivial) HR4.out (Below.refl _ _ |>.mono HB43.out.size) HB43.out.size (by have := HM.out.2.2; omega) ?_; intro v5 w5 ho5 hb5 hg5 hat5; obtain ⟨A5, c5, e5, hc5, hC5⟩ := Kd.R_reads ho5; subst e5; have HC5 := Aside0.mk hC5; have HCC5 := Aside0.mk hc5; have HB5 := Aside0.mk (HB3.out.trans ((show Below w3.heap.size w3 w5 from HB43.out.trans hb5).mono HB3.out.size)); have HO5 := Aside0.mk (Kd.S_below HO3.out (show Below w3.heap.size w3 w5 from HB43.out.trans hb5)); clear ho5 hb5 hg5 hat5 hc5 hC5)
      | (go_at_call 47; refine (show Calls Tryd.prog 47 #[.slice A5 (ln.length + 1) c5] w5 _ from by have h_ := slices_Max_int_int.calls A5 c5 (ln ++ [0]) (mN : Int) w5 HC5.out HCC5.out HMX.out; rw [List.length_append, List.length_singleton] at h_; exact h_).mono ?_; rintro e w6 ⟨rfl, hd6⟩; have HO6 := Aside0.mk (Kd.S_below HO5.out hd6.below); have HB6 := Aside0.mk (HB5.out.trans (hd6.below.mono HB5.out.size)); clear hd6))
    clear h
    go_loopg [4, 19] mN (fun gg v4 v19 wr => ∃ kk : Nat, v19 = .int .i64 kk ∧ Aside0 (kk ≤ mN) ∧ Aside0 (mN - kk ≤ gg) ∧ Aside0 (Kd.S (Kd.slice 3 (Kd.int .i64)) 37 wr w.heap.size (fun _ => True) v4 (List.replicate (kk + 1) [0, 0])) ∧ Aside0 (Below w.heap.size w wr))
    case atStart => exact ⟨0, rfl, ⟨Nat.zero_le _⟩, ⟨by omega⟩, HO6, HB6⟩
    case round =>
      clear HO6 HB6 HB1 HO2 HB2 HO3 HB3 HO4 HB4 HB43 HR4 HO5 HB5 HC5 HCC5
      obtain ⟨kk, rfl, HK, HG, HO, HB⟩ := hrel
      obtain ⟨Ao, co, eo, _, _⟩ := Kd.S_reads HO.out
      rw [List.length_replicate] at eo
      subst eo
      by_cases hlt : kk < mN
      · have hltz : (kk : Int) < (mN : Int) := by omega
        have HLT := Aside0.mk hlt
        have HMB := Aside0.mk hmle
        clear hlt
        go_wp2_with (first
          | ((with_reducible refine gate_dst (N := 22) rfl ?_); refine Kd.R_lit (Kd.int .i64) (w0 := w) w.heap.size 3 ?hg (N := 22) ?hd (xs := [0, 0]) (inner := [.int .i64 0, .int .i64 0]) (ok := fun k_ => wr.heap.size ≤ k_) (okp := fun _ => False) ?hr ?hp (fun _ hk => hk.elim) (Nat.le_refl _) HB.out HB.out.size (by simp) ?_; (case hd => rfl); (case hg => rfl); (case hr => first | (go_simp; done) | (go_simp; rfl)); (case hp => exact Reps.one rfl (Reps.one rfl (Reps.none _ _))); intro v22 w2 ho2 hb2 hg2 hnew2; obtain ⟨A22, c22, e22, _, _⟩ := Kd.R_reads ho2; subst e22; have HO2 := Aside0.mk (Kd.R_tight rfl ho2); have HN2 := Aside0.mk ho2.1; have HB2 := Aside0.mk hb2; have HOw := Aside0.mk (Kd.S_mono (ok' := fun k_ => k_ < wr.heap.size) (Kd.S_grown (Kd.S_bound HO.out) hg2 (fun _ _ => by simp)) (fun k_ hk => hk.2.2.1)); clear hg2 hnew2 ho2 hb2)
          | ((with_reducible refine gate_builtin (b := .append) (xs := #[.tmp 21, .tmp 23]) rfl ?_); at_builtin; refine Kd.S_append (Kd.slice 3 (Kd.int .i64)) (w0 := w) w.heap.size rfl (.tmp 21) (.tmp 23) 31 37 (.slice none 0 0) 24 rfl Tryd.underlying31 infoRLv rfl (by decide) (by omega) (.slice Ao (kk + 1) co) (List.replicate (kk + 1) [0, 0]) [0, 0] [.slice A22 2 c22] (fun _ => True) (fun k_ => some k_ = (Value.slice A22 2 c22).ownBlock) rfl rfl ⟨_, rfl, HO2.out⟩ (fun k_ hk => ⟨trivial, fun e => by have h1_ := HN2.out k_ hk.symm; have h2_ := (Kd.S_R HOw.out).1 k_ e.symm; omega⟩) (fun _ _ => trivial) (Kd.S_mono HOw.out (fun k_ hk => ⟨trivial, fun q => by have h1_ := HN2.out k_ q.symm; omega⟩)) HB2.out HB2.out.size (by rw [List.length_replicate]; have h1_ := HLT.out; have h2_ := HMB.out; omega) ?_; intro v24 w3 ho3 hb3 hg3 hat3; have HO3 := Aside0.mk ho3; have HB3 := Aside0.mk hb3; clear ho3 hb3 hg3 hat3))
        go_roundg (mN - (kk + 1))
        case measure => have h1_ := HLT.out; have h2_ := HG.out; omega
        case rel => exact ⟨kk + 1, by have h1_ := HMB.out; have h2_ := HLT.out; first | (congr 1; unfold wrap64; omega) | go_num, ⟨HLT.out⟩, ⟨by have h1_ := HG.out; omega⟩, ⟨by have q_ := HO3.out; rw [show List.replicate (kk + 1) ([0, 0] : List Int) ++ [[0, 0]] = List.replicate (kk + 1 + 1) [0, 0] by rw [List.replicate_succ' (n := kk + 1)]] at q_; exact q_⟩, HB3⟩
      · have hltz : ¬ (kk : Int) < (mN : Int) := by omega
        obtain rfl : kk = mN := by have := HK.out; omega
        have HMXL := Aside0.mk HR0.out.2.1
        clear HK HG hlt
        obtain ⟨g, cap, eg, hbg, hlg, _⟩ := Kd.S_form HO.out (by simp)
        rw [List.length_replicate] at eg
        obtain ⟨rfl, rfl⟩ : Ao = some ⟨g, 0, none⟩ ∧ co = cap := by injection eg with e1 _ e2; exact ⟨e1, e2⟩
        have HGB := Aside0.mk hbg
        obtain ⟨n, hn⟩ : ∃ n, kk + 1 = n := ⟨_, rfl⟩
        have HL1' := HL1.out
        rw [hn] at HO HL1' ⊢
        have HNL := Aside0.mk (show (List.replicate n ([0, 0] : List Int)).length = n by simp)
        have HL1'' := Aside0.mk HL1'
        generalize List.replicate n ([0, 0] : List Int) = LS at HO HL1'' HNL
        clear hn eg hbg hlg HL1' HL1 HMX HMN HM hmle
        go_wp2_with fail
        go_loopg [28] l0.length (fun gg v28 w' => ∃ (jj : Nat) (L : List (List Int)), v28 = .int .i64 jj ∧ Aside0 (jj ≤ l0.length) ∧ Aside0 (l0.length - jj ≤ gg) ∧ Aside0 (lvB 0 (l0.drop jj) L = some L1) ∧ Aside0 (Kd.S (Kd.slice 3 (Kd.int .i64)) 37 w' w.heap.size (fun _ => True) (.slice (some ⟨g, 0, none⟩) n co) L) ∧ Aside0 (Below w.heap.size w w'))
        case atStart => exact ⟨0, LS, rfl, ⟨Nat.zero_le _⟩, ⟨by omega⟩, ⟨by rw [List.drop_zero]; exact HL1''.out⟩, HO, HB⟩
        case round =>
          clear HO HB HL1''
          obtain ⟨jj, L, rfl, HJ, HG, HL, HO, HB⟩ := hrel
          by_cases hlt : jj < l0.length
          · have hltz : (jj : Int) < (l0.length : Int) := by omega
            obtain ⟨ad, e1, hcell⟩ := Kd.at_string (Kd.C_below HR0.out HB.out) jj (by omega) hltz
            have hrd : rdOf ByteArray.empty l0 (jj : Int) = l0[jj] := by simp [rdOf, List.getD_eq_getElem?_getD, hlt]
            rw [hrd] at hcell
            simp only [Int.toNat_natCast] at hcell
            subst e1
            have hw := HL.out
            rw [List.drop_eq_getElem_cons hlt] at hw
            unfold lvB at hw
            generalize l0[jj] = s at hw hcell hrd
            obtain ⟨x, hx, hw⟩ := Option.bind_eq_some_iff.mp hw
            split at hw
            case h_2 => cases hw
            rename_i p q
            rw [if_pos rfl] at hw
            obtain ⟨gi, cp, hin, hbi, hci, h2c, ⟨hp0, hf0⟩, ⟨hq0, _⟩, hst, _⟩ := lv_at HO.out hx
            have HW2 := Aside0.mk hw
            have HST := Aside0.mk (hst (wrap64 (p + 1)))
            have HLT := Aside0.mk hlt
            have HBI := Aside0.mk hbi
            have hinz : (s.size : Int) < (n : Int) := by omega
            clear hrd hw hx hst hlt hq0 hbi
            go_wp2_with fail
            go_roundg (l0.length - (jj + 1))
            case measure => have h1_ := HLT.out; have h2_ := HG.out; omega
            case rel => exact ⟨jj + 1, _, by have h1_ := HLT.out; have h2_ := HMXL.out; first | (congr 1; unfold wrap64; omega) | go_num, ⟨HLT.out⟩, ⟨by have h1_ := HG.out; omega⟩, HW2, HST, ⟨below_set HB.out HBI.out.1⟩⟩
          · have hltz : ¬ (jj : Int) < (l0.length : Int) := by omega
            have hw := HL.out
            rw [List.drop_of_length_le (by omega)] at hw
            unfold lvB at hw
            obtain rfl := Option.some.inj hw
            clear hw HL HJ HG hlt
            obtain ⟨wo, hwo⟩ : ∃ W, W = wr := ⟨wr, rfl⟩
            subst hwo
            go_wp2_with (go_at_call 49; refine (impl_innerWords.calls k A0 c0 l0 inn wo (Kd.C_below HR0.out HB.out) HC0.out HINN.out).mono ?_; rintro e w7 ⟨v7, rfl, hR7, hb7⟩; obtain ⟨A7, c7, e7, _, hC7⟩ := Kd.R_reads hR7; subst e7; have HC7 := Aside0.mk hC7; have HO7 := Aside0.mk (Kd.S_mono (ok' := fun k_ => k_ < wo.heap.size) (Kd.S_below (Kd.S_bound HO.out) hb7) (fun k_ hk => hk.2.2.1)); have HB7 := Aside0.mk (HB.out.trans (hb7.mono HB.out.size)); have HN7 := Aside0.mk (Kd.R_mono (ok' := fun k_ => wo.heap.size ≤ k_) (Kd.R_bound hR7) (fun k_ hk => hk.2.1)); clear hR7 hb7 hC7)
            go_loopg [45] inn.length (fun gg v45 w' => ∃ (jj : Nat) (L : List (List Int)), v45 = .int .i64 jj ∧ Aside0 (jj ≤ inn.length) ∧ Aside0 (inn.length - jj ≤ gg) ∧ Aside0 (lvB 1 (inn.drop jj) L = some L2) ∧ Aside0 (Kd.S (Kd.slice 3 (Kd.int .i64)) 37 w' w.heap.size (fun k_ => k_ < wo.heap.size) (.slice (some ⟨g, 0, none⟩) n co) L) ∧ Aside0 (Kd.R Kd.string 9 w' wo.heap.size (fun k_ => wo.heap.size ≤ k_) (.slice A7 inn.length c7) inn) ∧ Aside0 (Below w.heap.size w w'))
            case atStart => exact ⟨0, L, rfl, ⟨Nat.zero_le _⟩, ⟨by omega⟩, ⟨by rw [List.drop_zero]; exact HL2.out⟩, HO7, HN7, HB7⟩
            case round =>
              clear HO HB HO7 HB7 HN7 HL2
              obtain ⟨jj, L, rfl, HJ, HG, HL, HO, HN, HB⟩ := hrel
              by_cases hlt : jj < inn.length
              · have hltz : (jj : Int) < (inn.length : Int) := by omega
                obtain ⟨ad, e1, hcell⟩ := Kd.at_string (Kd.R_reads' HN.out).2.2 jj (by omega) hltz
                have hrd : rdOf ByteArray.empty inn (jj : Int) = inn[jj] := by simp [rdOf, List.getD_eq_getElem?_getD, hlt]
                rw [hrd] at hcell
                simp only [Int.toNat_natCast] at hcell
                subst e1
                have hw := HL.out
                rw [List.drop_eq_getElem_cons hlt] at hw
                unfold lvB at hw
                generalize inn[jj] = s at hw hcell hrd
                obtain ⟨x, hx, hw⟩ := Option.bind_eq_some_iff.mp hw
                split at hw
                case h_2 => cases hw
                rename_i p q
                rw [if_neg (by decide)] at hw
                obtain ⟨gi, cp, hin, hbi, hci, h2c, ⟨hp0, _⟩, ⟨hq0, hf0⟩, _, hst⟩ := lv_at HO.out hx
                have HW2 := Aside0.mk hw
                have HST := Aside0.mk (hst (wrap64 (q + 1)))
                have HLT := Aside0.mk hlt
                have HBI := Aside0.mk hbi
                have hinz : (s.size : Int) < (n : Int) := by omega
                have HNN := Aside0.mk (Kd.R_far (p := ⟨gi, 1, none⟩) HN.out (fun k_ hk e => by have h1_ := hbi.2; have h2_ : k_ = gi := e; omega) (Value.int .i64 (wrap64 (q + 1))))
                have HI := Aside0.mk (show inn.length ≤ 9223372036854775807 from (Kd.R_reads' HN.out).2.2.2.1)
                clear hrd hw hx hst hlt hp0 hbi
                go_wp2_with fail
                go_roundg (inn.length - (jj + 1))
                case measure => have h1_ := HLT.out; have h2_ := HG.out; omega
                case rel => exact ⟨jj + 1, _, by have h1_ := HLT.out; have h2_ := HI.out; first | (congr 1; unfold wrap64; omega) | go_num, ⟨HLT.out⟩, ⟨by have h1_ := HG.out; omega⟩, HW2, HST, HNN, ⟨below_set HB.out HBI.out.1⟩⟩
              · have hltz : ¬ (jj : Int) < (inn.length : Int) := by omega
                have hw := HL.out
                rw [List.drop_of_length_le (by omega)] at hw
                unfold lvB at hw
                obtain rfl := Option.some.inj hw
                clear hw HL HJ HG hlt
                go_wp2_with fail
                go_ret2
                exact ⟨_, rfl, Kd.S_mono HO.out (fun _ _ => trivial), HB.out⟩

end Go.Proofs.YtidjjcgfdkmefaaDoor.X

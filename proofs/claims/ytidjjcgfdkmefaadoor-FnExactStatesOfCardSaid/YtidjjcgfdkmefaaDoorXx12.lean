-- WRITTEN by xprint.py of this repo: the kit's print.py with contracts given by hand (given.py). Lean checks it.
import Derived.Test.YtidjjcgfdkmefaaDoorXx0
import Derived.Test.YtidjjcgfdkmefaaDoorXx5
import Derived.Test.YtidjjcgfdkmefaaDoorXx7
import Derived.Test.YtidjjcgfdkmefaaDoorXx8
import Derived.Test.YtidjjcgfdkmefaaDoorXx11
namespace Go.Proofs.YtidjjcgfdkmefaaDoor.X
open Go.RowKit Go.Proofs.YtidjjcgfdkmefaaDoorW.PrintWords Go.Proofs.YtidjjcgfdkmefaaDoorW.PrintLast Go.Proofs.YtidjjcgfdkmefaaDoorW.PrintMore
attribute [local go_sem] max2_int min2_int max_two min_two max_three min_three max_four min_four   -- for this text's walks alone
set_option linter.unusedVariables false
set_option linter.unusedSimpArgs false

/-! ### GIVEN impl_stepperOf: function 34 -/
theorem heap_new (w : World) (o : Obj) : (w.alloc o).heap[w.heap.size]? = some o := by
  have h : (w.alloc o).heap = w.heap.push o := rfl
  rw [h, Array.getElem?_push, if_pos rfl]
/-- A value that has been put into a box of its own. -/
theorem box_new (w : World) (v : Value) (e : Nat) : (w.alloc (.cells #[v] e)).cell? ⟨w.heap.size, 0, none⟩ = some v := by
  unfold World.cell?
  rw [show (w.alloc (.cells #[v] e)).heap[(⟨w.heap.size, 0, none⟩ : Addr).block]? = some (.cells #[v] e) from heap_new w _]
  rfl

theorem infoIntR : (Tryd.prog.info? 3).map (fun i => (i.zero, i.size, i.bytes)) = some (some (.int .i64 0), 1, 8) := by kernel_rfl
theorem infoRowI : (Tryd.prog.info? 37).map (fun i => (i.zero, i.size, i.bytes)) = some (some (.slice none 0 0), 1, 24) := by kernel_rfl
def abcAt (j : Nat) : ByteArray := (⟨#[97, 98, 99]⟩ : ByteArray).extract j (j + 1)
def stOk (k : Nat) (inn : List ByteArray) (many : Int) : Bool := (decide (inn.length ≤ 1000) && decide (0 ≤ many ∧ many ≤ 3)) && inn.all fun s => decide (s.size ≤ 1000) && (List.range many.toNat).all fun j => (slices_Index_string_string.f k inn (s ++ abcAt j)).isSome
def impl_stepperOf.f (k : Nat) (l0 : List ByteArray) : Option (Option (List ByteArray)) := (impl_isSet.f k l0).bind fun b => if b = true then (if l0.length ≤ 12 then ((impl_letterCount.f l0).bind fun many => (impl_innerWords.f k l0).bind fun inn => (impl_isMaximalPrefix.f k l0 many).bind fun mp => if mp = true then (if stOk k inn many = true then some (some inn) else none) else some none) else some none) else some none
theorem stOk.mono (k : Nat) (inn : List ByteArray) (many : Int) (h : stOk k inn many = true) : stOk (k + 1) inn many = true := by
  unfold stOk at *
  rw [Bool.and_eq_true] at *
  refine ⟨h.1, List.all_eq_true.2 fun s hs => ?_⟩
  have h1 := List.all_eq_true.1 h.2 s hs
  rw [Bool.and_eq_true] at *
  refine ⟨h1.1, List.all_eq_true.2 fun j hj => ?_⟩
  have h2 := List.all_eq_true.1 h1.2 j hj
  obtain ⟨r, hr⟩ := Option.isSome_iff_exists.1 h2
  rw [slices_Index_string_string.mono _ _ _ r hr]
  rfl
theorem impl_stepperOf.mono : ∀ a0 k, LeO (impl_stepperOf.f k a0) (impl_stepperOf.f (k + 1) a0) := by
  intro a0 k
  unfold impl_stepperOf.f
  refine LeO.bind (impl_isSet.mono _ _) fun _ => LeO.ite (LeO.ite (LeO.bind (LeO.refl _) fun _ => LeO.bind (impl_innerWords.mono _ _) fun _ => LeO.bind (impl_isMaximalPrefix.mono _ _ _) fun _ => LeO.ite ?_ (LeO.refl _)) (LeO.refl _)) (LeO.refl _)
  intro r hr
  split at hr
  · rename_i hs
    rw [if_pos (stOk.mono _ _ _ hs)]
    exact hr
  · cases hr
/-- A block with the fields of a stepper. -/
def Sb (W : World) (G : Nat) (a b c : Value) : Prop := W.heap[G]? = some (.cells #[a, b, c] 49 (0, 0))
section
variable {W W' : World} {G : Nat} {a b c : Value}
theorem Sb.cells (h : Sb W G a b c) : W.cell? ⟨G, 0, none⟩ = some a ∧ W.cell? ⟨G, 1, none⟩ = some b ∧ W.cell? ⟨G, 2, none⟩ = some c ∧ W.frozen? ⟨G, 2, none⟩ = false := by
  have h' : W.heap[G]? = some (.cells #[a, b, c] 49 (0, 0)) := h
  exact ⟨by simp [World.cell?, h'], by simp [World.cell?, h'], by simp [World.cell?, h'], by simp [World.frozen?, h']⟩
theorem Sb.lt (h : Sb W G a b c) : G < W.heap.size := (Array.getElem?_eq_some_iff.1 h).1
theorem Sb.below {n : Nat} (h : Sb W G a b c) (hb : Below n W W') (hG : G < n) : Sb W' G a b c := (hb.block G hG).trans h
theorem Sb.set (h : Sb W G a b c) (v : Value) : Sb (W.setCell ⟨G, 2, none⟩ v) G a b v := by
  have h' : W.heap[G]? = some (.cells #[a, b, c] 49 (0, 0)) := h
  show (W.setCell ⟨G, 2, none⟩ v).heap[G]? = _
  simp [World.setCell, Array.getElem?_modify, h']
theorem Sb.grown {row : Option Nat} (h : Sb W G a b c) (hg : W.grownBy W' row) (hne : some G ≠ row) : Sb W' G a b c := (hg.block G h.lt hne).trans h
end
set_option maxRecDepth 100000 in
set_option maxHeartbeats 16000000 in
theorem impl_stepperOf.calls (k : Nat) (A0 : Option Addr) (c0 : Nat) (l0 : List ByteArray) (r : Option (List ByteArray)) (w : World) (hr0 : Kd.C Kd.string w A0 l0.length l0) (hc0 : l0.length ≤ c0) (h : impl_stepperOf.f k l0 = some r) (hm : MaxAt w) :
    Calls Tryd.prog 34 #[.slice A0 l0.length c0] w fun e w' => ((r = none ∧ e = .returned (.tuple #[.pointer none, .bool false])) ∨ (∃ (inn : List ByteArray) (G : Nat) (v : Value), r = some inn ∧ e = .returned (.tuple #[.pointer (some ⟨G, 0, none⟩), .bool true]) ∧ w'.cell? ⟨G, 1, none⟩ = some v ∧ Kd.R Kd.string 9 w' w.heap.size (fun _ => True) v inn)) ∧ Below w.heap.size w w' := by
  unfold impl_stepperOf.f at h
  replace h := Option.bind_eq_some_iff.mp h
  obtain ⟨b, hb, h⟩ := h
  have HR0 := Aside0.mk hr0
  have HC0 := Aside0.mk hc0
  have HM := Aside0.mk hm
  have HSET := Aside0.mk hb
  have HB0 := Aside0.mk (Below.refl w.heap.size w)
  clear hr0 hc0 hb hm
  cases b with
  | false =>
    rw [if_neg (by decide)] at h
    obtain rfl := Option.some.inj h
    clear h
    go_enter Tryd.func34, Tryd.ntmps34
    go_wp2_with (go_at_call 38; refine (impl_isSet.calls k A0 c0 l0 false w HR0.out HC0.out HSET.out).mono ?_; rintro e w1 ⟨rfl, hb1⟩; have HB1 := Aside0.mk hb1; clear hb1)
    go_ret2
    exact ⟨.inl ⟨by first | rfl | trivial, rfl⟩, HB1.out⟩
  | true =>
  rw [if_pos rfl] at h
  by_cases h12 : l0.length ≤ 12
  case neg =>
    rw [if_neg h12] at h
    obtain rfl := Option.some.inj h
    have d12 : decide (12 < (l0.length : Int)) = true := decide_eq_true (by omega)
    have d12' : decide (12 < l0.length) = true := decide_eq_true (by omega)
    clear h
    go_enter Tryd.func34, Tryd.ntmps34
    go_wp2_with (go_at_call 38; refine (impl_isSet.calls k A0 c0 l0 true w HR0.out HC0.out HSET.out).mono ?_; rintro e w1 ⟨rfl, hb1⟩; have HB1 := Aside0.mk hb1; clear hb1)
    go_ret2
    exact ⟨.inl ⟨by first | rfl | trivial, rfl⟩, HB1.out⟩
  rw [if_pos h12] at h
  have d12 : decide (12 < (l0.length : Int)) = false := decide_eq_false (by omega)
  have d12' : decide (12 < l0.length) = false := decide_eq_false (by omega)
  replace h := Option.bind_eq_some_iff.mp h
  obtain ⟨many, hmany, h⟩ := h
  replace h := Option.bind_eq_some_iff.mp h
  obtain ⟨inn, hinn, h⟩ := h
  replace h := Option.bind_eq_some_iff.mp h
  obtain ⟨mp, hmp, h⟩ := h
  have HMANY := Aside0.mk hmany
  have HINN := Aside0.mk hinn
  have HMP := Aside0.mk hmp
  have HH := Aside0.mk h
  clear hmany hinn hmp h h12
  go_enter Tryd.func34, Tryd.ntmps34
  go_upto_region 4 with (first
    | (go_at_call 38; refine (impl_isSet.calls k A0 c0 l0 true w HR0.out HC0.out HSET.out).mono ?_; rintro e w1 ⟨rfl, hb1⟩; have HB1 := Aside0.mk hb1; clear hb1)
    | (go_at_call 65; (with_reducible refine (impl_letterCount.calls A0 c0 l0 many _ (Kd.C_below HR0.out HB1.out) HC0.out HMANY.out (maxAt_below HM.out HB1.out)).mono ?_); rintro e w2 ⟨rfl, hb2⟩; have HB2 := Aside0.mk (HB1.out.trans (hb2.mono HB1.out.size)); clear hb2)
    | (go_at_call 49; (with_reducible refine (impl_innerWords.calls k A0 c0 l0 inn _ (Kd.C_below HR0.out HB2.out) HC0.out HINN.out).mono ?_); rintro e w3 ⟨v3, rfl, hR3, hb3⟩; obtain ⟨A3, c3, e3, _, _⟩ := Kd.R_reads hR3; subst e3; have HR3 := Aside0.mk (Kd.R_bound hR3); have HB3 := Aside0.mk (HB2.out.trans (hb3.mono HB2.out.size)); clear hR3 hb3))
  obtain ⟨W4, hW4⟩ : ∃ W4, (w3.alloc (.cells #[.int .i64 many, .slice A3 inn.length c3, .slice none 0 0] 49)) = W4 := ⟨_, rfl⟩
  have hsb : Sb W4 w3.heap.size (.int .i64 many) (.slice A3 inn.length c3) (.slice none 0 0) := by rw [← hW4]; exact heap_new w3 _
  have hb4 : Below w3.heap.size w3 W4 := by rw [← hW4]; exact below_alloc (Below.refl _ _) _
  have SB4 := Aside0.mk hsb
  have B4 := Aside0.mk hb4
  have BW4 := Aside0.mk (HB3.out.trans (hb4.mono HB3.out.size))
  have sb0 := hsb.cells.1
  have hh := HH.out
  rw [hW4]
  clear hW4 hsb hb4 HH
  cases mp with
  | false =>
    rw [if_neg (by decide)] at hh
    obtain rfl := Option.some.inj hh
    clear hh
    go_wp2_with (go_at_call 66; (with_reducible refine (impl_isMaximalPrefix.calls k A0 c0 l0 many false _ (Kd.C_below HR0.out BW4.out) HC0.out HMP.out).mono ?_); rintro e w5 ⟨rfl, hb5⟩; have HB5 := Aside0.mk (BW4.out.trans (hb5.mono BW4.out.size)); clear hb5)
    go_ret2
    refine ⟨?_, HB5.out⟩
    first | rfl | exact .inl ⟨by first | rfl | trivial, rfl⟩
  | true =>
  rw [if_pos rfl] at hh
  by_cases hst : stOk k inn many = true
  case neg => rw [if_neg hst] at hh; cases hh
  rw [if_pos hst] at hh
  obtain rfl := Option.some.inj hh
  unfold stOk at hst
  rw [Bool.and_eq_true, Bool.and_eq_true, decide_eq_true_eq, decide_eq_true_eq] at hst
  obtain ⟨⟨hin, hm0, hm3⟩, hall⟩ := hst
  obtain ⟨m, rfl⟩ : ∃ m : Nat, many = (m : Int) := ⟨many.toNat, by omega⟩
  rw [Int.toNat_natCast] at hall
  have HIN := Aside0.mk hin
  have HM3 := Aside0.mk (show m ≤ 3 by omega)
  have HALL := Aside0.mk hall
  clear hh hin hm0 hm3 hall
  go_upto_region 6 with (go_at_call 66; (with_reducible refine (impl_isMaximalPrefix.calls k A0 c0 l0 (m : Int) true _ (Kd.C_below HR0.out BW4.out) HC0.out HMP.out).mono ?_); rintro e w5 ⟨rfl, hb5⟩; have HB5 := Aside0.mk (B4.out.trans (hb5.mono B4.out.size)); have SB5 := Aside0.mk (SB4.out.below hb5 SB4.out.lt); have sb0 := SB5.out.cells.1; have sb1 := SB5.out.cells.2.1; clear hb5)
  have HB3S := Aside0.mk HB3.out.size
  clear SB4 B4 BW4 HMP
  go_wp2_with fail
  go_loopg [35] inn.length (fun gg v35 wr => ∃ (kk : Nat) (nx : Value) (L : List (List Int)), v35 = .int .i64 kk ∧ Aside0 (kk ≤ inn.length) ∧ Aside0 (inn.length - kk ≤ gg) ∧ Aside0 (L.length ≤ kk) ∧ Aside0 (Below w3.heap.size w3 wr) ∧ Aside0 (Sb wr w3.heap.size (.int .i64 (m : Int)) (.slice A3 inn.length c3) nx) ∧ Aside0 (Kd.R (Kd.slice 3 (Kd.int .i64)) 37 wr w3.heap.size (fun k => k ≠ w3.heap.size) nx L))
  case atStart => exact ⟨0, _, [], rfl, ⟨Nat.zero_le _⟩, ⟨by omega⟩, ⟨Nat.le_refl _⟩, HB5, SB5, ⟨Kd.R_nil _ _ _ _ _⟩⟩
  case round =>
    clear HB5 SB5 sb0 sb1
    obtain ⟨kk, nx, L, rfl, HK, HG, HLN, HB, HSB, HRN⟩ := hrel
    have sb0 := HSB.out.cells.1
    have sb1 := HSB.out.cells.2.1
    by_cases hlt : kk < inn.length
    · have hltz : (kk : Int) < (inn.length : Int) := by omega
      obtain ⟨ad, ea, hcell⟩ := Kd.at_string (Kd.C_below (Kd.R_reads' HR3.out).2.2 HB.out) kk (by omega) hltz
      have hra : rdOf ByteArray.empty inn (kk : Int) = inn[kk] := by simp [rdOf, List.getD_eq_getElem?_getD, hlt]
      rw [hra] at hcell
      simp only [Int.toNat_natCast] at hcell
      subst ea
      have hs := List.all_eq_true.1 HALL.out inn[kk] (List.getElem_mem hlt)
      rw [Bool.and_eq_true, decide_eq_true_eq] at hs
      generalize inn[kk] = s at hcell hs
      have HS1 := Aside0.mk hs.1
      have HS2 := Aside0.mk hs.2
      clear hra hs
      go_wp2_with ((with_reducible refine gate_dst (N := 39) rfl ?_); refine Kd.R_lit (Kd.int .i64) (w0 := wr) wr.heap.size 3 ?hg (N := 39) ?hd (xs := ([] : List Int)) (inner := []) (ok := fun _ => True) (okp := fun _ => True) ?hr ?hp (fun _ hk => hk) trivial (Below.refl _ _) (Nat.le_refl _) (by simp) ?_; (case hd => rfl); (case hg => rfl); (case hr => first | (go_simp; done) | (go_simp; rfl)); (case hp => exact (Reps.none _ _)); intro v39 w6 ho6 hb6 hg_ hnew_; clear hg_ hnew_; have HO6 := Aside0.mk ho6; have HB6 := Aside0.mk hb6; clear sb0 sb1; have sb0 := (HSB.out.below hb6 HSB.out.lt).cells.1; clear ho6 hb6)
      obtain ⟨wo, hwo⟩ : ∃ W, W = wr := ⟨wr, rfl⟩
      obtain ⟨gko, hgko⟩ : ∃ g, g = gk := ⟨gk, rfl⟩
      subst hwo
      subst hgko
      go_loopg [7, 44] m (fun gk v7 v44 w' => ∃ (jj : Nat) (row : List Int), v44 = .int .i64 jj ∧ Aside0 (jj ≤ m) ∧ Aside0 (m - jj ≤ gk) ∧ Aside0 (row.length ≤ jj) ∧ Aside0 (Below wo.heap.size wo w') ∧ Aside0 (Kd.R (Kd.int .i64) 3 w' wo.heap.size (fun _ => True) v7 row))
      case atStart => exact ⟨0, [], rfl, ⟨Nat.zero_le _⟩, ⟨by omega⟩, ⟨Nat.le_refl _⟩, HB6, HO6⟩
      case round =>
        clear HO6 HB6 sb0
        obtain ⟨jj, row, rfl, HJ, HJG, HRL, HBI, HRO⟩ := hrel
        obtain ⟨A7, c7, e7, _, _⟩ := Kd.R_reads HRO.out
        subst e7
        have sbI := HSB.out.below HBI.out HSB.out.lt
        have sb1 := sbI.cells.2.1
        by_cases hj : jj < m
        · have hjz : (jj : Int) < (m : Int) := by omega
          have hjm := HM3.out
          have hidx := List.all_eq_true.1 HS2.out jj (List.mem_range.2 hj)
          obtain ⟨x, hx⟩ := Option.isSome_iff_exists.1 hidx
          have HX := Aside0.mk hx
          have hw : IntKind.i64.wrap ((jj : Int) + 1) = ((jj + 1 : Nat) : Int) := by rw [i64_w]; unfold wrap64; omega
          have hj3 : jj + 1 ≤ 3 := by omega
          have HINI := Aside0.mk (fun (V : World) (hV : Below wr.heap.size wr V) => Kd.C_below (Kd.R_reads' (Kd.R_below HR3.out (HB.out.trans (HBI.out.mono HB.out.size)))).2.2 hV)
          have HCI := Aside0.mk (Kd.R_reads' HR3.out).2.1
          have hj1 : (jj : Int) + 1 ≤ 3 := by omega
          have hj0 : 0 ≤ (jj : Int) + 1 := by omega
          have hjn : (jj : Int) ≤ (jj : Int) + 1 := by omega
          have hsz : s.size + ((⟨#[97, 98, 99]⟩ : ByteArray).extract jj (jj + 1)).size ≤ 9223372036854775807 := by
            have h1_ := HS1.out
            have h2_ : ((⟨#[97, 98, 99]⟩ : ByteArray).extract jj (jj + 1)).size ≤ 3 := by
              rw [ByteArray.size_extract]
              show min (jj + 1) 3 - jj ≤ 3
              omega
            omega
          have hsz1 : (9223372036854775807 < s.size + 1) = False := eq_false (by have h1_ := HS1.out; omega)
          have hszf : (9223372036854775807 < s.size + ((⟨#[97, 98, 99]⟩ : ByteArray).extract jj (jj + 1)).size) = False := eq_false (Nat.not_lt.2 hsz)
          clear hidx hx hjm
          by_cases hx0 : x < 0
          · go_upto_region 13 with fail
            go_region_law (first
              | (refine Kd.R_append_step (Kd.int .i64) (w0 := wo) (W := wr.drewN (1 + nd)) wo.heap.size (by simp [Region.wanted]) (.tmp 47) (.tmp 60) 37 3 (.int .i64 0) 8 rfl Tryd.underlying37 infoIntR rfl (by decide) (by omega) (.slice A7 row.length c7) row _ [.int .i64 _] (fun _ => True) (fun _ => False) (by simp [Act.eval, Act.put]) (by simp [Act.eval, Act.put]) rfl (fun _ hk => hk.elim) (fun k hk => trivial) (Kd.R_drewN HRO.out _) (pw_below_drewN HBI.out _) HBI.out.size (by have h1_ := HRL.out; omega) ?_; intro v7 w7 ho7 hb7 hg7 hat7; have HO7 := Aside0.mk ho7; have HB7 := Aside0.mk hb7; clear ho7 hb7 hg7 hat7)
              | ((fail_if_success (have hz_ := HPD)); go_simp; go_wp2_with (go_at_call 67; refine (slices_Index_string_string.calls k (some ad) c3 inn (s ++ abcAt jj) x _ (HINI.out _ (by repeat (first | (with_reducible first | exact Below.refl wr.heap.size wr | apply below_alloc | apply pw_below_drewN | apply below_drew1) | exact Below.refl wr.heap.size wr))) HCI.out HX.out).mono ?_; rintro e wp ⟨rfl, ⟨nd, rfl⟩⟩; have HPD := Aside0.mk trivial)))
            all_goals
              have HJL := Aside0.mk hj
              have hw2 : IntKind.i64.wrap ((jj : Int) + 1) = ((jj + 1 : Nat) : Int) := hw
              go_wp2_with fail
              go_roundg (m - (jj + 1))
              case measure => have h1_ := HJL.out; have h2_ := HJG.out; omega
              case rel => exact ⟨jj + 1, row ++ [_], by first | rfl | (congr 1; omega) | go_num, ⟨HJL.out⟩, ⟨by have h1_ := HJG.out; omega⟩, ⟨by have h1_ := HRL.out; rw [List.length_append]; simp; omega⟩, HB7, HO7⟩
          · go_upto_region 13 with fail
            go_region_law (first
              | (refine Kd.R_append_step (Kd.int .i64) (w0 := wo) (W := wr.drewN (1 + nd)) wo.heap.size (by simp [Region.wanted]) (.tmp 47) (.tmp 60) 37 3 (.int .i64 0) 8 rfl Tryd.underlying37 infoIntR rfl (by decide) (by omega) (.slice A7 row.length c7) row _ [.int .i64 _] (fun _ => True) (fun _ => False) (by simp [Act.eval, Act.put]) (by simp [Act.eval, Act.put]) rfl (fun _ hk => hk.elim) (fun k hk => trivial) (Kd.R_drewN HRO.out _) (pw_below_drewN HBI.out _) HBI.out.size (by have h1_ := HRL.out; omega) ?_; intro v7 w7 ho7 hb7 hg7 hat7; have HO7 := Aside0.mk ho7; have HB7 := Aside0.mk hb7; clear ho7 hb7 hg7 hat7)
              | ((fail_if_success (have hz_ := HPD)); go_simp; go_wp2_with (go_at_call 67; refine (slices_Index_string_string.calls k (some ad) c3 inn (s ++ abcAt jj) x _ (HINI.out _ (by repeat (first | (with_reducible first | exact Below.refl wr.heap.size wr | apply below_alloc | apply pw_below_drewN | apply below_drew1) | exact Below.refl wr.heap.size wr))) HCI.out HX.out).mono ?_; rintro e wp ⟨rfl, ⟨nd, rfl⟩⟩; have HPD := Aside0.mk trivial)))
            all_goals
              have HJL := Aside0.mk hj
              have hw2 : IntKind.i64.wrap ((jj : Int) + 1) = ((jj + 1 : Nat) : Int) := hw
              go_wp2_with fail
              go_roundg (m - (jj + 1))
              case measure => have h1_ := HJL.out; have h2_ := HJG.out; omega
              case rel => exact ⟨jj + 1, row ++ [_], by first | rfl | (congr 1; omega) | go_num, ⟨HJL.out⟩, ⟨by have h1_ := HJG.out; omega⟩, ⟨by have h1_ := HRL.out; rw [List.length_append]; simp; omega⟩, HB7, HO7⟩
        · have hjz : ¬ ((jj : Int) < (m : Int)) := by omega
          have HLT := Aside0.mk hlt
          obtain ⟨A9, c9, e9, _, _⟩ := Kd.R_reads HRN.out
          subst e9
          have HRT := Aside0.mk (Kd.R_lower (Kd.R_tight rfl HRO.out) HB.out.size)
          have HRT0 := Aside0.mk (fun k hk => Kd.R_base HRO.out k hk)
          have HN9 := Aside0.mk (fun k hk => (Kd.R_bound HRN.out).1 k hk)
          have HRNI := Aside0.mk (Kd.R_below HRN.out HBI.out)
          have HBX := Aside0.mk (HB.out.trans (HBI.out.mono HB.out.size))
          have HSI := Aside0.mk sbI
          have HGL := Aside0.mk HSB.out.lt
          have HZI := Aside0.mk HBI.out.size
          have sb2 := sbI.cells.2.2.1
          have sf2 := sbI.cells.2.2.2
          have hw2 : IntKind.i64.wrap ((kk : Int) + 1) = ((kk + 1 : Nat) : Int) := by have h1_ := HIN.out; rw [i64_w]; unfold wrap64; omega
          clear hj hltz hlt sb1 sbI
          go_wp2_with ((with_reducible refine gate_builtin (b := .append) (xs := #[.tmp 67, .tmp 69]) rfl ?_); at_builtin; refine Kd.R_append (Kd.slice 3 (Kd.int .i64)) (w0 := w3) w3.heap.size rfl (.tmp 67) (.tmp 69) 31 37 (.slice none 0 0) 24 rfl Tryd.underlying31 infoRowI rfl (by decide) (by omega) (.slice A9 L.length c9) L row [.slice A7 row.length c7] (fun k => k ≠ w3.heap.size) (fun k => some k = (Value.slice A7 row.length c7).ownBlock) rfl rfl ⟨_, rfl, HRT.out⟩ (fun k hk => ⟨fun e => by have h1_ := HRT0.out k hk.symm; have h2_ := HGL.out; omega, fun e => by have h1_ := HRT0.out k hk.symm; have h2_ := (HN9.out k e.symm).2.2.1; omega⟩) (fun k hk => by have h1_ := HGL.out; have h2_ := HZI.out; omega) HRNI.out HBX.out HBX.out.size (by have h1_ := HLN.out; have h2_ := HK.out; have h3_ := HIN.out; omega) ?_; intro v70 w8 ho8 hb8 hg8 hat8; have HO8 := Aside0.mk ho8; have HB8 := Aside0.mk hb8; have HS8 := Aside0.mk (HSI.out.grown hg8 (fun e => (HN9.out _ e.symm).1 rfl)); clear sb2 sf2; have sf2 := HS8.out.cells.2.2.2; have sb2 := HS8.out.cells.2.2.1; obtain ⟨A70, c70, e70, _, _⟩ := Kd.R_reads ho8; subst e70; clear ho8 hb8 hg8 hat8)
          have ev : (Value.slice A70 (L ++ [row]).length c70) = .slice A70 (L.length + 1) c70 := by rw [List.length_append]; rfl
          have HSF := Aside0.mk (HS8.out.set (.slice A70 (L.length + 1) c70))
          have HRF := Aside0.mk (show Kd.R (Kd.slice 3 (Kd.int .i64)) 37 (w8.setCell ⟨w3.heap.size, 2, none⟩ (.slice A70 (L.length + 1) c70)) w3.heap.size (fun k => k ≠ w3.heap.size) (.slice A70 (L.length + 1) c70) (L ++ [row]) by have h1_ := Kd.R_far (p := ⟨w3.heap.size, 2, none⟩) HO8.out (fun k hk => hk) (.slice A70 (L.length + 1) c70); rw [ev] at h1_; exact h1_)
          clear ev
          go_roundg (inn.length - (kk + 1))
          case measure => have h1_ := HLT.out; have h2_ := HG.out; omega
          case rel => exact ⟨kk + 1, .slice A70 (L.length + 1) c70, L ++ [row], by first | rfl | (congr 1; omega) | go_num, ⟨HLT.out⟩, ⟨by have h1_ := HG.out; omega⟩, ⟨by have h1_ := HLN.out; rw [List.length_append]; simp; omega⟩, ⟨below_set HB8.out (Nat.le_refl _)⟩, HSF, HRF⟩
    · have hltz : ¬ ((kk : Int) < (inn.length : Int)) := by omega
      have HRF := Aside0.mk (Kd.R_below HR3.out HB.out)
      have HBF := Aside0.mk (HB3.out.trans (HB.out.mono HB3.out.size))
      have HBW2 := Aside0.mk HB2.out.size
      clear hlt
      go_wp2_with fail
      go_ret2
      refine ⟨?_, HBF.out⟩
      first | exact ⟨_, rfl, _, HSB.out.cells.2.1, Kd.R_mono (Kd.R_lower HRF.out HBW2.out) (fun _ _ => trivial)⟩ | exact ⟨_, _, rfl, HSB.out.cells.2.1, Kd.R_mono (Kd.R_lower HRF.out HBW2.out) (fun _ _ => trivial)⟩ | exact ⟨inn, _, _, rfl, rfl, HSB.out.cells.2.1, Kd.R_mono (Kd.R_lower HRF.out HBW2.out) (fun _ _ => trivial)⟩

end Go.Proofs.YtidjjcgfdkmefaaDoor.X

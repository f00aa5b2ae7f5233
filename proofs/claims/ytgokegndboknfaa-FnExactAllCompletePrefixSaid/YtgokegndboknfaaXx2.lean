-- WRITTEN by xprint.py of this repo: the kit's print.py with contracts given by hand (given.py). Lean checks it.
import Derived.Test.YtgokegndboknfaaXx0
import Derived.Test.YtgokegndboknfaaXx4
namespace Go.Proofs.Ytgokegndboknfaa.X
open Go.RowKit Go.Proofs.YtgokegndboknfaaW.PrintWords Go.Proofs.YtgokegndboknfaaW.PrintLast Go.Proofs.YtgokegndboknfaaW.PrintMore
attribute [local go_sem] max2_int min2_int max_two min_two max_three min_three max_four min_four   -- for this text's walks alone
set_option linter.unusedVariables false
set_option linter.unusedSimpArgs false

/-! ### GIVEN spec_pfLists: function 11 -/
def abcP (j : Int) : ByteArray := (⟨#[97, 98, 99]⟩ : ByteArray).extract j.toNat (j + 1).toNat
/-- Over all the shares of the first letter. -/
def plO (rest trees : Int → Option (List (List ByteArray))) (top : Int) : Nat → Int → List (List ByteArray) → Option (List (List ByteArray))
  | 0, _, _ => none
  | d + 1, k, out => if k ≤ top then ((rest k).bind fun R => if R.length = 0 then plO rest trees top d (k + 1) out else ((trees k).bind fun T => if (R.all (fun l => decide (l.length ≤ 1000)) = true ∧ T.all (fun l => decide (l.length ≤ 1000)) = true) ∧ (R.length ≤ 1000 ∧ T.length ≤ 1000) ∧ out.length ≤ 100000 then plO rest trees top d (k + 1) (out ++ T.flatMap fun t => R.map fun o => t ++ o) else none)) else some out
/-- All lists of trees from a letter on. -/
def pl : Nat → Int → Int → Int → ByteArray → Option (List (List ByteArray))
  | 0, _, _, _, _ => none
  | r + 1, m, fr, n, a => if ((0 ≤ fr ∧ fr ≤ m) ∧ m ≤ 3) ∧ (0 ≤ n ∧ n ≤ 1000) ∧ a.size ≤ 1000 then (if fr = m then (if n = 0 then some [[]] else some []) else plO (fun k => pl r m (fr + 1) (n - k) a) (fun k => if k = 1 then some [[a ++ abcP fr]] else pl r m 0 k (a ++ abcP fr)) (n - (m - fr) + 1) 1100 1 []) else none
theorem plO.mono {R R' T T' : Int → Option (List (List ByteArray))} (hR : ∀ k, LeO (R k) (R' k)) (hT : ∀ k, LeO (T k) (T' k)) (top : Int) : ∀ d k out, LeO (plO R T top d k out) (plO R' T' top d k out)
  | 0, _, _ => LeO.none _
  | d + 1, k, out => by
    unfold plO
    exact LeO.ite (LeO.bind (hR _) fun _ => LeO.ite (plO.mono hR hT top d _ _) (LeO.bind (hT _) fun _ => LeO.ite (plO.mono hR hT top d _ _) (LeO.refl _))) (LeO.refl _)
theorem pl.mono : ∀ r m fr n a, LeO (pl r m fr n a) (pl (r + 1) m fr n a)
  | 0, _, _, _, _ => LeO.none _
  | r + 1, m, fr, n, a => by
    rw [pl, pl]
    exact LeO.ite (LeO.ite (LeO.refl _) (plO.mono (fun k => pl.mono r m _ _ _) (fun k => LeO.ite (LeO.refl _) (pl.mono r m _ _ _)) _ _ _ _)) (LeO.refl _)
theorem infoRowP : (Try.prog.info? 31).map (fun i => (i.zero, i.size, i.bytes)) = some (some (.slice none 0 0), 1, 24) := by kernel_rfl
theorem infoStrP : (Try.prog.info? 9).map (fun i => (i.zero, i.size, i.bytes)) = some (some (.string ⟨#[]⟩), 1, 16) := by kernel_rfl
/-- A row of the rows, by its own blocks. -/
theorem row_ofP {w : World} {base : Nat} {ok : Nat → Prop} {A : Option Addr} {c : Nat} {xs : List (List ByteArray)} (h : Kd.R (Kd.slice 9 Kd.string) 31 w base ok (.slice A xs.length c) xs) (i : Nat) (h1 : i < xs.length) :
    ∃ ad A0 c0, A = some ad ∧ w.cell? (ad.add i) = some (.slice A0 xs[i].length c0) ∧ Kd.R Kd.string 9 w base ok (.slice A0 xs[i].length c0) xs[i] := by
  obtain ⟨ad, _, e, _⟩ := Kd.C_get (Kd.R_reads' h).2.2 ([] : List ByteArray) (i : Int) (by omega) (by omega)
  subst e
  obtain ⟨c1, _, ⟨v, rfl, hR⟩, hc⟩ := Kd.R_getA h ([] : List ByteArray) (i : Int) (by omega) (by omega)
  have hg : xs.getD (i : Int).toNat ([] : List ByteArray) = xs[i] := by simp [List.getD_eq_getElem?_getD, h1]
  rw [hg] at hR
  obtain ⟨A0, c0, rfl, _, _⟩ := Kd.R_reads hR
  have hq := hc 0 _ rfl
  exact ⟨ad, A0, c0, rfl, by rwa [show (Kd.slice 9 Kd.string).sz = 1 from rfl, Nat.mul_one, Nat.add_zero, Int.toNat_natCast] at hq, Kd.R_mono hR (fun k hk => hk.1)⟩
set_option maxRecDepth 100000 in
set_option maxHeartbeats 16000000 in
theorem pt_calls (r : Nat) (IH : ∀ (m fr n : Int) (a : ByteArray) (L : List (List ByteArray)) (w : World), pl r m fr n a = some L → Calls Try.prog 11 #[.int .i64 m, .int .i64 fr, .int .i64 n, .string a] w fun e w' => ∃ v, e = .returned v ∧ Kd.S (Kd.slice 9 Kd.string) 31 w' w.heap.size (fun _ => True) v L ∧ Below w.heap.size w w')
    (m n : Int) (a : ByteArray) (L : List (List ByteArray)) (w : World) (h : (if n = 1 then some [[a]] else pl r m 0 n a) = some L) :
    Calls Try.prog 25 #[.int .i64 m, .int .i64 n, .string a] w fun e w' => ∃ v, e = .returned v ∧ Kd.S (Kd.slice 9 Kd.string) 31 w' w.heap.size (fun _ => True) v L ∧ Below w.heap.size w w' := by
  have HB0 := Aside0.mk (Below.refl w.heap.size w)
  by_cases hn : n = 1
  · rw [if_pos hn] at h
    obtain rfl := Option.some.inj h
    have hnb : (n == 1) = true := by simpa using hn
    clear h hn IH
    go_enter Try.func25, Try.ntmps25
    go_wp2_with (first
      | ((with_reducible refine gate_dst (N := 10) rfl ?_); refine Kd.R_lit Kd.string (w0 := w) w.heap.size 9 ?hg (N := 10) ?hd (xs := [a]) (inner := [.string a]) (ok := fun _ => True) (okp := fun _ => True) ?hr ?hp (fun _ hk => hk) trivial HB0.out HB0.out.size (by simp) ?_; (case hd => rfl); (case hg => rfl); (case hr => first | (go_simp; done) | (go_simp; rfl)); (case hp => exact Reps.one rfl (Reps.none _ _)); intro v11 w2 ho2 hb2 hg2 hnew2; obtain ⟨A11, c11, e11, _, _⟩ := Kd.R_reads ho2; subst e11; have HO2 := Aside0.mk (Kd.R_tight rfl ho2); have HB2 := Aside0.mk hb2; clear hg2 hnew2 ho2 hb2)
      | ((with_reducible refine gate_dst (N := 11) rfl ?_); refine Kd.S_lits (Kd.slice 9 Kd.string) (w0 := w) w.heap.size 31 ?hg (N := 11) ?hd (xs := [[a]]) (inner := [.slice A11 1 c11]) (ok := fun _ => True) (fun j k => j = 0 ∧ some k = (Value.slice A11 1 c11).ownBlock) ?hr rfl ?hp (fun i j k hi hj => hi.1.trans hj.1.symm) (fun _ _ _ => trivial) trivial HB2.out HB2.out.size (by simp) ?_; (case hd => rfl); (case hg => rfl); (case hr => first | (go_simp; done) | (go_simp; rfl)); (case hp => (intro j x hj; obtain ⟨rfl, rfl⟩ : j = 0 ∧ [a] = x := (by cases j with | zero => exact ⟨rfl, by simpa using hj⟩ | succ j => simp at hj); exact ⟨_, rfl, Kd.R_mono HO2.out (fun k hk => ⟨rfl, hk⟩)⟩)); intro v12 w3 ho3 hb3 hg3 hnew3; have HO3 := Aside0.mk ho3; have HB3 := Aside0.mk hb3; clear hg3 hnew3 ho3 hb3))
    go_ret
    exact ⟨_, rfl, HO3.out, HB3.out⟩
  · rw [if_neg hn] at h
    have hnb : (n == 1) = false := by simpa using hn
    have HC := Aside0.mk (fun W => IH m 0 n a L W h)
    clear h hn IH
    go_enter Try.func25, Try.ntmps25
    go_wp2_with (go_at_call 11; refine (HC.out _).mono ?_; rintro e w2 ⟨v2, rfl, hS2, hb2⟩; have HS2 := Aside0.mk hS2; have HB2 := Aside0.mk hb2; clear hS2 hb2)
    go_ret
    exact ⟨_, rfl, HS2.out, HB2.out⟩
set_option maxRecDepth 100000 in
set_option maxHeartbeats 32000000 in
theorem pl_calls (r : Nat) : ∀ (m fr n : Int) (a : ByteArray) (L : List (List ByteArray)) (w : World), pl r m fr n a = some L → Calls Try.prog 11 #[.int .i64 m, .int .i64 fr, .int .i64 n, .string a] w fun e w' => ∃ v, e = .returned v ∧ Kd.S (Kd.slice 9 Kd.string) 31 w' w.heap.size (fun _ => True) v L ∧ Below w.heap.size w w' := by
  induction r with
  | zero => intro m fr n a L w h; cases h
  | succ r ih =>
    intro m fr n a L w h
    have IH := Aside0.mk ih
    clear ih
    unfold pl at h
    have HB0 := Aside0.mk (Below.refl w.heap.size w)
    by_cases hb : ((0 ≤ fr ∧ fr ≤ m) ∧ m ≤ 3) ∧ (0 ≤ n ∧ n ≤ 1000) ∧ a.size ≤ 1000
    case neg => rw [if_neg hb] at h; cases h
    rw [if_pos hb] at h
    by_cases hm : fr = m
    · rw [if_pos hm] at h
      have hmb : (fr == m) = true := by simpa using hm
      by_cases hn : n = 0
      · rw [if_pos hn] at h
        obtain rfl := Option.some.inj h
        have hnb : (n == 0) = true := by simpa using hn
        clear h hn hb hm
        go_enter Try.func11, Try.ntmps11
        go_wp2_with (first
          | ((with_reducible refine gate_dst (N := 21) rfl ?_); refine Kd.R_lit Kd.string (w0 := w) w.heap.size 9 ?hg (N := 21) ?hd (xs := ([] : List ByteArray)) (inner := []) (ok := fun _ => True) (okp := fun _ => True) ?hr ?hp (fun _ hk => hk) trivial HB0.out HB0.out.size (by simp) ?_; (case hd => rfl); (case hg => rfl); (case hr => first | (go_simp; done) | (go_simp; rfl)); (case hp => exact Reps.none _ _); intro v11 w2 ho2 hb2 hg2 hnew2; obtain ⟨A11, c11, e11, _, _⟩ := Kd.R_reads ho2; subst e11; have HO2 := Aside0.mk (Kd.R_tight rfl ho2); have HB2 := Aside0.mk hb2; clear hg2 hnew2 ho2 hb2)
          | ((with_reducible refine gate_dst (N := 22) rfl ?_); refine Kd.S_lits (Kd.slice 9 Kd.string) (w0 := w) w.heap.size 31 ?hg (N := 22) ?hd (xs := [([] : List ByteArray)]) (inner := [.slice A11 0 c11]) (ok := fun _ => True) (fun j k => j = 0 ∧ some k = (Value.slice A11 0 c11).ownBlock) ?hr rfl ?hp (fun i j k hi hj => hi.1.trans hj.1.symm) (fun _ _ _ => trivial) trivial HB2.out HB2.out.size (by simp) ?_; (case hd => rfl); (case hg => rfl); (case hr => first | (go_simp; done) | (go_simp; rfl)); (case hp => (intro j x hj; obtain ⟨rfl, rfl⟩ : j = 0 ∧ ([] : List ByteArray) = x := (by cases j with | zero => exact ⟨rfl, by simpa using hj⟩ | succ j => simp at hj); exact ⟨_, rfl, Kd.R_mono HO2.out (fun k hk => ⟨rfl, hk⟩)⟩)); intro v12 w3 ho3 hb3 hg3 hnew3; have HO3 := Aside0.mk ho3; have HB3 := Aside0.mk hb3; clear hg3 hnew3 ho3 hb3))
        go_ret
        exact ⟨_, rfl, HO3.out, HB3.out⟩
      · rw [if_neg hn] at h
        obtain rfl := Option.some.inj h
        have hnb : (n == 0) = false := by simpa using hn
        clear h hn hb hm
        go_enter Try.func11, Try.ntmps11
        go_wp2_with fail
        go_ret
        exact ⟨_, rfl, Kd.S_nil _ _ _ _ _, HB0.out⟩
    · rw [if_neg hm] at h
      have hmb : (fr == m) = false := by simpa using hm
      have HF := Aside0.mk h
      have HBD := Aside0.mk hb
      have HM := Aside0.mk (show fr < m by omega)
      clear h hb hm
      go_enter Try.func11, Try.ntmps11
      go_wp2_with fail
      go_loopg [9, 10] 1100 (fun gg v9 v10 wr => ∃ (kk : Int) (out : List (List ByteArray)), v10 = .int .i64 kk ∧ Aside0 (1 ≤ kk) ∧ Aside0 (plO (fun k => pl r m (fr + 1) (n - k) a) (fun k => if k = 1 then some [[a ++ abcP fr]] else pl r m 0 k (a ++ abcP fr)) (n - (m - fr) + 1) gg kk out = some L) ∧ Aside0 (Kd.S (Kd.slice 9 Kd.string) 31 wr w.heap.size (fun _ => True) v9 out) ∧ Aside0 (Below w.heap.size w wr))
      case atStart => exact ⟨1, [], rfl, ⟨by omega⟩, HF, ⟨Kd.S_nil _ _ _ _ _⟩, HB0⟩
      case round =>
        clear HF HB0
        obtain ⟨kk, out, rfl, HK1, HW, HS, HB⟩ := hrel
        cases gk with
        | zero => exact absurd HW.out (by simp [plO])
        | succ gk =>
          have hw := HW.out
          unfold plO at hw
          have b1 := HM.out
          have b2 := HBD.out.1.1.1
          have b3 := HBD.out.1.2
          have b4 := HBD.out.2.1.1
          have b5 := HBD.out.2.1.2
          have b6 := HK1.out
          have e1 : IntKind.i64.wrap (m - fr) = m - fr := by rw [i64_w]; unfold wrap64; omega
          have e2 : IntKind.i64.wrap (n - (m - fr)) = n - (m - fr) := by rw [i64_w]; unfold wrap64; omega
          have e3 : IntKind.i64.wrap (n - (m - fr) + 1) = n - (m - fr) + 1 := by rw [i64_w]; unfold wrap64; omega
          obtain ⟨A9, c9, e9, _, _⟩ := Kd.S_reads HS.out
          subst e9
          by_cases hle : kk ≤ n - (m - fr) + 1
          · rw [if_pos hle] at hw
            replace hw := Option.bind_eq_some_iff.mp hw
            obtain ⟨R, hR, hw⟩ := hw
            have e4 : IntKind.i64.wrap (n - kk) = n - kk := by rw [i64_w]; unfold wrap64; omega
            have e5 : IntKind.i64.wrap (fr + 1) = fr + 1 := by rw [i64_w]; unfold wrap64; omega
            have e6 : IntKind.i64.wrap (kk + 1) = kk + 1 := by rw [i64_w]; unfold wrap64; omega
            have HRC := Aside0.mk (fun V => IH.out m (fr + 1) (n - kk) a R V hR)
            by_cases hz : R.length = 0
            · rw [if_pos hz] at hw
              have HWN := Aside0.mk hw
              have hzb : ((R.length : Int) == 0) = true := by rw [beq_iff_eq]; omega
              clear hw hz hR HW b1 b2 b3 b4 b5 b6
              obtain ⟨gko, hgko⟩ : ∃ X, X = gk := ⟨gk, rfl⟩
              subst hgko
              go_wp2_with (go_at_call 11; refine (HRC.out _).mono ?_; rintro e w2 ⟨v2, rfl, hS2, hb2⟩; obtain ⟨A2, c2, e2_, _, _⟩ := Kd.S_reads hS2; subst e2_; have HB2 := Aside0.mk hb2; clear hS2 hb2)
              go_roundg gko
              case measure => omega
              case rel => exact ⟨kk + 1, out, rfl, ⟨by have h1_ := HK1.out; omega⟩, HWN, ⟨Kd.S_below HS.out HB2.out⟩, ⟨HB.out.trans (HB2.out.mono HB.out.size)⟩⟩
            · rw [if_neg hz] at hw
              replace hw := Option.bind_eq_some_iff.mp hw
              obtain ⟨T, hT, hw⟩ := hw
              by_cases hc : (R.all (fun l => decide (l.length ≤ 1000)) = true ∧ T.all (fun l => decide (l.length ≤ 1000)) = true) ∧ (R.length ≤ 1000 ∧ T.length ≤ 1000) ∧ out.length ≤ 100000
              case neg => rw [if_neg hc] at hw; cases hw
              rw [if_pos hc] at hw
              have HTC := Aside0.mk (fun V => pt_calls r IH.out m kk (a ++ abcP fr) T V hT)
              have HCN := Aside0.mk hc
              have HWN := Aside0.mk hw
              have hzb : ((R.length : Int) == 0) = false := by rw [beq_eq_false_iff_ne]; omega
              have hb1 : fr + 1 ≤ 3 := by omega
              have hb0 : 0 ≤ fr := b2
              have hb2 : 0 ≤ fr + 1 := by omega
              have hb3 : fr ≤ fr + 1 := by omega
              have hszf : (9223372036854775807 < a.size + ((fr + 1).toNat - fr.toNat)) = False := eq_false (by have h1_ := HBD.out.2.2; omega)
              clear hw hz hR hT hc HW b1 b2 b3 b4 b5 b6
              obtain ⟨wo, hwo⟩ : ∃ X, X = wr := ⟨wr, rfl⟩
              obtain ⟨gko, hgko⟩ : ∃ X, X = gk := ⟨gk, rfl⟩
              subst hwo
              subst hgko
              go_wp2_with (first
                | (go_at_call 11; refine (HRC.out _).mono ?_; rintro e w2 ⟨v2, rfl, hS2, hb2⟩; obtain ⟨A2, c2, e2_, _, _⟩ := Kd.S_reads hS2; subst e2_; have HR2 := Aside0.mk (Kd.R_mono (ok' := fun j => wo.heap.size ≤ j ∧ j < w2.heap.size) (Kd.R_bound (Kd.S_R hS2)) (fun j hj => ⟨hj.2.1, hj.2.2.1⟩)); have HB2 := Aside0.mk hb2; clear hS2 hb2)
                | (go_at_call 25; refine (HTC.out _).mono ?_; rintro e w3 ⟨v3, rfl, hS3, hb3⟩; obtain ⟨A3, c3, e3_, _, _⟩ := Kd.S_reads hS3; subst e3_; have HT3 := Aside0.mk (Kd.R_lower (Kd.R_mono (ok' := fun j => wo.heap.size ≤ j ∧ j < w3.heap.size) (Kd.R_bound (Kd.S_R hS3)) (fun j hj => ⟨Nat.le_trans HB2.out.size hj.2.1, hj.2.2.1⟩)) HB2.out.size); have HR3 := Aside0.mk (Kd.R_mono (ok' := fun j => wo.heap.size ≤ j ∧ j < w3.heap.size) (Kd.R_below HR2.out hb3) (fun j hj => ⟨hj.1, Nat.lt_of_lt_of_le hj.2 hb3.size⟩)); have HB3 := Aside0.mk (HB2.out.trans (hb3.mono HB2.out.size)); clear hS3 hb3))
              clear HR2 HB2 hszf hb0 hb1 hb2 hb3
              go_loopg [9, 54] T.length (fun gi v9 v54 wr => ∃ (ii cc : Nat) (AA : Option Addr) (cur : List (List ByteArray)), v54 = .int .i64 ii ∧ v9 = .slice AA cur.length cc ∧ Aside0 (ii ≤ T.length) ∧ Aside0 (T.length - ii ≤ gi) ∧ Aside0 (cur = out ++ (T.take ii).flatMap fun t => R.map fun o => t ++ o) ∧ Aside0 (cur.length ≤ 100000 + ii * 1000) ∧ Aside0 (Kd.S (Kd.slice 9 Kd.string) 31 wr w.heap.size (fun j => j < wo.heap.size ∨ w3.heap.size ≤ j) (.slice AA cur.length cc) cur) ∧ Aside0 (Below w.heap.size w wr) ∧ Aside0 (w3.heap.size ≤ wr.heap.size) ∧ Aside0 (Kd.R (Kd.slice 9 Kd.string) 31 wr wo.heap.size (fun j => wo.heap.size ≤ j ∧ j < w3.heap.size) (.slice A2 R.length c2) R) ∧ Aside0 (Kd.R (Kd.slice 9 Kd.string) 31 wr wo.heap.size (fun j => wo.heap.size ≤ j ∧ j < w3.heap.size) (.slice A3 T.length c3) T))
              case atStart => exact ⟨0, c9, A9, out, rfl, rfl, ⟨Nat.zero_le _⟩, ⟨by omega⟩, ⟨by simp⟩, ⟨by have := HCN.out.2.2; omega⟩, ⟨Kd.S_mono (Kd.S_old HS.out HB3.out) (fun j hj => .inl hj.2)⟩, ⟨HB.out.trans (HB3.out.mono HB.out.size)⟩, ⟨Nat.le_refl _⟩, HR3, HT3⟩
              case round =>
                clear HR3 HT3
                obtain ⟨ii, cc, AA, cur, rfl, rfl, HI, HG, HC, HL, HSc, HBc, HZc, HRc, HTc⟩ := hrel
                by_cases hi : ii < T.length
                · have hiz : (ii : Int) < (T.length : Int) := by omega
                  obtain ⟨ad_, A5, c5, eA, hcell, hRt⟩ := row_ofP HTc.out ii hi
                  have htl := of_decide_eq_true (List.all_eq_true.1 HCN.out.1.2 _ (List.getElem_mem hi))
                  have hnx : ((T.take (ii + 1)).flatMap fun t => R.map fun o => t ++ o) = ((T.take ii).flatMap fun t => R.map fun o => t ++ o) ++ R.map fun o => T[ii] ++ o := by rw [List.take_succ_eq_append_getElem hi, List.flatMap_append, List.flatMap_singleton]
                  generalize T[ii] = t at hcell hRt htl hnx
                  subst eA
                  have HTL := Aside0.mk htl
                  have HNX := Aside0.mk hnx
                  have HRt := Aside0.mk hRt
                  have HIL := Aside0.mk hi
                  clear htl hnx hRt hi
                  obtain ⟨gio, hgio⟩ : ∃ X, X = gk := ⟨gk, rfl⟩
                  subst hgio
                  go_wp2_with fail
                  go_loopg [9, 60] R.length (fun gj v9 v60 wr => ∃ (jj dd : Nat) (AB : Option Addr) (cu2 : List (List ByteArray)), v60 = .int .i64 jj ∧ v9 = .slice AB cu2.length dd ∧ Aside0 (jj ≤ R.length) ∧ Aside0 (R.length - jj ≤ gj) ∧ Aside0 (cu2 = cur ++ (R.take jj).map fun o => t ++ o) ∧ Aside0 (cu2.length = cur.length + jj) ∧ Aside0 (Kd.S (Kd.slice 9 Kd.string) 31 wr w.heap.size (fun j => j < wo.heap.size ∨ w3.heap.size ≤ j) (.slice AB cu2.length dd) cu2) ∧ Aside0 (Below w.heap.size w wr) ∧ Aside0 (w3.heap.size ≤ wr.heap.size) ∧ Aside0 (Kd.R (Kd.slice 9 Kd.string) 31 wr wo.heap.size (fun j => wo.heap.size ≤ j ∧ j < w3.heap.size) (.slice A2 R.length c2) R) ∧ Aside0 (Kd.R (Kd.slice 9 Kd.string) 31 wr wo.heap.size (fun j => wo.heap.size ≤ j ∧ j < w3.heap.size) (.slice (some ad_) T.length c3) T) ∧ Aside0 (Kd.R Kd.string 9 wr wo.heap.size (fun j => wo.heap.size ≤ j ∧ j < w3.heap.size) (.slice A5 t.length c5) t))
                  case atStart => exact ⟨0, cc, AA, cur, rfl, rfl, ⟨Nat.zero_le _⟩, ⟨by omega⟩, ⟨by simp⟩, ⟨by omega⟩, HSc, HBc, HZc, HRc, HTc, HRt⟩
                  case round =>
                    clear HSc HBc HZc HRc HTc HRt hcell
                    obtain ⟨jj, dd, AB, cu2, rfl, rfl, HJ, HGJ, HC2, HL2, HSd, HBd, HZd, HRd, HTd, HRt⟩ := hrel
                    by_cases hj : jj < R.length
                    · have hjz : (jj : Int) < (R.length : Int) := by omega
                      obtain ⟨ad2, A6, c6, eB, hcell2, hRo⟩ := row_ofP HRd.out jj hj
                      have hol := of_decide_eq_true (List.all_eq_true.1 HCN.out.1.1 _ (List.getElem_mem hj))
                      have hnj : ((R.take (jj + 1)).map fun o => t ++ o) = ((R.take jj).map fun o => t ++ o) ++ [t ++ R[jj]] := by rw [List.take_succ_eq_append_getElem hj, List.map_append]; rfl
                      generalize R[jj] = ow at hcell2 hRo hol hnj
                      subst eB
                      have HOL := Aside0.mk hol
                      have HNJ := Aside0.mk hnj
                      have HRo := Aside0.mk hRo
                      have HJL := Aside0.mk hj
                      have hln : cu2.length ≤ 1200000 := by have h1_ := HL2.out; have h2_ := HL.out; have h3_ := HI.out; have h4_ := HCN.out.2.1; have h5_ := HJ.out; omega
                      have HLN := Aside0.mk hln
                      have hjd : IntKind.i64.wrap ((jj : Int) + 1) = ((jj + 1 : Nat) : Int) := by have h1_ := HCN.out.2.1.1; rw [i64_w]; unfold wrap64; omega
                      clear hol hnj hRo hj hln
                      obtain ⟨wm, hwm⟩ : ∃ X, X = wr := ⟨wr, rfl⟩
                      subst hwm
                      have HBM := Aside0.mk (Below.refl wm.heap.size wm)
                      go_wp2_with (first
                        | ((with_reducible refine gate_dst (N := 65) rfl ?_); refine Kd.R_lit Kd.string (w0 := wm) wm.heap.size 9 ?hg (N := 65) ?hd (xs := ([] : List ByteArray)) (inner := []) (ok := fun _ => True) (okp := fun _ => True) ?hr ?hp (fun _ hk => hk) trivial HBM.out HBM.out.size (by simp) ?_; (case hd => rfl); (case hg => rfl); (case hr => first | (go_simp; done) | (go_simp; rfl)); (case hp => exact Reps.none _ _); intro v65 w4 ho4 hb4 hg4 hnew4; obtain ⟨A65, c65, e65, _, _⟩ := Kd.R_reads ho4; subst e65; have HO4 := Aside0.mk ho4; have HB4 := Aside0.mk hb4; clear hg4 hnew4 ho4 hb4)
                        | ((with_reducible refine gate_builtin (b := .append) (xs := #[.tmp 65, .tmp 66]) rfl ?_); at_builtin; refine Kd.R_append_rows Kd.string (w0 := wm) wm.heap.size rfl (.tmp 65) (.tmp 66) 31 9 (.string ⟨#[]⟩) 16 rfl Try.underlying31 infoStrP rfl (by decide) (by omega) (.slice A65 0 c65) [] t A5 t.length c5 (fun _ => True) (fun _ => False) rfl rfl HO4.out (Kd.C_below (Kd.R_reads' HRt.out).2.2 HB4.out) (fun _ _ h_ => h_) (fun _ h_ => h_.elim) (fun _ _ => trivial) HB4.out HB4.out.size (by have h1_ := HTL.out; simp only [List.length_nil]; omega) ?_; intro v67 w5 ho5 hb5 hg5 hat5; rw [List.nil_append] at ho5; obtain ⟨A67, c67, e67, _, _⟩ := Kd.R_reads ho5; subst e67; have HO5 := Aside0.mk ho5; have HB5 := Aside0.mk hb5; clear ho5 hb5 hg5 hat5)
                        | ((with_reducible refine gate_builtin (b := .append) (xs := #[.tmp 67, .tmp 68]) rfl ?_); at_builtin; refine Kd.R_append_rows Kd.string (w0 := wm) wm.heap.size rfl (.tmp 67) (.tmp 68) 31 9 (.string ⟨#[]⟩) 16 rfl Try.underlying31 infoStrP rfl (by decide) (by omega) (.slice A67 t.length c67) t ow A6 ow.length c6 (fun _ => True) (fun _ => False) rfl rfl HO5.out (Kd.C_below (Kd.R_reads' HRo.out).2.2 HB5.out) (fun _ _ h_ => h_) (fun _ h_ => h_.elim) (fun _ _ => trivial) HB5.out HB5.out.size (by have h1_ := HTL.out; have h2_ := HOL.out; omega) ?_; intro v69 w6 ho6 hb6 hg6 hat6; obtain ⟨A69, c69, e69, _, _⟩ := Kd.R_reads ho6; rw [List.length_append] at e69; subst e69; have HO6 := Aside0.mk ho6; have HB6 := Aside0.mk hb6; clear ho6 hb6 hg6 hat6)
                        | ((with_reducible refine gate_builtin (b := .append) (xs := #[.tmp 64, .tmp 70]) rfl ?_); at_builtin; refine Kd.S_append (Kd.slice 9 Kd.string) (w0 := w) w.heap.size rfl (.tmp 64) (.tmp 70) 22 31 (.slice none 0 0) 24 rfl Try.underlying22 infoRowP rfl (by decide) (by omega) (.slice AB cu2.length dd) cu2 (t ++ ow) [.slice A69 (t.length + ow.length) c69] (fun j => j < wo.heap.size ∨ w3.heap.size ≤ j) (fun j => wm.heap.size ≤ j) rfl rfl ⟨_, rfl, Kd.R_lower (Kd.R_mono (Kd.R_bound HO6.out) (fun j hj => hj.2.1)) HBd.out.size⟩ (fun j hj => ⟨.inr (Nat.le_trans HZd.out hj), fun e => by have h_ := Kd.S_lt HSd.out j e.symm; omega⟩) (fun j hj => .inr (Nat.le_trans HZd.out (Nat.le_trans HB6.out.size hj))) (Kd.S_mono (Kd.S_below (Kd.S_bound HSd.out) HB6.out) (fun j hj => ⟨hj.1, by have h_ := hj.2.2.1; omega⟩)) (HBd.out.trans (HB6.out.mono HBd.out.size)) (Nat.le_trans HBd.out.size HB6.out.size) (by have h1_ := HLN.out; omega) ?_; intro v71 w7 hs7 hb7 hg7 hat7; obtain ⟨A71, c71, e71, _, _⟩ := Kd.S_reads hs7; subst e71; have HS7 := Aside0.mk hs7; have HB7 := Aside0.mk hb7; have HNB7 := Aside0.mk (fun (j : Nat) (hj : wo.heap.size ≤ j ∧ j < w3.heap.size) (e : some j = (Value.slice AB cu2.length dd).ownBlock) => (show False from by have h_ := (Kd.S_R HSd.out).1 j e.symm; have h2_ := hj.1; have h3_ := hj.2; rcases h_ with h_ | h_ <;> omega)); have HG7 := Aside0.mk hg7; clear hs7 hb7 hg7 hat7))
                      go_roundg (R.length - (jj + 1))
                      case measure => have h1_ := HJL.out; have h2_ := HGJ.out; omega
                      case rel => exact ⟨jj + 1, c71, A71, cu2 ++ [t ++ ow], by first | rfl | (congr 1; omega) | go_num, by rw [List.length_append]; rfl, ⟨HJL.out⟩, ⟨by have h1_ := HGJ.out; omega⟩, ⟨by rw [HC2.out, HNJ.out, List.append_assoc]⟩, ⟨by rw [List.length_append, List.length_singleton]; have h1_ := HL2.out; omega⟩, HS7, HB7, ⟨Nat.le_trans (Nat.le_trans HZd.out HB6.out.size) HG7.out.size⟩, ⟨Kd.R_grown (Kd.R_below HRd.out HB6.out) HG7.out HNB7.out⟩, ⟨Kd.R_grown (Kd.R_below HTd.out HB6.out) HG7.out HNB7.out⟩, ⟨Kd.R_grown (Kd.R_below HRt.out HB6.out) HG7.out HNB7.out⟩⟩
                    · have hjz : ¬ ((jj : Int) < (R.length : Int)) := by omega
                      have hje : jj = R.length := by have h1_ := HJ.out; omega
                      have hc2 : cu2 = cur ++ R.map fun o => t ++ o := by rw [HC2.out, List.take_of_length_le (by omega)]
                      have HCF := Aside0.mk hc2
                      have HJE := Aside0.mk hje
                      have hid : IntKind.i64.wrap ((ii : Int) + 1) = ((ii + 1 : Nat) : Int) := by have h1_ := HCN.out.2.1.2; have h2_ := HI.out; rw [i64_w]; unfold wrap64; omega
                      clear hj hje hc2
                      go_wp2_with fail
                      go_roundg (T.length - (ii + 1))
                      case measure => have h1_ := HIL.out; have h2_ := HG.out; omega
                      case rel => exact ⟨ii + 1, dd, AB, cu2, by first | rfl | (congr 1; omega) | go_num, rfl, ⟨HIL.out⟩, ⟨by have h1_ := HG.out; omega⟩, ⟨by rw [HCF.out, HC.out, HNX.out, List.append_assoc]⟩, ⟨by have h1_ := HL2.out; have h2_ := HL.out; have h3_ := HJE.out; have h4_ := HCN.out.2.1.1; omega⟩, HSd, HBd, HZd, HRd, HTd⟩
                · have hiz : ¬ ((ii : Int) < (T.length : Int)) := by omega
                  have hcf : cur = out ++ T.flatMap fun t => R.map fun o => t ++ o := by rw [HC.out, List.take_of_length_le (by omega)]
                  have hwn := HWN.out
                  rw [← hcf] at hwn
                  have HWF := Aside0.mk hwn
                  clear hi hcf hwn
                  go_wp2_with fail
                  go_roundg gko
                  case measure => omega
                  case rel => exact ⟨kk + 1, cur, rfl, ⟨by have h1_ := HK1.out; omega⟩, HWF, ⟨Kd.S_mono HSc.out (fun _ _ => trivial)⟩, HBc⟩
          · rw [if_neg hle] at hw
            obtain rfl := Option.some.inj hw
            clear hw HW b1 b2 b3 b4 b5 b6
            go_wp2_with fail
            go_ret
            exact ⟨_, rfl, HS.out, HB.out⟩
def spec_pfLists.f (k : Nat) (a0 a1 a2 : Int) (a3 : ByteArray) : Option (List (List ByteArray)) := pl k a0 a1 a2 a3
theorem spec_pfLists.mono : ∀ a0 a1 a2 a3 k, LeO (spec_pfLists.f k a0 a1 a2 a3) (spec_pfLists.f (k + 1) a0 a1 a2 a3) := fun a0 a1 a2 a3 k => pl.mono k a0 a1 a2 a3
theorem spec_pfLists.calls (k : Nat) (a0 a1 a2 : Int) (a3 : ByteArray) (r : List (List ByteArray)) (w : World) (h : spec_pfLists.f k a0 a1 a2 a3 = some r) :
    Calls Try.prog 11 #[.int .i64 a0, .int .i64 a1, .int .i64 a2, .string a3] w fun e w' => ∃ v0_ : Value, e = .returned (v0_) ∧ Kd.S (Kd.slice 9 Kd.string) 31 w' w.heap.size (fun _ => True) v0_ r ∧ Below w.heap.size w w' := pl_calls k a0 a1 a2 a3 r w h

end Go.Proofs.Ytgokegndboknfaa.X

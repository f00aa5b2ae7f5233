-- WRITTEN by xprint.py of this repo: the kit's print.py with contracts given by hand (given.py). Lean checks it.
import Derived.Test.YtemjfkogaimolaaDoorXx0
namespace Go.Proofs.YtemjfkogaimolaaDoor.X
open Go.RowKit Go.Proofs.YtemjfkogaimolaaDoorW.PrintWords Go.Proofs.YtemjfkogaimolaaDoorW.PrintLast Go.Proofs.YtemjfkogaimolaaDoorW.PrintMore
attribute [local go_sem] max2_int min2_int max_two min_two max_three min_three max_four min_four   -- for this text's walks alone
set_option linter.unusedVariables false
set_option linter.unusedSimpArgs false

/-! ### GIVEN spec_dcSorted: function 26 -/
theorem C_addr {α : Type} {enc : α → Value} {h1 : ∀ x, (enc x).oneCell' = true} {w : World} {ad : Addr} {n : Nat} {xs : List α} (h : Kd.C (Kd.scalar enc h1) w (some ad) n xs) (hn : 0 < n) :
    ∃ b o, ad = ⟨b, o, none⟩ ∧ b < w.heap.size ∧ ∀ (j : Nat) x, xs[j]? = some x → w.cell? ⟨b, o + j, none⟩ = some (enc x) := by
  obtain ⟨hl, _, hh⟩ := h
  obtain ⟨ad', e, hc⟩ := hh hn
  cases e
  have cell : ∀ (j : Nat) x, xs[j]? = some x → w.cell? (ad.add j) = some (enc x) := fun j x hx => by
    obtain ⟨c, _, rfl, hcell⟩ := hc j x hx
    have := hcell 0 (enc x) rfl
    rwa [show j * (Kd.scalar enc h1).sz + 0 = j from Nat.mul_one j] at this
  have h0 : xs[0]? = some (xs[0]'(by omega)) := List.getElem?_eq_getElem (by omega)
  have c0 := cell 0 _ h0
  obtain ⟨b, o, sp⟩ := ad
  have c0' : w.cell? ⟨b, o, sp⟩ = some (enc (xs[0]'(by omega))) := by simpa [Addr.add] using c0
  have hsp : sp = none := by
    cases sp with
    | none => rfl
    | some q =>
      simp only [World.cell?] at c0'
      split at c0' <;> simp at c0'
  subst hsp
  refine ⟨b, o, rfl, ?_, fun j x hx => ?_⟩
  · simp only [World.cell?] at c0'
    split at c0'
    · rename_i hg
      exact (Array.getElem?_eq_some_iff.1 hg).1
    · cases c0'
  · have := cell j x hx
    by_cases hj : j = 0
    · subst hj
      simpa [Addr.add] using this
    · simpa [Addr.add, hj] using this

theorem infoStrS : (Tryd.prog.info? 9).map (fun i => (i.zero, i.size, i.bytes)) = some (some (.string ⟨#[]⟩), 1, 16) := by kernel_rfl
/-- A text put behind, if it is not there already. -/
def addD (out : List ByteArray) (s : ByteArray) : List ByteArray := if out.getLast? = some s then out else out ++ [s]
def mrg : Nat → List ByteArray → List ByteArray → List ByteArray → List ByteArray
  | 0, _, _, out => out
  | _ + 1, [], [], out => out
  | n + 1, x :: a, [], out => mrg n a [] (addD out x)
  | n + 1, [], y :: b, out => mrg n [] b (addD out y)
  | n + 1, x :: a, y :: b, out => if (Op.bytesLess x.toList y.toList || x.toList == y.toList) = true then mrg n a (y :: b) (addD out x) else mrg n (x :: a) b (addD out y)
def spec_dcSorted.f : Nat → List ByteArray → Option (List ByteArray)
  | 0, _ => none
  | k + 1, l => if l.length < 2 then some l else (spec_dcSorted.f k (l.take (l.length / 2))).bind fun a => (spec_dcSorted.f k (l.drop (l.length / 2))).bind fun b => if a.length + b.length ≤ 4194304 then some (mrg (a.length + b.length) a b []) else none
theorem spec_dcSorted.mono : ∀ k a0, LeO (spec_dcSorted.f k a0) (spec_dcSorted.f (k + 1) a0)
  | 0, _ => LeO.none _
  | k + 1, l => by
    unfold spec_dcSorted.f
    exact LeO.ite (LeO.refl _) (LeO.bind (spec_dcSorted.mono k _) fun a => LeO.bind (spec_dcSorted.mono k _) fun b => LeO.refl _)
theorem ba_extS {a b : ByteArray} (h : a.toList = b.toList) : a = b := by
  obtain ⟨⟨l⟩⟩ := a
  obtain ⟨⟨m⟩⟩ := b
  rw [ByteArray.toList_mk, ByteArray.toList_mk] at h
  rw [h]
theorem C_dropS {W : World} {ad : Addr} {l : List ByteArray} (m : Nat) (hm : m < l.length) (h : Kd.C Kd.string W (some ad) l.length l) : Kd.C Kd.string W (some (ad.add m)) (l.length - m) (l.drop m) := by
  obtain ⟨b, o, rfl, _, hc⟩ := C_addr h (by omega)
  refine Kd.C_of_reads (d := ByteArray.empty) (h1 := fun _ => rfl) ⟨by rw [List.length_drop], by have := h.2.1; omega, fun _ => ⟨_, rfl, fun j hj => ?_⟩⟩
  have := hc (m + j) _ (List.getElem?_eq_getElem (show m + j < l.length by omega))
  have e : ((⟨b, o, none⟩ : Addr).add m).add j = ⟨b, o + (m + j), none⟩ := by
    unfold Addr.add
    by_cases h1 : m = 0 <;> by_cases h2 : j = 0 <;> simp [h1, h2] <;> omega
  rw [show (⟨b, o, none⟩ : Addr).add m = (⟨b, o, none⟩ : Addr).add m from rfl, e]
  rw [show (l.drop m).getD j ByteArray.empty = l[m + j]'(by omega) from by rw [List.getD_eq_getElem?_getD, List.getElem?_drop, List.getElem?_eq_getElem (by omega)]; rfl]
  exact this
def dsPost (A0 : Option Addr) (c0 : Nat) (l0 r : List ByteArray) (w : World) (e : Ending) (w' : World) : Prop := ∃ (A : Option Addr) (c : Nat), e = .returned (.slice A r.length c) ∧ r.length ≤ c ∧ Kd.C Kd.string w' A r.length r ∧ Below w.heap.size w w' ∧ ((A = A0 ∧ c = c0 ∧ r = l0) ∨ Kd.R Kd.string 9 w' w.heap.size (fun _ => True) (.slice A r.length c) r)
set_option maxRecDepth 100000 in
set_option maxHeartbeats 16000000 in
theorem spec_dcSorted.calls_d (k : Nat) : ∀ (A0 : Option Addr) (c0 : Nat) (l0 : List ByteArray) (r : List ByteArray) (w : World) (hr0 : Kd.C Kd.string w A0 l0.length l0) (hc0 : l0.length ≤ c0) (h : spec_dcSorted.f k l0 = some r),
    Calls Tryd.prog 26 #[.slice A0 l0.length c0] w (dsPost A0 c0 l0 r w) := by
  induction k with
  | zero => intro A0 c0 l0 r w hr0 hc0 h; cases h
  | succ k ih =>
    intro A0 c0 l0 r w hr0 hc0 h
    have IH := Aside0.mk ih
    clear ih
    have HR0 := Aside0.mk hr0
    have HC0 := Aside0.mk hc0
    clear hr0 hc0
    unfold spec_dcSorted.f at h
    by_cases h2 : l0.length < 2
    · rw [if_pos h2] at h
      obtain rfl := Option.some.inj h
      have h2z : (l0.length : Int) < 2 := by omega
      clear h
      go_enter Tryd.func26, Tryd.ntmps26
      go_wp2
      go_ret
      exact ⟨A0, c0, rfl, HC0.out, HR0.out, Below.refl _ _, .inl ⟨rfl, rfl, rfl⟩⟩
    · rw [if_neg h2] at h
      obtain ⟨a, ha, h⟩ := Option.bind_eq_some_iff.mp h
      obtain ⟨b, hb, h⟩ := Option.bind_eq_some_iff.mp h
      by_cases hlen : a.length + b.length ≤ 4194304
      case neg => rw [if_neg hlen] at h; cases h
      rw [if_pos hlen] at h
      have HM := Aside0.mk (Option.some.inj h)
      have HLEN := Aside0.mk hlen
      obtain ⟨ad, e0, _⟩ := Kd.at_string HR0.out 0 (by omega) (by omega)
      subst e0
      have h2z : ¬ (l0.length : Int) < 2 := by omega
      obtain ⟨m, hm⟩ : ∃ m, l0.length / 2 = m := ⟨_, rfl⟩
      have hml : m < l0.length := by omega
      have hm0 : 0 < m := by omega
      rw [hm] at ha hb
      have hq : (l0.length : Int).tdiv 2 = (m : Int) := by rw [Int.tdiv_eq_ediv_of_nonneg (by omega)]; omega
      have hCa := fun (W : World) (hW : Below w.heap.size w W) => show Kd.C Kd.string W (some ad) (l0.take m).length (l0.take m) from Kd.C_take (m := m) (Kd.C_below HR0.out hW) (by omega)
      have hCb := fun (W : World) (hW : Below w.heap.size w W) => C_dropS m hml (Kd.C_below HR0.out hW)
      have HA := Aside0.mk (fun (W : World) (hW : Below w.heap.size w W) => IH.out (some ad) c0 (l0.take m) a W (hCa W hW) (by rw [List.length_take]; have := HC0.out; omega) ha)
      have HBB := Aside0.mk (fun (W : World) (hW : Below w.heap.size w W) => IH.out (some (ad.add m)) (c0 - m) (l0.drop m) b W (by have := hCb W hW; rwa [← List.length_drop] at this) (by rw [List.length_drop]; have := HC0.out; omega) hb)
      have hta : (l0.take m).length = m := by rw [List.length_take]; omega
      have htb : (l0.drop m).length = l0.length - m := List.length_drop
      rw [hta] at HA
      rw [htb] at HBB
      have HB := Aside0.mk (Below.refl w.heap.size w)
      have hwm : IntKind.i64.wrap (m : Int) = (m : Int) := by
        have hb63 := HR0.out.2.1
        simp only [IntKind.wrap, IntKind.signed, IntKind.bits, IntKind.min, IntKind.max]
        first | (simp; omega) | omega
      have hmc : (m : Int) ≤ (c0 : Int) := by have := HC0.out; omega
      have hmz : (m : Int) ≤ (l0.length : Int) := by omega
      have hlc : (l0.length : Int) ≤ (c0 : Int) := by have := HC0.out; omega
      clear h ha hb hlen hCa hCb h2 hta htb
      go_enter Tryd.func26, Tryd.ntmps26
      go_wp2_with fail
      go_region_law (go_simp; go_wp2_with (first
        | (go_at_call 26; have h_ := HB1.out; clear h_; refine (HBB.out _ (by repeat (first | (with_reducible first | exact HB1.out | apply below_alloc | apply pw_below_drewN | apply below_drew1) | exact HB1.out))).mono ?_; rintro e w2 ⟨Ab, cb, rfl, hcb, hCb, hb2, _⟩; have HB2 := Aside0.mk (below_step (by repeat (first | (with_reducible first | exact HB1.out | apply below_alloc | apply pw_below_drewN | apply below_drew1) | exact HB1.out)) hb2); have HCA := Aside0.mk (Kd.C_below HCA1.out hb2); have HCB := Aside0.mk hCb; clear hcb hCb hb2)
        | (go_at_call 26; refine (HA.out _ (by repeat (first | (with_reducible first | exact HB.out | apply below_alloc | apply pw_below_drewN | apply below_drew1) | exact HB.out))).mono ?_; rintro e w1 ⟨Aa, ca, rfl, hca, hCa, hb1, _⟩; have HB1 := Aside0.mk (below_step (by repeat (first | (with_reducible first | exact HB.out | apply below_alloc | apply pw_below_drewN | apply below_drew1) | exact HB.out)) hb1); have HCA1 := Aside0.mk hCa; clear hca hCa hb1)))
      go_wp2_with fail
      go_loopg [5, 6, 7, 8] (a.length + b.length) (fun gg v5 v6 v7 _ wr => ∃ (i j : Nat) (out : List ByteArray), v6 = .int .i64 i ∧ v7 = .int .i64 j ∧ Aside0 (i ≤ a.length) ∧ Aside0 (j ≤ b.length) ∧ Aside0 (a.length - i + (b.length - j) ≤ gg) ∧ Aside0 (out.length ≤ i + j) ∧ Aside0 (mrg (a.length - i + (b.length - j)) (a.drop i) (b.drop j) out = r) ∧ Aside0 (Kd.R Kd.string 9 wr w2.heap.size (fun _ => True) v5 out) ∧ Aside0 (Below w2.heap.size w2 wr))
      case atStart => exact ⟨0, 0, [], rfl, rfl, ⟨Nat.zero_le _⟩, ⟨Nat.zero_le _⟩, ⟨by omega⟩, ⟨by simp⟩, ⟨by simpa using HM.out⟩, ⟨Kd.R_nil _ _ _ _ _⟩, ⟨Below.refl _ _⟩⟩
      case round =>
        clear HM hwm hq hmc hmz hlc
        obtain ⟨i, j, out, rfl, rfl, HI, HJ, HG, HOL, HMR, HO, HW⟩ := hrel
        obtain ⟨A5, c5, e5, hc5, hC5⟩ := Kd.R_reads HO.out
        subst e5
        by_cases hi : i < a.length
        · have hiz : (i : Int) < (a.length : Int) := by omega
          have hid : decide ((i : Int) < (a.length : Int)) = true := decide_eq_true hiz
          obtain ⟨ada, ea, hca⟩ := Kd.at_string (Kd.C_below HCA.out HW.out) i (by omega) hiz
          have hra : rdOf ByteArray.empty a (i : Int) = a[i] := by simp [rdOf, List.getD_eq_getElem?_getD, hi]
          rw [hra] at hca
          simp only [Int.toNat_natCast] at hca
          subst ea
          have had := List.drop_eq_getElem_cons hi
          generalize a[i] = x at hca had
          clear hra
          by_cases hj : j < b.length
          · have hjz : (j : Int) < (b.length : Int) := by omega
            obtain ⟨adb, eb, hcb⟩ := Kd.at_string (Kd.C_below HCB.out HW.out) j (by omega) hjz
            have hrb : rdOf ByteArray.empty b (j : Int) = b[j] := by simp [rdOf, List.getD_eq_getElem?_getD, hj]
            rw [hrb] at hcb
            simp only [Int.toNat_natCast] at hcb
            subst eb
            have hbd := List.drop_eq_getElem_cons hj
            generalize b[j] = y at hcb hbd
            clear hrb
            have hjd : decide ((j : Int) = (b.length : Int)) = false := decide_eq_false (by omega)
            have hjd' : decide (j = b.length) = false := decide_eq_false (by omega)
            have hje : ((j : Int) == (b.length : Int)) = false := by rw [beq_eq_false_iff_ne]; omega
            have hmr := HMR.out
            rw [had, hbd, show a.length - i + (b.length - j) = (a.length - i - 1 + (b.length - j)) + 1 by omega, mrg] at hmr
            cases hle : (Op.bytesLess x.toList y.toList || x.toList == y.toList) with
            | true =>
              rw [hle, if_pos rfl, ← hbd, show a.length - i - 1 + (b.length - j) = a.length - (i + 1) + (b.length - j) by omega] at hmr
              have HST := Aside0.mk hmr
              have HIL := Aside0.mk (show i + 1 ≤ a.length from hi)
              have HJL := Aside0.mk (show j ≤ b.length by omega)
              clear hmr HMR had hbd hi hj
              rcases (show out = [] ∨ ∃ o x0, out = o ++ [x0] from by simpa only [List.concat_eq_append] using List.eq_nil_or_concat out) with e | ⟨o, x0, e⟩
              · subst e
                rw [show addD [] x = [] ++ [x] from rfl] at HST
                go_wp2_with fail
                go_quiet (fail)
                go_wp2_with ((with_reducible refine gate_builtin (b := .append) (xs := #[.tmp 81, .tmp 83]) rfl ?_); at_builtin; refine Kd.R_append Kd.string (w0 := w2) w2.heap.size rfl (.tmp 81) (.tmp 83) 22 9 (.string ⟨#[]⟩) 16 rfl Tryd.underlying22 infoStrS rfl (by decide) (by omega) (.slice A5 0 c5) [] x [.string x] (fun _ => True) (fun _ => False) rfl rfl ?aP (fun _ hk => hk.elim) ?aF ?aO ?aB ?aS ?aL ?_; (case aP => exact rfl); (case aB => exact (by repeat (first | (with_reducible first | exact HW.out | apply below_alloc | apply pw_below_drewN | apply below_drew1) | exact HW.out))); (case aF => exact (fun _ _ => trivial)); (case aO => exact (by (with_reducible repeat (first | apply Kd.R_alloc | apply Kd.R_drewN | apply Kd.R_drew)); exact HO.out)); (case aS => exact (below_size (by repeat (first | (with_reducible first | exact HW.out | apply below_alloc | apply pw_below_drewN | apply below_drew1) | exact HW.out)))); (case aL => have h1_ := HOL.out; have h2_ := HLEN.out; have h3_ := HI.out; have h4_ := HJ.out; first | omega | (simp only [List.length_append, List.length_cons, List.length_nil] at h1_ ⊢; omega)); intro v84 wz ho hb hg hat; have HOz := Aside0.mk ho; have HWz := Aside0.mk hb; clear ho hb hg hat)
                go_roundg (a.length - (i + 1) + (b.length - (j)))
                (case measure => have h1_ := HG.out; have h2_ := HIL.out; have h3_ := HJL.out; omega)
                (case rel => exact ⟨i + 1, j, [] ++ [x], by have h1_ := HIL.out; have h2_ := HJL.out; have h3_ := HLEN.out; first | rfl | (congr 1; unfold wrap64; omega) | go_num, by have h1_ := HIL.out; have h2_ := HJL.out; have h3_ := HLEN.out; first | rfl | (congr 1; unfold wrap64; omega) | go_num, ⟨by have h1_ := HIL.out; omega⟩, ⟨by have h1_ := HJL.out; omega⟩, ⟨by omega⟩, ⟨by have h1_ := HOL.out; simp only [List.length_append, List.length_cons, List.length_nil] at h1_ ⊢; omega⟩, HST, HOz, HWz⟩)
              · subst e
                obtain ⟨ad5, e5, hc5⟩ := Kd.at_string hC5 o.length (by omega) (by simp; omega)
                subst e5
                have hr5 : rdOf ByteArray.empty (o ++ [x0]) (o.length : Int) = x0 := by simp [rdOf, List.getD_eq_getElem?_getD]
                rw [hr5] at hc5
                simp only [Int.toNat_natCast] at hc5
                have hl5 : (o ++ [x0]).length = o.length + 1 := by simp
                have hm5 : (o.length : Int) + 1 ≤ 4194304 := by have h1_ := HOL.out; have h2_ := HLEN.out; have h3_ := HI.out; have h4_ := HJ.out; rw [hl5] at h1_; omega
                have HO' := HO.out
                rw [hl5] at HO' ⊢
                have HO := Aside0.mk HO'
                clear HO'
                have hz6 : (((o.length : Int) + 1) == 0) = false := beq_eq_false_iff_ne.2 (fun h => by omega)
                have HOo := HO
                clear hl5 hr5 hC5
                cases hcmp : (x0.toList == x.toList) with
                | true =>
                  have hx0 : x0 = x := ba_extS (by simpa using hcmp)
                  rw [show addD (o ++ [x0]) x = o ++ [x0] from by rw [← hx0]; simp [addD]] at HST
                  clear hx0
                  go_wp2_with fail
                  go_quiet (fail)
                  go_wp2
                  go_roundg (a.length - (i + 1) + (b.length - (j)))
                  (case measure => have h1_ := HG.out; have h2_ := HIL.out; have h3_ := HJL.out; omega)
                  (case rel => exact ⟨i + 1, j, o ++ [x0], by have h1_ := HIL.out; have h2_ := HJL.out; have h3_ := HLEN.out; first | rfl | (congr 1; unfold wrap64; omega) | go_num, by have h1_ := HIL.out; have h2_ := HJL.out; have h3_ := HLEN.out; first | rfl | (congr 1; unfold wrap64; omega) | go_num, ⟨by have h1_ := HIL.out; omega⟩, ⟨by have h1_ := HJL.out; omega⟩, ⟨by omega⟩, ⟨by have h1_ := HOL.out; simp only [List.length_append, List.length_cons, List.length_nil] at h1_ ⊢; omega⟩, HST, ⟨by (with_reducible repeat (first | apply Kd.R_alloc | apply Kd.R_drewN | apply Kd.R_drew)); exact HOo.out⟩, ⟨(by repeat (first | (with_reducible first | exact HW.out | apply below_alloc | apply pw_below_drewN | apply below_drew1) | exact HW.out))⟩⟩)
                | false =>
                  have hx0 : x0 ≠ x := fun e => by rw [e] at hcmp; simp at hcmp
                  rw [show addD (o ++ [x0]) x = (o ++ [x0]) ++ [x] from by simp [addD, hx0]] at HST
                  clear hx0
                  go_wp2_with fail
                  go_quiet (fail)
                  go_wp2_with ((with_reducible refine gate_builtin (b := .append) (xs := #[.tmp 81, .tmp 83]) rfl ?_); at_builtin; refine Kd.R_append Kd.string (w0 := w2) w2.heap.size rfl (.tmp 81) (.tmp 83) 22 9 (.string ⟨#[]⟩) 16 rfl Tryd.underlying22 infoStrS rfl (by decide) (by omega) (.slice (some ad5) (o.length + 1) c5) (o ++ [x0]) x [.string x] (fun _ => True) (fun _ => False) rfl rfl ?aP (fun _ hk => hk.elim) ?aF ?aO ?aB ?aS ?aL ?_; (case aP => exact rfl); (case aB => exact (by repeat (first | (with_reducible first | exact HW.out | apply below_alloc | apply pw_below_drewN | apply below_drew1) | exact HW.out))); (case aF => exact (fun _ _ => trivial)); (case aO => exact (by (with_reducible repeat (first | apply Kd.R_alloc | apply Kd.R_drewN | apply Kd.R_drew)); exact HO.out)); (case aS => exact (below_size (by repeat (first | (with_reducible first | exact HW.out | apply below_alloc | apply pw_below_drewN | apply below_drew1) | exact HW.out)))); (case aL => have h1_ := HOL.out; have h2_ := HLEN.out; have h3_ := HI.out; have h4_ := HJ.out; first | omega | (simp only [List.length_append, List.length_cons, List.length_nil] at h1_ ⊢; omega)); intro v84 wz ho hb hg hat; have HOz := Aside0.mk ho; have HWz := Aside0.mk hb; clear ho hb hg hat)
                  go_roundg (a.length - (i + 1) + (b.length - (j)))
                  (case measure => have h1_ := HG.out; have h2_ := HIL.out; have h3_ := HJL.out; omega)
                  (case rel => exact ⟨i + 1, j, (o ++ [x0]) ++ [x], by have h1_ := HIL.out; have h2_ := HJL.out; have h3_ := HLEN.out; first | rfl | (congr 1; unfold wrap64; omega) | go_num, by have h1_ := HIL.out; have h2_ := HJL.out; have h3_ := HLEN.out; first | rfl | (congr 1; unfold wrap64; omega) | go_num, ⟨by have h1_ := HIL.out; omega⟩, ⟨by have h1_ := HJL.out; omega⟩, ⟨by omega⟩, ⟨by have h1_ := HOL.out; simp only [List.length_append, List.length_cons, List.length_nil] at h1_ ⊢; omega⟩, HST, HOz, HWz⟩)
            | false =>
              rw [hle, if_neg (by decide), ← had, show a.length - i - 1 + (b.length - j) = a.length - i + (b.length - (j + 1)) by omega] at hmr
              have HST := Aside0.mk hmr
              have HIL := Aside0.mk (show i ≤ a.length by omega)
              have HJL := Aside0.mk (show j + 1 ≤ b.length from hj)
              clear hmr HMR had hbd hi hj
              rcases (show out = [] ∨ ∃ o x0, out = o ++ [x0] from by simpa only [List.concat_eq_append] using List.eq_nil_or_concat out) with e | ⟨o, x0, e⟩
              · subst e
                rw [show addD [] y = [] ++ [y] from rfl] at HST
                go_wp2_with fail
                go_quiet (fail)
                go_wp2_with ((with_reducible refine gate_builtin (b := .append) (xs := #[.tmp 81, .tmp 83]) rfl ?_); at_builtin; refine Kd.R_append Kd.string (w0 := w2) w2.heap.size rfl (.tmp 81) (.tmp 83) 22 9 (.string ⟨#[]⟩) 16 rfl Tryd.underlying22 infoStrS rfl (by decide) (by omega) (.slice A5 0 c5) [] y [.string y] (fun _ => True) (fun _ => False) rfl rfl ?aP (fun _ hk => hk.elim) ?aF ?aO ?aB ?aS ?aL ?_; (case aP => exact rfl); (case aB => exact (by repeat (first | (with_reducible first | exact HW.out | apply below_alloc | apply pw_below_drewN | apply below_drew1) | exact HW.out))); (case aF => exact (fun _ _ => trivial)); (case aO => exact (by (with_reducible repeat (first | apply Kd.R_alloc | apply Kd.R_drewN | apply Kd.R_drew)); exact HO.out)); (case aS => exact (below_size (by repeat (first | (with_reducible first | exact HW.out | apply below_alloc | apply pw_below_drewN | apply below_drew1) | exact HW.out)))); (case aL => have h1_ := HOL.out; have h2_ := HLEN.out; have h3_ := HI.out; have h4_ := HJ.out; first | omega | (simp only [List.length_append, List.length_cons, List.length_nil] at h1_ ⊢; omega)); intro v84 wz ho hb hg hat; have HOz := Aside0.mk ho; have HWz := Aside0.mk hb; clear ho hb hg hat)
                go_roundg (a.length - (i) + (b.length - (j + 1)))
                (case measure => have h1_ := HG.out; have h2_ := HIL.out; have h3_ := HJL.out; omega)
                (case rel => exact ⟨i, j + 1, [] ++ [y], by have h1_ := HIL.out; have h2_ := HJL.out; have h3_ := HLEN.out; first | rfl | (congr 1; unfold wrap64; omega) | go_num, by have h1_ := HIL.out; have h2_ := HJL.out; have h3_ := HLEN.out; first | rfl | (congr 1; unfold wrap64; omega) | go_num, ⟨by have h1_ := HIL.out; omega⟩, ⟨by have h1_ := HJL.out; omega⟩, ⟨by omega⟩, ⟨by have h1_ := HOL.out; simp only [List.length_append, List.length_cons, List.length_nil] at h1_ ⊢; omega⟩, HST, HOz, HWz⟩)
              · subst e
                obtain ⟨ad5, e5, hc5⟩ := Kd.at_string hC5 o.length (by omega) (by simp; omega)
                subst e5
                have hr5 : rdOf ByteArray.empty (o ++ [x0]) (o.length : Int) = x0 := by simp [rdOf, List.getD_eq_getElem?_getD]
                rw [hr5] at hc5
                simp only [Int.toNat_natCast] at hc5
                have hl5 : (o ++ [x0]).length = o.length + 1 := by simp
                have hm5 : (o.length : Int) + 1 ≤ 4194304 := by have h1_ := HOL.out; have h2_ := HLEN.out; have h3_ := HI.out; have h4_ := HJ.out; rw [hl5] at h1_; omega
                have HO' := HO.out
                rw [hl5] at HO' ⊢
                have HO := Aside0.mk HO'
                clear HO'
                have hz6 : (((o.length : Int) + 1) == 0) = false := beq_eq_false_iff_ne.2 (fun h => by omega)
                have HOo := HO
                clear hl5 hr5 hC5
                cases hcmp : (x0.toList == y.toList) with
                | true =>
                  have hx0 : x0 = y := ba_extS (by simpa using hcmp)
                  rw [show addD (o ++ [x0]) y = o ++ [x0] from by rw [← hx0]; simp [addD]] at HST
                  clear hx0
                  go_wp2_with fail
                  go_quiet (fail)
                  go_wp2
                  go_roundg (a.length - (i) + (b.length - (j + 1)))
                  (case measure => have h1_ := HG.out; have h2_ := HIL.out; have h3_ := HJL.out; omega)
                  (case rel => exact ⟨i, j + 1, o ++ [x0], by have h1_ := HIL.out; have h2_ := HJL.out; have h3_ := HLEN.out; first | rfl | (congr 1; unfold wrap64; omega) | go_num, by have h1_ := HIL.out; have h2_ := HJL.out; have h3_ := HLEN.out; first | rfl | (congr 1; unfold wrap64; omega) | go_num, ⟨by have h1_ := HIL.out; omega⟩, ⟨by have h1_ := HJL.out; omega⟩, ⟨by omega⟩, ⟨by have h1_ := HOL.out; simp only [List.length_append, List.length_cons, List.length_nil] at h1_ ⊢; omega⟩, HST, ⟨by (with_reducible repeat (first | apply Kd.R_alloc | apply Kd.R_drewN | apply Kd.R_drew)); exact HOo.out⟩, ⟨(by repeat (first | (with_reducible first | exact HW.out | apply below_alloc | apply pw_below_drewN | apply below_drew1) | exact HW.out))⟩⟩)
                | false =>
                  have hx0 : x0 ≠ y := fun e => by rw [e] at hcmp; simp at hcmp
                  rw [show addD (o ++ [x0]) y = (o ++ [x0]) ++ [y] from by simp [addD, hx0]] at HST
                  clear hx0
                  go_wp2_with fail
                  go_quiet (fail)
                  go_wp2_with ((with_reducible refine gate_builtin (b := .append) (xs := #[.tmp 81, .tmp 83]) rfl ?_); at_builtin; refine Kd.R_append Kd.string (w0 := w2) w2.heap.size rfl (.tmp 81) (.tmp 83) 22 9 (.string ⟨#[]⟩) 16 rfl Tryd.underlying22 infoStrS rfl (by decide) (by omega) (.slice (some ad5) (o.length + 1) c5) (o ++ [x0]) y [.string y] (fun _ => True) (fun _ => False) rfl rfl ?aP (fun _ hk => hk.elim) ?aF ?aO ?aB ?aS ?aL ?_; (case aP => exact rfl); (case aB => exact (by repeat (first | (with_reducible first | exact HW.out | apply below_alloc | apply pw_below_drewN | apply below_drew1) | exact HW.out))); (case aF => exact (fun _ _ => trivial)); (case aO => exact (by (with_reducible repeat (first | apply Kd.R_alloc | apply Kd.R_drewN | apply Kd.R_drew)); exact HO.out)); (case aS => exact (below_size (by repeat (first | (with_reducible first | exact HW.out | apply below_alloc | apply pw_below_drewN | apply below_drew1) | exact HW.out)))); (case aL => have h1_ := HOL.out; have h2_ := HLEN.out; have h3_ := HI.out; have h4_ := HJ.out; first | omega | (simp only [List.length_append, List.length_cons, List.length_nil] at h1_ ⊢; omega)); intro v84 wz ho hb hg hat; have HOz := Aside0.mk ho; have HWz := Aside0.mk hb; clear ho hb hg hat)
                  go_roundg (a.length - (i) + (b.length - (j + 1)))
                  (case measure => have h1_ := HG.out; have h2_ := HIL.out; have h3_ := HJL.out; omega)
                  (case rel => exact ⟨i, j + 1, (o ++ [x0]) ++ [y], by have h1_ := HIL.out; have h2_ := HJL.out; have h3_ := HLEN.out; first | rfl | (congr 1; unfold wrap64; omega) | go_num, by have h1_ := HIL.out; have h2_ := HJL.out; have h3_ := HLEN.out; first | rfl | (congr 1; unfold wrap64; omega) | go_num, ⟨by have h1_ := HIL.out; omega⟩, ⟨by have h1_ := HJL.out; omega⟩, ⟨by omega⟩, ⟨by have h1_ := HOL.out; simp only [List.length_append, List.length_cons, List.length_nil] at h1_ ⊢; omega⟩, HST, HOz, HWz⟩)
          · have hjb : j = b.length := by have h1_ := HJ.out; omega
            have hbd : b.drop j = [] := List.drop_of_length_le (by omega)
            have hmr := HMR.out
            rw [had, hbd, show a.length - i + (b.length - j) = (a.length - i - 1 + (b.length - j)) + 1 by omega, mrg] at hmr
            rw [← hbd, show a.length - i - 1 + (b.length - j) = a.length - (i + 1) + (b.length - j) by omega] at hmr
            have HST := Aside0.mk hmr
            have HIL := Aside0.mk (show i + 1 ≤ a.length from hi)
            have HJL := Aside0.mk (show j ≤ b.length by omega)
            have hje : ((j : Int) == (b.length : Int)) = true := by rw [beq_iff_eq]; omega
            clear hmr HMR had hbd hi hj hjb
            rcases (show out = [] ∨ ∃ o x0, out = o ++ [x0] from by simpa only [List.concat_eq_append] using List.eq_nil_or_concat out) with e | ⟨o, x0, e⟩
            · subst e
              rw [show addD [] x = [] ++ [x] from rfl] at HST
              go_wp2_with fail
              go_quiet (fail)
              go_wp2_with ((with_reducible refine gate_builtin (b := .append) (xs := #[.tmp 81, .tmp 83]) rfl ?_); at_builtin; refine Kd.R_append Kd.string (w0 := w2) w2.heap.size rfl (.tmp 81) (.tmp 83) 22 9 (.string ⟨#[]⟩) 16 rfl Tryd.underlying22 infoStrS rfl (by decide) (by omega) (.slice A5 0 c5) [] x [.string x] (fun _ => True) (fun _ => False) rfl rfl ?aP (fun _ hk => hk.elim) ?aF ?aO ?aB ?aS ?aL ?_; (case aP => exact rfl); (case aB => exact (by repeat (first | (with_reducible first | exact HW.out | apply below_alloc | apply pw_below_drewN | apply below_drew1) | exact HW.out))); (case aF => exact (fun _ _ => trivial)); (case aO => exact (by (with_reducible repeat (first | apply Kd.R_alloc | apply Kd.R_drewN | apply Kd.R_drew)); exact HO.out)); (case aS => exact (below_size (by repeat (first | (with_reducible first | exact HW.out | apply below_alloc | apply pw_below_drewN | apply below_drew1) | exact HW.out)))); (case aL => have h1_ := HOL.out; have h2_ := HLEN.out; have h3_ := HI.out; have h4_ := HJ.out; first | omega | (simp only [List.length_append, List.length_cons, List.length_nil] at h1_ ⊢; omega)); intro v84 wz ho hb hg hat; have HOz := Aside0.mk ho; have HWz := Aside0.mk hb; clear ho hb hg hat)
              go_roundg (a.length - (i + 1) + (b.length - (j)))
              (case measure => have h1_ := HG.out; have h2_ := HIL.out; have h3_ := HJL.out; omega)
              (case rel => exact ⟨i + 1, j, [] ++ [x], by have h1_ := HIL.out; have h2_ := HJL.out; have h3_ := HLEN.out; first | rfl | (congr 1; unfold wrap64; omega) | go_num, by have h1_ := HIL.out; have h2_ := HJL.out; have h3_ := HLEN.out; first | rfl | (congr 1; unfold wrap64; omega) | go_num, ⟨by have h1_ := HIL.out; omega⟩, ⟨by have h1_ := HJL.out; omega⟩, ⟨by omega⟩, ⟨by have h1_ := HOL.out; simp only [List.length_append, List.length_cons, List.length_nil] at h1_ ⊢; omega⟩, HST, HOz, HWz⟩)
            · subst e
              obtain ⟨ad5, e5, hc5⟩ := Kd.at_string hC5 o.length (by omega) (by simp; omega)
              subst e5
              have hr5 : rdOf ByteArray.empty (o ++ [x0]) (o.length : Int) = x0 := by simp [rdOf, List.getD_eq_getElem?_getD]
              rw [hr5] at hc5
              simp only [Int.toNat_natCast] at hc5
              have hl5 : (o ++ [x0]).length = o.length + 1 := by simp
              have hm5 : (o.length : Int) + 1 ≤ 4194304 := by have h1_ := HOL.out; have h2_ := HLEN.out; have h3_ := HI.out; have h4_ := HJ.out; rw [hl5] at h1_; omega
              have HO' := HO.out
              rw [hl5] at HO' ⊢
              have HO := Aside0.mk HO'
              clear HO'
              have hz6 : (((o.length : Int) + 1) == 0) = false := beq_eq_false_iff_ne.2 (fun h => by omega)
              have HOo := HO
              clear hl5 hr5 hC5
              cases hcmp : (x0.toList == x.toList) with
              | true =>
                have hx0 : x0 = x := ba_extS (by simpa using hcmp)
                rw [show addD (o ++ [x0]) x = o ++ [x0] from by rw [← hx0]; simp [addD]] at HST
                clear hx0
                go_wp2_with fail
                go_quiet (fail)
                go_wp2
                go_roundg (a.length - (i + 1) + (b.length - (j)))
                (case measure => have h1_ := HG.out; have h2_ := HIL.out; have h3_ := HJL.out; omega)
                (case rel => exact ⟨i + 1, j, o ++ [x0], by have h1_ := HIL.out; have h2_ := HJL.out; have h3_ := HLEN.out; first | rfl | (congr 1; unfold wrap64; omega) | go_num, by have h1_ := HIL.out; have h2_ := HJL.out; have h3_ := HLEN.out; first | rfl | (congr 1; unfold wrap64; omega) | go_num, ⟨by have h1_ := HIL.out; omega⟩, ⟨by have h1_ := HJL.out; omega⟩, ⟨by omega⟩, ⟨by have h1_ := HOL.out; simp only [List.length_append, List.length_cons, List.length_nil] at h1_ ⊢; omega⟩, HST, ⟨by (with_reducible repeat (first | apply Kd.R_alloc | apply Kd.R_drewN | apply Kd.R_drew)); exact HOo.out⟩, ⟨(by repeat (first | (with_reducible first | exact HW.out | apply below_alloc | apply pw_below_drewN | apply below_drew1) | exact HW.out))⟩⟩)
              | false =>
                have hx0 : x0 ≠ x := fun e => by rw [e] at hcmp; simp at hcmp
                rw [show addD (o ++ [x0]) x = (o ++ [x0]) ++ [x] from by simp [addD, hx0]] at HST
                clear hx0
                go_wp2_with fail
                go_quiet (fail)
                go_wp2_with ((with_reducible refine gate_builtin (b := .append) (xs := #[.tmp 81, .tmp 83]) rfl ?_); at_builtin; refine Kd.R_append Kd.string (w0 := w2) w2.heap.size rfl (.tmp 81) (.tmp 83) 22 9 (.string ⟨#[]⟩) 16 rfl Tryd.underlying22 infoStrS rfl (by decide) (by omega) (.slice (some ad5) (o.length + 1) c5) (o ++ [x0]) x [.string x] (fun _ => True) (fun _ => False) rfl rfl ?aP (fun _ hk => hk.elim) ?aF ?aO ?aB ?aS ?aL ?_; (case aP => exact rfl); (case aB => exact (by repeat (first | (with_reducible first | exact HW.out | apply below_alloc | apply pw_below_drewN | apply below_drew1) | exact HW.out))); (case aF => exact (fun _ _ => trivial)); (case aO => exact (by (with_reducible repeat (first | apply Kd.R_alloc | apply Kd.R_drewN | apply Kd.R_drew)); exact HO.out)); (case aS => exact (below_size (by repeat (first | (with_reducible first | exact HW.out | apply below_alloc | apply pw_below_drewN | apply below_drew1) | exact HW.out)))); (case aL => have h1_ := HOL.out; have h2_ := HLEN.out; have h3_ := HI.out; have h4_ := HJ.out; first | omega | (simp only [List.length_append, List.length_cons, List.length_nil] at h1_ ⊢; omega)); intro v84 wz ho hb hg hat; have HOz := Aside0.mk ho; have HWz := Aside0.mk hb; clear ho hb hg hat)
                go_roundg (a.length - (i + 1) + (b.length - (j)))
                (case measure => have h1_ := HG.out; have h2_ := HIL.out; have h3_ := HJL.out; omega)
                (case rel => exact ⟨i + 1, j, (o ++ [x0]) ++ [x], by have h1_ := HIL.out; have h2_ := HJL.out; have h3_ := HLEN.out; first | rfl | (congr 1; unfold wrap64; omega) | go_num, by have h1_ := HIL.out; have h2_ := HJL.out; have h3_ := HLEN.out; first | rfl | (congr 1; unfold wrap64; omega) | go_num, ⟨by have h1_ := HIL.out; omega⟩, ⟨by have h1_ := HJL.out; omega⟩, ⟨by omega⟩, ⟨by have h1_ := HOL.out; simp only [List.length_append, List.length_cons, List.length_nil] at h1_ ⊢; omega⟩, HST, HOz, HWz⟩)
        · by_cases hj : j < b.length
          · have hjz : (j : Int) < (b.length : Int) := by omega
            have hid : decide ((i : Int) < (a.length : Int)) = false := decide_eq_false (by omega)
            have hid2 : decide (i < a.length) = false := decide_eq_false (by omega)
            obtain ⟨adb, eb, hcb⟩ := Kd.at_string (Kd.C_below HCB.out HW.out) j (by omega) hjz
            have hrb : rdOf ByteArray.empty b (j : Int) = b[j] := by simp [rdOf, List.getD_eq_getElem?_getD, hj]
            rw [hrb] at hcb
            simp only [Int.toNat_natCast] at hcb
            subst eb
            have hbd := List.drop_eq_getElem_cons hj
            generalize b[j] = y at hcb hbd
            clear hrb
            have hje : ((j : Int) == (b.length : Int)) = false := by rw [beq_eq_false_iff_ne]; omega
            have had : a.drop i = [] := List.drop_of_length_le (by omega)
            have hmr := HMR.out
            rw [had, hbd, show a.length - i + (b.length - j) = (a.length - i + (b.length - j - 1)) + 1 by omega, mrg] at hmr
            rw [← had, show a.length - i + (b.length - j - 1) = a.length - i + (b.length - (j + 1)) by omega] at hmr
            have HST := Aside0.mk hmr
            have HIL := Aside0.mk (show i ≤ a.length from HI.out)
            have HJL := Aside0.mk (show j + 1 ≤ b.length from hj)
            have hiz : ¬ (i : Int) < (a.length : Int) := by omega
            clear hmr HMR had hbd hi hj
            rcases (show out = [] ∨ ∃ o x0, out = o ++ [x0] from by simpa only [List.concat_eq_append] using List.eq_nil_or_concat out) with e | ⟨o, x0, e⟩
            · subst e
              rw [show addD [] y = [] ++ [y] from rfl] at HST
              go_wp2_with fail
              go_quiet (fail)
              go_wp2_with ((with_reducible refine gate_builtin (b := .append) (xs := #[.tmp 81, .tmp 83]) rfl ?_); at_builtin; refine Kd.R_append Kd.string (w0 := w2) w2.heap.size rfl (.tmp 81) (.tmp 83) 22 9 (.string ⟨#[]⟩) 16 rfl Tryd.underlying22 infoStrS rfl (by decide) (by omega) (.slice A5 0 c5) [] y [.string y] (fun _ => True) (fun _ => False) rfl rfl ?aP (fun _ hk => hk.elim) ?aF ?aO ?aB ?aS ?aL ?_; (case aP => exact rfl); (case aB => exact (by repeat (first | (with_reducible first | exact HW.out | apply below_alloc | apply pw_below_drewN | apply below_drew1) | exact HW.out))); (case aF => exact (fun _ _ => trivial)); (case aO => exact (by (with_reducible repeat (first | apply Kd.R_alloc | apply Kd.R_drewN | apply Kd.R_drew)); exact HO.out)); (case aS => exact (below_size (by repeat (first | (with_reducible first | exact HW.out | apply below_alloc | apply pw_below_drewN | apply below_drew1) | exact HW.out)))); (case aL => have h1_ := HOL.out; have h2_ := HLEN.out; have h3_ := HI.out; have h4_ := HJ.out; first | omega | (simp only [List.length_append, List.length_cons, List.length_nil] at h1_ ⊢; omega)); intro v84 wz ho hb hg hat; have HOz := Aside0.mk ho; have HWz := Aside0.mk hb; clear ho hb hg hat)
              go_roundg (a.length - (i) + (b.length - (j + 1)))
              (case measure => have h1_ := HG.out; have h2_ := HIL.out; have h3_ := HJL.out; omega)
              (case rel => exact ⟨i, j + 1, [] ++ [y], by have h1_ := HIL.out; have h2_ := HJL.out; have h3_ := HLEN.out; first | rfl | (congr 1; unfold wrap64; omega) | go_num, by have h1_ := HIL.out; have h2_ := HJL.out; have h3_ := HLEN.out; first | rfl | (congr 1; unfold wrap64; omega) | go_num, ⟨by have h1_ := HIL.out; omega⟩, ⟨by have h1_ := HJL.out; omega⟩, ⟨by omega⟩, ⟨by have h1_ := HOL.out; simp only [List.length_append, List.length_cons, List.length_nil] at h1_ ⊢; omega⟩, HST, HOz, HWz⟩)
            · subst e
              obtain ⟨ad5, e5, hc5⟩ := Kd.at_string hC5 o.length (by omega) (by simp; omega)
              subst e5
              have hr5 : rdOf ByteArray.empty (o ++ [x0]) (o.length : Int) = x0 := by simp [rdOf, List.getD_eq_getElem?_getD]
              rw [hr5] at hc5
              simp only [Int.toNat_natCast] at hc5
              have hl5 : (o ++ [x0]).length = o.length + 1 := by simp
              have hm5 : (o.length : Int) + 1 ≤ 4194304 := by have h1_ := HOL.out; have h2_ := HLEN.out; have h3_ := HI.out; have h4_ := HJ.out; rw [hl5] at h1_; omega
              have HO' := HO.out
              rw [hl5] at HO' ⊢
              have HO := Aside0.mk HO'
              clear HO'
              have hz6 : (((o.length : Int) + 1) == 0) = false := beq_eq_false_iff_ne.2 (fun h => by omega)
              have HOo := HO
              clear hl5 hr5 hC5
              cases hcmp : (x0.toList == y.toList) with
              | true =>
                have hx0 : x0 = y := ba_extS (by simpa using hcmp)
                rw [show addD (o ++ [x0]) y = o ++ [x0] from by rw [← hx0]; simp [addD]] at HST
                clear hx0
                go_wp2_with fail
                go_quiet (fail)
                go_wp2
                go_roundg (a.length - (i) + (b.length - (j + 1)))
                (case measure => have h1_ := HG.out; have h2_ := HIL.out; have h3_ := HJL.out; omega)
                (case rel => exact ⟨i, j + 1, o ++ [x0], by have h1_ := HIL.out; have h2_ := HJL.out; have h3_ := HLEN.out; first | rfl | (congr 1; unfold wrap64; omega) | go_num, by have h1_ := HIL.out; have h2_ := HJL.out; have h3_ := HLEN.out; first | rfl | (congr 1; unfold wrap64; omega) | go_num, ⟨by have h1_ := HIL.out; omega⟩, ⟨by have h1_ := HJL.out; omega⟩, ⟨by omega⟩, ⟨by have h1_ := HOL.out; simp only [List.length_append, List.length_cons, List.length_nil] at h1_ ⊢; omega⟩, HST, ⟨by (with_reducible repeat (first | apply Kd.R_alloc | apply Kd.R_drewN | apply Kd.R_drew)); exact HOo.out⟩, ⟨(by repeat (first | (with_reducible first | exact HW.out | apply below_alloc | apply pw_below_drewN | apply below_drew1) | exact HW.out))⟩⟩)
              | false =>
                have hx0 : x0 ≠ y := fun e => by rw [e] at hcmp; simp at hcmp
                rw [show addD (o ++ [x0]) y = (o ++ [x0]) ++ [y] from by simp [addD, hx0]] at HST
                clear hx0
                go_wp2_with fail
                go_quiet (fail)
                go_wp2_with ((with_reducible refine gate_builtin (b := .append) (xs := #[.tmp 81, .tmp 83]) rfl ?_); at_builtin; refine Kd.R_append Kd.string (w0 := w2) w2.heap.size rfl (.tmp 81) (.tmp 83) 22 9 (.string ⟨#[]⟩) 16 rfl Tryd.underlying22 infoStrS rfl (by decide) (by omega) (.slice (some ad5) (o.length + 1) c5) (o ++ [x0]) y [.string y] (fun _ => True) (fun _ => False) rfl rfl ?aP (fun _ hk => hk.elim) ?aF ?aO ?aB ?aS ?aL ?_; (case aP => exact rfl); (case aB => exact (by repeat (first | (with_reducible first | exact HW.out | apply below_alloc | apply pw_below_drewN | apply below_drew1) | exact HW.out))); (case aF => exact (fun _ _ => trivial)); (case aO => exact (by (with_reducible repeat (first | apply Kd.R_alloc | apply Kd.R_drewN | apply Kd.R_drew)); exact HO.out)); (case aS => exact (below_size (by repeat (first | (with_reducible first | exact HW.out | apply below_alloc | apply pw_below_drewN | apply below_drew1) | exact HW.out)))); (case aL => have h1_ := HOL.out; have h2_ := HLEN.out; have h3_ := HI.out; have h4_ := HJ.out; first | omega | (simp only [List.length_append, List.length_cons, List.length_nil] at h1_ ⊢; omega)); intro v84 wz ho hb hg hat; have HOz := Aside0.mk ho; have HWz := Aside0.mk hb; clear ho hb hg hat)
                go_roundg (a.length - (i) + (b.length - (j + 1)))
                (case measure => have h1_ := HG.out; have h2_ := HIL.out; have h3_ := HJL.out; omega)
                (case rel => exact ⟨i, j + 1, (o ++ [x0]) ++ [y], by have h1_ := HIL.out; have h2_ := HJL.out; have h3_ := HLEN.out; first | rfl | (congr 1; unfold wrap64; omega) | go_num, by have h1_ := HIL.out; have h2_ := HJL.out; have h3_ := HLEN.out; first | rfl | (congr 1; unfold wrap64; omega) | go_num, ⟨by have h1_ := HIL.out; omega⟩, ⟨by have h1_ := HJL.out; omega⟩, ⟨by omega⟩, ⟨by have h1_ := HOL.out; simp only [List.length_append, List.length_cons, List.length_nil] at h1_ ⊢; omega⟩, HST, HOz, HWz⟩)
          · have hid : decide ((i : Int) < (a.length : Int)) = false := decide_eq_false (by omega)
            have hjd : decide ((j : Int) < (b.length : Int)) = false := decide_eq_false (by omega)
            have hiz : ¬ (i : Int) < (a.length : Int) := by omega
            have hjz : ¬ (j : Int) < (b.length : Int) := by omega
            have hmr := HMR.out
            rw [List.drop_of_length_le (show a.length ≤ i by omega), List.drop_of_length_le (show b.length ≤ j by omega), show a.length - i + (b.length - j) = 0 by omega, mrg] at hmr
            subst hmr
            clear HMR hi hj
            go_wp2
            go_ret
            exact ⟨A5, c5, rfl, hc5, hC5, HB2.out.trans (HW.out.mono HB2.out.size), .inr (Kd.R_lower HO.out HB2.out.size)⟩
theorem spec_dcSorted.calls (k : Nat) (A0 : Option Addr) (c0 : Nat) (l0 : List ByteArray) (r : List ByteArray) (w : World) (hr0 : Kd.C Kd.string w A0 l0.length l0) (hc0 : l0.length ≤ c0) (h : spec_dcSorted.f k l0 = some r) :
    Calls Tryd.prog 26 #[.slice A0 l0.length c0] w (dsPost A0 c0 l0 r w) := spec_dcSorted.calls_d k A0 c0 l0 r w hr0 hc0 h

end Go.Proofs.YtemjfkogaimolaaDoor.X

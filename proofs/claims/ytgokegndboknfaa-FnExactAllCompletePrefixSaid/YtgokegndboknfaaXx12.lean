-- WRITTEN by xprint.py of this repo: the kit's print.py with contracts given by hand (given.py). Lean checks it.
import Derived.Test.YtgokegndboknfaaXx0
import Derived.Test.YtgokegndboknfaaXx11
namespace Go.Proofs.Ytgokegndboknfaa.X
open Go.RowKit Go.Proofs.YtgokegndboknfaaW.PrintWords Go.Proofs.YtgokegndboknfaaW.PrintLast Go.Proofs.YtgokegndboknfaaW.PrintMore
attribute [local go_sem] max2_int min2_int max_two min_two max_three min_three max_four min_four   -- for this text's walks alone
set_option linter.unusedVariables false
set_option linter.unusedSimpArgs false

/-! ### GIVEN laws_markStringSS: function 7 -/
def mSSS (k : Nat) : List (List ByteArray) → Int → Option (Int × List (List ByteArray))
  | [], a => some (a, [])
  | x :: xs, a => (laws_markStringS.f k x a).bind fun b => (mSSS k xs b.1).bind fun c => some (c.1, b.2 :: c.2)
theorem mSSS.mono (k : Nat) : ∀ xs a, LeO (mSSS k xs a) (mSSS (k + 1) xs a)
  | [], _ => LeO.refl _
  | x :: xs, a => by
    unfold mSSS
    exact LeO.bind (laws_markStringS.mono _ _ _) fun b => LeO.bind (mSSS.mono k xs _) fun _ => LeO.refl _
def laws_markStringSS.f (k : Nat) (l0 : List (List ByteArray)) (a1 : Int) : Option (Int × List (List ByteArray)) := mSSS k l0 a1
theorem laws_markStringSS.mono : ∀ a0 a1 k, LeO (laws_markStringSS.f k a0 a1) (laws_markStringSS.f (k + 1) a0 a1) := fun a0 a1 k => mSSS.mono k a0 a1
set_option maxRecDepth 100000 in
set_option maxHeartbeats 8000000 in
theorem laws_markStringSS.calls (k : Nat) (P0_ : Nat → Prop) (u9000_ : Value) (l0 : List (List ByteArray)) (a1 : Int) (r1 : Int) (r2 : List (List ByteArray)) (w0 w : World) (hB : Below w0.heap.size w0 w) (ho0 : Kd.S (Kd.slice 9 Kd.string) 31 w w0.heap.size P0_ u9000_ l0) (h : laws_markStringSS.f k l0 a1 = some (r1, r2)) :
    Calls Try.prog 7 #[u9000_, .int .i64 a1] w fun e w' => e = .returned (.int .i64 r1) ∧ Kd.S (Kd.slice 9 Kd.string) 31 w' w0.heap.size (fun k_ => (P0_ k_ ∨ w.heap.size ≤ k_)) u9000_ r2 ∧ Below w0.heap.size w0 w' ∧ Kept w w' (fun k_ => P0_ k_) := by
  obtain ⟨A, c, e, hlc, hC⟩ := Kd.S_reads ho0
  subst e
  have hmx := hC.2.1
  have HO := Aside0.mk ho0
  have HB := Aside0.mk hB
  have HH := Aside0.mk (show mSSS k l0 a1 = some (r1, r2) from h)
  have HMX := Aside0.mk hmx
  clear h hB hlc hC
  obtain ⟨n, hn⟩ : ∃ n, l0.length = n := ⟨_, rfl⟩
  have HN := Aside0.mk hn
  rw [hn] at HO hmx ⊢
  have hmx' : (n : Int) ≤ 9223372036854775807 := by omega
  clear hn ho0 hmx
  go_enter Try.func7, Try.ntmps7
  go_wp2
  go_loopg [1, 5] n (fun gg s1 s5 wr => ∃ (kk : Nat) (a : Int) (don rst : List (List ByteArray)) (r' : List (List ByteArray)), s5 = .int .i64 kk ∧ s1 = .int .i64 a ∧ Aside0 (don.length = kk) ∧ Aside0 (kk + rst.length = n) ∧ Aside0 (n - kk ≤ gg) ∧ Aside0 (mSSS k rst a = some (r1, r')) ∧ Aside0 (r2 = don ++ r') ∧ Aside0 (Kd.S (Kd.slice 9 Kd.string) 31 wr w0.heap.size (fun k_ => P0_ k_ ∨ w.heap.size ≤ k_) (.slice A n c) (don ++ rst)) ∧ Aside0 (Below w0.heap.size w0 wr) ∧ Aside0 (Kept w wr (fun k_ => P0_ k_)))
  case atStart => exact ⟨0, a1, [], l0, r2, rfl, rfl, ⟨rfl⟩, ⟨by have := HN.out; omega⟩, ⟨by omega⟩, HH, ⟨rfl⟩, ⟨Kd.S_mono HO.out (fun _ hk => .inl hk)⟩, HB, ⟨Kept.refl _ _⟩⟩
  case round =>
    clear HO HB HH HN
    obtain ⟨kk, a, don, rst, r', rfl, rfl, HD, HR, HG, HM, HE, HO, HB, HK⟩ := hrel
    cases rst with
    | nil =>
      have hge : ¬ (kk : Int) < (n : Int) := by have := HR.out; simp at this; omega
      have hm := HM.out
      unfold mSSS at hm
      obtain ⟨rfl, rfl⟩ := Prod.mk.inj (Option.some.inj hm)
      clear hm HM
      go_wp2
      go_ret
      exact ⟨rfl, by have := HO.out; rw [HE.out]; exact this, HB.out, HK.out⟩
    | cons x rst =>
      have hlt : (kk : Int) < (n : Int) := by have := HR.out; simp at this; omega
      have hln : (don ++ x :: rst).length = n := by have h1_ := HR.out; have h2_ := HD.out; rw [List.length_append, List.length_cons] at *; omega
      have hm := HM.out
      unfold mSSS at hm
      obtain ⟨⟨b1, b2⟩, hb, hm⟩ := Option.bind_eq_some_iff.mp hm
      obtain ⟨⟨c1, c2⟩, hc, hm⟩ := Option.bind_eq_some_iff.mp hm
      obtain ⟨rfl, rfl⟩ := Prod.mk.inj (Option.some.inj hm)
      obtain ⟨g, cap, ef, hg0, hg1, _⟩ := Kd.S_form HO.out (by rw [hln]; omega)
      rw [hln] at ef
      obtain ⟨rfl, rfl⟩ : A = some ⟨g, 0, none⟩ ∧ c = cap := by injection ef with e1 _ e2; exact ⟨e1, e2⟩
      obtain ⟨oki, cs, hcl, hM, hcc, hoki, hH⟩ := Kd.S_lend HO.out [] (kk : Int) (by omega) hlt
      have hgd : (don ++ x :: rst).getD (kk : Int).toNat [] = x := by rw [Int.toNat_natCast, List.getD_eq_getElem?_getD, List.getElem?_append_right (by have := HD.out; omega), HD.out.symm]; simp
      rw [hgd] at hM
      obtain ⟨v, rfl, hv⟩ := hM
      have hcell : wr.cell? ⟨g, kk, none⟩ = some v := by
        have := hcc 0 v rfl
        rw [Int.toNat_natCast] at this
        simpa [Kd.slice] using this
      obtain ⟨Av, cv, rfl⟩ := Kd.R_slice hv
      have HCALL := Aside0.mk (laws_markStringS.calls k oki (.slice Av x.length cv) x a b1 b2 w0 wr HB.out hv hb)
      have HH := Aside0.mk hH
      have HV := Aside0.mk hv
      have HOK := Aside0.mk hoki
      have HC := Aside0.mk hc
      have HLN := Aside0.mk hln
      clear hm HM hb hc hH hv hcc hcl hgd hln ef hoki hg0 hg1
      go_wp2_with (go_at_call 23; refine HCALL.out.mono ?_; rintro e w2 ⟨rfl, hR2, hB2, hK2⟩; have HR2 := Aside0.mk hR2; have HB2 := Aside0.mk hB2; have HK2 := Aside0.mk hK2; clear hR2 hB2 hK2)
      go_roundg (n - (kk + 1))
      case measure => have h1_ := HG.out; have h2_ := HR.out; simp at h2_; omega
      case rel =>
        have hd := HD.out
        have hr := HR.out
        have hS2 := Kd.H_back (okp := oki) (x' := b2) (Kd.H_step HH.out (fun k' _ hn hlt => HK2.out.2 k' hlt hn)) ⟨_, rfl, Kd.R_mono (Kd.R_tight rfl HR2.out) (fun k' hk' => HV.out.1 k' hk'.symm)⟩ (fun _ hk => hk)
        rw [Int.toNat_natCast, show (don ++ x :: rst).set kk b2 = (don ++ [b2]) ++ rst by rw [← hd, List.set_append_right _ _ (Nat.le_refl _), Nat.sub_self]; simp] at hS2
        refine ⟨kk + 1, b1, don ++ [b2], rst, c2, by go_num, rfl, ⟨by rw [List.length_append, List.length_singleton, hd]⟩, ⟨by rw [List.length_cons] at hr; omega⟩, ⟨Nat.le_refl _⟩, HC, ⟨by rw [HE.out]; simp⟩, ⟨hS2⟩, HB2, ⟨HK.out.then_ HK2.out (fun k' hk' => (HOK.out k' hk').1)⟩⟩

end Go.Proofs.Ytgokegndboknfaa.X

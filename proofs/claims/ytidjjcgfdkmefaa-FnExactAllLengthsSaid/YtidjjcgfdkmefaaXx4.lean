-- WRITTEN by xprint.py of this repo: the kit's print.py with contracts given by hand (given.py). Lean checks it.
import Derived.Test.YtidjjcgfdkmefaaXx0
import Derived.Test.YtidjjcgfdkmefaaXx1
import Derived.Test.YtidjjcgfdkmefaaXx2
namespace Go.Proofs.Ytidjjcgfdkmefaa.X
open Go.RowKit Go.Proofs.YtidjjcgfdkmefaaW.PrintWords Go.Proofs.YtidjjcgfdkmefaaW.PrintLast Go.Proofs.YtidjjcgfdkmefaaW.PrintMore
attribute [local go_sem] max2_int min2_int max_two min_two max_three min_three max_four min_four   -- for this text's walks alone
set_option linter.unusedVariables false
set_option linter.unusedSimpArgs false

/-! ### GIVEN impl_AllLengths: function 12 -/
theorem infoRowI : (Try.prog.info? 42).map (fun i => (i.zero, i.size, i.bytes)) = some (some (.slice none 0 0), 1, 24) := by kernel_rfl
def alJ (G2 base : Nat) (ok : Nat → Prop) (Ls : List (List Int)) (W : World) : Prop := ∃ (A : Option Addr) (c : Nat), Bx W G2 (.slice A Ls.length c) 27 ∧ Kd.S (Kd.slice 3 (Kd.int .i64)) 42 W base (fun k => ok k ∧ k ≠ G2) (.slice A Ls.length c) Ls ∧ ok G2
set_option maxRecDepth 100000 in
set_option maxHeartbeats 8000000 in
theorem al_call (G2 base : Nat) (hle : base ≤ G2) (ok : Nat → Prop) (Ls : List (List Int)) (l : List Int) (A : Option Addr) (c : Nat) (W : World) (hL : Ls.length ≤ 1000000) (hJ : alJ G2 base ok Ls W) (hR : Kd.R (Kd.int .i64) 3 W base (fun _ => True) (.slice A l.length c) l) (hN : ∀ k, (Value.slice A l.length c).ownBlock = some k → ¬ ok k) (hb : base ≤ W.heap.size) : Calls Try.prog 32 (#[.slice A l.length c] ++ #[.pointer (some ⟨G2, 0, none⟩)]) W fun e W' => (∃ r, e = .returned r) ∧ alJ G2 base (fun k => ok k ∨ W.heap.size ≤ k ∨ some k = (Value.slice A l.length c).ownBlock) (Ls ++ [l]) W' ∧ Below base W W' ∧ (∀ k, k < W.heap.size → ¬ ok k → W'.heap[k]? = W.heap[k]?) := by
  obtain ⟨Av, cv, hbx, hS, hok⟩ := hJ
  have bx2 := hbx.cell.1
  have fx2 := hbx.cell.2
  have HX := Aside0.mk hbx
  have HS := Aside0.mk hS
  have HOK := Aside0.mk hok
  have HRR := Aside0.mk (Kd.R_tight rfl hR)
  have HNO := Aside0.mk hN
  have HLE := Aside0.mk hle
  have HBS := Aside0.mk hb
  have HLN := Aside0.mk hL
  clear hbx hS hok hR hN hle hb hL
  go_enter Try.func32, Try.ntmps32
  go_wp2_with ((with_reducible refine gate_builtin (b := .append) (xs := #[.tmp 3, .tmp 5]) rfl ?_); at_builtin; refine Kd.S_append (Kd.slice 3 (Kd.int .i64)) (w0 := W) base rfl (.tmp 3) (.tmp 5) 27 42 (.slice none 0 0) 24 rfl Try.underlying27 infoRowI rfl (by decide) (by omega) (.slice Av Ls.length cv) Ls l [.slice A l.length c] (fun k => (ok k ∨ W.heap.size ≤ k ∨ some k = (Value.slice A l.length c).ownBlock) ∧ k ≠ G2) (fun k => some k = (Value.slice A l.length c).ownBlock) rfl rfl ⟨_, rfl, HRR.out⟩ (fun k hk => ⟨⟨.inr (.inr hk), fun e => HNO.out k hk.symm (e ▸ HOK.out)⟩, fun e => HNO.out k hk.symm ((Kd.S_R HS.out).1 k e.symm).1⟩) (fun _ hk => ⟨.inr (.inl hk), fun e => by have h1_ := HX.out.lt; omega⟩) (Kd.S_mono HS.out (fun k hk => ⟨⟨.inl hk.1, hk.2⟩, fun q => HNO.out k q.symm hk.1⟩)) (Below.refl _ _) HBS.out (by have h1_ := HLN.out; omega) ?_; intro v16 w2 ho hb2 hg hat; have HO := Aside0.mk ho; have HB2 := Aside0.mk hb2; have HG := Aside0.mk hg; have HX2 := Aside0.mk (HX.out.grown hg (fun e => ((Kd.S_R HS.out).1 _ e.symm).2 rfl)); have bx2b := HX2.out.cell.1; have fx2b := HX2.out.cell.2; obtain ⟨A16, c16, e16, _, _⟩ := Kd.S_reads ho; subst e16; clear ho hb2 hg hat)
  refine bodyPost_end (results_none rfl _ _ _) rfl ?_
  have ev : (Value.slice A16 (Ls.length + 1) c16) = .slice A16 (Ls ++ [l]).length c16 := by rw [List.length_append]; rfl
  have HR2 := Kd.S_far (p := ⟨G2, 0, none⟩) HO.out (fun k hk => hk.2) (Value.slice A16 (Ls.length + 1) c16)
  rw [← ev] at HR2
  refine ⟨⟨_, rfl⟩, ⟨A16, c16, by rw [← ev]; exact HX2.out.set _, by rw [← ev]; exact HR2, .inl HOK.out⟩, HB2.out.setCell HLE.out _, fun k hk hn => ?_⟩
  exact (Below.heap_setCell w2 ⟨G2, 0, none⟩ _ k (fun e => hn (e ▸ HOK.out))).trans (HG.out.block k hk (fun e => hn ((Kd.S_R HS.out).1 k e.symm).1))
theorem al_cbk (G2 base : Nat) (hle : base ≤ G2) : Cbk 32 #[.pointer (some ⟨G2, 0, none⟩)] base (alJ G2 base) where
  mono := fun hk ⟨A, c, hx, hs, ho⟩ => ⟨A, c, hx, Kd.S_mono (Kd.S_bound hs) (fun k q => ⟨hk k q.1.1 q.2.2.1, q.1.2⟩), hk _ ho hx.lt⟩
  step := fun ⟨A, c, hx, hs, ho⟩ h _ => ⟨A, c, hx.same (h _ ho hx.lt), Kd.S_step hs (fun k hk hl => h k hk.1 hl), ho⟩
  call := fun ok Ls l A c W hL hJ hR hN hb => al_call G2 base hle ok Ls l A c W hL hJ hR hN hb
def impl_AllLengths.f (k : Nat) (a0 a1 a2 : Int) : Option (List (List Int) × Bool) := (impl_in.f a0 0 8).bind fun b1 => if b1 = true then ((impl_in.f a1 1 8).bind fun b2 => if b2 = true then ((impl_areLetters.f a2).bind fun b3 => if b3 = true then ((whA k a0 a1 a2 []).bind fun Ls => some (Ls, true)) else some ([], false)) else some ([], false)) else some ([], false)
theorem impl_AllLengths.mono : ∀ a0 a1 a2 k, LeO (impl_AllLengths.f k a0 a1 a2) (impl_AllLengths.f (k + 1) a0 a1 a2) := by
  intro a0 a1 a2 k
  unfold impl_AllLengths.f
  exact LeO.bind (LeO.refl _) fun _ => LeO.ite (LeO.bind (LeO.refl _) fun _ => LeO.ite (LeO.bind (LeO.refl _) fun _ => LeO.ite (LeO.bind (whA.mono _ _ _ _ _) fun _ => LeO.refl _) (LeO.refl _)) (LeO.refl _)) (LeO.refl _)
set_option maxRecDepth 100000 in
set_option maxHeartbeats 8000000 in
theorem impl_AllLengths.calls (k : Nat) (a0 : Int) (a1 : Int) (a2 : Int) (r1 : List (List Int)) (r2 : Bool) (w : World) (h : impl_AllLengths.f k a0 a1 a2 = some (r1, r2)) :
    Calls Try.prog 12 #[.int .i64 a0, .int .i64 a1, .int .i64 a2] w fun e w' => ∃ v0_ : Value, e = .returned (.tuple #[v0_, .bool r2]) ∧ Kd.S (Kd.slice 3 (Kd.int .i64)) 42 w' w.heap.size (fun _ => True) v0_ r1 ∧ Below w.heap.size w w' := by
  unfold impl_AllLengths.f at h
  replace h := Option.bind_eq_some_iff.mp h
  obtain ⟨b1, h1, h⟩ := h
  have H1 := Aside0.mk h1
  clear h1
  have HB := Aside0.mk (Below.refl w.heap.size w)
  cases b1 with
  | false =>
    rw [if_neg (by decide)] at h
    obtain ⟨rfl, rfl⟩ := Prod.mk.inj (Option.some.inj h)
    clear h
    go_enter Try.func12, Try.ntmps12
    go_wp2_with ((with_reducible refine gate_callee (f := 24) rfl ?_); refine goesL_ (some 10) rfl rfl Try.func24 (by kernel_rfl) rfl #[.int .i64 a0, .int .i64 0, .int .i64 8] rfl (by (try simp only [List.map_toArray, List.map_cons, List.map_nil]); first | done | rfl) ?_; (with_reducible refine (impl_in.calls a0 0 8 false _ H1.out).mono ?_); rintro e w' ⟨rfl, ⟨nd, rfl⟩⟩; refine ⟨_, rfl, ?_⟩)
    go_ret2
    exact ⟨_, rfl, Kd.S_nil _ _ _ _ _, by repeat (first | (with_reducible first | exact HB.out | apply below_alloc | apply pw_below_drewN | apply below_drew1) | exact HB.out)⟩
  | true =>
  rw [if_pos rfl] at h
  replace h := Option.bind_eq_some_iff.mp h
  obtain ⟨b2, h2, h⟩ := h
  have H2 := Aside0.mk h2
  clear h2
  cases b2 with
  | false =>
    rw [if_neg (by decide)] at h
    obtain ⟨rfl, rfl⟩ := Prod.mk.inj (Option.some.inj h)
    clear h
    go_enter Try.func12, Try.ntmps12
    go_wp2_with (first
      | ((with_reducible refine gate_callee (f := 24) rfl ?_); refine goesL_ (some 10) rfl rfl Try.func24 (by kernel_rfl) rfl #[.int .i64 a0, .int .i64 0, .int .i64 8] rfl (by (try simp only [List.map_toArray, List.map_cons, List.map_nil]); first | done | rfl) ?_; (with_reducible refine (impl_in.calls a0 0 8 true _ H1.out).mono ?_); rintro e w' ⟨rfl, ⟨nd, rfl⟩⟩; refine ⟨_, rfl, ?_⟩)
      | (go_at_call 24; (with_reducible refine (impl_in.calls a1 1 8 false _ H2.out).mono ?_); rintro e w' ⟨rfl, ⟨nd2, rfl⟩⟩))
    go_ret2
    exact ⟨_, rfl, Kd.S_nil _ _ _ _ _, by repeat (first | (with_reducible first | exact HB.out | apply below_alloc | apply pw_below_drewN | apply below_drew1) | exact HB.out)⟩
  | true =>
  rw [if_pos rfl] at h
  replace h := Option.bind_eq_some_iff.mp h
  obtain ⟨b3, h3, h⟩ := h
  have H3 := Aside0.mk h3
  clear h3
  cases b3 with
  | false =>
    rw [if_neg (by decide)] at h
    obtain ⟨rfl, rfl⟩ := Prod.mk.inj (Option.some.inj h)
    clear h
    go_enter Try.func12, Try.ntmps12
    go_wp2_with (first
      | ((with_reducible refine gate_callee (f := 24) rfl ?_); refine goesL_ (some 10) rfl rfl Try.func24 (by kernel_rfl) rfl #[.int .i64 a0, .int .i64 0, .int .i64 8] rfl (by (try simp only [List.map_toArray, List.map_cons, List.map_nil]); first | done | rfl) ?_; (with_reducible refine (impl_in.calls a0 0 8 true _ H1.out).mono ?_); rintro e w' ⟨rfl, ⟨nd, rfl⟩⟩; refine ⟨_, rfl, ?_⟩)
      | (go_at_call 24; (with_reducible refine (impl_in.calls a1 1 8 true _ H2.out).mono ?_); rintro e w' ⟨rfl, ⟨nd2, rfl⟩⟩)
      | (go_at_call 25; (with_reducible refine (impl_areLetters.calls a2 false _ H3.out).mono ?_); rintro e w' ⟨rfl, ⟨nd3, rfl⟩⟩))
    go_ret2
    exact ⟨_, rfl, Kd.S_nil _ _ _ _ _, by repeat (first | (with_reducible first | exact HB.out | apply below_alloc | apply pw_below_drewN | apply below_drew1) | exact HB.out)⟩
  | true =>
  rw [if_pos rfl] at h
  replace h := Option.bind_eq_some_iff.mp h
  obtain ⟨Ls, hL, h⟩ := h
  obtain ⟨rfl, rfl⟩ := Prod.mk.inj (Option.some.inj h)
  have HL := Aside0.mk hL
  clear h hL
  have eg := enters_of Try.func32 (by kernel_rfl) rfl
  have EG := Aside0.mk eg
  clear eg
  go_enter Try.func12, Try.ntmps12
  go_upto_region 4 with (first
      | ((with_reducible refine gate_callee (f := 24) rfl ?_); refine goesL_ (some 10) rfl rfl Try.func24 (by kernel_rfl) rfl #[.int .i64 a0, .int .i64 0, .int .i64 8] rfl (by (try simp only [List.map_toArray, List.map_cons, List.map_nil]); first | done | rfl) ?_; (with_reducible refine (impl_in.calls a0 0 8 true _ H1.out).mono ?_); rintro e w' ⟨rfl, ⟨nd, rfl⟩⟩; refine ⟨_, rfl, ?_⟩)
      | (go_at_call 24; (with_reducible refine (impl_in.calls a1 1 8 true _ H2.out).mono ?_); rintro e w' ⟨rfl, ⟨nd2, rfl⟩⟩)
      | (go_at_call 25; (with_reducible refine (impl_areLetters.calls a2 true _ H3.out).mono ?_); rintro e w' ⟨rfl, ⟨nd3, rfl⟩⟩)
      | ((with_reducible refine gate_dst (N := 22) rfl ?_); refine Kd.S_lit (Kd.slice 3 (Kd.int .i64)) (w0 := w) w.heap.size 42 ?hg (N := 22) ?hd (xs := ([] : List (List Int))) (inner := []) (ok := fun _ => True) (okp := fun _ => True) ?hr ?hp (fun _ hk => hk) trivial (pw_below_drewN HB.out _) (Nat.le_refl _) (by simp) ?_; (case hd => rfl); (case hg => rfl); (case hr => first | (go_simp; done) | (go_simp; rfl)); (case hp => exact (Reps.none _ _)); intro v22 w2 ho2 hb2 hg_ hnew_; clear hg_ hnew_; obtain ⟨A22, c22, e22, _, _⟩ := Kd.S_reads ho2; subst e22; have HO2 := Aside0.mk (Kd.S_bound ho2); have HB2 := Aside0.mk hb2; clear ho2 hb2; have BX0 := (show Bx (w2.alloc (.cells #[.slice none 0 0] 27)) w2.heap.size (.slice none 0 0) 27 from heap_new w2 _); have bxo := BX0.cell.1; have fxo := BX0.cell.2; clear BX0))
  obtain ⟨W1, hW1⟩ : ∃ W1, (w2.alloc (.cells #[.slice A22 0 c22] 27)) = W1 := ⟨_, rfl⟩
  have k2 : alJ w2.heap.size w.heap.size (fun _ => True) [] W1 := by
    rw [← hW1]
    exact ⟨A22, c22, (show Bx (w2.alloc (.cells #[.slice A22 0 c22] 27)) w2.heap.size (.slice A22 0 c22) 27 from heap_new w2 _), Kd.S_alloc (Kd.S_mono HO2.out (fun k hk => ⟨trivial, by have := hk.2.2.1; omega⟩)) _, trivial⟩
  have hb1 : Below w.heap.size w W1 := by
    rw [← hW1]
    exact below_alloc HB2.out _
  have K2 := Aside0.mk k2
  have HB1 := Aside0.mk hb1
  rw [hW1]
  clear hW1 k2 hb1 bxo fxo
  have HLW := Aside0.mk HB2.out.size
  go_wp2_with (go_at_call 26; refine (wholes_calls k 32 #[.pointer (some ⟨w2.heap.size, 0, none⟩)] (alJ w2.heap.size w.heap.size) w.heap.size a0 a1 a2 w EG.out (al_cbk w2.heap.size w.heap.size HLW.out) (fun _ => True) [] Ls W1 K2.out HB1.out HB1.out.size HL.out).mono ?_; rintro e w8 ⟨⟨r8, rfl⟩, ⟨A8, c8, hx8, hs8, _⟩, hb8⟩; have HB8 := Aside0.mk hb8; have HS8 := Aside0.mk hs8; have bxo := hx8.cell.1; clear hx8 hs8 hb8)
  go_ret2
  exact ⟨_, rfl, Kd.S_mono HS8.out (fun _ _ => trivial), HB8.out⟩

end Go.Proofs.Ytidjjcgfdkmefaa.X

-- WRITTEN by xprint.py of this repo: the kit's print.py with contracts given by hand (given.py). Lean checks it.
import Derived.Test.YtgokegndboknfaaXx0
import Derived.Test.YtgokegndboknfaaXx3
import Derived.Test.YtgokegndboknfaaXx4
import Derived.Test.YtgokegndboknfaaXx5
import Derived.Test.YtgokegndboknfaaXx6
import Derived.Test.YtgokegndboknfaaXx8
namespace Go.Proofs.Ytgokegndboknfaa.X
open Go.RowKit Go.Proofs.YtgokegndboknfaaW.PrintWords Go.Proofs.YtgokegndboknfaaW.PrintLast Go.Proofs.YtgokegndboknfaaW.PrintMore
attribute [local go_sem] max2_int min2_int max_two min_two max_three min_three max_four min_four   -- for this text's walks alone
set_option linter.unusedVariables false
set_option linter.unusedSimpArgs false

/-! ### GIVEN impl_AllCompletePrefix: function 5 -/
theorem C_addr {α : Type} {enc : α → Value} {h1 : ∀ x, (enc x).oneCell' = true} {w : World} {ad : Addr} {n : Nat} {xs : List α} (h : Kd.C (Kd.scalar enc h1) w (some ad) n xs) (hn : 0 < n) :
    ∃ b o, ad = ⟨b, o, none⟩ ∧ b < w.heap.size ∧ ∀ (j : Nat) x, xs[j]? = some x → w.cell? ⟨b, o + j, none⟩ = some (enc x) := by
  obtain ⟨hl, _, hh⟩ := h
  obtain ⟨ad', e, hc⟩ := hh hn
  cases e
  have cell : ∀ (j : Nat) x, xs[j]? = some x → w.cell? (ad.add j) = some (enc x) := fun j x hx => by
    obtain ⟨c, _, rfl, hcell⟩ := hc j x hx
    have := hcell 0 (enc x) rfl
    rwa [show j * (Kd.scalar enc h1).sz + 0 = j from Nat.mul_one j] at this
  have h0 : xs[0]? = some (xs[0]'(by omega)) := List.getElem?_eq_getElem (by omega)
  have c0 := cell 0 _ h0
  obtain ⟨b, o, sp⟩ := ad
  have c0' : w.cell? ⟨b, o, sp⟩ = some (enc (xs[0]'(by omega))) := by simpa [Addr.add] using c0
  have hsp : sp = none := by
    cases sp with
    | none => rfl
    | some q =>
      simp only [World.cell?] at c0'
      split at c0' <;> simp at c0'
  subst hsp
  refine ⟨b, o, rfl, ?_, fun j x hx => ?_⟩
  · simp only [World.cell?] at c0'
    split at c0'
    · rename_i hg
      exact (Array.getElem?_eq_some_iff.1 hg).1
    · cases c0'
  · have := cell j x hx
    by_cases hj : j = 0
    · subst hj
      simpa [Addr.add] using this
    · simpa [Addr.add, hj] using this

/-- A function of each element, told if it is told of all. -/
def mapO {α β : Type} (g : α → Option β) : List α → Option (List β)
  | [] => some []
  | x :: l => (g x).bind fun y => (mapO g l).bind fun ys => some (y :: ys)
theorem mapO.mono {α β : Type} {g g' : α → Option β} (h : ∀ x, LeO (g x) (g' x)) : ∀ l, LeO (mapO g l) (mapO g' l)
  | [] => LeO.refl _
  | x :: l => by
    unfold mapO
    exact LeO.bind (h x) (fun y => LeO.bind (mapO.mono h l) (fun _ => LeO.refl _))
theorem mapO_get {α β : Type} {g : α → Option β} : ∀ {l : List α} {ys : List β}, mapO g l = some ys → ys.length = l.length ∧ ∀ j (h : j < l.length) (h' : j < ys.length), g l[j] = some ys[j]
  | [], ys, h => by
    simp only [mapO, Option.some.injEq] at h
    subst h
    exact ⟨rfl, fun j h => absurd h (Nat.not_lt_zero _)⟩
  | x :: l, ys, h => by
    unfold mapO at h
    obtain ⟨y, hy, h⟩ := Option.bind_eq_some_iff.mp h
    obtain ⟨zs, hz, h⟩ := Option.bind_eq_some_iff.mp h
    obtain rfl := Option.some.inj h
    obtain ⟨h1, h2⟩ := mapO_get hz
    refine ⟨by simp [h1], fun j hj hj' => ?_⟩
    cases j with
    | zero => exact hy
    | succ j => exact h2 j (by simpa using hj) (by simpa using hj')

section
open Go.Shelf Go.Maps Go.Sort
/-- A set's text, as the comparator makes it. -/
def acT (l : List ByteArray) : ByteArray := if l.length = 0 then ⟨#[45]⟩ else ⟨(Lib.join (l.map (·.data.toList)) [44]).toArray⟩
def acOk (l : List ByteArray) : Bool := decide (l.length ≤ 1000) && decide ((Lib.join (l.map (·.data.toList)) [44]).length ≤ 1000000)
set_option maxRecDepth 100000 in
set_option maxHeartbeats 4000000 in
theorem acT_calls (A0 : Option Addr) (c0 : Nat) (l : List ByteArray) (w : World) (hr0 : Kd.C Kd.string w A0 l.length l) (hc0 : l.length ≤ c0) (hok : acOk l = true) :
    Calls Try.prog 21 #[.slice A0 l.length c0] w fun e w' => e = .returned (.string (acT l)) ∧ Below w.heap.size w w' := by
  unfold acOk at hok
  rw [Bool.and_eq_true, decide_eq_true_eq, decide_eq_true_eq] at hok
  by_cases hl : l.length = 0
  · have hb : ((l.length : Int) == 0) = true := by rw [beq_iff_eq]; omega
    have hT : acT l = ⟨#[45]⟩ := by unfold acT; rw [if_pos hl]
    rw [hT]
    clear hr0 hc0 hok hl hT
    go_enter Try.func21, Try.ntmps21
    go_wp2_with fail
    go_ret
    exact ⟨rfl, Below.refl _ _⟩
  · have hb : ((l.length : Int) == 0) = false := by rw [beq_eq_false_iff_ne]; omega
    have hT : acT l = ⟨(Lib.join (l.map (·.data.toList)) [44]).toArray⟩ := by unfold acT; rw [if_neg hl]
    obtain ⟨b, o, rfl, hbk, hcell⟩ : ∃ b o, A0 = some ⟨b, o, none⟩ ∧ b < w.heap.size ∧ ∀ (j : Nat) x, l[j]? = some x → w.cell? ⟨b, o + j, none⟩ = some (.string x) := by
      obtain ⟨ad, rfl, _⟩ := hr0.2.2 (by omega)
      obtain ⟨b, o, rfl, h1, h2⟩ := C_addr hr0 (by omega)
      exact ⟨b, o, rfl, h1, h2⟩
    have HJ := Aside0.mk (Try.strings_Join b o c0 l ⟨#[44]⟩ w hcell hbk (by omega) hc0 (by have := hok.2; show (Lib.join _ [44]).length ≤ _; omega))
    rw [hT]
    clear hr0 hc0 hok hl hT hcell hbk
    go_enter Try.func21, Try.ntmps21
    go_wp2_with (go_at_call 35; refine HJ.out.mono ?_; rintro e w1 ⟨rfl, hb1⟩; have HB1 := Aside0.mk hb1; clear hb1)
    go_ret
    exact ⟨rfl, HB1.out⟩
set_option maxRecDepth 100000 in
set_option maxHeartbeats 4000000 in
theorem acC_calls (A0 : Option Addr) (c0 : Nat) (l : List ByteArray) (A1 : Option Addr) (c1 : Nat) (m : List ByteArray) (w : World) (hr0 : Kd.C Kd.string w A0 l.length l) (hc0 : l.length ≤ c0) (h0 : acOk l = true) (hr1 : Kd.C Kd.string w A1 m.length m) (hc1 : m.length ≤ c1) (h1 : acOk m = true) :
    Calls Try.prog 19 #[.slice A0 l.length c0, .slice A1 m.length c1] w fun e w' => e = .returned (.int .i64 (Lib.compareBytes (acT l).data.toList (acT m).data.toList)) ∧ Below w.heap.size w w' := by
  have HL := Aside0.mk (acT_calls A0 c0 l w hr0 hc0 h0)
  have HM := Aside0.mk (fun (W : World) (hW : Below w.heap.size w W) => acT_calls A1 c1 m W (Kd.C_below hr1 hW) hc1 h1)
  clear hr0 hc0 h0 hr1 hc1 h1
  go_enter Try.func19, Try.ntmps19
  go_wp2_with (first
    | (go_at_call 21; (fail_if_success (have z_ := HB1)); refine HL.out.mono ?_; rintro e w1 ⟨rfl, hb1⟩; have HB1 := Aside0.mk hb1; clear hb1)
    | (go_at_call 21; (have z_ := HB1); refine (HM.out w1 HB1.out).mono ?_; rintro e w2 ⟨rfl, hb2⟩; have HB2 := Aside0.mk (HB1.out.trans (hb2.mono HB1.out.size)); clear hb2)
    | (go_at_call 20; refine (strings_Compare.calls _ _ _ w2 rfl).mono ?_; rintro e w3 ⟨rfl, hd3⟩; have HB3 := Aside0.mk (HB2.out.trans (hd3.below.mono HB2.out.size)); clear hd3))
  go_ret
  exact ⟨rfl, HB3.out⟩
/-- What lay is kept and no draw is taken back: the world has grown. -/
theorem grow_of_below {w w' : World} (h : Below w.heap.size w w') (hd : w.drawn ≤ w'.drawn) : ∃ q os, w' = grow (w.drewN q) os := by
  refine ⟨w'.drawn - w.drawn, w'.heap.extract w.heap.size w'.heap.size, ?_⟩
  obtain ⟨h1, h2, h3, h4, h5⟩ := h
  obtain ⟨hp, tp, dr, os, ou⟩ := w
  obtain ⟨hp', tp', dr', os', ou'⟩ := w'
  simp only at h1 h2 h3 h4 h5 hd
  subst h1 h2 h3
  have e1 : dr + (dr' - dr) = dr' := by omega
  have e2 : hp ++ hp'.extract hp.size hp'.size = hp' := by
    apply Array.ext_getElem?
    intro k
    rw [Array.getElem?_append]
    split
    · rename_i hk
      exact (h5 k hk).symm
    · rename_i hk
      rw [Array.getElem?_extract]
      split
      · congr 1; omega
      · rw [Array.getElem?_eq_none (by omega)]
  show (⟨hp', _, dr', _, _⟩ : World) = ⟨hp ++ hp'.extract hp.size hp'.size, _, dr + (dr' - dr), _, _⟩
  rw [e1, e2]
  rfl
def acLe (a b : List ByteArray) : Bool := !(decide (Lib.compareBytes (acT b).data.toList (acT a).data.toList < 0))
def acS (xs : List (List ByteArray)) : List (List ByteArray) := xs.mergeSort acLe
theorem sortWorld_old {α : Type} [Inhabited α] (enc : α → Value) (W : World) (g m : Nat) (dk : Array α) (os : Array Obj) {k : Nat} (hk : k < W.heap.size) (hg : k ≠ g) : (sortWorld enc W g 0 m dk os).heap[k]? = W.heap[k]? := by
  unfold sortWorld
  rw [heap_grow_old _ _ (by rw [size_putRow]; exact hk)]
  simp only [Sort.putRow, Sort.mapBlock, Sort.ahead, Array.getElem?_modify]
  rw [if_neg (Ne.symm hg)]
set_option maxHeartbeats 4000000 in
/-- The rows in order by their texts. -/
theorem acSort (base : Nat) (W : World) (g cap : Nat) (xs : List (List ByteArray)) (ok : Nat → Prop) (hS : Kd.S (Kd.slice 9 Kd.string) 31 W base ok (.slice (some ⟨g, 0, none⟩) xs.length cap) xs) (hbase : base ≤ W.heap.size) (hpos : 0 < xs.length) (hok : xs.all acOk = true)
    (hnd : (xs.map fun l => (acT l).data.toList).Nodup) (hlen : xs.length ≤ 1000000) :
    Calls Try.prog 18 #[.slice (some ⟨g, 0, none⟩) xs.length cap, .func (.func 19) #[] #[]] W fun e w' =>
      e = .returned (.tuple #[]) ∧ Kd.S (Kd.slice 9 Kd.string) 31 w' base ok (.slice (some ⟨g, 0, none⟩) xs.length cap) (acS xs) ∧ Below base W w' := by
  have hgb : base ≤ g := Kd.S_base hS g (by simp [Value.ownBlock])
  have hgl : g < W.heap.size := Kd.S_lt hS g (by simp [Value.ownBlock])
  obtain ⟨f, h0, inner, ho, hr⟩ := hS
  have hil : inner.length = xs.length := by
    have := hr.1
    rw [List.length_zipIdx] at this
    simpa [Kd.tag, Kd.slice] using this
  have ho' : W.ownsRow base 31 1 (.slice (some ⟨g, 0, none⟩) xs.length cap) xs.length inner := by
    have := ho
    rw [List.length_zipIdx] at this
    exact this
  have hrow : ∀ j (hj : j < xs.length), Kd.string.R 9 W base (fun k => (ok k ∧ some k ≠ (Value.slice (some ⟨g, 0, none⟩) xs.length cap).ownBlock) ∧ f k = j) (inner[j]'(by omega)) xs[j] := by
    intro j hj
    obtain ⟨v, hv, hR⟩ := hr.2 j (xs[j], j) (Kd.zip_at (List.getElem?_eq_getElem hj))
    have hv' : (inner.drop (j * 1)).take 1 = [v] := hv
    rw [Nat.mul_one, List.drop_eq_getElem_cons (by omega), List.take_succ_cons, List.take_zero] at hv'
    have e : inner[j]'(by omega) = v := by injection hv'
    rw [e]
    exact hR
  haveI : Inhabited (Fin xs.length) := ⟨⟨0, hpos⟩⟩
  obtain ⟨enc, henc⟩ : ∃ enc : Fin xs.length → Value, ∀ i, enc i = inner[i.1]'(by have := i.2; omega) := ⟨fun i => inner[i.1]'(by have := i.2; omega), fun _ => rfl⟩
  obtain ⟨cf, hcf⟩ : ∃ cf : Fin xs.length → Fin xs.length → Int, ∀ i j, cf i j = Lib.compareBytes (acT xs[i.1]).data.toList (acT xs[j.1]).data.toList := ⟨fun i j => Lib.compareBytes (acT xs[i.1]).data.toList (acT xs[j.1]).data.toList, fun _ _ => rfl⟩
  have hone : OneCell enc := fun i => by
    obtain ⟨A, c, e⟩ := Kd.R_slice (hrow i.1 i.2)
    rw [henc, e]
    rfl
  have hmap : (List.finRange xs.length).map enc = inner := by
    apply List.ext_getElem
    · rw [List.length_map, List.length_finRange, hil]
    · intro i h1 h2
      rw [List.getElem_map, henc, List.getElem_finRange]
      rfl
  have hlt : ∀ i j : Fin xs.length, ltOf cf i j = decide ((acT xs[i.1]).data.toList < (acT xs[j.1]).data.toList) := fun i j => by
    unfold ltOf
    rw [hcf, decide_eq_decide]
    exact cmpB_lt _ _
  have hO : SWO (ltOf cf) := by
    refine ⟨fun x => ?_, fun x y z h1 h2 => ?_, fun x y z h1 h2 => ?_⟩
    · rw [hlt, decide_eq_false_iff_not]; exact List.lt_irrefl _
    · rw [hlt, decide_eq_true_eq] at *; exact List.lt_trans h1 h2
    · rw [hlt, decide_eq_false_iff_not] at *
      exact List.not_lt.2 (List.le_trans (List.not_lt.1 h2) (List.not_lt.1 h1))
  have hT : ∀ x y, ltOf cf x y = false → ltOf cf y x = false → x = y := by
    intro x y h1 h2
    rw [hlt, decide_eq_false_iff_not] at h1 h2
    have e : (acT xs[x.1]).data.toList = (acT xs[y.1]).data.toList := List.le_antisymm (List.not_lt.1 h2) (List.not_lt.1 h1)
    have hp := List.pairwise_iff_getElem.1 hnd
    rcases Nat.lt_trichotomy x.1 y.1 with h | h | h
    · exact absurd (by rw [List.getElem_map, List.getElem_map]; exact e) (hp x.1 y.1 (by rw [List.length_map]; exact x.2) (by rw [List.length_map]; exact y.2) h)
    · exact Fin.ext h
    · exact absurd (by rw [List.getElem_map, List.getElem_map]; exact e.symm) (hp y.1 x.1 (by rw [List.length_map]; exact y.2) (by rw [List.length_map]; exact x.2) h)
  have hown1 : W.ownsRow base 31 1 (.slice (some ⟨g, 0, none⟩) xs.length cap) xs.length ((List.finRange xs.length).map enc) := by rw [hmap]; exact ho'
  have hmove : ∀ (m : Nat) (dk : Array (Fin xs.length)) (os : Array Obj) (j : Nat) (hj : j < xs.length), Kd.string.R 9 (sortWorld enc W g 0 m dk os) base (fun k => (ok k ∧ some k ≠ (Value.slice (some ⟨g, 0, none⟩) xs.length cap).ownBlock) ∧ f k = j) (inner[j]'(by omega)) xs[j] := fun m dk os j hj =>
    Kd.R_step (hrow j hj) (fun k hk hl => sortWorld_old enc W g m dk os hl (fun e => hk.1.2 (by rw [e]; rfl)))
  have hcmp : CmpLays1 Try.prog 19 #[] enc cf g 0 (List.finRange xs.length).toArray.size W := by
    intro m os dk _ x y
    obtain ⟨A0, c0, e0, l0, C0⟩ := Kd.R_reads (hmove m dk os x.1 x.2)
    obtain ⟨A1, c1, e1, l1, C1⟩ := Kd.R_reads (hmove m dk os y.1 y.2)
    show Calls _ _ #[enc x, enc y] _ _
    rw [henc, henc, e0, e1, hcf]
    refine (Dn.calls_drawn (acC_calls A0 c0 xs[x.1] A1 c1 xs[y.1] _ C0 l0 (List.all_eq_true.1 hok _ (List.getElem_mem x.2)) C1 l1 (List.all_eq_true.1 hok _ (List.getElem_mem y.2))) (fun w' h => by cases h.1)).mono ?_
    rintro e w' ⟨⟨he, hb⟩, hd⟩
    exact ⟨he, grow_of_below hb hd⟩
  have hsort := Try.slices_SortFunc_total_f18 enc hone cf hO 19 #[] g 0 cap (List.finRange xs.length).toArray W (enters_of Try.func19 (by kernel_rfl) rfl) hcmp (own_holds hown1) hgl (by rw [List.size_toArray, List.length_finRange]; omega) hT
  rw [List.size_toArray, List.length_finRange] at hsort
  refine hsort.mono ?_
  rintro e w' ⟨rfl, q, os, rfl⟩
  obtain ⟨d, hd⟩ : ∃ d, ((List.finRange xs.length).mergeSort fun x y => !(ltOf cf) y x) = d := ⟨_, rfl⟩
  have hdl : d.length = xs.length := by rw [← hd, List.length_mergeSort, List.length_finRange]
  have hdn : d.Nodup := by
    rw [← hd]
    exact ((List.mergeSort_perm _ _).nodup_iff).2 (List.nodup_finRange _)
  have hxs : ((List.finRange xs.length).mergeSort fun x y => !(ltOf cf) y x).map (fun i => xs[i.1]) = acS xs := by
    unfold acS
    rw [List.map_mergeSort (s := acLe) (f := fun i : Fin xs.length => xs[i.1])]
    · congr 1
      apply List.ext_getElem
      · rw [List.length_map, List.length_finRange]
      · intro i h1 h2
        rw [List.getElem_map, List.getElem_finRange]
        rfl
    · intro a _ b _
      unfold acLe ltOf
      rw [hcf]
  rw [hd] at hxs
  rw [show (List.finRange xs.length).toArray.toList = List.finRange xs.length from List.toList_toArray .., hd]
  refine ⟨rfl, ?_, ?_⟩
  · rw [← hxs]
    refine ⟨fun k => Classical.epsilon fun j => ∃ hj : j < d.length, f k = (d[j]).1, ?_⟩
    refine ⟨fun k hk => h0 k hk, d.map enc, ?_, ?_⟩
    · have := own_put (enc := enc) hown1 d.toArray (by rw [List.size_toArray, hdl]) xs.length (Nat.le_refl _) q
      rw [List.toList_toArray, List.take_of_length_le (by omega)] at this
      have h2 : (sortWorld enc W g 0 q d.toArray os).ownsRow base 31 1 (.slice (some ⟨g, 0, none⟩) xs.length cap) d.length (d.map enc) := by
        rw [hdl]
        exact own_grow this os
      rw [List.length_zipIdx, List.length_map]
      exact h2
    · refine ⟨?_, ?_⟩
      · rw [List.length_map, List.length_zipIdx, List.length_map]
        show d.length = d.length * 1
        omega
      · intro j p hj
        have hjl : j < d.length := by
          have := (List.getElem?_eq_some_iff.1 hj).1
          rwa [List.length_zipIdx, List.length_map] at this
        have hp : p = (xs[(d[j]).1], j) := by
          rw [Kd.zip_at (p := xs[(d[j]).1]) (by rw [List.getElem?_map, List.getElem?_eq_getElem hjl]; rfl)] at hj
          exact (Option.some.inj hj).symm
        subst hp
        refine ⟨enc d[j], ?_, ?_⟩
        · show ((d.map enc).drop (j * 1)).take 1 = [enc d[j]]
          rw [Nat.mul_one, List.drop_eq_getElem_cons (by rw [List.length_map]; exact hjl), List.take_succ_cons, List.take_zero, List.getElem_map]
        · rw [henc]
          refine Kd.R_mono (hmove q d.toArray os (d[j]).1 (d[j]).2) (fun k hk => ⟨hk.1, ?_⟩)
          have hex : ∃ j, ∃ hj : j < d.length, f k = (d[j]).1 := ⟨j, hjl, hk.2⟩
          obtain ⟨hj2, he⟩ := Classical.epsilon_spec hex
          have hval : d[Classical.epsilon fun j => ∃ hj : j < d.length, f k = (d[j]).1] = d[j] := Fin.ext (he.symm.trans hk.2)
          have hp := List.pairwise_iff_getElem.1 hdn
          rcases Nat.lt_trichotomy (Classical.epsilon fun j => ∃ hj : j < d.length, f k = (d[j]).1) j with h | h | h
          · exact absurd hval (hp _ _ hj2 hjl h)
          · exact h
          · exact absurd hval.symm (hp _ _ hjl hj2 h)
  · exact below_grow (below_putRow (Below.refl base W) hgb 0 _ q) (by rw [size_putRow]; exact hbase) os
end
def impl_AllCompletePrefix.f (k : Nat) (a0 a1 : Int) : Option (List (List ByteArray) × Bool) := (impl_areLetters.f a0).bind fun b1 => if b1 = true then ((impl_in.f a1 1 6).bind fun b2 => if b2 = true then ((impl_completePrefix.f k a0 a1).bind fun rows => if rows.length ≤ 1000000 then ((mapO impl_ordered.f rows).bind fun os => if os.all acOk = true ∧ (os.map fun l => (acT l).data.toList).Nodup then some (acS os, true) else none) else none) else some ([], false)) else some ([], false)
theorem impl_AllCompletePrefix.mono : ∀ a0 a1 k, LeO (impl_AllCompletePrefix.f k a0 a1) (impl_AllCompletePrefix.f (k + 1) a0 a1) := by
  intro a0 a1 k
  unfold impl_AllCompletePrefix.f
  exact LeO.bind (LeO.refl _) fun _ => LeO.ite (LeO.bind (LeO.refl _) fun _ => LeO.ite (LeO.bind (impl_completePrefix.mono _ _ _) fun _ => LeO.refl _) (LeO.refl _)) (LeO.refl _)
set_option maxRecDepth 100000 in
set_option maxHeartbeats 16000000 in
theorem impl_AllCompletePrefix.calls (k : Nat) (a0 a1 : Int) (r1 : List (List ByteArray)) (r2 : Bool) (w : World) (h : impl_AllCompletePrefix.f k a0 a1 = some (r1, r2)) :
    Calls Try.prog 5 #[.int .i64 a0, .int .i64 a1] w fun e w' => ∃ v0_ : Value, e = .returned (.tuple #[v0_, .bool r2]) ∧ Kd.S (Kd.slice 9 Kd.string) 31 w' w.heap.size (fun _ => True) v0_ r1 ∧ Below w.heap.size w w' := by
  unfold impl_AllCompletePrefix.f at h
  obtain ⟨b1, hb1, h⟩ := Option.bind_eq_some_iff.mp h
  have HT1 := Aside0.mk hb1
  clear hb1
  cases b1 with
  | false =>
    rw [if_neg (by decide)] at h
    simp only [Option.some.injEq, Prod.mk.injEq] at h
    obtain ⟨rfl, rfl⟩ := h
    go_enter Try.func5, Try.ntmps5
    go_wp2_with (go_at_call 14; refine (impl_areLetters.calls a0 false _ HT1.out).mono ?_; rintro e w1 ⟨rfl, hd⟩; have HD := Aside0.mk hd.below; clear hd)
    go_ret2
    exact ⟨_, rfl, Kd.S_nil _ _ _ _ _, HD.out⟩
  | true =>
    rw [if_pos rfl] at h
    obtain ⟨b2, hb2, h⟩ := Option.bind_eq_some_iff.mp h
    have HT2 := Aside0.mk hb2
    clear hb2
    cases b2 with
    | false =>
      rw [if_neg (by decide)] at h
      simp only [Option.some.injEq, Prod.mk.injEq] at h
      obtain ⟨rfl, rfl⟩ := h
      go_enter Try.func5, Try.ntmps5
      go_wp2_with (first
        | (go_at_call 14; refine (impl_areLetters.calls a0 true _ HT1.out).mono ?_; rintro e w1 ⟨rfl, hd⟩; have HD := Aside0.mk hd.below; clear hd)
        | (go_at_call 15; refine (impl_in.calls a1 1 6 false _ HT2.out).mono ?_; rintro e w2 ⟨rfl, hd⟩; have HD2 := Aside0.mk (HD.out.trans (hd.below.mono HD.out.size)); clear hd))
      go_ret2
      exact ⟨_, rfl, Kd.S_nil _ _ _ _ _, HD2.out⟩
    | true =>
      rw [if_pos rfl] at h
      obtain ⟨rows, hrows, h⟩ := Option.bind_eq_some_iff.mp h
      by_cases hrl : rows.length ≤ 1000000
      case neg => rw [if_neg hrl] at h; cases h
      rw [if_pos hrl] at h
      obtain ⟨os, hos, h⟩ := Option.bind_eq_some_iff.mp h
      by_cases hall : os.all acOk = true ∧ (os.map fun l => (acT l).data.toList).Nodup
      case neg => rw [if_neg hall] at h; cases h
      rw [if_pos hall] at h
      simp only [Option.some.injEq, Prod.mk.injEq] at h
      obtain ⟨rfl, rfl⟩ := h
      obtain ⟨hol, hog⟩ := mapO_get hos
      have HROWS := Aside0.mk hrows
      have HRL := Aside0.mk hrl
      have HOL := Aside0.mk hol
      have HOG := Aside0.mk hog
      have HALL := Aside0.mk hall
      clear hrows hrl hol hog hall hos
      go_enter Try.func5, Try.ntmps5
      go_wp2_with (first
        | (go_at_call 14; refine (impl_areLetters.calls a0 true _ HT1.out).mono ?_; rintro e w1 ⟨rfl, hd⟩; have HD := Aside0.mk hd.below; clear hd)
        | (go_at_call 15; refine (impl_in.calls a1 1 6 true _ HT2.out).mono ?_; rintro e w2 ⟨rfl, hd⟩; have HD2 := Aside0.mk (HD.out.trans (hd.below.mono HD.out.size)); clear hd)
        | ((with_reducible refine gate_dst (N := 17) rfl ?_); refine Kd.S_lit (Kd.slice 9 Kd.string) (w0 := w2) w2.heap.size 31 ?hg (N := 17) ?hd (xs := ([] : List (List ByteArray))) (inner := []) (ok := fun _ => True) (okp := fun _ => True) ?hr ?hp (fun _ hk => hk) trivial (Below.refl _ _) (Nat.le_refl _) (by simp) ?_; (case hd => rfl); (case hg => rfl); (case hr => first | (go_simp; done) | (go_simp; rfl)); (case hp => exact (Reps.none _ _)); intro v17 w3 ho3 hb3 hg_ hnew_; clear hg_ hnew_; obtain ⟨A17, c17, e17, _, _⟩ := Kd.S_reads ho3; subst e17; have HO3 := Aside0.mk (Kd.S_lower ho3 HD2.out.size); have HB3 := Aside0.mk (HD2.out.trans (hb3.mono HD2.out.size)); clear ho3 hb3)
        | (go_at_call 16; refine (impl_completePrefix.calls k a0 a1 rows _ HROWS.out).mono ?_; rintro e w4 ⟨v4, rfl, hS4, hb4⟩; obtain ⟨A4, c4, e4, _, _⟩ := Kd.S_reads hS4; subst e4; have HR4 := Aside0.mk (Kd.R_mono (ok' := fun j => w3.heap.size ≤ j ∧ j < w4.heap.size) (Kd.R_bound (Kd.S_R hS4)) (fun j hj => ⟨hj.2.1, hj.2.2.1⟩)); have HB4 := Aside0.mk (HB3.out.trans (hb4.mono HB3.out.size)); have HZ4 := Aside0.mk hb4.size; have HO4 := Aside0.mk (Kd.S_mono (ok' := fun j => j < w3.heap.size ∨ w4.heap.size ≤ j) (Kd.S_old HO3.out hb4) (fun j hj => .inl hj.2)); clear hS4 hb4))
      obtain ⟨wo, hwo⟩ : ∃ X, X = w4 := ⟨w4, rfl⟩
      subst hwo
      go_loopg [6, 8, 22] rows.length (fun gg v6 v8 v22 wr => ∃ (kk cc : Nat) (AA : Option Addr), v22 = .int .i64 kk ∧ v6 = .slice AA kk cc ∧ Aside0 (kk ≤ rows.length) ∧ Aside0 (rows.length - kk ≤ gg) ∧ Aside0 (Kd.S (Kd.slice 9 Kd.string) 31 wr w.heap.size (fun j => j < w3.heap.size ∨ wo.heap.size ≤ j) (.slice AA kk cc) (os.take kk)) ∧ Aside0 (Below w.heap.size w wr) ∧ Aside0 (wo.heap.size ≤ wr.heap.size) ∧ Aside0 (Kd.R (Kd.slice 9 Kd.string) 31 wr w3.heap.size (fun j => w3.heap.size ≤ j ∧ j < wo.heap.size) (.slice A4 rows.length c4) rows))
      case atStart => exact ⟨0, c17, A17, rfl, rfl, ⟨Nat.zero_le _⟩, ⟨by omega⟩, HO4, HB4, ⟨Nat.le_refl _⟩, HR4⟩
      case round =>
        clear HO4 HB4 HO3 HB3 HR4
        obtain ⟨kk, cc, AA, rfl, rfl, HK, HG, HS, HB, HBI, HLS⟩ := hrel
        by_cases hlt : kk < rows.length
        · have hltz : (kk : Int) < (rows.length : Int) := by omega
          have hko : kk < os.length := by have := HOL.out; omega
          obtain ⟨ad, A5, c5, e1, hcell, hc5, hC5⟩ := at_rowT (Kd.R_reads' HLS.out).2.2 kk hlt
          subst e1
          have hord := HOG.out kk hlt hko
          have hnext : os.take (kk + 1) = os.take kk ++ [os[kk]] := List.take_succ_eq_append_getElem hko
          have htl : (os.take kk).length = kk := by rw [List.length_take]; omega
          generalize rows[kk] = row at hord hcell hc5 hC5
          generalize os[kk] = orow at hord hnext
          have HORD := Aside0.mk hord
          have HNX := Aside0.mk hnext
          have HTL := Aside0.mk htl
          have HC5 := Aside0.mk hC5
          have HCC5 := Aside0.mk hc5
          have HLT := Aside0.mk hlt
          clear hord hnext htl hC5 hc5 hko hlt
          obtain ⟨wl, hwl⟩ : ∃ X, X = wr := ⟨wr, rfl⟩
          subst hwl
          go_wp2_with (first
            | (go_at_call 17; refine (impl_ordered.calls A5 c5 row orow _ HC5.out HCC5.out HORD.out).mono ?_; rintro e w6 ⟨v6, rfl, hR6, hb6⟩; obtain ⟨A6, c6, e6, _, _⟩ := Kd.R_reads hR6; subst e6; have HR6 := Aside0.mk hR6; have HB6 := Aside0.mk hb6; clear hR6 hb6)
            | ((with_reducible refine gate_builtin (b := .append) (xs := #[.tmp 26, .tmp 29]) rfl ?_); at_builtin; refine Kd.S_append (Kd.slice 9 Kd.string) (w0 := w) w.heap.size rfl (.tmp 26) (.tmp 29) 22 31 (.slice none 0 0) 24 rfl Try.underlying22 infoRowT rfl (by decide) (by omega) (.slice AA kk cc) (os.take kk) orow [.slice A6 orow.length c6] (fun j => j < w3.heap.size ∨ wo.heap.size ≤ j) (fun j => wl.heap.size ≤ j) rfl rfl ⟨_, rfl, Kd.R_lower (Kd.R_mono (Kd.R_bound HR6.out) (fun j hj => hj.2.1)) HB.out.size⟩ (fun j hj => ⟨.inr (Nat.le_trans HBI.out hj), fun e => by have h_ := Kd.S_lt HS.out j e.symm; omega⟩) (fun j hj => .inr (Nat.le_trans HBI.out (Nat.le_trans HB6.out.size hj))) (Kd.S_mono (Kd.S_below (Kd.S_bound HS.out) HB6.out) (fun j hj => ⟨hj.1, by have h_ := hj.2.2.1; omega⟩)) (HB.out.trans (HB6.out.mono HB.out.size)) (Nat.le_trans HB.out.size HB6.out.size) (by have h1_ := HRL.out; have h2_ := HLT.out; have h3_ := HTL.out; omega) ?_; intro v7 w7 hs7 hb7 hg7 hat7; obtain ⟨A7, c7, e7, _, _⟩ := Kd.S_reads hs7; rw [List.length_append, HTL.out, List.length_singleton] at e7; subst e7; rw [← HNX.out] at hs7; have HS7 := Aside0.mk hs7; have HB7 := Aside0.mk hb7; have HZ7 := Aside0.mk (Nat.le_trans (Nat.le_trans HBI.out HB6.out.size) hg7.size); have HL7 := Aside0.mk (Kd.R_grown (Kd.R_below HLS.out HB6.out) hg7 (fun j hj e => by have h_ := (Kd.S_R HS.out).1 j e.symm; have h2_ := hj.1; have h3_ := hj.2; rcases h_ with h_ | h_ <;> omega)); clear hs7 hb7 hg7 hat7))
          go_roundg (rows.length - (kk + 1))
          case measure => have := HLT.out; have := HG.out; omega
          case rel => exact ⟨kk + 1, c7, A7, by have h1_ := HRL.out; have h2_ := HLT.out; first | (congr 1; unfold wrap64; omega) | go_num, rfl, ⟨HLT.out⟩, ⟨by have := HG.out; omega⟩, HS7, HB7, HZ7, HL7⟩
        · have hkk := HK.out
          have hol := HOL.out
          obtain rfl : kk = rows.length := by omega
          have hS := Kd.S_mono (ok' := fun _ => True) HS.out (fun _ _ => trivial)
          rw [← hol, List.take_length] at hS
          rw [← hol]
          have HSF := Aside0.mk hS
          have HLEN := Aside0.mk (show os.length ≤ 1000000 by have := HRL.out; omega)
          have hltz : ¬ ((os.length : Int) < (os.length : Int)) := by omega
          clear hkk HK HG HS HLS hlt hS hol HOL HOG HRL HROWS
          rcases Nat.eq_zero_or_pos os.length with hz | hz
          · have HNIL := Aside0.mk (show acS os = [] by rw [List.length_eq_zero_iff.1 hz]; exact List.mergeSort_nil)
            have hSN := HSF.out
            rw [hz, List.length_eq_zero_iff.1 hz] at hSN
            have HSF := Aside0.mk hSN
            rw [hz]
            clear hz hltz hSN
            have hltz : ¬ (((0 : Nat) : Int) < ((0 : Nat) : Int)) := by omega
            go_wp2_with (go_at_call 18; refine (Try.slices_SortFunc_none_f18 (α := Nat) AA cc _ _).mono ?_; rintro e w9 ⟨rfl, rfl⟩)
            go_ret2
            rw [HNIL.out]
            exact ⟨_, rfl, HSF.out, HB.out⟩
          · obtain ⟨g, cap, e, hg, _, _⟩ := Kd.S_form HSF.out hz
            cases e
            have HZ := Aside0.mk hz
            clear hz
            go_wp2_with (go_at_call 18; refine (acSort w.heap.size wr g cc os (fun _ => True) HSF.out HB.out.size HZ.out HALL.out.1 HALL.out.2 HLEN.out).mono ?_; rintro e w9 ⟨rfl, hS9, hb9⟩; have HS9 := Aside0.mk hS9; have HB9 := Aside0.mk (HB.out.trans hb9); clear hS9 hb9)
            go_ret2
            exact ⟨_, rfl, by have h_ := HS9.out; have e_ : (acS os).length = os.length := List.length_mergeSort _; exact h_, HB9.out⟩

end Go.Proofs.Ytgokegndboknfaa.X

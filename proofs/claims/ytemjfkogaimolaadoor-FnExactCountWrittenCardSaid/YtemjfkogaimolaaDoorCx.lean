/- Words that a set writes, by how many letters they have; plain lists and the table of readings; sets as the program knows them. -/
import Derived.Test.YtemjfkogaimolaaDoorCw
import Derived.Test.YtemjfkogaimolaaDoorDr
namespace Go.Proofs.YtemjfkogaimolaaDoor.X
open Go.RowKit Go.Proofs.YtemjfkogaimolaaDoorW.PrintWords Go.Proofs.YtemjfkogaimolaaDoorW.PrintLast Go.Proofs.YtemjfkogaimolaaDoorW.PrintMore Go.Proofs.YtemjfkogaimolaaDoor

/-- Letters that words of a set make, one behind another. -/
def RdL (set : List ByteArray) (bs : List UInt8) : Prop := ∃ ws : List ByteArray, (∀ w ∈ ws, w ∈ set) ∧ ws.flatMap (fun w => bts w) = bs
theorem RdL_nil (set : List ByteArray) : RdL set [] := ⟨[], by simp, rfl⟩
theorem RdL_cons {set : List ByteArray} {t : ByteArray} {bs : List UInt8} (ht : t ∈ set) (h : RdL set bs) : RdL set (bts t ++ bs) := by
  obtain ⟨ws, h1, h2⟩ := h
  refine ⟨t :: ws, fun w hw => ?_, by rw [List.flatMap_cons, h2]⟩
  rcases List.mem_cons.1 hw with e | e
  · subst e; exact ht
  · exact h1 w e
theorem RdL_snoc {set : List ByteArray} {t : ByteArray} {bs : List UInt8} (ht : t ∈ set) (h : RdL set bs) : RdL set (bs ++ bts t) := by
  obtain ⟨ws, h1, h2⟩ := h
  refine ⟨ws ++ [t], fun w hw => ?_, by rw [List.flatMap_append, h2]; simp⟩
  rcases List.mem_append.1 hw with e | e
  · exact h1 w e
  · rw [List.mem_singleton] at e; subst e; exact ht
theorem RdL_front {set : List ByteArray} {bs : List UInt8} (h : RdL set bs) (hne : bs ≠ []) : ∃ t, t ∈ set ∧ ∃ r, bs = bts t ++ r ∧ RdL set r := by
  obtain ⟨ws, h1, h2⟩ := h
  cases ws with
  | nil => exact absurd h2.symm hne
  | cons t ws => exact ⟨t, h1 t List.mem_cons_self, ws.flatMap (fun w => bts w), by rw [← h2, List.flatMap_cons], ws, fun w hw => h1 w (List.mem_cons_of_mem _ hw), rfl⟩
theorem RdL_back {set : List ByteArray} {bs : List UInt8} (h : RdL set bs) (hne : bs ≠ []) : ∃ t, t ∈ set ∧ ∃ r, bs = r ++ bts t ∧ RdL set r := by
  obtain ⟨ws, h1, h2⟩ := h
  rcases (show ws = [] ∨ ∃ o x0, ws = o ++ [x0] from by simpa only [List.concat_eq_append] using List.eq_nil_or_concat ws) with e | ⟨o, t, e⟩
  · subst e; exact absurd h2.symm hne
  · subst e
    exact ⟨t, h1 t (by simp), o.flatMap (fun w => bts w), by rw [← h2, List.flatMap_append]; simp, o, fun w hw => h1 w (List.mem_append.2 (.inl hw)), rfl⟩
theorem RdL_isL {set : List ByteArray} (h : wset set) {bs : List UInt8} (hr : RdL set bs) : ∀ b ∈ bs, isL b = true := by
  obtain ⟨ws, h1, rfl⟩ := hr
  intro b hb
  obtain ⟨w, hw, hb⟩ := List.mem_flatMap.1 hb
  have h3 := wset_short h w (h1 w hw)
  unfold wshort at h3
  simp only [Bool.and_eq_true] at h3
  exact List.all_eq_true.1 h3.2 b hb
theorem bts_app (a b : ByteArray) : bts (a ++ b) = bts a ++ bts b := by
  show (a ++ b).data.toList = _
  rw [ByteArray.data_append, Array.toList_append]
theorem bts_ext {a b : ByteArray} (h : bts a = bts b) : a = b := ByteArray.ext (Array.toList_inj.1 h)
def thr (s : ByteArray) : List ByteArray := [s ++ ⟨#[97]⟩, s ++ ⟨#[98]⟩, s ++ ⟨#[99]⟩]
/-- All words of so many letters. -/
def allW : Nat → List ByteArray
  | 0 => [⟨#[]⟩]
  | n + 1 => (allW n).flatMap thr
theorem thr_len : ∀ l : List ByteArray, (l.flatMap thr).length = 3 * l.length
  | [] => rfl
  | s :: l => by rw [List.flatMap_cons, List.length_append, thr_len l, List.length_cons]; show 3 + _ = _; omega
theorem allW_len : ∀ n, (allW n).length = 3 ^ n
  | 0 => rfl
  | n + 1 => by rw [allW, thr_len, allW_len n, Nat.pow_succ, Nat.mul_comm]
theorem thr_mem (s z : ByteArray) : z ∈ thr s ↔ ∃ b : UInt8, isL b = true ∧ bts z = bts s ++ [b] := by
  unfold thr
  constructor
  · intro h
    simp only [List.mem_cons, List.not_mem_nil, or_false] at h
    rcases h with rfl | rfl | rfl
    · exact ⟨97, rfl, by rw [bts_app]⟩
    · exact ⟨98, rfl, by rw [bts_app]⟩
    · exact ⟨99, rfl, by rw [bts_app]⟩
  · rintro ⟨b, hb, h⟩
    have hz : z = s ++ ⟨#[b]⟩ := bts_ext (by rw [h, bts_app])
    unfold isL at hb
    simp only [Bool.or_eq_true, beq_iff_eq] at hb
    rcases hb with (rfl | rfl) | rfl <;> simp [hz]
theorem allW_mem : ∀ (n : Nat) (z : ByteArray), z ∈ allW n ↔ z.size = n ∧ ∀ b ∈ bts z, isL b = true
  | 0, z => by
    rw [allW, List.mem_singleton]
    constructor
    · rintro rfl; exact ⟨rfl, fun b hb => by cases hb⟩
    · rintro ⟨h, _⟩
      refine bts_ext ?_
      have := bts_len z
      exact List.length_eq_zero_iff.1 (by omega)
  | n + 1, z => by
    rw [allW, List.mem_flatMap]
    constructor
    · rintro ⟨s, hs, hz⟩
      obtain ⟨b, hb, e⟩ := (thr_mem s z).1 hz
      obtain ⟨h1, h2⟩ := (allW_mem n s).1 hs
      have l1 := bts_len z
      have l2 := bts_len s
      rw [e, List.length_append, List.length_singleton] at l1
      refine ⟨by omega, fun c hc => ?_⟩
      rw [e] at hc
      rcases List.mem_append.1 hc with h | h
      · exact h2 c h
      · rw [List.mem_singleton] at h; subst h; exact hb
    · rintro ⟨h1, h2⟩
      have l1 := bts_len z
      rcases (show bts z = [] ∨ ∃ o b, bts z = o ++ [b] from by simpa only [List.concat_eq_append] using List.eq_nil_or_concat (bts z)) with e | ⟨o, b, e⟩
      · rw [e] at l1; simp at l1; omega
      · refine ⟨⟨o.toArray⟩, (allW_mem n _).2 ⟨?_, fun c hc => h2 c (by rw [e]; exact List.mem_append.2 (.inl (by simpa [bts] using hc)))⟩, (thr_mem _ z).2 ⟨b, h2 b (by rw [e]; simp), by rw [e]⟩⟩
        rw [e, List.length_append, List.length_singleton] at l1
        show o.toArray.size = n
        rw [List.size_toArray]; omega
theorem thr_nodup : ∀ l : List ByteArray, l.Nodup → (l.flatMap thr).Nodup
  | [], _ => List.nodup_nil
  | s :: l, h => by
    rw [List.nodup_cons] at h
    rw [List.flatMap_cons]
    refine List.nodup_append.2 ⟨?_, thr_nodup l h.2, fun x hx y hy e => ?_⟩
    · have ne : ∀ b c : UInt8, b ≠ c → s ++ (⟨#[b]⟩ : ByteArray) ≠ s ++ (⟨#[c]⟩ : ByteArray) := fun b c hbc e => by
        have := congrArg bts e
        rw [bts_app, bts_app] at this
        have := List.append_cancel_left this
        exact hbc (by simpa [bts] using this)
      unfold thr
      simp only [List.nodup_cons, List.mem_cons, List.not_mem_nil, or_false, not_or, not_false_eq_true, List.nodup_nil, and_true]
      exact ⟨⟨ne _ _ (by decide), ne _ _ (by decide)⟩, ne _ _ (by decide)⟩
    · subst e
      obtain ⟨s', hs', hy⟩ := List.mem_flatMap.1 hy
      obtain ⟨b, _, e1⟩ := (thr_mem s x).1 hx
      obtain ⟨c, _, e2⟩ := (thr_mem s' x).1 hy
      rw [e1] at e2
      have := (List.append_inj' e2 rfl).1
      exact h.1 (bts_ext this ▸ hs')
theorem allW_nodup : ∀ n, (allW n).Nodup
  | 0 => by rw [allW]; simp
  | n + 1 => by rw [allW]; exact thr_nodup _ (allW_nodup n)
/-- The words of so many letters that a set writes, each once. -/
def LW (set : List ByteArray) (j : Nat) (row : List ByteArray) : Prop := row.Nodup ∧ ∀ s, s ∈ row ↔ s.size = j ∧ RdL set (bts s)
theorem LW_len {set : List ByteArray} (h : wset set) {j : Nat} {row : List ByteArray} (hr : LW set j row) : row.length ≤ 3 ^ j := by
  rw [← allW_len]
  exact nodup_len _ _ hr.1 fun x hx => (allW_mem j x).2 ⟨((hr.2 x).1 hx).1, RdL_isL h ((hr.2 x).1 hx).2⟩
theorem LW_filter {set : List ByteArray} (h : wset set) {n : Nat} {row : List ByteArray} (hr : LW set n row) (p : ByteArray → Bool) (hp : ∀ s, s.size = n → (p s = true ↔ RdL set (bts s))) : ((allW n).filter p).length = row.length := by
  refine Nat.le_antisymm (nodup_len _ _ (List.Nodup.sublist List.filter_sublist (allW_nodup n)) fun x hx => ?_) (nodup_len _ _ hr.1 fun x hx => ?_)
  · obtain ⟨h1, h2⟩ := List.mem_filter.1 hx
    have h3 := ((allW_mem n x).1 h1).1
    exact (hr.2 x).2 ⟨h3, (hp x h3).1 h2⟩
  · obtain ⟨h1, h2⟩ := (hr.2 x).1 hx
    exact List.mem_filter.2 ⟨(allW_mem n x).2 ⟨h1, RdL_isL h h2⟩, (hp x h1).2 h2⟩
def nowL (L : List (List ByteArray)) (kk : Nat) (ts : List ByteArray) : List ByteArray := ts.flatMap fun t => if t.size ≤ kk then (L.getD (kk - t.size) []).map (fun s => s ++ t) else []
theorem nowL_mem {set : List ByteArray} (h : wset set) (L : List (List ByteArray)) (kk : Nat) (hk : 1 ≤ kk) (hL : ∀ j, j < kk → LW set j (L.getD j [])) (s : ByteArray) : s ∈ nowL L kk set ↔ s.size = kk ∧ RdL set (bts s) := by
  unfold nowL
  rw [List.mem_flatMap]
  constructor
  · rintro ⟨t, ht, hs⟩
    split at hs
    · rename_i hle
      obtain ⟨z, hz, rfl⟩ := List.mem_map.1 hs
      have h1 := (wshort_size (wset_short h t ht)).1
      obtain ⟨h2, h3⟩ := ((hL (kk - t.size) (by omega)).2 z).1 hz
      exact ⟨by rw [ByteArray.size_append]; omega, by rw [bts_app]; exact RdL_snoc ht h3⟩
    · cases hs
  · rintro ⟨h1, h2⟩
    have l1 := bts_len s
    obtain ⟨t, ht, r, e, hr⟩ := RdL_back h2 (fun q => by rw [q] at l1; simp at l1; omega)
    have l2 := bts_len t
    have h3 := (wshort_size (wset_short h t ht)).1
    rw [e, List.length_append] at l1
    have hz : (⟨r.toArray⟩ : ByteArray).size = r.length := by show r.toArray.size = _; rw [List.size_toArray]
    refine ⟨t, ht, ?_⟩
    rw [if_pos (by omega)]
    refine List.mem_map.2 ⟨⟨r.toArray⟩, ((hL (kk - t.size) (by omega)).2 _).2 ⟨by rw [hz]; omega, by simpa [bts] using hr⟩, bts_ext ?_⟩
    rw [bts_app, e]
theorem stepA_ok (cond : Nat → ByteArray → Bool) (T : List Int) (M : Int) (hM : 0 ≤ M ∧ M ≤ 100000000000000) : ∀ (ws : List ByteArray) (acc A : Int), 0 ≤ acc → acc ≤ A → A + ws.length * M ≤ 4000000000000000000 → (∀ t ∈ ws, cond T.length t = true → 0 ≤ rd T ((T.length - t.size : Nat) : Int) ∧ rd T ((T.length - t.size : Nat) : Int) ≤ M) →
    0 ≤ stepA cond T acc ws ∧ stepA cond T acc ws ≤ A + ws.length * M ∧ (0 < stepA cond T acc ws ↔ 0 < acc ∨ ∃ t, t ∈ ws ∧ cond T.length t = true ∧ 0 < rd T ((T.length - t.size : Nat) : Int))
  | [], acc, A, h0, h1, _, _ => by
    refine ⟨h0, by show acc ≤ _; simp; exact h1, ?_⟩
    show 0 < acc ↔ _
    simp
  | t :: ws, acc, A, h0, h1, h2, h3 => by
    have hl : ((t :: ws).length : Int) * M = M + ws.length * M := by rw [List.length_cons, Int.natCast_succ, Int.add_mul]; omega
    have hn : 0 ≤ (ws.length : Int) * M := Int.mul_nonneg (by omega) hM.1
    rw [hl] at h2 ⊢
    have e : stepA cond T acc (t :: ws) = stepA cond T (if cond T.length t = true then wrap64 (acc + rd T ((T.length - t.size : Nat) : Int)) else acc) ws := rfl
    rw [e]
    by_cases hc : cond T.length t = true
    · rw [if_pos hc]
      obtain ⟨q1, q2⟩ := h3 t List.mem_cons_self hc
      obtain ⟨v, hv⟩ : ∃ v, rd T ((T.length - t.size : Nat) : Int) = v := ⟨_, rfl⟩
      rw [hv] at q1 q2 ⊢
      rw [Pl.w64 (n := acc + v) (by omega) (by omega)]
      obtain ⟨r1, r2, r3⟩ := stepA_ok cond T M hM ws (acc + v) (A + M) (by omega) (by omega) (by omega) (fun u hu => h3 u (List.mem_cons_of_mem _ hu))
      refine ⟨r1, by omega, r3.trans ⟨fun q => ?_, fun q => ?_⟩⟩
      · rcases q with q | ⟨u, hu, q⟩
        · by_cases h0' : 0 < acc
          · exact .inl h0'
          · exact .inr ⟨t, List.mem_cons_self, hc, by rw [hv]; omega⟩
        · exact .inr ⟨u, List.mem_cons_of_mem _ hu, q⟩
      · rcases q with q | ⟨u, hu, q, q'⟩
        · exact .inl (by omega)
        · rcases List.mem_cons.1 hu with e | hu
          · subst e; rw [hv] at q'; exact .inl (by omega)
          · exact .inr ⟨u, hu, q, q'⟩
    · rw [if_neg hc]
      obtain ⟨r1, r2, r3⟩ := stepA_ok cond T M hM ws acc A h0 h1 (by omega) (fun u hu => h3 u (List.mem_cons_of_mem _ hu))
      refine ⟨r1, by omega, r3.trans ⟨fun q => ?_, fun q => ?_⟩⟩
      · rcases q with q | ⟨u, hu, q⟩
        · exact .inl q
        · exact .inr ⟨u, List.mem_cons_of_mem _ hu, q⟩
      · rcases q with q | ⟨u, hu, q, q'⟩
        · exact .inl q
        · rcases List.mem_cons.1 hu with e | hu
          · subst e; exact absurd q hc
          · exact .inr ⟨u, hu, q, q'⟩
theorem sufC_iff (s t : ByteArray) (n : Nat) (hn : n ≤ s.size) : sufC s n t = true ↔ ∃ r, (bts s).drop (s.size - n) = bts t ++ r := by
  have hl : ((bts s).drop (s.size - n)).length = n := by rw [List.length_drop, bts_len]; omega
  have he : bts (s.extract (s.size - n) s.size) = (bts s).drop (s.size - n) := by
    show (s.extract (s.size - n) s.size).data.toList = _
    rw [ByteArray.data_extract, Array.toList_extract, List.extract_eq_take_drop]
    refine List.take_of_length_le ?_
    show ((bts s).drop (s.size - n)).length ≤ _
    omega
  have hz : (s.extract (s.size - n) s.size).size = n := by rw [← bts_len, he, hl]
  unfold sufC bgB
  rw [Bool.and_eq_true, decide_eq_true_eq, hz, beq_iff_eq]
  have hx : ((s.extract (s.size - n) s.size).extract 0 t.size).toList = ((bts s).drop (s.size - n)).take t.size := by
    rw [Pl.toL, ByteArray.data_extract, Array.toList_extract, List.extract_eq_take_drop, List.drop_zero, Nat.sub_zero]
    exact congrArg (List.take t.size) he
  rw [hx, Pl.toL]
  constructor
  · rintro ⟨_, h⟩
    refine ⟨((bts s).drop (s.size - n)).drop t.size, ?_⟩
    have := List.take_append_drop t.size ((bts s).drop (s.size - n))
    rw [h] at this
    exact this.symm
  · rintro ⟨r, h⟩
    have h2 := congrArg List.length h
    rw [hl, List.length_append, bts_len] at h2
    refine ⟨by omega, ?_⟩
    rw [h, ← bts_len t, List.take_left]
theorem tab_ok {set : List ByteArray} (h : wset set) (s : ByteArray) : ∀ n : Nat, n ≤ s.size → n ≤ 9 → ∀ j, j ≤ n → 0 ≤ rd (table (sufC s) set n) (j : Int) ∧ rd (table (sufC s) set n) (j : Int) ≤ 13 ^ n ∧ (0 < rd (table (sufC s) set n) (j : Int) ↔ RdL set ((bts s).drop (s.size - j)))
  | 0, _, _, j, hj => by
    obtain rfl : j = 0 := by omega
    have e : rd (table (sufC s) set 0) ((0 : Nat) : Int) = 1 := rfl
    rw [e, List.drop_of_length_le (by rw [bts_len]; omega)]
    exact ⟨by omega, by decide, fun _ => RdL_nil set, fun _ => by omega⟩
  | n + 1, hn, h9, j, hj => by
    have ih := tab_ok h s n (by omega) (by omega)
    have hT := table_len (sufC s) set n
    have h12 := h.1
    obtain ⟨M, hM⟩ : ∃ M : Int, (13 : Int) ^ n = M := ⟨_, rfl⟩
    have hM2 : (13 : Int) ^ (n + 1) = 13 * M := by rw [Int.pow_succ, hM, Int.mul_comm]
    have hMb : 1 ≤ M ∧ M ≤ 10604499373 := by
      rw [← hM]
      have : n = 0 ∨ n = 1 ∨ n = 2 ∨ n = 3 ∨ n = 4 ∨ n = 5 ∨ n = 6 ∨ n = 7 ∨ n = 8 := by omega
      rcases this with rfl | rfl | rfl | rfl | rfl | rfl | rfl | rfl | rfl <;> decide
    rw [hM2]
    rw [hM] at ih
    obtain ⟨T, hTe⟩ : ∃ T, table (sufC s) set n = T := ⟨_, rfl⟩
    have hcons : table (sufC s) set (n + 1) = T ++ stepA (sufC s) T 0 set :: [] := by rw [table, hTe]
    rw [hTe] at ih hT
    rw [hcons]
    by_cases hjn : j ≤ n
    · rw [rdT2 _ _ j (by omega)]
      obtain ⟨q1, q2, q3⟩ := ih j hjn
      exact ⟨q1, by omega, q3⟩
    · obtain rfl : j = n + 1 := by omega
      have e := rdT1 T [] (stepA (sufC s) T 0 set)
      rw [hT] at e
      rw [e]
      have hmul : (set.length : Int) * M ≤ 12 * M := Int.mul_le_mul_of_nonneg_right (by omega) (by omega)
      obtain ⟨r1, r2, r3⟩ := stepA_ok (sufC s) T M ⟨by omega, by omega⟩ set 0 0 (by omega) (by omega) (by omega) (fun t ht hc => by
        have hp := (wshort_size (wset_short h t ht)).1
        obtain ⟨q1, q2, _⟩ := ih (T.length - t.size) (by omega)
        exact ⟨q1, q2⟩)
      refine ⟨r1, by omega, r3.trans ⟨fun q => ?_, fun q => .inr ?_⟩⟩
      · rcases q with q | ⟨t, ht, hc, q⟩
        · omega
        · rw [hT] at hc
          have hp := (wshort_size (wset_short h t ht)).1
          have hle := sufC_size hc hn
          obtain ⟨r, hr⟩ := (sufC_iff s t (n + 1) hn).1 hc
          have q2 := (ih (T.length - t.size) (by omega)).2.2.1 q
          rw [hr]
          have e2 : r = (bts s).drop (s.size - (T.length - t.size)) := by
            have h5 := congrArg (List.drop t.size) hr
            rw [List.drop_drop, ← bts_len t, List.drop_left, bts_len] at h5
            rw [← h5]
            congr 1
            omega
          rw [e2]
          exact RdL_cons ht q2
      · have hl : ((bts s).drop (s.size - (n + 1))).length = n + 1 := by rw [List.length_drop, bts_len]; omega
        obtain ⟨t, ht, r, e3, hr⟩ := RdL_front q (fun q => by rw [q] at hl; simp at hl)
        have hp := (wshort_size (wset_short h t ht)).1
        have hlen := congrArg List.length e3
        rw [hl, List.length_append, bts_len] at hlen
        refine ⟨t, ht, by rw [hT]; exact (sufC_iff s t (n + 1) hn).2 ⟨r, e3⟩, (ih (T.length - t.size) (by omega)).2.2.2 ?_⟩
        have e2 : r = (bts s).drop (s.size - (T.length - t.size)) := by
          have h5 := congrArg (List.drop t.size) e3
          rw [List.drop_drop, ← bts_len t, List.drop_left, bts_len] at h5
          rw [← h5]
          congr 1
          omega
        rw [← e2]
        exact hr

end Go.Proofs.YtemjfkogaimolaaDoor.X

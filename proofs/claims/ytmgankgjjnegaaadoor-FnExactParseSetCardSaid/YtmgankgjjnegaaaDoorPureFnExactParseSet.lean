/- ParseSet: the program's answer is the reference's, for all arguments; no condition. -/
import Derived.Test.YtmgankgjjnegaaaDoorSt
import Derived.Test.YtmgankgjjnegaaaDoorLwS
import Derived.Test.YtmgankgjjnegaaaDoorXx1
import Derived.Test.YtmgankgjjnegaaaDoorXx8
import Derived.Test.YtmgankgjjnegaaaDoorXx9
namespace Go.Proofs.YtmgankgjjnegaaaDoor.Pure
open Go.RowKit Go.Proofs.YtmgankgjjnegaaaDoor.X Go.Proofs.YtmgankgjjnegaaaDoorW.PrintWords Go.Proofs.YtmgankgjjnegaaaDoorW.PrintLast Go.Proofs.YtmgankgjjnegaaaDoor

theorem ib_miss (c : UInt8) : ∀ l : List UInt8, (∀ x ∈ l, x ≠ c) → Lib.indexByte l c = -1
  | [], _ => rfl
  | b :: l, h => by
    have ih := ib_miss c l fun x hx => h x (List.mem_cons_of_mem _ hx)
    have hb := h b List.mem_cons_self
    unfold Lib.indexByte
    rw [if_neg (by simpa using hb), if_pos (by rw [ih]; rfl)]
theorem ib_hit (c : UInt8) : ∀ (l : List UInt8) (k : Nat) (hk : k < l.length), l[k] = c → (∀ j (hj : j < k), l[j]'(by omega) ≠ c) → Lib.indexByte l c = (k : Int)
  | [], k, hk, _, _ => absurd hk (Nat.not_lt_zero _)
  | b :: l, 0, _, h, _ => by
    unfold Lib.indexByte
    rw [if_pos (by simpa using h)]
    rfl
  | b :: l, k + 1, hk, h, hn => by
    have ih := ib_hit c l k (by simpa using hk) h (fun j hj => hn (j + 1) (by omega))
    have hb := hn 0 (by omega)
    unfold Lib.indexByte
    rw [if_neg (by simpa using hb), ih, if_neg (by rw [beq_iff_eq]; omega)]
    omega
theorem ex_data (s : ByteArray) (a : Nat) : (s.extract a s.size).data.toList = (bts s).drop a := by
  rw [ByteArray.data_extract, Array.toList_extract]
  exact List.take_of_length_le (by rw [List.length_drop, bts_len]; exact Nat.le_refl _)
theorem ex_L (s : ByteArray) (a b : Nat) : (s.extract a b).toList = ((bts s).drop a).take (b - a) := by
  rw [Pl.toL, ByteArray.data_extract, Array.toList_extract]
theorem sp_miss (s : ByteArray) (h : ∀ x ∈ bts s, x ≠ 44) : spB s = [s] := by
  have hi : Lib.indexB s ⟨#[44]⟩ = -1 := (Lib.index_one _ _).trans (ib_miss 44 _ h)
  unfold spB
  exact Lib.splitB_miss _ _ _ _ hi
theorem sp_hit (s : ByteArray) (k : Nat) (hk : k < (bts s).length) (h : (bts s)[k] = 44) (hn : ∀ j (hj : j < k), (bts s)[j]'(by omega) ≠ 44) : spB s = s.extract 0 k :: spB (s.extract (k + 1) s.size) := by
  have hi : Lib.indexB s ⟨#[44]⟩ = (k : Int) := (Lib.index_one _ _).trans (ib_hit 44 _ k hk h hn)
  have hc := Lib.countB_hit s ⟨#[44]⟩ k (by decide) hi
  unfold spB
  rw [hc, Nat.add_comm 1, Lib.splitB_hit _ _ _ _ k hi]
  rfl
theorem split_l (s : ByteArray) (hs : s.size ≤ 1048576) (d : Nat) : ∀ (i f : Nat) (out : List ByteArray), i + d = s.size → f ≤ i → out.length ≤ i → (∀ j (hj : j < s.size), f ≤ j → j < i → (bts s)[j]'(by rw [bts_len]; exact hj) ≠ 44) →
    Ev (fun k => spec_l1Split.l0 k s 44 out (f : Int) (i : Int)) (out ++ spB (s.extract f s.size)) := by
  induction d with
  | zero =>
    intro i f out hd hf ho hn
    refine Pl.succ ?_
    simp only [spec_l1Split.l0]
    rw [Int.toNat_natCast]
    refine Pl.neg (by omega) (Pl.pos (by omega) (Pl.pos (by omega) (Pl.pos (by omega) (Pl.ret ?_))))
    rw [sp_miss]
    intro x hx
    have hx2 : x ∈ (bts s).drop f := by rw [← ex_data]; exact hx
    obtain ⟨j, hj, rfl⟩ := List.getElem_of_mem hx2
    rw [List.length_drop, bts_len] at hj
    rw [List.getElem_drop]
    exact hn (f + j) (by omega) (by omega) (by omega)
  | succ d ih =>
    intro i f out hd hf ho hn
    have hi : i < s.size := by omega
    have hib : i < (bts s).length := by rw [bts_len]; exact hi
    refine Pl.succ ?_
    simp only [spec_l1Split.l0]
    rw [bt_nat s i hi, Pl.w64 (n := (i : Int) + 1) (by omega) (by omega), Int.toNat_natCast, Int.toNat_natCast]
    refine Pl.pos (by omega) (Pl.pos (by omega) ?_)
    by_cases hc : (bts s)[i] = 44
    · refine Pl.pos (by rw [hc]; rfl) (Pl.pos (by omega) (Pl.pos (by omega) (Pl.pos (by omega) (Pl.pos (by omega) ?_))))
      refine Pl.via (ih (i + 1) (i + 1) (out ++ [s.extract f i]) (by omega) (Nat.le_refl _) (by simp; omega) (fun j hj h1 h2 => by omega)) ?_
      have hd1 : (bts (s.extract f s.size)) = (bts s).drop f := ex_data s f
      have hz : (s.extract f s.size).size = s.size - f := by rw [ByteArray.size_extract]; omega
      have hh := sp_hit (s.extract f s.size) (i - f) (by rw [hd1, List.length_drop]; omega) (by
        simp only [hd1, List.getElem_drop, show f + (i - f) = i by omega]
        exact hc) (fun j hj => by
        simp only [hd1, List.getElem_drop]
        exact hn (f + j) (by omega) (by omega) (by omega))
      rw [hh]
      have e1 : (s.extract f s.size).extract 0 (i - f) = s.extract f i := by
        apply Pl.ba_ext
        rw [ex_L, ex_L, hd1, List.drop_zero, Nat.sub_zero]
      have e2 : (s.extract f s.size).extract (i - f + 1) (s.extract f s.size).size = s.extract (i + 1) s.size := by
        apply Pl.ba_ext
        rw [ex_L, ex_L, hd1, List.drop_drop, hz, show f + (i - f + 1) = i + 1 by omega, show s.size - f - (i - f + 1) = s.size - (i + 1) by omega]
      rw [e1, e2, List.append_assoc]
      rfl
    · refine Pl.neg ?_ (Pl.via (ih (i + 1) f out (by omega) (by omega) (by omega) (fun j hj h1 h2 => ?_)) rfl)
      · intro h
        apply hc
        apply UInt8.toNat_inj.1
        show _ = 44
        omega
      · by_cases e : j = i
        · subst e; exact hc
        · exact hn j hj h1 (by omega)
theorem split (s : ByteArray) (hs : s.size ≤ 1048576) : Ev (fun k => spec_l1Split.f k s 44) (spB s) := by
  have := split_l s hs s.size 0 0 [] (by omega) (Nat.le_refl _) (by simp) (fun j _ _ h => absurd h (Nat.not_lt_zero _))
  rw [List.nil_append, ByteArray.extract_zero_size] at this
  exact this
noncomputable def fin (r : List ByteArray) : List ByteArray × Bool := if wset r then (r, true) else ([], false)
theorem wdIf (r : List ByteArray) : Ev (fun k => spec_wdIf.f k r) (fin r) := by
  unfold spec_wdIf.f fin
  by_cases h : wset r
  · rw [if_pos h]; exact Ev.bind (wdSet r) (Pl.pos (decide_eq_true h) (Pl.ret rfl))
  · rw [if_neg h]; exact Ev.bind (wdSet r) (Pl.neg (by simp [h]) (Pl.ret rfl))
theorem parse_l (P : List ByteArray) (hP : P.length ≤ 1048577) (d : Nat) : ∀ i : Nat, i + d = P.length → i ≤ 12 → Ev (fun k => spec_wdParse.l0 k (P.take i) P (P.length : Int) (i : Int)) (fin P) := by
  induction d with
  | zero =>
    intro i hd hi
    refine Pl.succ ?_
    simp only [spec_wdParse.l0]
    rw [List.take_of_length_le (by omega)]
    exact Pl.neg (by omega) (Ev.bind (wdIf P) (Pl.ret rfl))
  | succ d ih =>
    intro i hd hi
    have hil : i < P.length := by omega
    have hl : (P.take i).length = i := by rw [List.length_take]; omega
    refine Pl.succ ?_
    simp only [spec_wdParse.l0]
    rw [Pl.rdS_nat _ i hil, Pl.w64 (n := (i : Int) + 1) (by omega) (by omega), hl]
    refine Pl.pos (by omega) (Pl.pos (by omega) (Pl.pos (by omega) ?_))
    by_cases h12 : i = 12
    · refine Pl.pos (by omega) (Pl.ret ?_)
      unfold fin
      rw [if_neg (fun g : wset P => by have := g.1; omega)]
    · refine Pl.neg (by omega) (Pl.pos (by omega) ?_)
      have := ih (i + 1) (by omega) (by omega)
      rw [List.take_succ_eq_append_getElem hil] at this
      exact this
theorem sp_len (s : ByteArray) (hs : s.size ≤ 1048576) : (spB s).length ≤ 1048577 := by
  have h1 := Lib.splitB_length_le ⟨#[44]⟩ 0 (Lib.countB s ⟨#[44]⟩) s
  have h2 := Lib.countB_le ⟨#[44]⟩ (by decide) s.size s (Nat.le_refl _)
  show (Lib.splitB _ _ _ _).length ≤ _
  omega
theorem both (s : ByteArray) (hs : s.size ≤ 1048576) : ∃ v : List ByteArray × Bool, v.1.length ≤ 12 ∧ Ev (fun k => spec_ParseSet.f k s) v ∧ Ev (fun k => impl_ParseSet.f k s) v := by
  unfold spec_ParseSet.f spec_wdParse.f impl_ParseSet.f
  by_cases h : s.toList = [45]
  · exact ⟨([], true), by simp, Ev.bind (Pl.pos h (Pl.ret rfl)) (Pl.ret rfl), Pl.pos h (Pl.ret rfl)⟩
  · have hp := parse_l (spB s) (sp_len s hs) (spB s).length 0 (by omega) (by omega)
    rw [List.take_zero] at hp
    refine ⟨fin (spB s), ?_, Ev.bind (Pl.neg h (Ev.bind (split s hs) hp)) (Pl.ret rfl), Pl.neg h (Pl.pos hs (Ev.bind (isSet (spB s) (by have := sp_len s hs; omega)) ?_))⟩
    · unfold fin
      split
      · rename_i g; exact g.1
      · simp
    · unfold fin
      by_cases g : wset (spB s)
      · rw [if_pos g]; exact Pl.pos (decide_eq_true g) (Pl.ret rfl)
      · rw [if_neg g]; exact Pl.neg (by simp [g]) (Pl.ret rfl)
theorem FnExactParseSet (s : ByteArray) (_ : s.size ≤ 140737488351232) : ∃ k, laws_FnExactParseSet.f k s = some true := by
  refine Ev.rounds ?_
  unfold laws_FnExactParseSet.f
  by_cases h0 : (s.size : Int) > 1048576
  · exact Pl.pos h0 (Pl.ret rfl)
  obtain ⟨⟨g, c⟩, hlen, h1, h2⟩ := both s (by omega)
  simp only at hlen
  obtain ⟨mg, hm1, hm2⟩ := marksS g (by omega)
  refine Pl.neg h0 (Ev.bind h1 (Ev.bind h2 (Ev.bind (eqStringS g (by omega)) (Pl.pos rfl (Pl.succ ?_)))))
  simp only [laws_FnExactParseSet.j0]
  refine Pl.neg (by simp) (Ev.bind hm1 (Ev.bind hm2 (Pl.neg (by omega) (Pl.pos rfl (Ev.bind h2 (Ev.bind (eqStringS g (by omega)) (Pl.pos rfl (Pl.succ ?_))))))))
  simp only [laws_FnExactParseSet.j1]
  exact Pl.neg (by simp) (Ev.bind hm2 (Pl.neg (by omega) (Pl.pos rfl (Pl.ret rfl))))

end Go.Proofs.YtmgankgjjnegaaaDoor.Pure

/- CountIn: the program's answer is the reference's, for all arguments; no condition. -/
import Derived.Test.YthdecnghjhdfhaaDoorWd
import Derived.Test.YthdecnghjhdfhaaDoorXx1
import Derived.Test.YthdecnghjhdfhaaDoorXx2
import Derived.Test.YthdecnghjhdfhaaDoorXx5
namespace Go.Proofs.YthdecnghjhdfhaaDoor.Pure
open Go.RowKit Go.Proofs.YthdecnghjhdfhaaDoor.X Go.Proofs.YthdecnghjhdfhaaDoorW.PrintWords Go.Proofs.YthdecnghjhdfhaaDoorW.PrintLast Go.Proofs.YthdecnghjhdfhaaDoor

theorem hasPrefix_eq (s t : ByteArray) : strings_HasPrefix.f s t = spec_wdBegins.f s t := by
  unfold strings_HasPrefix.f stringslite_HasPrefix.f spec_wdBegins.f
  rw [Pl.bind_id]
  by_cases h : (t.size : Int) ≤ s.size
  · have h0 : (0 : Int) ≤ t.size := by omega
    simp only [h, h0, if_true]
  · rw [if_neg h, if_neg h]
theorem wdBegins_some (s t : ByteArray) : ∃ b, spec_wdBegins.f s t = some b := by
  unfold spec_wdBegins.f
  split
  · rw [if_pos (by omega)]; exact ⟨_, rfl⟩
  · exact ⟨_, rfl⟩
theorem loop (s t : ByteArray) (hs : s.size ≤ 60) (d : Nat) : ∀ i n : Nat, i + d = s.size → n ≤ i →
    ∃ v, spec_CountIn.l0 s t d i n = some v ∧ Ev (fun k => impl_countIn.l0 k s t (n : Int) (s.size : Int) (i : Int)) v := by
  induction d with
  | zero =>
    intro i n h1 h2
    refine ⟨(n : Int), rfl, Pl.succ ?_⟩
    simp only [impl_countIn.l0]
    exact Pl.neg (by omega) (Pl.ret rfl)
  | succ d ih =>
    intro i n h1 h2
    obtain ⟨b, hb⟩ := wdBegins_some (s.extract i s.size) t
    obtain ⟨v, e1, e2⟩ := ih (i + 1) (if b = true then n + 1 else n) (by omega) (by split <;> omega)
    refine ⟨v, by rw [spec_CountIn.l0, hb, Option.bind_some]; exact e1, Pl.succ ?_⟩
    simp only [impl_countIn.l0]
    rw [Int.toNat_natCast, hasPrefix_eq, hb, Pl.w64 (n := (i : Int) + 1) (by omega) (by omega), Pl.w64 (n := (n : Int) + 1) (by omega) (by omega)]
    refine Pl.pos (by omega) (Pl.pos (by omega) (Pl.pos (by omega) (Ev.bind (Pl.ret rfl) ?_)))
    cases b with
    | true => exact Pl.pos rfl e2
    | false => exact Pl.neg (by decide) e2
theorem ascii (s : ByteArray) (h : wgood s = true) : asciiB s = true := by
  unfold wgood at h
  rw [Bool.and_eq_true] at h
  unfold asciiB
  rw [List.all_eq_true]
  intro c hc
  have := (isL_iff c).1 (List.all_eq_true.1 h.2 c hc)
  rw [decide_eq_true_eq]
  omega
theorem both (s t : ByteArray) : ∃ v, Ev (fun k => spec_CountIn.f k s t) v ∧ Ev (fun k => impl_CountIn.f k s t) v := by
  unfold spec_CountIn.f impl_CountIn.f
  rw [isWord_eq, isWord_eq]
  cases h : wgood s with
  | false =>
    refine ⟨(0, false), Ev.bind (wdGood s) ?_, Ev.bind (Pl.ret rfl) (Pl.neg (by decide) (Pl.ret rfl))⟩
    rw [h]
    exact Pl.neg (by decide) (Pl.ret rfl)
  | true =>
    cases g : wgood t with
    | false =>
      refine ⟨(0, false), Ev.bind (wdGood s) ?_, Ev.bind (Pl.ret rfl) (Pl.pos rfl (Ev.bind (Pl.ret rfl) (Pl.neg (by decide) (Pl.ret rfl))))⟩
      rw [h]
      refine Pl.pos rfl (Ev.bind (wdGood t) ?_)
      rw [g]
      exact Pl.neg (by decide) (Pl.ret rfl)
    | true =>
      by_cases e : t.toList = ([] : List UInt8)
      · refine ⟨(0, false), Ev.bind (wdGood s) ?_, Ev.bind (Pl.ret rfl) (Pl.pos rfl (Ev.bind (Pl.ret rfl) (Pl.pos rfl (Pl.pos e (Pl.ret rfl)))))⟩
        rw [h]
        refine Pl.pos rfl (Ev.bind (wdGood t) ?_)
        rw [g]
        exact Pl.pos rfl (Pl.pos e (Pl.ret rfl))
      · obtain ⟨v, e1, e2⟩ := loop s t (wgood_size h) s.size 0 0 (by omega) (by omega)
        refine ⟨(v, true), Ev.bind (wdGood s) ?_, Ev.bind (Pl.ret rfl) (Pl.pos rfl (Ev.bind (Pl.ret rfl) (Pl.pos rfl (Pl.neg e (Ev.bind e2 (Pl.ret rfl))))))⟩
        rw [h]
        refine Pl.pos rfl (Ev.bind (wdGood t) ?_)
        rw [g, e1]
        exact Pl.pos rfl (Pl.neg e (Pl.pos (wgood_size h) (Pl.pos (ascii s h) (Pl.ret rfl))))
theorem FnExactCountIn (s t : ByteArray) (_ : s.size ≤ 140737488351232) (_ : t.size ≤ 140737488351232) : ∃ k, laws_FnExactCountIn.f k s t = some true := by
  refine Ev.rounds ?_
  unfold laws_FnExactCountIn.f
  by_cases h1 : (s.size : Int) > 1048576
  · exact Pl.pos h1 (Pl.ret rfl)
  refine Pl.neg h1 ?_
  by_cases h2 : (t.size : Int) > 1048576
  · exact Pl.pos h2 (Pl.ret rfl)
  refine Pl.neg h2 ?_
  obtain ⟨v, hs, hi⟩ := both s t
  exact Ev.bind hs (Ev.bind hi (Pl.pos rfl (Pl.neg (by simp) (Pl.ret rfl))))

end Go.Proofs.YthdecnghjhdfhaaDoor.Pure

/- LettersOf: the program's answer is the reference's, for all arguments; no condition. -/
import Derived.Test.YthdecnghjhdfhaaDoorWd
import Derived.Test.YthdecnghjhdfhaaDoorLwI
import Derived.Test.YthdecnghjhdfhaaDoorXx23
import Derived.Test.YthdecnghjhdfhaaDoorXx24
import Derived.Test.YthdecnghjhdfhaaDoorXx25
namespace Go.Proofs.YthdecnghjhdfhaaDoor.Pure
open Go.RowKit Go.Proofs.YthdecnghjhdfhaaDoor.X Go.Proofs.YthdecnghjhdfhaaDoorW.PrintWords Go.Proofs.YthdecnghjhdfhaaDoorW.PrintLast Go.Proofs.YthdecnghjhdfhaaDoor

theorem letters_l (s : ByteArray) (hs : s.size ≤ 60) (hw : (bts s).all isL = true) (d : Nat) : ∀ (i p q r : Nat), s.size - i = d → i ≤ s.size → p ≤ i → q ≤ i → r ≤ i →
    Ev (fun k => spec_wdLetters.l0 k s [(p : Int), (q : Int), (r : Int)] (i : Int)) [((p + ((bts s).drop i).count 97 : Nat) : Int), ((q + ((bts s).drop i).count 98 : Nat) : Int), ((r + ((bts s).drop i).count 99 : Nat) : Int)] := by
  induction d with
  | zero =>
    intro i p q r hd hi hp hq hr
    refine Pl.succ ?_
    simp only [spec_wdLetters.l0]
    exact Pl.neg (by omega) (Pl.ret (by rw [List.drop_of_length_le (by rw [bts_len]; omega)]; rfl))
  | succ d ih =>
    intro i p q r hd hi hp hq hr
    have hl : i < (bts s).length := by rw [bts_len]; omega
    have hb : isL ((bts s)[i]) = true := List.all_eq_true.1 hw _ (List.getElem_mem hl)
    have hb2 := (isL_iff _).1 hb
    rw [drop_cons' _ i hl]
    refine Pl.succ ?_
    simp only [spec_wdLetters.l0]
    rw [bt_nat s i (by omega), Pl.w64 (n := (i : Int) + 1) (by omega) (by omega)]
    generalize hc : (bts s)[i] = c at hb2
    have h97 : (97 : UInt8).toNat = 97 := rfl
    have h98 : (98 : UInt8).toNat = 98 := rfl
    have h99 : (99 : UInt8).toNat = 99 := rfl
    have hcase : c = 97 ∨ c = 98 ∨ c = 99 := by
      rw [← UInt8.toNat_inj, ← UInt8.toNat_inj, ← UInt8.toNat_inj, h97, h98, h99]
      omega
    rcases hcase with rfl | rfl | rfl
    · refine Pl.pos (by omega) (Pl.pos (by omega) (Pl.pos (by simp [h97]) (Pl.pos (by simp [h97]) ?_)))
      show Ev (fun k => spec_wdLetters.l0 k s [wrap64 ((p : Int) + 1), (q : Int), (r : Int)] ((i : Int) + 1)) _
      rw [Pl.w64 (by omega) (by omega)]
      refine Pl.via (ih (i + 1) (p + 1) q r (by omega) (by omega) (by omega) (by omega) (by omega)) ?_
      simp
      omega
    · refine Pl.pos (by omega) (Pl.pos (by omega) (Pl.pos (by simp [h98]) (Pl.pos (by simp [h98]) ?_)))
      show Ev (fun k => spec_wdLetters.l0 k s [(p : Int), wrap64 ((q : Int) + 1), (r : Int)] ((i : Int) + 1)) _
      rw [Pl.w64 (by omega) (by omega)]
      refine Pl.via (ih (i + 1) p (q + 1) r (by omega) (by omega) (by omega) (by omega) (by omega)) ?_
      simp
      omega
    · refine Pl.pos (by omega) (Pl.pos (by omega) (Pl.pos (by simp [h99]) (Pl.pos (by simp [h99]) ?_)))
      show Ev (fun k => spec_wdLetters.l0 k s [(p : Int), (q : Int), wrap64 ((r : Int) + 1)] ((i : Int) + 1)) _
      rw [Pl.w64 (by omega) (by omega)]
      refine Pl.via (ih (i + 1) p q (r + 1) (by omega) (by omega) (by omega) (by omega) (by omega)) ?_
      simp
      omega
def cnts (s : ByteArray) : List Int := [((bts s).count 97 : Int), ((bts s).count 98 : Int), ((bts s).count 99 : Int)]
theorem count_at (s : ByteArray) (x y : Int) (c : UInt8) (h : (⟨#[97, 98, 99]⟩ : ByteArray).extract x.toNat y.toNat = ⟨#[c]⟩) : strings_Count.f s ((⟨#[97, 98, 99]⟩ : ByteArray).extract x.toNat y.toNat) = some ((bts s).count c : Int) := by
  rw [h]
  unfold strings_Count.f
  rw [if_pos (show (⟨#[c]⟩ : ByteArray).size = 1 from rfl)]
  have : bt ⟨#[c]⟩ 0 = (c.toNat : Int) := rfl
  rw [this, Int.toNat_natCast, UInt8.ofNat_toNat]
  rfl
theorem implLetters (s : ByteArray) : Ev (fun k => impl_lettersOf.f k s) (cnts s) := by
  unfold impl_lettersOf.f cnts
  have c0 := count_at s 0 1 97 (by decide)
  have c1 := count_at s 1 2 98 (by decide)
  have c2 := count_at s 2 3 99 (by decide)
  refine Pl.succ ?_
  simp only [impl_lettersOf.l0]
  rw [show wrap64 (0 + 1) = 1 from Pl.w64 (by omega) (by omega), c0]
  refine Pl.pos (by omega) (Pl.pos (by omega) (Pl.pos (by omega) (Pl.pos (by omega) (Ev.bind (Pl.ret rfl) (Pl.pos (by decide) (Pl.succ ?_))))))
  simp only [impl_lettersOf.l0]
  rw [show wrap64 (1 + 1) = 2 from Pl.w64 (by omega) (by omega), c1]
  refine Pl.pos (by omega) (Pl.pos (by omega) (Pl.pos (by omega) (Pl.pos (by omega) (Ev.bind (Pl.ret rfl) (Pl.pos (by simp) (Pl.succ ?_))))))
  simp only [impl_lettersOf.l0]
  rw [show wrap64 (2 + 1) = 3 from Pl.w64 (by omega) (by omega), c2]
  refine Pl.pos (by omega) (Pl.pos (by omega) (Pl.pos (by omega) (Pl.pos (by omega) (Ev.bind (Pl.ret rfl) (Pl.pos (by simp) (Pl.succ ?_))))))
  simp only [impl_lettersOf.l0]
  exact Pl.neg (by omega) (Pl.ret rfl)
theorem both (s : ByteArray) : ∃ v : List Int × Bool, v.1.length ≤ 61 ∧ Ev (fun k => spec_LettersOf.f k s) v ∧ Ev (fun k => impl_LettersOf.f k s) v := by
  unfold spec_LettersOf.f impl_LettersOf.f
  simp only [isWord_eq, Option.bind_some]
  cases h : wgood s with
  | false =>
    refine ⟨([], false), by simp, ?_, Pl.neg (by decide) (Pl.ret rfl)⟩
    refine Ev.bind (wdGood s) ?_
    rw [h]
    exact Pl.neg (by decide) (Pl.ret rfl)
  | true =>
    refine ⟨(cnts s, true), by simp [cnts], ?_, Pl.pos rfl (Ev.bind (implLetters s) (Pl.ret rfl))⟩
    refine Ev.bind (wdGood s) ?_
    rw [h]
    refine Pl.pos rfl (Ev.bind (a := cnts s) ?_ (Pl.ret rfl))
    unfold spec_wdLetters.f
    have hw : (bts s).all isL = true := by
      unfold wgood at h
      simp only [Bool.and_eq_true] at h
      exact h.2
    refine Pl.pos (by omega) (Pl.via (letters_l s (wgood_size h) hw s.size 0 0 0 0 (by omega) (by omega) (by omega) (by omega) (by omega)) ?_)
    simp [cnts]
theorem FnExactLettersOf (s : ByteArray) (_ : s.size ≤ 140737488351232) : ∃ k, laws_FnExactLettersOf.f k s = some true := by
  refine Ev.rounds ?_
  unfold laws_FnExactLettersOf.f
  by_cases h1 : (s.size : Int) > 1048576
  · exact Pl.pos h1 (Pl.ret rfl)
  obtain ⟨⟨g, b⟩, hlen, hs, hi⟩ := both s
  simp only at hlen
  obtain ⟨mi, hm1, hm2⟩ := marksI g (by omega)
  refine Pl.neg h1 (Ev.bind hs (Ev.bind hi (Ev.bind (eqIntS g (by omega)) (Pl.pos rfl (Pl.succ ?_)))))
  simp only [laws_FnExactLettersOf.j0]
  refine Pl.neg (by simp) (Ev.bind hm1 (Ev.bind hm2 (Pl.neg (by omega) (Pl.pos rfl (Ev.bind hi (Ev.bind (eqIntS g (by omega)) (Pl.pos rfl (Pl.succ ?_))))))))
  simp only [laws_FnExactLettersOf.j1]
  exact Pl.neg (by simp) (Ev.bind hm2 (Pl.neg (by omega) (Pl.pos rfl (Pl.ret rfl))))

end Go.Proofs.YthdecnghjhdfhaaDoor.Pure

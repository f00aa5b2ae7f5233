/- Words backwards, the set backwards: what the reference makes; sizes as of sets. -/
import Derived.Test.YtkphnakihjiebaaDoorPut
import Derived.Test.YtkphnakihjiebaaDoorXx1
namespace Go.Proofs.YtkphnakihjiebaaDoor.X
open Go.RowKit Go.Proofs.YtkphnakihjiebaaDoorW.PrintWords Go.Proofs.YtkphnakihjiebaaDoorW.PrintLast Go.Proofs.YtkphnakihjiebaaDoorW.PrintMore Go.Proofs.YtkphnakihjiebaaDoor

/-- A word backwards. -/
def rev (s : ByteArray) : ByteArray := ⟨(bts s).reverse.toArray⟩
theorem bts_rev (s : ByteArray) : bts (rev s) = (bts s).reverse := rfl
theorem rev_size (s : ByteArray) : (rev s).size = s.size := by rw [← bts_len, ← bts_len, bts_rev, List.length_reverse]
theorem rev_inj {s t : ByteArray} (h : rev s = rev t) : s = t := by
  have := congrArg bts h
  rw [bts_rev, bts_rev, List.reverse_inj] at this
  exact Pl.ba_ext (by rw [Pl.toL, Pl.toL]; exact this)
theorem take1_rev (l : List UInt8) : (l.take 1).reverse = l.take 1 := by cases l <;> rfl
theorem wdBack_l (s : ByteArray) (hs : s.size ≤ 60) (i : Nat) : ∀ out : ByteArray, i ≤ s.size → out.size + i ≤ 60 → Ev (fun k => spec_wdBack.l0 k s out ((i : Int) - 1)) ⟨(bts out ++ ((bts s).take i).reverse).toArray⟩ := by
  induction i with
  | zero =>
    intro out h1 h2
    refine Pl.succ ?_
    simp only [spec_wdBack.l0]
    refine Pl.neg (by omega) (Pl.ret ?_)
    apply Pl.ba_ext
    rw [Pl.toL, Pl.toL]
    simp [bts]
  | succ i ih =>
    intro out h1 h2
    have he : (s.extract i (i + 1)).size = 1 := by rw [ByteArray.size_extract]; omega
    refine Pl.succ ?_
    simp only [spec_wdBack.l0]
    rw [show ((i + 1 : Nat) : Int) - 1 = (i : Int) by omega, Pl.w64 (n := (i : Int) + 1) (by omega) (by omega), Pl.w64 (n := (i : Int) - 1) (by omega) (by omega), Int.toNat_natCast, show ((i : Int) + 1).toNat = i + 1 by omega]
    refine Pl.pos (by omega) (Pl.pos (by omega) (Pl.pos (by omega) (Pl.pos (by omega) (Pl.pos (by omega) ?_))))
    refine Pl.via (ih (out ++ s.extract i (i + 1)) (by omega) (by rw [ByteArray.size_append]; omega)) ?_
    have e1 : bts (out ++ s.extract i (i + 1)) = bts out ++ ((bts s).drop i).take 1 := by
      show (out ++ s.extract i (i + 1)).data.toList = _
      rw [ByteArray.data_append, Array.toList_append]
      congr 1
      rw [← Pl.toL, toL_ex, show i + 1 - i = 1 by omega]
    rw [e1, List.take_add, List.reverse_append, take1_rev, List.append_assoc]
theorem wdBack (s : ByteArray) (hs : s.size ≤ 60) : Ev (fun k => spec_wdBack.f k s) (rev s) := by
  unfold spec_wdBack.f
  rw [Pl.w64 (by omega) (by omega)]
  refine Pl.via (wdBack_l s hs s.size ⟨#[]⟩ (Nat.le_refl _) (by show 0 + s.size ≤ 60; omega)) ?_
  rw [List.take_of_length_le (by rw [bts_len]; omega)]
  rfl
/-- The words backwards, ordered. -/
def revsOn (l : List ByteArray) (out : List ByteArray) : List ByteArray := l.foldl (fun o s => put o (rev s)) out
def revs (l : List ByteArray) : List ByteArray := revsOn l []
theorem wdReverse_l (l : List ByteArray) (hl : l.length ≤ 1048576) (hs : ∀ s ∈ l, s.size ≤ 60) (d : Nat) : ∀ (i : Nat) (out : List ByteArray), i + d = l.length → out.length ≤ i →
    Ev (fun k => spec_wdReverse.l0 k out l (l.length : Int) (i : Int)) (revsOn (l.drop i) out) := by
  induction d with
  | zero =>
    intro i out hd ho
    refine Pl.succ ?_
    simp only [spec_wdReverse.l0]
    exact Pl.neg (by omega) (Pl.ret (by rw [List.drop_of_length_le (by omega)]; rfl))
  | succ d ih =>
    intro i out hd ho
    have hil : i < l.length := by omega
    have hp := put_len out (rev l[i])
    refine Pl.succ ?_
    simp only [spec_wdReverse.l0]
    rw [Pl.rdS_nat _ i hil, Pl.w64 (by omega) (by omega)]
    refine Pl.pos (by omega) (Pl.pos (by omega) (Pl.pos (by omega) (Ev.bind (wdBack l[i] (hs _ (List.getElem_mem hil))) (Ev.bind (wdPut out (rev l[i]) (by omega)) ?_))))
    refine Pl.via (ih (i + 1) _ (by omega) (by omega)) ?_
    rw [List.drop_eq_getElem_cons hil]
    rfl
theorem wdReverse (l : List ByteArray) (hl : l.length ≤ 1048576) (hs : ∀ s ∈ l, s.size ≤ 60) : Ev (fun k => spec_wdReverse.f k l) (revs l) :=
  Pl.via (wdReverse_l l hl hs l.length 0 [] (by omega) (Nat.le_refl _)) rfl
theorem revs_ok (l : List ByteArray) : ∀ out : List ByteArray, out.Pairwise (fun a b => wless a b = true) →
    (revsOn l out).Pairwise (fun a b => wless a b = true) ∧ (∀ z, z ∈ revsOn l out ↔ z ∈ out ∨ ∃ s ∈ l, z = rev s) ∧ (revsOn l out).length ≤ out.length + l.length := by
  induction l with
  | nil => intro out h; exact ⟨h, fun z => by simp [revsOn], by simp [revsOn]⟩
  | cons x l ih =>
    intro out h
    obtain ⟨h1, h2, h3⟩ := ih (put out (rev x)) (put_srt out (rev x) h)
    refine ⟨h1, fun z => ?_, ?_⟩
    · have := h2 z
      rw [put_mem] at this
      refine this.trans ⟨?_, ?_⟩
      · rintro ((h | h) | ⟨s, hs, h⟩)
        · exact .inr ⟨x, List.mem_cons_self, h⟩
        · exact .inl h
        · exact .inr ⟨s, List.mem_cons_of_mem _ hs, h⟩
      · rintro (h | ⟨s, hs, h⟩)
        · exact .inl (.inr h)
        · rcases List.mem_cons.1 hs with rfl | hs
          · exact .inl (.inl h)
          · exact .inr ⟨s, hs, h⟩
    · have := put_len out (rev x)
      have e : revsOn (x :: l) out = revsOn l (put out (rev x)) := rfl
      rw [e, List.length_cons]
      omega
theorem revs_mem (l : List ByteArray) (z : ByteArray) : z ∈ revs l ↔ ∃ s ∈ l, z = rev s := by
  have := (revs_ok l [] List.Pairwise.nil).2.1 z
  simpa [revs] using this
theorem wshort_rev (s : ByteArray) : wshort (rev s) = wshort s := by
  unfold wshort
  rw [rev_size, bts_rev, List.all_reverse]
theorem wset_revs {l : List ByteArray} (h : wset l) : wset (revs l) := by
  obtain ⟨h1, _, h3⟩ := revs_ok l [] List.Pairwise.nil
  have := h.1
  refine wset_of (by simp only [List.length_nil] at h3; show (revsOn l []).length ≤ 12; omega) (fun z hz => ?_) h1
  obtain ⟨s, hs, rfl⟩ := (revs_mem l z).1 hz
  rw [wshort_rev]
  exact wset_short h s hs

end Go.Proofs.YtkphnakihjiebaaDoor.X

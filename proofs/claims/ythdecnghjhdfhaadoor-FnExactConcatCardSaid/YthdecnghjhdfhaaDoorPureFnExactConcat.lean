/- Concat: the program's answer is the reference's, for all arguments; no condition. -/
import Derived.Test.YthdecnghjhdfhaaDoorWd
import Derived.Test.YthdecnghjhdfhaaDoorLwZ
import Derived.Test.YthdecnghjhdfhaaDoorLwS
import Derived.Test.YthdecnghjhdfhaaDoorXx9
import Derived.Test.YthdecnghjhdfhaaDoorXx11
import Derived.Test.YthdecnghjhdfhaaDoorXx12
import Derived.Test.YthdecnghjhdfhaaDoorXx13
namespace Go.Proofs.YthdecnghjhdfhaaDoor.Pure
open Go.RowKit Go.Proofs.YthdecnghjhdfhaaDoor.X Go.Proofs.YthdecnghjhdfhaaDoorW.PrintWords Go.Proofs.YthdecnghjhdfhaaDoorW.PrintLast Go.Proofs.YthdecnghjhdfhaaDoor

/-- All words, one behind the other, if that's a word and all are. -/
def cat : List ByteArray → ByteArray → ByteArray × Bool
  | [], out => (out, true)
  | s :: l, out => if wgood s = true ∧ out.size + s.size ≤ 60 then cat l (out ++ s) else (⟨#[]⟩, false)
theorem spec_l (l : List ByteArray) : ∀ out, Ev (fun k => spec_Concat.l0 k l out) (cat l out) := by
  induction l with
  | nil => intro out; exact ⟨0, fun k _ => by cases k <;> rfl⟩
  | cons s l ih =>
    intro out
    simp only [spec_Concat.l0]
    refine Ev.bind (wdGood s) ?_
    rw [cat]
    cases h1 : wgood s with
    | false => rw [if_neg (by simp)]; exact Pl.neg (by decide) (Pl.ret rfl)
    | true =>
      refine Pl.pos rfl ?_
      by_cases h2 : out.size + s.size ≤ 60
      · rw [if_pos ⟨rfl, h2⟩]; exact Pl.pos h2 (ih _)
      · rw [if_neg (fun h => h2 h.2)]; exact Pl.neg h2 (Pl.ret rfl)
theorem notWord_eq (s : ByteArray) : notWord s = !wgood s := rfl
theorem join_cons (x : ByteArray) (l : List ByteArray) : joinB (x :: l) ⟨#[]⟩ = x.data.toList ++ joinB l ⟨#[]⟩ := by
  unfold joinB Lib.join
  cases l with
  | nil => simp [List.intercalate]
  | cons y l => simp [List.intercalate]
theorem wgood_append (a b : ByteArray) : wgood (a ++ b) = (decide (a.size + b.size ≤ 60) && (bts a).all isL && (bts b).all isL) := by
  unfold wgood
  rw [ByteArray.size_append]
  simp only [bts, ByteArray.data_append, Array.toList_append, List.all_append, Bool.and_assoc]
theorem cat_eq (l : List ByteArray) (hg : ∀ s ∈ l, wgood s = true) : ∀ out : ByteArray, wgood out = true →
    cat l out = if wgood ⟨(bts out ++ joinB l ⟨#[]⟩).toArray⟩ = true then (⟨(bts out ++ joinB l ⟨#[]⟩).toArray⟩, true) else (⟨#[]⟩, false) := by
  induction l with
  | nil =>
    intro out ho
    have e : (⟨(bts out ++ joinB [] ⟨#[]⟩).toArray⟩ : ByteArray) = out := by
      apply Pl.ba_ext
      rw [Pl.toL, Pl.toL]
      simp [joinB, Lib.join, bts, List.intercalate]
    rw [e, if_pos ho, cat]
  | cons s l ih =>
    intro out ho
    have hs := hg s List.mem_cons_self
    have e : (⟨(bts out ++ joinB (s :: l) ⟨#[]⟩).toArray⟩ : ByteArray) = ⟨(bts (out ++ s) ++ joinB l ⟨#[]⟩).toArray⟩ := by
      rw [join_cons]
      simp only [bts, ByteArray.data_append, Array.toList_append, List.append_assoc]
    rw [cat, e]
    by_cases h2 : out.size + s.size ≤ 60
    · rw [if_pos ⟨hs, h2⟩]
      refine ih (fun x hx => hg x (List.mem_cons_of_mem _ hx)) _ ?_
      rw [wgood_append, decide_eq_true h2]
      unfold wgood at ho hs
      simp only [Bool.and_eq_true] at ho hs
      rw [ho.2, hs.2]
      rfl
    · rw [if_neg (fun h => h2 h.2), if_neg]
      intro h
      have := wgood_size h
      have e2 : (⟨(bts (out ++ s) ++ joinB l ⟨#[]⟩).toArray⟩ : ByteArray).size = (bts (out ++ s)).length + (joinB l ⟨#[]⟩).length := by rw [← List.length_append]; exact List.size_toArray
      rw [e2, bts_len, ByteArray.size_append] at this
      omega
theorem cat_false (l : List ByteArray) (h : ∃ s ∈ l, wgood s = false) : ∀ out, cat l out = (⟨#[]⟩, false) := by
  induction l with
  | nil => obtain ⟨s, hs, _⟩ := h; cases hs
  | cons x l ih =>
    intro out
    rw [cat]
    cases hx : wgood x with
    | false => rw [if_neg (by simp)]
    | true =>
      obtain ⟨s, hs, hsf⟩ := h
      rcases List.mem_cons.1 hs with rfl | hs
      · rw [hx] at hsf; cases hsf
      · split
        · exact ih ⟨s, hs, hsf⟩ _
        · rfl
theorem join_len (l : List ByteArray) (hg : ∀ s ∈ l, wgood s = true) : (joinB l ⟨#[]⟩).length ≤ 60 * l.length := by
  induction l with
  | nil => simp [joinB, Lib.join, List.intercalate]
  | cons s l ih =>
    have h1 := ih (fun x hx => hg x (List.mem_cons_of_mem _ hx))
    have h2 := wgood_size (hg s List.mem_cons_self)
    have h3 : s.data.toList.length = s.size := bts_len s
    rw [join_cons, List.length_append, List.length_cons]
    omega
theorem both (l : List ByteArray) (hl : l.length ≤ 1048576) : ∃ v, Ev (fun k => spec_Concat.f k l) v ∧ Ev (fun (_ : Nat) => impl_Concat.f l) v := by
  unfold spec_Concat.f impl_Concat.f
  by_cases h60 : l.length ≤ 60
  · refine ⟨cat l ⟨#[]⟩, Pl.pos h60 (spec_l l _), Pl.pos h60 ?_⟩
    cases hany : l.any notWord with
    | true =>
      obtain ⟨s, hs, hn⟩ := List.any_eq_true.1 hany
      rw [notWord_eq, Bool.not_eq_true'] at hn
      exact Pl.pos rfl (Pl.ret (cat_false l ⟨s, hs, hn⟩ _).symm)
    | false =>
      have hg : ∀ s ∈ l, wgood s = true := fun s hs => by
        have := List.any_eq_false.1 hany s hs
        rw [notWord_eq] at this
        simpa using this
      have hj := join_len l hg
      refine Pl.neg (by decide) ?_
      unfold strings_Join.f
      rw [if_pos (by omega), if_pos (by omega)]
      simp only [Option.bind_some, isWord_eq]
      rw [cat_eq l hg ⟨#[]⟩ rfl]
      have e : (⟨(bts ⟨#[]⟩ ++ joinB l ⟨#[]⟩).toArray⟩ : ByteArray) = ⟨(joinB l ⟨#[]⟩).toArray⟩ := rfl
      rw [e]
      cases wgood ⟨(joinB l ⟨#[]⟩).toArray⟩
      · exact Pl.neg (by decide) (Pl.ret rfl)
      · exact Pl.pos rfl (Pl.ret rfl)
  · exact ⟨_, Pl.neg h60 (Pl.ret rfl), Pl.neg h60 (Pl.ret rfl)⟩
theorem FnExactConcat (l : List ByteArray) (hb : l.length * 16 ≤ 140737488351232) (hs : ∀ s ∈ l, s.size ≤ maxLen) : ∃ k, laws_FnExactConcat.f k l = some true := by
  refine Ev.rounds ?_
  unfold laws_FnExactConcat.f
  obtain ⟨r, hr, hq⟩ := szStringS l hb hs 1048576 (by omega) (by omega)
  refine Ev.bind hr ?_
  by_cases hc : r < 0
  · exact Pl.pos hc (Pl.ret rfl)
  obtain ⟨_, hl, _⟩ := hq (by omega)
  obtain ⟨v, h1, h2⟩ := both l hl
  refine Pl.neg hc (Ev.bind (toStringS l hl) (Ev.bind h1 (Ev.bind (toStringS l hl) (Ev.bind h2 (Pl.pos (by first | rfl | trivial) (Pl.succ ?_))))))
  simp only [laws_FnExactConcat.j0]
  refine Pl.neg (by simp) (Ev.bind (toStringS l hl) (Ev.bind (eqStringS l (by omega)) (Pl.pos rfl (Pl.ret rfl))))

end Go.Proofs.YthdecnghjhdfhaaDoor.Pure

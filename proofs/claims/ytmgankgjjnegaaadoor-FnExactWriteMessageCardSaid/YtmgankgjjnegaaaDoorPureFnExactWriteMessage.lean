/- WriteMessage: the program's answer is the reference's, for all arguments; no condition. -/
import Derived.Test.YtmgankgjjnegaaaDoorWd
import Derived.Test.YtmgankgjjnegaaaDoorSt
import Derived.Test.YtmgankgjjnegaaaDoorLwZ
import Derived.Test.YtmgankgjjnegaaaDoorLwE
import Derived.Test.YtmgankgjjnegaaaDoorLwIe
import Derived.Test.YtmgankgjjnegaaaDoorLwT
import Derived.Test.YtmgankgjjnegaaaDoorXx1
import Derived.Test.YtmgankgjjnegaaaDoorXx2
import Derived.Test.YtmgankgjjnegaaaDoorXx3
import Derived.Test.YtmgankgjjnegaaaDoorXx8
import Derived.Test.YtmgankgjjnegaaaDoorXx9
namespace Go.Proofs.YtmgankgjjnegaaaDoor.Pure
open Go.RowKit Go.Proofs.YtmgankgjjnegaaaDoor.X Go.Proofs.YtmgankgjjnegaaaDoorW.PrintWords Go.Proofs.YtmgankgjjnegaaaDoorW.PrintLast Go.Proofs.YtmgankgjjnegaaaDoor

def catF (l : List ByteArray) (out : ByteArray) : ByteArray := l.foldl (fun o s => o ++ s) out
theorem catF_size (l : List ByteArray) : ∀ out : ByteArray, out.size ≤ (catF l out).size := by
  induction l with
  | nil => intro out; exact Nat.le_refl _
  | cons s l ih =>
    intro out
    have := ih (out ++ s)
    rw [ByteArray.size_append] at this
    show out.size ≤ (catF l (out ++ s)).size
    omega
theorem wgood_app {a b : ByteArray} (ha : wgood a = true) (hb : wgood b = true) (h : a.size + b.size ≤ 60) : wgood (a ++ b) = true := by
  unfold wgood at *
  simp only [Bool.and_eq_true, decide_eq_true_eq] at *
  refine ⟨by rw [ByteArray.size_append]; exact h, ?_⟩
  have e : bts (a ++ b) = bts a ++ bts b := by
    show (a ++ b).data.toList = _
    rw [ByteArray.data_append, Array.toList_append]
  rw [e, List.all_append, ha.2, hb.2]
  rfl
theorem concat_l (l : List ByteArray) (hg : ∀ s ∈ l, wgood s = true) : ∀ out : ByteArray, wgood out = true →
    Ev (fun k => spec_Concat.l0 k l out) (if wgood (catF l out) = true then (catF l out, true) else (⟨#[]⟩, false)) := by
  induction l with
  | nil =>
    intro out ho
    unfold spec_Concat.l0
    exact Pl.ret (by rw [show catF [] out = out from rfl, if_pos ho])
  | cons s l ih =>
    intro out ho
    have hs := hg s List.mem_cons_self
    unfold spec_Concat.l0
    refine Ev.bind (wdGood s) (Pl.pos hs ?_)
    by_cases h : out.size + s.size ≤ 60
    · exact Pl.pos h (ih (fun x q => hg x (List.mem_cons_of_mem _ q)) (out ++ s) (wgood_app ho hs h))
    · refine Pl.neg h (Pl.ret ?_)
      have hz := catF_size l (out ++ s)
      rw [ByteArray.size_append] at hz
      rw [if_neg]
      intro q
      have := wgood_size q
      have e : catF (s :: l) out = catF l (out ++ s) := rfl
      rw [e] at this
      omega
theorem l1All_l (lo hi : Int) (l : List Int) (hl : l.length ≤ 1048576) (d : Nat) : ∀ i : Nat, i + d = l.length → Ev (fun k => spec_l1All.l0 k lo hi l (l.length : Int) (i : Int)) ((l.drop i).all fun x => decide (lo ≤ x ∧ x ≤ hi)) := by
  induction d with
  | zero =>
    intro i hd
    refine Pl.succ ?_
    simp only [spec_l1All.l0]
    rw [List.drop_of_length_le (by omega)]
    exact Pl.neg (by omega) (Pl.ret rfl)
  | succ d ih =>
    intro i hd
    have hil : i < l.length := by omega
    refine Pl.succ ?_
    simp only [spec_l1All.l0, l1In_eq', Option.bind_some]
    rw [Pl.rd_nat _ i hil, Pl.w64 (n := (i : Int) + 1) (by omega) (by omega), List.drop_eq_getElem_cons hil, List.all_cons]
    refine Pl.pos (by omega) (Pl.pos (by omega) (Pl.pos (by omega) ?_))
    cases hq : decide (lo ≤ l[i] ∧ l[i] ≤ hi) with
    | true => exact Pl.pos rfl (Pl.via (ih (i + 1) (by omega)) (by rw [Bool.true_and]))
    | false => exact Pl.neg (by decide) (Pl.ret rfl)
theorem spec_l (l : List ByteArray) (m : List Int) (hm : m.length ≤ 60) (hr : ∀ i ∈ m, 0 ≤ i ∧ i < (l.length : Int)) (hg : ∀ s ∈ m.map (rdOf ByteArray.empty l), wgood s = true) (d : Nat) : ∀ i : Nat, i + d = m.length →
    Ev (fun k => spec_WriteMessage.l0 k l ((m.map (rdOf ByteArray.empty l)).take i) m (m.length : Int) (i : Int)) (if wgood (catF (m.map (rdOf ByteArray.empty l)) ⟨#[]⟩) = true then (catF (m.map (rdOf ByteArray.empty l)) ⟨#[]⟩, true) else (⟨#[]⟩, false)) := by
  induction d with
  | zero =>
    intro i hd
    refine Pl.succ ?_
    simp only [spec_WriteMessage.l0]
    rw [List.take_of_length_le (by rw [List.length_map]; omega)]
    refine Pl.neg (by omega) (Ev.bind (a := if wgood (catF (m.map (rdOf ByteArray.empty l)) ⟨#[]⟩) = true then (catF (m.map (rdOf ByteArray.empty l)) ⟨#[]⟩, true) else (⟨#[]⟩, false)) ?_ (Pl.ret rfl))
    unfold spec_Concat.f
    exact Pl.pos (by rw [List.length_map]; omega) (concat_l _ hg ⟨#[]⟩ (by rfl))
  | succ d ih =>
    intro i hd
    have him : i < m.length := by omega
    have hii := hr _ (List.getElem_mem him)
    have hk : i < (m.map (rdOf ByteArray.empty l)).length := by rw [List.length_map]; exact him
    refine Pl.succ ?_
    simp only [spec_WriteMessage.l0]
    rw [Pl.rd_nat _ i him, Pl.w64 (n := (i : Int) + 1) (by omega) (by omega)]
    refine Pl.pos (by omega) (Pl.pos (by omega) (Pl.pos (by omega) (Pl.pos hii.1 (Pl.pos hii.2 (Pl.pos (by rw [List.length_take]; omega) ?_)))))
    have := ih (i + 1) (by omega)
    rw [List.take_succ_eq_append_getElem hk, List.getElem_map] at this
    exact this
theorem small {l : List ByteArray} (h : wset l) : ∀ s ∈ l, s.size ≤ 8 ∧ wgood s = true := fun s hs => by
  obtain ⟨i, hi, rfl⟩ := List.getElem_of_mem hs
  have := h.2.1 i hi
  unfold wshort at this
  unfold wgood
  simp only [Bool.and_eq_true, decide_eq_true_eq] at this ⊢
  exact ⟨this.1.2, by omega, this.2⟩
theorem sj (l : List ByteArray) (m : List Int) : Ev (fun k => spec_WriteMessage.j0 k l m true) (⟨#[]⟩, false) := by
  refine Pl.succ ?_
  simp only [spec_WriteMessage.j0]
  exact Pl.pos (by first | rfl | trivial) (Pl.ret rfl)
theorem both (l : List ByteArray) (m : List Int) (hl : l.length ≤ 1048576) (hm : m.length ≤ 1048576) : ∃ v : ByteArray × Bool, Ev (fun k => spec_WriteMessage.f k l m) v ∧ Ev (fun k => impl_WriteMessage.f k l m) v := by
  unfold spec_WriteMessage.f impl_WriteMessage.f
  by_cases h : wset l
  · rw [Pl.w64 (n := (l.length : Int) - 1) (by omega) (by omega)]
    by_cases h60 : m.length ≤ 60
    · have hall := l1All_l 0 ((l.length : Int) - 1) m hm m.length 0 (by omega)
      rw [List.drop_zero] at hall
      have hallf : Ev (fun k => spec_l1All.f k m 0 ((l.length : Int) - 1)) (m.all fun x => decide (0 ≤ x ∧ x ≤ (l.length : Int) - 1)) := hall
      by_cases hr : ∀ i ∈ m, 0 ≤ i ∧ i < (l.length : Int)
      · have e1 : (m.all fun x => decide (0 ≤ x ∧ x ≤ (l.length : Int) - 1)) = true := List.all_eq_true.2 fun x hx => decide_eq_true (by have := hr x hx; omega)
        have e2 : ¬ (m.any (fun i => !(inB l.length i)) = true) := by
          rw [List.any_eq_true]
          rintro ⟨x, hx, hq⟩
          unfold inB at hq
          rw [decide_eq_true (hr x hx)] at hq
          cases hq
        have e3 : l.all sz60 = true := List.all_eq_true.2 fun x hx => decide_eq_true (by have := (small h x hx).1; omega)
        have hg : ∀ s ∈ m.map (rdOf ByteArray.empty l), wgood s = true := fun s hs => by
          obtain ⟨i, hi, rfl⟩ := List.mem_map.1 hs
          obtain ⟨n, rfl⟩ : ∃ n : Nat, i = n := ⟨i.toNat, by have := hr i hi; omega⟩
          have hn : n < l.length := by have := hr _ hi; omega
          rw [Pl.rdS_nat _ n hn]
          exact (small h _ (List.getElem_mem hn)).2
        have e4 : wmL l m = catF (m.map (rdOf ByteArray.empty l)) ⟨#[]⟩ := by
          unfold wmL catF
          rw [List.foldl_map]
        have hsp := spec_l l m h60 hr hg m.length 0 (by omega)
        rw [List.take_zero] at hsp
        rw [e1] at hallf
        obtain ⟨V, hV⟩ : ∃ V : ByteArray × Bool, (if wgood (catF (m.map (rdOf ByteArray.empty l)) ⟨#[]⟩) = true then (catF (m.map (rdOf ByteArray.empty l)) ⟨#[]⟩, true) else (⟨#[]⟩, false)) = V := ⟨_, rfl⟩
        rw [hV] at hsp
        refine ⟨V, Ev.bind (wdSet l) (Pl.pos (decide_eq_true h) (Pl.neg (by omega) (Ev.bind hallf ?_))), Ev.bind (isSet l (by omega)) (Pl.pos (decide_eq_true h) (Pl.pos h60 (Pl.neg e2 (Pl.pos e3 ?_))))⟩
        · refine Pl.succ ?_
          simp only [spec_WriteMessage.j0]
          exact Pl.neg (by decide) hsp
        · rw [e4, isWord_eq]
          refine Ev.bind (Ev.now _) ?_
          by_cases hw : wgood (catF (m.map (rdOf ByteArray.empty l)) ⟨#[]⟩) = true
          · rw [if_pos hw] at hV; exact Pl.pos hw (Pl.ret hV)
          · rw [if_neg hw] at hV; exact Pl.neg hw (Pl.ret hV)
      · have e1 : (m.all fun x => decide (0 ≤ x ∧ x ≤ (l.length : Int) - 1)) = false := by
          rw [List.all_eq_false]
          obtain ⟨x, hx⟩ := Classical.not_forall.1 hr
          obtain ⟨hx, hq⟩ := Classical.not_imp.1 hx
          exact ⟨x, hx, by rw [decide_eq_true_eq]; omega⟩
        have e2 : m.any (fun i => !(inB l.length i)) = true := by
          rw [List.any_eq_true]
          obtain ⟨x, hx⟩ := Classical.not_forall.1 hr
          obtain ⟨hx, hq⟩ := Classical.not_imp.1 hx
          exact ⟨x, hx, by unfold inB; rw [decide_eq_false hq]; rfl⟩
        rw [e1] at hallf
        exact ⟨(⟨#[]⟩, false), Ev.bind (wdSet l) (Pl.pos (decide_eq_true h) (Pl.neg (by omega) (Ev.bind hallf (sj l m)))), Ev.bind (isSet l (by omega)) (Pl.pos (decide_eq_true h) (Pl.pos h60 (Pl.pos e2 (Pl.ret rfl))))⟩
    · exact ⟨(⟨#[]⟩, false), Ev.bind (wdSet l) (Pl.pos (decide_eq_true h) (Pl.pos (by omega) (sj l m))), Ev.bind (isSet l (by omega)) (Pl.pos (decide_eq_true h) (Pl.neg h60 (Pl.ret rfl)))⟩
  · exact ⟨(⟨#[]⟩, false), Ev.bind (wdSet l) (Pl.neg (by simp [h]) (sj l m)), Ev.bind (isSet l (by omega)) (Pl.neg (by simp [h]) (Pl.ret rfl))⟩
theorem FnExactWriteMessage (l : List ByteArray) (m : List Int) (hb : l.length * 16 ≤ 140737488351232) (hs : ∀ s ∈ l, s.size ≤ maxLen) (_ : m.length * 8 ≤ 140737488351232) (_ : ∀ n ∈ m, (Lit.int .i64 n).wf = true) : ∃ k, laws_FnExactWriteMessage.f k l m = some true := by
  refine Ev.rounds ?_
  unfold laws_FnExactWriteMessage.f
  by_cases hm1 : (m.length : Int) > 1048576
  · exact Pl.pos hm1 (Pl.ret rfl)
  obtain ⟨r, hr, hq⟩ := szStringS l hb hs 1048576 (by omega) (by omega)
  refine Pl.neg hm1 (Ev.bind hr ?_)
  by_cases hc : r < 0
  · exact Pl.pos hc (Pl.ret rfl)
  obtain ⟨_, hl, _⟩ := hq (by omega)
  have hm : m.length ≤ 1048576 := by omega
  obtain ⟨v, h1, h2⟩ := both l m hl hm
  refine Pl.neg hc (Ev.bind (toStringS l hl) (Ev.bind (toIntS m hm) (Ev.bind h1 (Ev.bind (toStringS l hl) (Ev.bind (toIntS m hm) (Ev.bind h2 (Pl.pos (by first | rfl | trivial) (Pl.succ ?_))))))))
  simp only [laws_FnExactWriteMessage.j0]
  refine Pl.neg (by simp) (Ev.bind (toStringS l hl) (Ev.bind (eqStringS l (by omega)) (Pl.pos rfl (Ev.bind (toIntS m hm) (Ev.bind (eqIntS m (by omega)) (Pl.pos rfl (Pl.ret rfl)))))))

end Go.Proofs.YtmgankgjjnegaaaDoor.Pure

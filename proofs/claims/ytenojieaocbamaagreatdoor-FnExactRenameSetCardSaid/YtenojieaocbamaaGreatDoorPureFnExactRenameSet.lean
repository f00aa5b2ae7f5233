/- RenameSet: the program's answer is the reference's, for all arguments; no condition. -/
import Derived.Test.YtenojieaocbamaaGreatDoorSrt
import Derived.Test.YtenojieaocbamaaGreatDoorNm
import Derived.Test.YtenojieaocbamaaGreatDoorLwZ
import Derived.Test.YtenojieaocbamaaGreatDoorLwS
import Derived.Test.YtenojieaocbamaaGreatDoorLwIe
import Derived.Test.YtenojieaocbamaaGreatDoorLwT
import Derived.Test.YtenojieaocbamaaGreatDoorXx1
import Derived.Test.YtenojieaocbamaaGreatDoorXx11
import Derived.Test.YtenojieaocbamaaGreatDoorXx12
namespace Go.Proofs.YtenojieaocbamaaGreatDoor.Pure
open Go.RowKit Go.Proofs.YtenojieaocbamaaGreatDoor.X Go.Proofs.YtenojieaocbamaaGreatDoorW.PrintWords Go.Proofs.YtenojieaocbamaaGreatDoorW.PrintLast Go.Proofs.YtenojieaocbamaaGreatDoor

theorem l1All_l (lo hi : Int) (l : List Int) (hl : l.length ≤ 1048576) (d : Nat) : ∀ i : Nat, i + d = l.length → Ev (fun k => spec_l1All.l0 k lo hi l (l.length : Int) (i : Int)) ((l.drop i).all fun x => decide (lo ≤ x ∧ x ≤ hi)) := by
  induction d with
  | zero =>
    intro i hd
    refine Pl.succ ?_
    simp only [spec_l1All.l0]
    rw [List.drop_of_length_le (by omega)]
    exact Pl.neg (by omega) (Pl.ret rfl)
  | succ d ih =>
    intro i hd
    have hil : i < l.length := by omega
    refine Pl.succ ?_
    simp only [spec_l1All.l0, l1In_eq', Option.bind_some]
    rw [Pl.rd_nat _ i hil, Pl.w64 (n := (i : Int) + 1) (by omega) (by omega), List.drop_eq_getElem_cons hil, List.all_cons]
    refine Pl.pos (by omega) (Pl.pos (by omega) (Pl.pos (by omega) ?_))
    cases hq : decide (lo ≤ l[i] ∧ l[i] ≤ hi) with
    | true => exact Pl.pos rfl (Pl.via (ih (i + 1) (by omega)) (by rw [Bool.true_and]))
    | false => exact Pl.neg (by decide) (Pl.ret rfl)
theorem l1Has_l (x : Int) (l : List Int) (hl : l.length ≤ 1048576) (d : Nat) : ∀ i : Nat, i + d = l.length → Ev (fun k => spec_l1Has.l0 k x l (l.length : Int) (i : Int)) (decide (x ∈ l.drop i)) := by
  induction d with
  | zero =>
    intro i hd
    refine Pl.succ ?_
    simp only [spec_l1Has.l0]
    rw [List.drop_of_length_le (by omega)]
    exact Pl.neg (by omega) (Pl.ret (by simp))
  | succ d ih =>
    intro i hd
    have hil : i < l.length := by omega
    refine Pl.succ ?_
    simp only [spec_l1Has.l0]
    rw [Pl.rd_nat _ i hil, Pl.w64 (n := (i : Int) + 1) (by omega) (by omega), List.drop_eq_getElem_cons hil]
    refine Pl.pos (by omega) (Pl.pos (by omega) (Pl.pos (by omega) ?_))
    by_cases h : l[i] = x
    · exact Pl.pos h (Pl.ret (by simp [h]))
    · refine Pl.neg h (Pl.via (ih (i + 1) (by omega)) ?_)
      have hne : ¬ x = l[i] := fun e => h e.symm
      exact decide_eq_decide.2 ⟨List.mem_cons_of_mem _, fun q => (List.mem_cons.1 q).resolve_left hne⟩
theorem l1Has (x : Int) (l : List Int) (hl : l.length ≤ 1048576) : Ev (fun k => spec_l1Has.f k l x) (decide (x ∈ l)) :=
  Pl.via (l1Has_l x l hl l.length 0 (by omega)) (by rw [List.drop_zero])
def nmOK (m : List Int) : Prop := ∀ j (h : j < m.length), ¬ m[j] ∈ m.take j
theorem nm_iff (m : List Int) (h3 : m.length = 3) (hr : ∀ x ∈ m, 0 ≤ x ∧ x ≤ 2) : nmOK m ↔ srtI m = [0, 1, 2] := by
  rw [names_iff]
  match m, h3, hr with
  | [a, b, c], _, hr =>
    have ha := hr a (by simp)
    have hb := hr b (by simp)
    have hc := hr c (by simp)
    have qa : a = 0 ∨ a = 1 ∨ a = 2 := by omega
    have qb : b = 0 ∨ b = 1 ∨ b = 2 := by omega
    have qc : c = 0 ∨ c = 1 ∨ c = 2 := by omega
    clear ha hb hc hr
    unfold nmOK
    rcases qa with rfl | rfl | rfl <;> rcases qb with rfl | rfl | rfl <;> rcases qc with rfl | rfl | rfl <;> decide
theorem abc_ext (x : Int) (hx : x = 0 ∨ x = 1 ∨ x = 2) : ((⟨#[97, 98, 99]⟩ : ByteArray).extract x.toNat (wrap64 (x + 1)).toNat).data.toList = [UInt8.ofNat (97 + x.toNat)] := by
  have h := toL_ex (⟨#[97, 98, 99]⟩ : ByteArray) x.toNat (wrap64 (x + 1)).toNat
  rw [Pl.toL] at h
  rw [h, Pl.w64 (by omega) (by omega), show bts (⟨#[97, 98, 99]⟩ : ByteArray) = [97, 98, 99] from rfl]
  rcases hx with rfl | rfl | rfl <;> rfl
/-- What has been written of a word. -/
def preW (m : List Int) (s : ByteArray) (i : Nat) : ByteArray := ⟨(((bts s).take i).map (renC m)).toArray⟩
theorem preW_size (m : List Int) (s : ByteArray) (i : Nat) (h : i ≤ s.size) : (preW m s i).size = i := by
  unfold preW
  show (((bts s).take i).map (renC m)).toArray.size = i
  rw [List.size_toArray, List.length_map, List.length_take, bts_len]
  omega
theorem ren_l2 (m : List Int) (h3 : m.length = 3) (hr : ∀ x ∈ m, x = 0 ∨ x = 1 ∨ x = 2) (s : ByteArray) (hs : s.size ≤ 8) (ha : ∀ b ∈ bts s, 97 ≤ b.toNat ∧ b.toNat ≤ 99) (out l : List ByteArray) (ho : out.length ≤ 1000) (q : Int) (R : List ByteArray × Bool)
    (hk : Ev (fun k => spec_RenameSet.l1 k m (put out (renB m s)) l (l.length : Int) (wrap64 (q + 1))) R) (d : Nat) : ∀ i : Nat, i + d = s.size → Ev (fun k => spec_RenameSet.l2 k m out s (preW m s i) (i : Int) l (l.length : Int) q) R := by
  induction d with
  | zero =>
    intro i hd
    refine Pl.succ ?_
    simp only [spec_RenameSet.l2]
    have e : preW m s i = renB m s := by
      unfold preW renB
      rw [List.take_of_length_le (by rw [bts_len]; omega)]
    rw [e]
    exact Pl.neg (by omega) (Ev.bind (wdPut out _ (by omega)) hk)
  | succ d ih =>
    intro i hd
    have hil : i < s.size := by omega
    have hbl : i < (bts s).length := by rw [bts_len]; exact hil
    have hb := ha _ (List.getElem_mem hbl)
    obtain ⟨q2, hq2⟩ : ∃ q2 : Nat, (bts s)[i].toNat = 97 + q2 := ⟨(bts s)[i].toNat - 97, by omega⟩
    have hql : q2 < m.length := by omega
    have hx := hr _ (List.getElem_mem hql)
    have he := abc_ext m[q2] hx
    have hsz : ((⟨#[97, 98, 99]⟩ : ByteArray).extract m[q2].toNat (wrap64 (m[q2] + 1)).toNat).size = 1 := by
      rw [← bts_len]
      show List.length (((⟨#[97, 98, 99]⟩ : ByteArray).extract m[q2].toNat (wrap64 (m[q2] + 1)).toNat).data.toList) = 1
      rw [he]
      rfl
    have hp := preW_size m s i (by omega)
    have hw : wrap64 (m[q2] + 1) = m[q2] + 1 := Pl.w64 (by omega) (by omega)
    have hstep : preW m s i ++ (⟨#[97, 98, 99]⟩ : ByteArray).extract m[q2].toNat (wrap64 (m[q2] + 1)).toNat = preW m s (i + 1) := by
      refine Pl.ba_ext ?_
      rw [Pl.toL, Pl.toL, ByteArray.data_append, Array.toList_append, he]
      unfold preW
      rw [List.take_succ_eq_append_getElem hbl, List.map_append]
      show ((bts s).take i).map (renC m) ++ _ = ((bts s).take i).map (renC m) ++ _
      congr 1
      show [_] = [renC m (bts s)[i]]
      unfold renC
      rw [hq2, Nat.add_sub_cancel_left, List.getD_eq_getElem?_getD, List.getElem?_eq_getElem hql]
      rfl
    refine Pl.succ ?_
    simp only [spec_RenameSet.l2]
    rw [bt_nat s i hil, hq2, show (((97 + q2 : Nat) : Int) - 97) % 256 = ((q2 : Nat) : Int) by omega, Pl.rd_nat _ q2 hql, Pl.w64 (n := (i : Int) + 1) (by omega) (by omega)]
    refine Pl.pos (by omega) (Pl.pos (by omega) (Pl.pos (by omega) (Pl.pos (by omega) (Pl.pos (by omega) (Pl.pos (by omega) (Pl.pos (by omega) (Pl.pos (by omega) ?_)))))))
    rw [hstep]
    exact ih (i + 1) (by omega)
theorem ren_l1 (m : List Int) (h3 : m.length = 3) (hr : ∀ x ∈ m, x = 0 ∨ x = 1 ∨ x = 2) (l : List ByteArray) (hl : l.length ≤ 12) (hs : ∀ s ∈ l, s.size ≤ 8 ∧ ∀ b ∈ bts s, 97 ≤ b.toNat ∧ b.toNat ≤ 99) (d : Nat) : ∀ (i : Nat) (out : List ByteArray), i + d = l.length → out.length ≤ i →
    Ev (fun k => spec_RenameSet.l1 k m out l (l.length : Int) (i : Int)) (puts ((l.drop i).map (renB m)) out, true) := by
  induction d with
  | zero =>
    intro i out hd ho
    refine Pl.succ ?_
    simp only [spec_RenameSet.l1]
    rw [List.drop_of_length_le (by omega)]
    exact Pl.neg (by omega) (Pl.ret rfl)
  | succ d ih =>
    intro i out hd ho
    have hil : i < l.length := by omega
    have hsi := hs _ (List.getElem_mem hil)
    have hp := put_len out (renB m l[i])
    refine Pl.succ ?_
    simp only [spec_RenameSet.l1]
    rw [Pl.rdS_nat _ i hil]
    refine Pl.pos (by omega) (Pl.pos (by omega) (Pl.pos (by omega) ?_))
    have h0 : preW m l[i] 0 = (⟨#[]⟩ : ByteArray) := by simp [preW]
    have := ren_l2 m h3 hr l[i] hsi.1 hsi.2 out l (by omega) (i : Int) (puts ((l.drop i).map (renB m)) out, true) (by
      rw [Pl.w64 (n := (i : Int) + 1) (by omega) (by omega), List.drop_eq_getElem_cons hil, List.map_cons]
      exact ih (i + 1) _ (by omega) (by omega)) l[i].size 0 (by omega)
    rw [h0] at this
    exact this
theorem ren_l0 (l : List ByteArray) (m : List Int) (hm : m.length ≤ 1000) (R : List ByteArray × Bool) (hk : nmOK m → Ev (fun k => spec_RenameSet.l1 k m [] l (l.length : Int) 0) R) (hno : ¬ nmOK m → R = ([], false)) (d : Nat) : ∀ i : Nat, i + d = m.length → (∀ j (h : j < m.length), j < i → ¬ m[j] ∈ m.take j) →
    Ev (fun k => spec_RenameSet.l0 k l m m (m.length : Int) (i : Int)) R := by
  induction d with
  | zero =>
    intro i hd hj
    refine Pl.succ ?_
    simp only [spec_RenameSet.l0]
    exact Pl.neg (by omega) (hk fun j h => hj j h (by omega))
  | succ d ih =>
    intro i hd hj
    have hil : i < m.length := by omega
    refine Pl.succ ?_
    simp only [spec_RenameSet.l0]
    rw [Pl.rd_nat _ i hil, Int.toNat_natCast, Pl.w64 (n := (i : Int) + 1) (by omega) (by omega)]
    refine Pl.pos (by omega) (Pl.pos (by omega) (Pl.pos (by omega) (Pl.pos (by omega) (Ev.bind (l1Has m[i] (m.take i) (by rw [List.length_take]; omega)) ?_))))
    by_cases h : m[i] ∈ m.take i
    · exact Pl.pos (decide_eq_true h) (Pl.ret (hno fun q => q i hil h).symm)
    · refine Pl.neg (by simp [h]) (ih (i + 1) (by omega) fun j hjl hji => ?_)
      by_cases e : j = i
      · subst e; exact h
      · exact hj j hjl (by omega)
theorem isL_abc {b : UInt8} (h : isL b = true) : 97 ≤ b.toNat ∧ b.toNat ≤ 99 := by
  unfold isL at h
  simp only [Bool.or_eq_true, beq_iff_eq] at h
  rcases h with (rfl | rfl) | rfl <;> decide
theorem both (l : List ByteArray) (m : List Int) (hl : l.length ≤ 1048576) (hm : m.length ≤ 1048576) : ∃ v : List ByteArray × Bool, v.1.length ≤ 1048576 ∧ Ev (fun k => spec_RenameSet.f k l m) v ∧ Ev (fun k => impl_RenameSet.f k l m) v := by
  unfold spec_RenameSet.f impl_RenameSet.f
  have j0 : Ev (fun k => spec_RenameSet.j0 k l m true) ([], false) := by
    refine Pl.succ ?_
    simp only [spec_RenameSet.j0]
    exact Pl.pos trivial (Pl.ret rfl)
  by_cases h : wset l
  · have h12 := h.1
    have hsz : ∀ s ∈ l, s.size ≤ 8 ∧ ∀ b ∈ bts s, 97 ≤ b.toNat ∧ b.toNat ≤ 99 := fun s hs => by
      have h1 := wset_short h s hs
      refine ⟨(wshort_size h1).2, fun b hb => ?_⟩
      unfold wshort at h1
      simp only [Bool.and_eq_true] at h1
      exact isL_abc (List.all_eq_true.1 h1.2 b hb)
    have habc : l.all abcB = true := List.all_eq_true.2 fun s hs => by
      unfold abcB
      rw [Bool.and_eq_true, decide_eq_true_eq]
      exact ⟨by have := (hsz s hs).1; omega, List.all_eq_true.2 fun b hb => decide_eq_true ((hsz s hs).2 b hb)⟩
    have hp := (puts_ok (l.map (renB m)) [] List.Pairwise.nil).2.2
    rw [List.length_map] at hp
    simp only [List.length_nil] at hp
    have hw := isSet l (by omega)
    have hd := wdSet l
    by_cases h3 : m.length = 3
    · by_cases hr : ∀ x ∈ m, 0 ≤ x ∧ x ≤ 2
      · have hr3 : ∀ x ∈ m, x = 0 ∨ x = 1 ∨ x = 2 := fun x hx => by have := hr x hx; omega
        have hall : Ev (fun k => spec_l1All.f k m 0 2) true := by
          have := l1All_l 0 2 m hm m.length 0 (by omega)
          rw [List.drop_zero, List.all_eq_true.2 (fun x hx => decide_eq_true (hr x hx))] at this
          exact this
        have hgo : ∀ R, (nmOK m → Ev (fun k => spec_RenameSet.l1 k m [] l (l.length : Int) 0) R) → (¬ nmOK m → R = ([], false)) → Ev (fun k => spec_RenameSet.j0 k l m (!true)) R := fun R q1 q2 => by
          refine Pl.succ ?_
          simp only [spec_RenameSet.j0]
          exact Pl.neg (by decide) (ren_l0 l m (by omega) R q1 q2 m.length 0 (by omega) fun j _ hj => absurd hj (Nat.not_lt_zero _))
        have hl1 := ren_l1 m h3 hr3 l h12 hsz l.length 0 [] (by omega) (by simp)
        rw [List.drop_zero] at hl1
        by_cases hn : srtI m = [0, 1, 2]
        · exact ⟨(puts (l.map (renB m)) [], true), by show (puts _ _).length ≤ _; omega, Ev.bind hd (Pl.pos (decide_eq_true h) (Pl.pos (by omega) (Ev.bind hall (hgo _ (fun _ => hl1) (fun q => absurd ((nm_iff m h3 hr).2 hn) q))))), Ev.bind hw (Pl.pos (decide_eq_true h) (Pl.pos (by omega) (Pl.pos hn (Pl.pos (by omega) (Pl.pos habc (Pl.ret (by rw [ordB_puts])))))))⟩
        · exact ⟨([], false), by simp, Ev.bind hd (Pl.pos (decide_eq_true h) (Pl.pos (by omega) (Ev.bind hall (hgo _ (fun q => absurd ((nm_iff m h3 hr).1 q) hn) (fun _ => rfl))))), Ev.bind hw (Pl.pos (decide_eq_true h) (Pl.pos (by omega) (Pl.neg hn (Pl.ret rfl))))⟩
      · have hn : ¬ srtI m = [0, 1, 2] := fun e => hr fun x hx => by have := (names3 e).2 x hx; omega
        have hall : Ev (fun k => spec_l1All.f k m 0 2) false := by
          have := l1All_l 0 2 m hm m.length 0 (by omega)
          rw [List.drop_zero] at this
          refine Pl.via this ?_
          rw [← Bool.not_eq_true, List.all_eq_true]
          exact fun q => hr fun x hx => of_decide_eq_true (q x hx)
        exact ⟨([], false), by simp, Ev.bind hd (Pl.pos (decide_eq_true h) (Pl.pos (by omega) (Ev.bind hall j0))), Ev.bind hw (Pl.pos (decide_eq_true h) (Pl.pos (by omega) (Pl.neg hn (Pl.ret rfl))))⟩
    · have hn : ¬ srtI m = [0, 1, 2] := fun e => h3 (names3 e).1
      exact ⟨([], false), by simp, Ev.bind hd (Pl.pos (decide_eq_true h) (Pl.neg (by omega) j0)), Ev.bind hw (Pl.pos (decide_eq_true h) (Pl.pos (by omega) (Pl.neg hn (Pl.ret rfl))))⟩
  · exact ⟨([], false), by simp, Ev.bind (wdSet l) (Pl.neg (by simp [h]) j0), Ev.bind (isSet l (by omega)) (Pl.neg (by simp [h]) (Pl.ret rfl))⟩
theorem markIG (c : Int) (h0 : 0 ≤ c) (h1 : c ≤ 1099511627776) (n : Nat) (hn : n ≤ 1048576) (d : Nat) : ∀ (i : Nat) (x : List Int), i + d = n → x.length = n → ∃ x', Ev (fun k => laws_markIntS.l0 k x (c + (i : Int)) (i : Int)) (c + (n : Int), x') := by
  induction d with
  | zero =>
    intro i x hd hx
    refine ⟨x, Pl.succ ?_⟩
    simp only [laws_markIntS.l0]
    obtain rfl : i = n := by omega
    exact Pl.neg (by omega) (Pl.ret rfl)
  | succ d ih =>
    intro i x hd hx
    obtain ⟨x', h⟩ := ih (i + 1) (x.set i (c + (i : Int))) (by omega) (by simpa using hx)
    refine ⟨x', Pl.succ ?_⟩
    simp only [laws_markIntS.l0]
    refine Pl.pos (by omega) (Pl.pos (by omega) ?_)
    rw [Pl.w64 (by omega) (by omega), Pl.w64 (by omega) (by omega), Int.toNat_natCast, show c + (i : Int) + 1 = c + ((i + 1 : Nat) : Int) by omega]
    exact h
theorem FnExactRenameSet (l : List ByteArray) (m : List Int) (hb : l.length * 16 ≤ 140737488351232) (hs : ∀ s ∈ l, s.size ≤ maxLen) (_ : m.length * 8 ≤ 140737488351232) (_ : ∀ n ∈ m, (Lit.int .i64 n).wf = true) : ∃ k, laws_FnExactRenameSet.f k l m = some true := by
  refine Ev.rounds ?_
  unfold laws_FnExactRenameSet.f
  by_cases hm1 : (m.length : Int) > 1048576
  · exact Pl.pos hm1 (Pl.ret rfl)
  obtain ⟨r, hr, hq⟩ := szStringS l hb hs 1048576 (by omega) (by omega)
  refine Pl.neg hm1 (Ev.bind hr ?_)
  by_cases hc : r < 0
  · exact Pl.pos hc (Pl.ret rfl)
  obtain ⟨_, hl, _⟩ := hq (by omega)
  have hm : m.length ≤ 1048576 := by omega
  obtain ⟨⟨g, b⟩, hlen, h1, h2⟩ := both l m hl hm
  simp only at hlen
  obtain ⟨mg, hg1, hg2⟩ := marksS g (by omega)
  obtain ⟨ms, hs1, hs2⟩ := marksS l (by omega)
  obtain ⟨mi, hi1⟩ := markIG (1 + (l.length : Int)) (by omega) (by omega) m.length hm m.length 0 m (by omega) rfl
  have hi2 : Ev (fun k => laws_markIntS.f k m (1 + (l.length : Int))) (1 + (l.length : Int) + (m.length : Int), mi) := by
    unfold laws_markIntS.f
    simpa using hi1
  refine Pl.neg hc (Ev.bind (toStringS l hl) (Ev.bind (toIntS m hm) (Ev.bind h1 (Ev.bind (toStringS l hl) (Ev.bind (toIntS m hm) (Ev.bind h2 (Ev.bind (eqStringS g (by omega)) (Pl.pos rfl (Pl.succ ?_)))))))))
  simp only [laws_FnExactRenameSet.j0]
  refine Pl.neg (by simp) (Ev.bind (toStringS l hl) (Ev.bind (eqStringS l (by omega)) (Pl.pos rfl (Ev.bind (toIntS m hm) (Ev.bind (eqIntS m (by omega)) (Pl.pos rfl (Ev.bind hs1 (Ev.bind hi2 (Pl.neg (by show ¬ (1 + (l.length : Int) + (m.length : Int)) < 0; omega) (Ev.bind (eqStringS g (by omega)) (Pl.pos rfl (Pl.succ ?_))))))))))))
  simp only [laws_FnExactRenameSet.j1]
  refine Pl.neg (by simp) (Ev.bind hg1 (Ev.bind hg2 (Pl.neg (by omega) (Pl.pos rfl (Ev.bind (toStringS l hl) (Ev.bind (toIntS m hm) (Ev.bind h2 (Ev.bind (eqStringS g (by omega)) (Pl.pos rfl (Pl.succ ?_))))))))))
  simp only [laws_FnExactRenameSet.j2]
  exact Pl.neg (by simp) (Ev.bind hg2 (Pl.neg (by omega) (Pl.pos rfl (Pl.ret rfl))))

end Go.Proofs.YtenojieaocbamaaGreatDoor.Pure

/- What is left of the words of one list behind those of another one: program and reference; lists no longer than sets are. -/
import Derived.Test.YtkphnakihjiebaaDoorSrt
import Derived.Test.YtkphnakihjiebaaDoorXx15
namespace Go.Proofs.YtkphnakihjiebaaDoor.X
open Go.RowKit Go.Proofs.YtkphnakihjiebaaDoorW.PrintWords Go.Proofs.YtkphnakihjiebaaDoorW.PrintLast Go.Proofs.YtkphnakihjiebaaDoorW.PrintMore Go.Proofs.YtkphnakihjiebaaDoor

def bgQ (s t : ByteArray) : Bool := decide (t.size ≤ s.size) && ((s.extract 0 t.size).toList == t.toList)
theorem wdBegins_q (s t : ByteArray) : spec_wdBegins.f s t = some (bgQ s t) := by
  unfold spec_wdBegins.f bgQ
  by_cases h : t.size ≤ s.size
  · rw [if_pos (by omega), if_pos (by omega), decide_eq_true h]; rfl
  · rw [if_neg (by omega), decide_eq_false h]; rfl
theorem cutPrefix_q (s t : ByteArray) : strings_CutPrefix.f s t = some (if bgQ s t = true then (s.extract t.size s.size, true) else (s, false)) := by
  unfold strings_CutPrefix.f stringslite_CutPrefix.f stringslite_HasPrefix.f bgQ
  by_cases h : t.size ≤ s.size
  · rw [if_pos (by omega), if_pos (by omega), if_pos (by omega), decide_eq_true h, Bool.true_and, Int.toNat_natCast, Option.bind_some]
    cases hq : (s.extract 0 t.size).toList == t.toList with
    | true => rw [if_pos rfl, if_pos (by omega), if_pos (by omega), if_pos rfl]; rfl
    | false => rfl
  · rw [if_neg (by omega), decide_eq_false h]; rfl
theorem ext_nil (s : ByteArray) (n : Nat) (h : n ≤ s.size) : (s.extract n s.size).toList = [] ↔ s.size = n := by
  rw [toL_ex, List.take_eq_nil_iff, List.drop_eq_nil_iff]
  have : (bts s).length = s.size := bts_len s
  omega
/-- The rest of t behind s, if there is one and it is not empty. -/
def rest (s t : ByteArray) : List ByteArray := if bgQ t s = true ∧ s.size < t.size then [t.extract s.size t.size] else []
def quot (a b : List ByteArray) : List ByteArray := a.flatMap fun s => b.flatMap (rest s)
theorem puts_app' (a b out : List ByteArray) : puts (a ++ b) out = puts b (puts a out) := List.foldl_append
theorem rest_len (s t : ByteArray) : (rest s t).length ≤ 1 := by unfold rest; split <;> simp
theorem rests_len (s : ByteArray) (b : List ByteArray) : (b.flatMap (rest s)).length ≤ b.length := by
  induction b with
  | nil => simp
  | cons t b ih => rw [List.flatMap_cons, List.length_append, List.length_cons]; have := rest_len s t; omega
theorem quot_len (a b : List ByteArray) : (quot a b).length ≤ a.length * b.length := by
  unfold quot
  induction a with
  | nil => simp
  | cons s a ih => rw [List.flatMap_cons, List.length_append, List.length_cons, Nat.succ_mul]; have := rests_len s b; omega
theorem wdQuotient_l (a b : List ByteArray) (ha : a.length ≤ 1000) (hb : b.length ≤ 1000) (d : Nat) : ∀ (i : Nat) (out : List ByteArray), i + d = a.length → out.length ≤ b.length * i →
    Ev (fun k => spec_wdQuotient.l0 k b out a (a.length : Int) (i : Int)) (puts (quot (a.drop i) b) out) := by
  induction d with
  | zero =>
    intro i out hd ho
    refine Pl.succ ?_
    simp only [spec_wdQuotient.l0]
    exact Pl.neg (by omega) (Pl.ret (by rw [List.drop_of_length_le (by omega)]; rfl))
  | succ d ih =>
    intro i out hd ho
    have hia : i < a.length := by omega
    have hmul : b.length * i ≤ 1000 * 1000 := Nat.mul_le_mul hb (by omega)
    have hsuc : b.length * (i + 1) = b.length * i + b.length := Nat.mul_succ _ _
    have hin : ∀ (e j : Nat) (out : List ByteArray), j + e = b.length → out.length ≤ b.length * i + j → Ev (fun k => spec_wdQuotient.l1 k b out a[i] a (a.length : Int) (i : Int) b (b.length : Int) (j : Int)) (puts (quot (a.drop (i + 1)) b) (puts ((b.drop j).flatMap (rest a[i])) out)) := by
      intro e
      induction e with
      | zero =>
        intro j out hj ho
        refine Pl.succ ?_
        simp only [spec_wdQuotient.l1]
        rw [Pl.w64 (n := (i : Int) + 1) (by omega) (by omega), List.drop_of_length_le (show b.length ≤ j by omega)]
        exact Pl.neg (by omega) (Pl.via (ih (i + 1) out (by omega) (by omega)) rfl)
      | succ e ihe =>
        intro j out hj ho
        have hjb : j < b.length := by omega
        have hp := put_len out (b[j].extract a[i].size b[j].size)
        refine Pl.succ ?_
        simp only [spec_wdQuotient.l1, wdBegins_q, Option.bind_some]
        rw [Pl.rdS_nat _ j hjb, Pl.w64 (n := (j : Int) + 1) (by omega) (by omega), Int.toNat_natCast, List.drop_eq_getElem_cons hjb, List.flatMap_cons, puts_app']
        refine Pl.pos (by omega) (Pl.pos (by omega) (Pl.pos (by omega) ?_))
        by_cases h1 : a[i].size < b[j].size
        · refine Pl.pos (by omega) ?_
          by_cases h2 : bgQ b[j] a[i] = true
          · have hr : rest a[i] b[j] = [b[j].extract a[i].size b[j].size] := if_pos ⟨h2, h1⟩
            rw [hr]
            exact Pl.pos h2 (Pl.pos (by omega) (Pl.pos (by omega) (Ev.bind (wdPut out _ (by omega)) (ihe (j + 1) _ (by omega) (by omega)))))
          · have hr : rest a[i] b[j] = [] := if_neg (fun q => h2 q.1)
            rw [hr]
            exact Pl.neg h2 (ihe (j + 1) _ (by omega) (by omega))
        · have hr : rest a[i] b[j] = [] := if_neg (fun q => h1 q.2)
          rw [hr]
          exact Pl.neg (by omega) (ihe (j + 1) _ (by omega) (by omega))
    refine Pl.succ ?_
    simp only [spec_wdQuotient.l0]
    rw [Pl.rdS_nat _ i hia]
    refine Pl.pos (by omega) (Pl.pos (by omega) (Pl.pos (by omega) ?_))
    refine Pl.via (hin b.length 0 out (by omega) (by omega)) ?_
    rw [List.drop_eq_getElem_cons hia]
    unfold quot
    rw [List.flatMap_cons, puts_app', List.drop_zero]
theorem wdQuotient (a b : List ByteArray) (ha : a.length ≤ 12) (hb : b.length ≤ 12) : Ev (fun k => spec_wdQuotient.f k a b) (puts (quot a b) []) :=
  Pl.via (wdQuotient_l a b (by omega) (by omega) a.length 0 [] (by omega) (by simp)) (by rw [List.drop_zero])
theorem left_l (a b : List ByteArray) (ha : a.length ≤ 1000) (hb : b.length ≤ 1000) (d : Nat) : ∀ (i : Nat) (out : List ByteArray), i + d = a.length → out.length ≤ b.length * i →
    Ev (fun k => impl_left.l0 k b out a (a.length : Int) (i : Int)) (puts (out ++ quot (a.drop i) b) []) := by
  induction d with
  | zero =>
    intro i out hd ho
    have hmul : b.length * i ≤ 1000 * 1000 := Nat.mul_le_mul hb (by omega)
    refine Pl.succ ?_
    simp only [impl_left.l0, ordered_eq out (by omega), Option.bind_some]
    exact Pl.neg (by omega) (Pl.ret (by rw [List.drop_of_length_le (by omega)]; simp [quot]))
  | succ d ih =>
    intro i out hd ho
    have hia : i < a.length := by omega
    have hmul : b.length * i ≤ 1000 * 1000 := Nat.mul_le_mul hb (by omega)
    have hsuc : b.length * (i + 1) = b.length * i + b.length := Nat.mul_succ _ _
    have hin : ∀ (e j : Nat) (out : List ByteArray), j + e = b.length → out.length ≤ b.length * i + j → Ev (fun k => impl_left.l1 k b out a[i] a (a.length : Int) (i : Int) b (b.length : Int) (j : Int)) (puts (out ++ (b.drop j).flatMap (rest a[i]) ++ quot (a.drop (i + 1)) b) []) := by
      intro e
      induction e with
      | zero =>
        intro j out hj ho
        refine Pl.succ ?_
        simp only [impl_left.l1]
        rw [Pl.w64 (n := (i : Int) + 1) (by omega) (by omega), List.drop_of_length_le (show b.length ≤ j by omega)]
        exact Pl.neg (by omega) (Pl.via (ih (i + 1) out (by omega) (by omega)) (by simp))
      | succ e ihe =>
        intro j out hj ho
        have hjb : j < b.length := by omega
        refine Pl.succ ?_
        simp only [impl_left.l1, cutPrefix_q, Option.bind_some]
        rw [Pl.rdS_nat _ j hjb, Pl.w64 (n := (j : Int) + 1) (by omega) (by omega), List.drop_eq_getElem_cons hjb, List.flatMap_cons]
        refine Pl.pos (by omega) (Pl.pos (by omega) (Pl.pos (by omega) ?_))
        by_cases h2 : bgQ b[j] a[i] = true
        · have hz : a[i].size ≤ b[j].size := by unfold bgQ at h2; simp only [Bool.and_eq_true, decide_eq_true_eq] at h2; exact h2.1
          rw [if_pos h2]
          refine Pl.pos rfl ?_
          by_cases h1 : a[i].size < b[j].size
          · have hr : rest a[i] b[j] = [b[j].extract a[i].size b[j].size] := if_pos ⟨h2, h1⟩
            rw [hr]
            refine Pl.neg (by rw [ext_nil _ _ hz]; omega) (Pl.pos (by omega) ?_)
            exact Pl.via (ihe (j + 1) _ (by omega) (by simp; omega)) (by simp)
          · have hr : rest a[i] b[j] = [] := if_neg (fun q => h1 q.2)
            rw [hr, List.nil_append]
            exact Pl.pos (by rw [ext_nil _ _ hz]; omega) (ihe (j + 1) _ (by omega) (by omega))
        · have hr : rest a[i] b[j] = [] := if_neg (fun q => h2 q.1)
          rw [hr, if_neg h2, List.nil_append]
          exact Pl.neg (by simp) (ihe (j + 1) _ (by omega) (by omega))
    refine Pl.succ ?_
    simp only [impl_left.l0]
    rw [Pl.rdS_nat _ i hia]
    refine Pl.pos (by omega) (Pl.pos (by omega) (Pl.pos (by omega) ?_))
    refine Pl.via (hin b.length 0 out (by omega) (by omega)) ?_
    rw [List.drop_eq_getElem_cons hia]
    unfold quot
    rw [List.flatMap_cons, List.drop_zero, List.append_assoc]
theorem left (a b : List ByteArray) (ha : a.length ≤ 12) (hb : b.length ≤ 12) : Ev (fun k => impl_left.f k a b) (puts (quot a b) []) :=
  Pl.via (left_l a b (by omega) (by omega) a.length 0 [] (by omega) (by simp)) (by rw [List.drop_zero, List.nil_append])

end Go.Proofs.YtkphnakihjiebaaDoor.X

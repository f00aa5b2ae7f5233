/- Marks of two lists of texts, one behind the other; no condition beyond lengths. -/
import Derived.Test.YtkphnakihjiebaaDoorLwS
import Derived.Test.YtkphnakihjiebaaDoorXx1
namespace Go.Proofs.YtkphnakihjiebaaDoor.X
open Go.RowKit Go.Proofs.YtkphnakihjiebaaDoorW.PrintWords Go.Proofs.YtkphnakihjiebaaDoorW.PrintLast Go.Proofs.YtkphnakihjiebaaDoorW.PrintMore Go.Proofs.YtkphnakihjiebaaDoor

theorem markFrom_l (b n : Nat) (hb : 1 ≤ b) (hb2 : b ≤ 1073741824) (hn : n ≤ 1073741824) (d : Nat) : ∀ (i : Nat) (x : List ByteArray), n - i = d → i ≤ n → x.length = n →
    ∃ l', Ev (fun k => laws_markStringS.l0 k x ((b : Int) + (i : Int)) (i : Int)) ((b : Int) + (n : Int), l') := by
  induction d with
  | zero =>
    intro i x hd hi hx
    refine ⟨x, Pl.succ ?_⟩
    simp only [laws_markStringS.l0]
    obtain rfl : i = n := by omega
    exact Pl.neg (by omega) (Pl.ret rfl)
  | succ d ih =>
    intro i x hd hi hx
    obtain ⟨t, ht⟩ := markText (b + i) (by omega) (by omega)
    have e1 : ((b + i : Nat) : Int) = (b : Int) + (i : Int) := by omega
    rw [e1] at ht
    obtain ⟨l', h3⟩ := ih (i + 1) (x.set i t) (by omega) (by omega) (by simpa using hx)
    refine ⟨l', Pl.succ ?_⟩
    simp only [laws_markStringS.l0]
    refine Pl.pos (by omega) (Ev.bind ht (Pl.pos (by omega) ?_))
    rw [Pl.w64 (n := (b : Int) + (i : Int) + 1) (by omega) (by omega), Pl.w64 (n := (i : Int) + 1) (by omega) (by omega), Int.toNat_natCast]
    have e : ((b : Int) + (i : Int) + 1) = (b : Int) + ((i + 1 : Nat) : Int) := by omega
    rw [e]
    exact h3
theorem marksS2 (l m : List ByteArray) (hl : l.length ≤ 1048576) (hm : m.length ≤ 1048576) : ∃ a b, Ev (fun k => laws_markStringS.f k l 1) (1 + (l.length : Int), a) ∧ Ev (fun k => laws_markStringS.f k m (1 + (l.length : Int))) (1 + (l.length : Int) + (m.length : Int), b) := by
  obtain ⟨a, ha, _⟩ := marksS l (by omega)
  obtain ⟨b, hb⟩ := markFrom_l (1 + l.length) m.length (by omega) (by omega) (by omega) m.length 0 m (by omega) (by omega) rfl
  refine ⟨a, b, ha, ?_⟩
  unfold laws_markStringS.f
  rw [show ((1 + l.length : Nat) : Int) = 1 + (l.length : Int) by omega] at hb
  simpa using hb

end Go.Proofs.YtkphnakihjiebaaDoor.X

/- CountCompletePrefix: the program's answer is the reference's, for all arguments; no condition. (All that the proof needs of plain lists stands ahead.) -/
import Derived.Test.YtidjjcgfdkmefaaPl
import Derived.Test.YtidjjcgfdkmefaaXx1
import Derived.Test.YtidjjcgfdkmefaaXx2
import Derived.Test.YtidjjcgfdkmefaaXx3
import Derived.Test.YtidjjcgfdkmefaaXx4
import Derived.Test.YtidjjcgfdkmefaaXx5
namespace Go.Proofs.Ytidjjcgfdkmefaa.X
open Go.RowKit Go.Proofs.YtidjjcgfdkmefaaW.PrintWords Go.Proofs.YtidjjcgfdkmefaaW.PrintLast Go.Proofs.YtidjjcgfdkmefaaW.PrintMore Go.Proofs.Ytidjjcgfdkmefaa

def sumR (g : Nat → Nat) : Nat → Nat → Nat
  | 0, _ => 0
  | c + 1, o => g o + sumR g c (o + 1)
def cs (f : Nat → Nat) : Nat → Nat → Nat
  | 0, n => if n = 0 then 1 else 0
  | p + 1, n => sumR (fun own => f own * cs f p (n - own)) (n - p) 1
def cc (m : Nat) : Nat → Nat → Nat
  | 0, n => if n = 1 then 1 else 0
  | q + 1, n => if n = 1 then 1 else cs (cc m q) m n
theorem cc_bd : ∀ m < 4, ∀ q < 9, ∀ n < 10, 2 ≤ m → cc m q n ≤ 100000 := by decide +kernel
theorem cs_bd : ∀ m < 4, ∀ q < 9, ∀ n < 10, ∀ p < 4, 2 ≤ m → cs (cc m q) p n ≤ 100000 := by decide +kernel
theorem cs_one (f : Nat → Nat) {m : Nat} (hm : 2 ≤ m) : cs f m 1 = 0 := by
  obtain ⟨m, rfl⟩ : ∃ k, m = k + 2 := ⟨m - 2, by omega⟩
  unfold cs
  rw [show 1 - (m + 1) = 0 by omega]
  rfl
theorem pfF_eq (g h : Int → Option Int) (G H : Nat → Nat) (top : Int) : ∀ (c d own sum : Nat), c < d → c = (top + 1 - (own : Int)).toNat → (∀ o : Nat, own ≤ o → (o : Int) ≤ top → g (o : Int) = some (G o : Int) ∧ h (o : Int) = some (H o : Int) ∧ G o ≤ 1000000 ∧ H o ≤ 1000000) → sum + sumR (fun o => G o * H o) c own ≤ 1000000 → pfF g h top d (own : Int) (sum : Int) = some ((sum + sumR (fun o => G o * H o) c own : Nat) : Int)
  | 0, d, own, sum, hd, hc, _, _ => by
    obtain ⟨d, rfl⟩ : ∃ k, d = k + 1 := ⟨d - 1, by omega⟩
    unfold pfF sumR
    rw [if_neg (by omega)]
    rfl
  | c + 1, d, own, sum, hd, hc, hg, hb => by
    obtain ⟨d, rfl⟩ : ∃ k, d = k + 1 := ⟨d - 1, by omega⟩
    obtain ⟨g1, h1, b1, b2⟩ := hg own (Nat.le_refl _) (by omega)
    unfold sumR at hb ⊢
    unfold pfF
    rw [if_pos (by omega), g1, h1, Option.bind_some, Option.bind_some, if_pos (by omega)]
    have ih := pfF_eq g h G H top c d (own + 1) (sum + G own * H own) (by omega) (by omega) (fun o ho => hg o (by omega)) (by omega)
    have e1 : ((own + 1 : Nat) : Int) = (own : Int) + 1 := by omega
    have e2 : ((sum + G own * H own : Nat) : Int) = (sum : Int) + (G own : Int) * (H own : Int) := by rw [Int.natCast_add, Int.natCast_mul]
    rw [e1, e2] at ih
    rw [ih, Nat.add_assoc]
theorem pf_eq {m : Nat} (hm2 : 2 ≤ m) (hm3 : m ≤ 3) (r : Nat) : (∀ (p0 : Int) (q n : Nat), q ≤ 8 → n ≤ 9 → 5 * q + 1 ≤ r → pf r true (m : Int) p0 (n : Int) (q : Int) = some (cc m q n : Int)) ∧ (∀ q p n : Nat, q ≤ 8 → p ≤ 3 → n ≤ 9 → 5 * q + p + 2 ≤ r → pf r false (m : Int) (p : Int) (n : Int) (q : Int) = some (cs (cc m q) p n : Int)) := by
  induction r with
  | zero => exact ⟨fun _ q n _ _ h => absurd h (by omega), fun q p n _ _ _ h => absurd h (by omega)⟩
  | succ r ih =>
    refine ⟨fun p0 q n hq hn hr => ?_, fun q p n hq hp hn hr => ?_⟩
    · unfold pf
      rw [if_pos (by omega)]
      cases q with
      | zero =>
        rw [if_neg (by omega)]
        unfold cc
        by_cases h1 : n = 1
        · rw [if_pos (by omega), if_pos h1]; rfl
        · rw [if_neg (by omega), if_neg h1]; rfl
      | succ q =>
        have hs := ih.2 q m n (by omega) hm3 hn (by omega)
        have hb := cs_bd m (by omega) q (by omega) n (by omega) m (by omega) hm2
        rw [if_pos (by omega), show ((q + 1 : Nat) : Int) - 1 = (q : Int) by omega, hs, Option.bind_some, if_pos (by omega)]
        unfold cc
        by_cases h1 : n = 1
        · subst h1
          rw [cs_one _ hm2]; rfl
        · rw [if_neg (by omega), if_neg h1, Int.zero_add]
    · unfold pf
      rw [if_pos (by omega)]
      cases p with
      | zero =>
        rw [if_pos (show ((0 : Nat) : Int) = 0 from rfl)]
        unfold cs
        by_cases h0 : n = 0
        · rw [if_pos (by omega), if_pos h0]; rfl
        · rw [if_neg (by omega), if_neg h0]; rfl
      | succ p =>
        rw [if_neg (by omega)]
        have hb := cs_bd m (by omega) q (by omega) n (by omega) (p + 1) (by omega) hm2
        have e := pfF_eq (fun k => pf r true (m : Int) 0 k (q : Int)) (fun k => pf r false (m : Int) (((p + 1 : Nat) : Int) - 1) ((n : Int) - k) (q : Int)) (cc m q) (fun o => cs (cc m q) p (n - o)) ((n : Int) - ((p + 1 : Nat) : Int) + 1) (n - p) 1100 1 0 (by omega) (by omega) (fun o ho1 ho2 => by
          have c1 := ih.1 0 q o hq (by omega) (by omega)
          have c2 := ih.2 q p (n - o) hq (by omega) (by omega) (by omega)
          refine ⟨c1, ?_, Nat.le_trans (cc_bd m (by omega) q (by omega) o (by omega) hm2) (by omega), Nat.le_trans (cs_bd m (by omega) q (by omega) (n - o) (by omega) p (by omega) hm2) (by omega)⟩
          show pf r false (m : Int) (((p + 1 : Nat) : Int) - 1) ((n : Int) - (o : Int)) (q : Int) = _
          rw [show ((p + 1 : Nat) : Int) - 1 = (p : Int) by omega, show (n : Int) - (o : Int) = ((n - o : Nat) : Int) by omega]
          exact c2) (by have hb' : sumR (fun o => cc m q o * cs (cc m q) p (n - o)) (n - p) 1 ≤ 100000 := hb; omega)
        rw [show ((1 : Nat) : Int) = 1 from rfl, show ((0 : Nat) : Int) = 0 from rfl] at e
        rw [e, Nat.zero_add]
        rfl
/-- The words of a row: so many, each of so many letters at most. -/
def okRow (n B : Nat) (l : List ByteArray) : Prop := l.length = n ∧ ∀ s ∈ l, s.size ≤ B
theorem abcT_size (k : Nat) : (abcT (k : Int)).size ≤ 1 := by
  unfold abcT
  rw [ByteArray.size_extract, show ((k : Int) + 1).toNat = k + 1 by omega, Int.toNat_natCast]
  show min (k + 1) 3 - k ≤ 1
  omega

/-- The lists that go on some words by trees behind one letter. -/
theorem trL_eq (g : List ByteArray → List (List ByteArray) → Option (List (List ByteArray))) (kb : ByteArray) (hkb : kb.size ≤ 1) (done : List ByteArray) (o B N w : Nat) (ho : o ≤ 9) (hB : B ≤ 100)
    (hg : ∀ (l : List ByteArray) (Ls : List (List ByteArray)), okRow o B l → Ls.length + N ≤ 1000000 → ∃ M : List (List ByteArray), M.length = N ∧ (∀ r ∈ M, okRow w (B + 1) r) ∧ g (done ++ l.map (kb ++ ·)) Ls = some (Ls ++ M)) :
    ∀ (ls Ls : List (List ByteArray)), (∀ l ∈ ls, okRow o B l) → Ls.length + ls.length * N ≤ 1000000 → ∃ M : List (List ByteArray), M.length = ls.length * N ∧ (∀ r ∈ M, okRow w (B + 1) r) ∧ trL g kb done ls Ls = some (Ls ++ M)
  | [], Ls, _, _ => ⟨[], by simp, by simp, by unfold trL; rw [List.append_nil]⟩
  | l :: ls, Ls, hl, hb => by
    have h1 := hl l List.mem_cons_self
    have e : (l :: ls).length * N = N + ls.length * N := by rw [List.length_cons, Nat.add_mul]; omega
    rw [e] at hb ⊢
    obtain ⟨M1, a1, a2, a3⟩ := hg l Ls h1 (by omega)
    obtain ⟨M2, b1, b2, b3⟩ := trL_eq g kb hkb done o B N w ho hB hg ls (Ls ++ M1) (fun x hx => hl x (List.mem_cons_of_mem _ hx)) (by rw [List.length_append]; omega)
    refine ⟨M1 ++ M2, by rw [List.length_append]; omega, fun r hr => (List.mem_append.1 hr).elim (a2 r) (b2 r), ?_⟩
    unfold trL
    rw [if_pos ⟨by have := h1.1; omega, List.all_eq_true.2 fun s hs => decide_eq_true (by have := h1.2 s hs; omega)⟩, a3, Option.bind_some, b3, List.append_assoc]

theorem trO_eq (T : Int → Option (List (List ByteArray))) (g : Int → List ByteArray → List (List ByteArray) → Option (List (List ByteArray))) (kb : ByteArray) (done : List ByteArray) (top : Int) (G H : Nat → Nat) (w B : Nat) : ∀ (c d own : Nat) (Ls : List (List ByteArray)), c < d → c = (top + 1 - (own : Int)).toNat →
    (∀ o : Nat, own ≤ o → (o : Int) ≤ top → ∃ ls : List (List ByteArray), T (o : Int) = some ls ∧ ls.length ≤ 1000000 ∧ ∀ Ls' : List (List ByteArray), Ls'.length + G o * H o ≤ 1000000 → ∃ M : List (List ByteArray), M.length = G o * H o ∧ (∀ r ∈ M, okRow w B r) ∧ trL (g (o : Int)) kb done ls Ls' = some (Ls' ++ M)) →
    Ls.length + sumR (fun o => G o * H o) c own ≤ 1000000 → ∃ M : List (List ByteArray), M.length = sumR (fun o => G o * H o) c own ∧ (∀ r ∈ M, okRow w B r) ∧ trO T g kb done top d (own : Int) Ls = some (Ls ++ M)
  | 0, d, own, Ls, hd, hc, _, _ => by
    obtain ⟨d, rfl⟩ : ∃ k, d = k + 1 := ⟨d - 1, by omega⟩
    refine ⟨[], rfl, by simp, ?_⟩
    unfold trO
    rw [if_neg (by omega), List.append_nil]
  | c + 1, d, own, Ls, hd, hc, hg, hb => by
    obtain ⟨d, rfl⟩ : ∃ k, d = k + 1 := ⟨d - 1, by omega⟩
    obtain ⟨ls, h1, h2, h3⟩ := hg own (Nat.le_refl _) (by omega)
    unfold sumR at hb ⊢
    obtain ⟨M1, a1, a2, a3⟩ := h3 Ls (by omega)
    obtain ⟨M2, b1, b2, b3⟩ := trO_eq T g kb done top G H w B c d (own + 1) (Ls ++ M1) (by omega) (by omega) (fun o ho => hg o (by omega)) (by rw [List.length_append]; omega)
    refine ⟨M1 ++ M2, by rw [List.length_append]; omega, fun r hr => (List.mem_append.1 hr).elim (a2 r) (b2 r), ?_⟩
    unfold trO
    rw [if_pos (by omega), h1, Option.bind_some, if_pos h2, a3, Option.bind_some]
    have e1 : ((own + 1 : Nat) : Int) = (own : Int) + 1 := by omega
    rw [← e1, b3, List.append_assoc]
theorem ad_eq (T : Int → Option (List (List ByteArray))) (f : Nat → Nat) (m B : Nat) (hm : m ≤ 3) (hB : B ≤ 50) (hT : ∀ o : Nat, o ≤ 9 → ∃ ls : List (List ByteArray), T (o : Int) = some ls ∧ ls.length = f o ∧ ∀ l ∈ ls, okRow o B l) (hf : ∀ o, o ≤ 9 → f o ≤ 100000) :
    ∀ (p s k left : Nat) (done : List ByteArray) (Ls : List (List ByteArray)), p < s → k + p = m → done.length + left ≤ 9 → (∀ x ∈ done, x.size ≤ B + 1) → Ls.length + cs f p left ≤ 1000000 → ∃ M : List (List ByteArray), M.length = cs f p left ∧ (∀ r ∈ M, okRow (done.length + left) (B + 1) r) ∧ ad T (m : Int) s (k : Int) (left : Int) done Ls = some (Ls ++ M)
  | 0, s, k, left, done, Ls, hs, hk, hl, hd, hb => by
    obtain ⟨s, rfl⟩ : ∃ x, s = x + 1 := ⟨s - 1, by omega⟩
    have hlb : Ls.length ≤ 1000000 := by omega
    unfold ad
    rw [if_pos ⟨by omega, by omega, by omega, hlb⟩, if_pos (show (k : Int) = (m : Int) by omega)]
    by_cases h0 : left = 0
    · refine ⟨[done], by show 1 = (if left = 0 then 1 else 0); rw [if_pos h0], fun r hr => ?_, by rw [if_pos (show (left : Int) = 0 by omega)]⟩
      rw [List.mem_singleton.1 hr]
      exact ⟨by omega, hd⟩
    · exact ⟨[], by show 0 = (if left = 0 then 1 else 0); rw [if_neg h0], by simp, by rw [if_neg (show ¬ (left : Int) = 0 by omega), List.append_nil]⟩
  | p + 1, s, k, left, done, Ls, hs, hk, hl, hd, hb => by
    obtain ⟨s, rfl⟩ : ∃ x, s = x + 1 := ⟨s - 1, by omega⟩
    unfold ad
    rw [if_pos (by omega), if_neg (by omega)]
    have hb' : Ls.length + sumR (fun o => f o * cs f p (left - o)) (left - p) 1 ≤ 1000000 := hb
    have := trO_eq T (fun own d L => ad T (m : Int) s ((k : Int) + 1) ((left : Int) - own) d L) (abcT (k : Int)) done ((left : Int) - ((m : Int) - (k : Int) - 1)) f (fun o => cs f p (left - o)) (done.length + left) (B + 1) (left - p) 1100 1 Ls (by omega) (by omega) (fun o ho1 ho2 => by
      obtain ⟨ls, h1, h2, h3⟩ := hT o (by omega)
      have hfo := hf o (by omega)
      refine ⟨ls, h1, by omega, fun Ls' hL' => ?_⟩
      have := trL_eq (fun d L => ad T (m : Int) s ((k : Int) + 1) ((left : Int) - (o : Int)) d L) (abcT (k : Int)) (abcT_size k) done o B (cs f p (left - o)) (done.length + left) (by omega) (by omega) (fun l Ls2 hl2 hb2 => by
        have hdl : (done ++ l.map (abcT (k : Int) ++ ·)).length = done.length + o := by rw [List.length_append, List.length_map, hl2.1]
        have hq := ad_eq T f m B hm hB hT hf p s (k + 1) (left - o) (done ++ l.map (abcT (k : Int) ++ ·)) Ls2 (by omega) (by omega) (by rw [hdl]; omega) (fun x hx => by
          rcases List.mem_append.1 hx with hx | hx
          · exact hd x hx
          · obtain ⟨y, hy, rfl⟩ := List.mem_map.1 hx
            have h5 := hl2.2 y hy
            have h6 := abcT_size k
            rw [ByteArray.size_append]
            omega) hb2
        rw [hdl, show done.length + o + (left - o) = done.length + left by omega, show ((k + 1 : Nat) : Int) = (k : Int) + 1 by omega, show ((left - o : Nat) : Int) = (left : Int) - (o : Int) by omega] at hq
        exact hq) ls Ls' h3 (by rw [h2]; exact hL')
      rw [h2] at this
      exact this) hb'
    exact this
theorem tr_lift {k k' : Nat} {m n q : Int} {L : List (List ByteArray)} (h : tr k m n q = some L) (hk : k ≤ k') : tr k' m n q = some L := at_rounds (g := fun k => tr k m n q) (fun k => tr.mono k m n q) hk h
theorem tr_eq {m : Nat} (hm2 : 2 ≤ m) (hm3 : m ≤ 3) : ∀ q : Nat, q ≤ 8 → ∀ n : Nat, n ≤ 9 → ∃ (k : Nat) (L : List (List ByteArray)), L.length = cc m q n ∧ (∀ r ∈ L, okRow n q r) ∧ tr k (m : Int) (n : Int) (q : Int) = some L
  | 0, hq, n, hn => by
    by_cases h1 : n = 1
    · refine ⟨1, [[⟨#[]⟩]], by unfold cc; rw [if_pos h1]; rfl, fun r hr => ?_, ?_⟩
      · rw [List.mem_singleton.1 hr, h1]
        exact ⟨rfl, fun s hs => by rw [List.mem_singleton.1 hs]; exact Nat.le_refl 0⟩
      · unfold tr
        rw [if_pos (by omega), if_pos (by omega)]
    · refine ⟨1, [], by unfold cc; rw [if_neg h1]; rfl, by simp, ?_⟩
      unfold tr
      rw [if_pos (by omega), if_neg (by omega), if_pos (by omega)]
  | q + 1, hq, n, hn => by
    by_cases h1 : n = 1
    · refine ⟨1, [[⟨#[]⟩]], by unfold cc; rw [if_pos h1]; rfl, fun r hr => ?_, ?_⟩
      · rw [List.mem_singleton.1 hr, h1]
        exact ⟨rfl, fun s hs => by rw [List.mem_singleton.1 hs]; exact Nat.zero_le _⟩
      · unfold tr
        rw [if_pos (by omega), if_pos (by omega)]
    · by_cases hnm : n < m
      · refine ⟨1, [], ?_, by simp, ?_⟩
        · unfold cc
          rw [if_neg h1]
          obtain ⟨p, rfl⟩ : ∃ p, m = p + 1 := ⟨m - 1, by omega⟩
          unfold cs
          rw [show n - p = 0 by omega]
          rfl
        · unfold tr
          rw [if_pos (by omega), if_neg (by omega), if_neg (by omega), if_pos (by omega)]
      · have hall : ∀ N : Nat, N ≤ 10 → ∃ K : Nat, ∀ o : Nat, o < N → ∃ L : List (List ByteArray), tr K (m : Int) (o : Int) (q : Int) = some L ∧ L.length = cc m q o ∧ ∀ l ∈ L, okRow o q l := by
          intro N
          induction N with
          | zero => intro _; exact ⟨0, fun o ho => absurd ho (by omega)⟩
          | succ N ih =>
            intro hN
            obtain ⟨K, hK⟩ := ih (by omega)
            obtain ⟨k, L, a1, a2, a3⟩ := tr_eq hm2 hm3 q (by omega) N (by omega)
            refine ⟨max K k, fun o ho => ?_⟩
            by_cases e : o = N
            · subst e
              exact ⟨L, tr_lift a3 (by omega), a1, a2⟩
            · obtain ⟨L', b1, b2, b3⟩ := hK o (by omega)
              exact ⟨L', tr_lift b1 (by omega), b2, b3⟩
        obtain ⟨K, hK⟩ := hall 10 (by omega)
        have hb := cs_bd m (by omega) q (by omega) n (by omega) m (by omega) hm2
        obtain ⟨M, c1, c2, c3⟩ := ad_eq (fun own => tr K (m : Int) own (q : Int)) (cc m q) m q hm3 (by omega) (fun o ho => hK o (by omega)) (fun o ho => cc_bd m (by omega) q (by omega) o (by omega) hm2) m 5 0 n [] [] (by omega) (by omega) (by simpa using hn) (by simp) (by simp; omega)
        refine ⟨K + 1, M, ?_, fun r hr => ?_, ?_⟩
        · rw [c1]
          show _ = (if n = 1 then 1 else cs (cc m q) m n)
          rw [if_neg h1]
        · have := c2 r hr
          simpa using this
        · unfold tr
          rw [if_pos (by omega), if_neg (by omega), if_neg (by omega), if_neg (by omega), show ((q + 1 : Nat) : Int) - 1 = (q : Int) by omega]
          exact c3

end Go.Proofs.Ytidjjcgfdkmefaa.X
namespace Go.Proofs.Ytidjjcgfdkmefaa.Pure
open Go.RowKit Go.Proofs.Ytidjjcgfdkmefaa.X Go.Proofs.YtidjjcgfdkmefaaW.PrintWords Go.Proofs.YtidjjcgfdkmefaaW.PrintLast Go.Proofs.Ytidjjcgfdkmefaa

theorem l1In_eq (a b c : Int) : spec_l1In.f a b c = some (decide (b ≤ a ∧ a ≤ c)) := by
  unfold spec_l1In.f
  by_cases h : b ≤ a
  · rw [if_pos h]; simp [h]
  · rw [if_neg h]; simp [h]
theorem in_eq (a b c : Int) : impl_in.f a b c = some (decide (b ≤ a ∧ a ≤ c)) := by
  unfold impl_in.f
  by_cases h : b ≤ a
  · rw [if_pos h]; simp [h]
  · rw [if_neg h]; simp [h]
theorem both (a b : Int) : ∃ v : Int × Bool, Ev (fun k => spec_CountCompletePrefix.f k a b) v ∧ Ev (fun k => impl_CountCompletePrefix.f k a b) v := by
  unfold spec_CountCompletePrefix.f impl_CountCompletePrefix.f spec_krLetters.f impl_areLetters.f impl_completePrefix.f spec_pfSplit.f impl_trees.f
  simp only [l1In_eq, in_eq, Option.bind_some]
  by_cases h1 : 2 ≤ a ∧ a ≤ 3
  · by_cases h2 : 1 ≤ b ∧ b ≤ 9
    · obtain ⟨m, rfl⟩ : ∃ m : Nat, a = (m : Int) := ⟨a.toNat, by omega⟩
      obtain ⟨n, rfl⟩ : ∃ n : Nat, b = (n : Int) := ⟨b.toNat, by omega⟩
      have hs : Ev (fun k => pf k false (m : Int) (m : Int) (n : Int) 7) (cs (cc m 7) m n : Int) := ⟨100, fun k hk => (pf_eq (by omega) (by omega) k).2 7 m n (by omega) (by omega) (by omega) (by omega)⟩
      refine ⟨((cs (cc m 7) m n : Int), true), Pl.pos (decide_eq_true h1) (Pl.pos (decide_eq_true h2) (Ev.bind hs (Pl.ret rfl))), Pl.pos (decide_eq_true h1) (Pl.pos (decide_eq_true h2) ?_)⟩
      by_cases hn : n = 1
      · subst hn
        refine Ev.bind (Pl.pos rfl (Pl.ret rfl)) (Pl.ret ?_)
        rw [cs_one _ (by omega)]
        rfl
      · obtain ⟨k, L, a1, _, a3⟩ := tr_eq (m := m) (by omega) (by omega) 8 (by omega) n (by omega)
        have ht : Ev (fun k => tr k (m : Int) (n : Int) 8) L := ⟨k, fun k' hk => tr_lift a3 hk⟩
        refine Ev.bind (Pl.neg (by omega) (Ev.bind ht (Pl.ret rfl))) (Pl.ret ?_)
        have e : cc m 8 n = cs (cc m 7) m n := by
          show (if n = 1 then 1 else cs (cc m 7) m n) = _
          rw [if_neg hn]
        rw [a1, e]
    · exact ⟨(0, false), Pl.pos (decide_eq_true h1) (Pl.neg (by simp [h2]) (Pl.ret rfl)), Pl.pos (decide_eq_true h1) (Pl.neg (by simp [h2]) (Pl.ret rfl))⟩
  · exact ⟨(0, false), Pl.neg (by simp [h1]) (Pl.ret rfl), Pl.neg (by simp [h1]) (Pl.ret rfl)⟩
theorem FnExactCountCompletePrefix : laws_FnExactCountCompletePrefix.Pure := by
  intro a b _ _
  refine Ev.rounds ?_
  unfold laws_FnExactCountCompletePrefix.f
  obtain ⟨v, h1, h2⟩ := both a b
  exact Ev.bind h1 (Ev.bind h2 (Pl.pos rfl (Pl.neg (by simp) (Pl.ret rfl))))

end Go.Proofs.Ytidjjcgfdkmefaa.Pure

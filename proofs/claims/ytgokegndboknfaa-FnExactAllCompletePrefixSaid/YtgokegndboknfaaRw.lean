/- How the rows' slices of texts and of numbers are opened; no condition. -/
import Derived.Test.YtgokegndboknfaaWMore
import Derived.Test.YtgokegndboknfaaWSized
import Derived.SizedLaws
import Derived.SliceStrings
import Derived.ChangeSlices
namespace Go.Proofs.Ytgokegndboknfaa.Rw
open Go.ChangeShapes Go.WideShapes Go.RowKit Go.Proofs.YtgokegndboknfaaW.PrintWords

section
variable {H : Type} {enc : TypeId × Value → H} {P : Program} {W : World} {base : Nat} {spare : Nat → Bool} {held : Bool} {t e : TypeId} {a : Option Addr} {len cap : Nat} {d : DataW H} {ps : List MemPlace} {ts : List TypeId} {ds : List (DataW H)} {j : Nat}
theorem openS (hsz : (DataW.weightsEach P ts ds).all (· ≤ reachBytes) = true) (ht : ts[j]? = some t) (hd : ds[j]? = some d) (hu : P.underlying t = some (.slice e)) (he : P.underlying e = some .string) (hc : P.cellsOf e = 1) (hB : P.bytesOf e = 16)
    (h : DataW.Trod enc P W base spare held t (.slice a len cap) d ps) :
    ∃ zs : List ByteArray, zs.length = len ∧ len ≤ cap ∧ Kd.C Kd.string W a zs.length zs ∧ zs.length * 16 ≤ 140737488351232 ∧ ∀ s ∈ zs, s.size ≤ maxLen := by
  obtain ⟨fuel, hf⟩ := h
  rcases open_strings hu he hc hf with ⟨hcs, _⟩ | ⟨x, l, c, zs, hcs, _, hl, hm, hz, hx, hcell, hsize⟩
  · simp [Value.cells] at hcs
    obtain ⟨rfl, rfl, rfl⟩ := hcs
    exact ⟨[], rfl, Nat.le_refl _, ⟨rfl, by simp, fun h => absurd h (by simp)⟩, by simp, by simp⟩
  · simp [Value.cells] at hcs
    obtain ⟨rfl, rfl, rfl⟩ := hcs
    obtain ⟨hx, _⟩ := Prod.mk.inj hx
    subst hx
    have z := sized_slice hsz ht hd hu
    rw [hB] at z
    have hl2 : len ≤ zs.length := by
      rw [hz]
      split
      · exact hl
      · exact Nat.le_refl _
    have h1 : (strs (H := H) (zs.take len)).length + (strs (H := H) (zs.drop len)).length = zs.length := by
      simp [strs]
      omega
    rw [h1] at z
    have hlen : (zs.take len).length = len := by rw [List.length_take]; omega
    have hb : len * 16 ≤ 140737488351232 := Nat.le_trans (Nat.mul_le_mul_right _ hl2) z
    refine ⟨zs.take len, hlen, hl, ⟨rfl, by rw [hlen]; omega, fun _ => ⟨x, rfl, fun j p hp => ⟨[.string p], rfl, rfl, fun i u hi => ?_⟩⟩⟩, by rw [hlen]; exact hb, fun s hs => hsize s (List.mem_of_mem_take hs)⟩
    rw [List.getElem?_take] at hp
    split at hp
    · rename_i hj
      cases i with
      | zero =>
        obtain rfl : Value.string p = u := by simpa using hi
        have e2 : zs.getD j ByteArray.empty = p := by rw [List.getD_eq_getElem?_getD, hp]; rfl
        have hj' : j < zs.length := by omega
        have := hcell j hj'
        rw [e2] at this
        show W.cell? (x.add (j * 1 + 0)) = _
        rw [Nat.mul_one, Nat.add_zero]
        exact this
      | succ i => simp at hi
    · cases hp
theorem openI (hsz : (DataW.weightsEach P ts ds).all (· ≤ reachBytes) = true) (ht : ts[j]? = some t) (hd : ds[j]? = some d) (hu : P.underlying t = some (.slice e)) (he : P.underlying e = some (.int .i64)) (hc : P.cellsOf e = 1) (hB : P.bytesOf e = 8)
    (h : DataW.Trod enc P W base spare held t (.slice a len cap) d ps) :
    ∃ zs : List Int, zs.length = len ∧ len ≤ cap ∧ Kd.C (Kd.int .i64) W a zs.length zs ∧ zs.length * 8 ≤ 140737488351232 ∧ ∀ n ∈ zs, (Lit.int .i64 n).wf = true := by
  have hb := sized_ints hsz ht hd hu he hc hB h
  obtain ⟨fuel, hf⟩ := h
  rcases open_ints hu he hc hf with ⟨hcs, _⟩ | ⟨x, l, c, zs, hcs, _, hl, hm, hz, hx, hcell, hwf⟩
  · simp [Value.cells] at hcs
    obtain ⟨rfl, rfl, rfl⟩ := hcs
    exact ⟨[], rfl, Nat.le_refl _, ⟨rfl, by simp, fun h => absurd h (by simp)⟩, by simp, by simp⟩
  · simp [Value.cells] at hcs
    obtain ⟨rfl, rfl, rfl⟩ := hcs
    have hl2 : len ≤ zs.length := by
      rw [hz]
      split
      · exact hl
      · exact Nat.le_refl _
    have hlen : (zs.take len).length = len := by rw [List.length_take]; omega
    refine ⟨zs.take len, hlen, hl, ⟨rfl, by rw [hlen]; omega, fun _ => ⟨x, rfl, fun j p hp => ⟨[.int .i64 p], rfl, rfl, fun i u hi => ?_⟩⟩⟩, by rw [hlen]; exact hb, fun s hs => hwf s (List.mem_of_mem_take hs)⟩
    rw [List.getElem?_take] at hp
    split at hp
    · rename_i hj
      cases i with
      | zero =>
        obtain rfl : Value.int .i64 p = u := by simpa using hi
        have e2 : zs.getD j 0 = p := by rw [List.getD_eq_getElem?_getD, hp]; rfl
        have hj' : j < zs.length := by omega
        have := hcell j hj'
        rw [e2] at this
        show W.cell? (x.add (j * 1 + 0)) = _
        rw [Nat.mul_one, Nat.add_zero]
        exact this
      | succ i => simp at hi
    · cases hp
end
end Go.Proofs.Ytgokegndboknfaa.Rw

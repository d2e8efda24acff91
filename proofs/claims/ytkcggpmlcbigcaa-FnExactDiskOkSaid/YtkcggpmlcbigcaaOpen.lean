/- An argument that reads as data, opened to what the walks ask: a slice of bytes, of integers, of strings. -/
import Derived.Test.YtkcggpmlcbigcaaLib
import Derived.ProofKit
import Derived.Lib.SmallJoins
import Derived.SliceStrings
namespace Go.Proofs.Ytkcggpmlcbigcaa
open Go.ChangeShapes Go.WideShapes Go.ChangeAt Go.RowKit
section
variable {H : Type} {enc : TypeId × Value → H} {P : Program} {w : World} {base : Nat} {spare : Nat → Bool} {held : Bool}
theorem addr_cell {w : World} {a : Addr} {j : Nat} {v : Value} (h : w.cell? (a.add j) = some v) (h0 : ∃ u, w.cell? a = some u) : w.cell? ⟨a.block, a.off + j, none⟩ = some v ∧ a = ⟨a.block, a.off, none⟩ ∧ a.block < w.heap.size := by
  obtain ⟨u, hu⟩ := h0
  have hs := World.cell?_spot hu
  obtain ⟨b, off, spot⟩ := a
  simp only at hs
  subst hs
  refine ⟨?_, rfl, World.block_lt_of_cell? w _ hu⟩
  unfold Addr.add at h
  split at h
  · simpa [*] using h
  · exact h
theorem reads_of {A : Addr} {xs : List Value} (h : ∀ i, i < xs.length → ∀ u, xs[i]? = some u → w.cell? (A.add i) = some u) : Reads w w.heap.size (some A) xs := by
  intro h0
  have h1 := h 0 h0 _ (List.getElem?_eq_getElem h0)
  have e0 : A.add 0 = A := by simp [Addr.add]
  rw [e0] at h1
  have key := fun j u (hu : xs[j]? = some u) => addr_cell (h j (List.getElem?_eq_some_iff.1 hu).1 u hu) ⟨_, h1⟩
  obtain ⟨_, e, hlt⟩ := key 0 _ (List.getElem?_eq_getElem h0)
  exact ⟨A.block, A.off, by rw [← e], hlt, fun j u hu => (key j u hu).1⟩
theorem open_bytes {t e : TypeId} {fuel : Nat} {v : Value} {x : DataW H × List MemPlace} (ht : P.underlying t = some (.slice e)) (he : P.underlying e = some (.int .u8)) (hc : P.cellsOf e = 1)
    (h : DataW.trod enc P w base spare held fuel t [v] = some x) : ∃ A c, ∃ xs : List UInt8, v = .slice A xs.length c ∧ Reads w w.heap.size A (xs.map byteV) ∧ xs.length ≤ 9223372036854775807 := by
  rcases open_ints ht he hc h with ⟨hcs, _⟩ | ⟨a, len, cap, zs, hcs, _, hl, hm, hz, _, hcell, hwz⟩
  · simp only [List.cons.injEq, and_true] at hcs
    exact ⟨none, 0, [], by simpa using hcs, Reads.nil, by simp⟩
  · simp only [List.cons.injEq, and_true] at hcs
    subst hcs
    have hlen : len ≤ zs.length := by rw [hz]; split <;> omega
    refine ⟨some a, cap, (zs.take len).map (fun z => UInt8.ofNat z.toNat), by simp [Nat.min_eq_left hlen], reads_of fun i hi u hu => ?_, by simp [maxLen] at hm ⊢; omega⟩
    simp only [List.length_map, List.length_take] at hi
    have hi' : i < zs.length := by omega
    rw [hcell i hi', ← hu]
    have hw := hwz zs[i] (List.getElem_mem hi')
    have hb : 0 ≤ zs[i] ∧ zs[i] ≤ 255 := by
      have h1 : IntKind.u8.min = 0 := rfl
      have h2 : IntKind.u8.max = 255 := rfl
      simpa [Lit.wf, h1, h2] using hw
    simp only [List.map_map, List.getElem?_map, List.getElem?_take, List.getD, List.getElem?_eq_getElem hi', Option.getD_some]
    rw [if_pos (by omega)]
    simp only [Option.map_some, Function.comp, byteV, Option.some.injEq, Value.int.injEq, true_and]
    rw [UInt8.toNat_ofNat_of_lt' (by show _ < 256; omega)]
    omega
theorem open_intS {t e : TypeId} {fuel : Nat} {v : Value} {x : DataW H × List MemPlace} (ht : P.underlying t = some (.slice e)) (he : P.underlying e = some (.int .i64)) (hc : P.cellsOf e = 1)
    (h : DataW.trod enc P w base spare held fuel t [v] = some x) : ∃ A c, ∃ xs : List Int, v = .slice A xs.length c ∧ Reads w w.heap.size A (xs.map intV) ∧ xs.length ≤ 9223372036854775807 ∧ ∀ z ∈ xs, (Lit.int .i64 z).wf = true := by
  rcases open_ints ht he hc h with ⟨hcs, _⟩ | ⟨a, len, cap, zs, hcs, _, hl, hm, hz, _, hcell, hwz⟩
  · simp only [List.cons.injEq, and_true] at hcs
    exact ⟨none, 0, [], by simpa using hcs, Reads.nil, by simp, by simp⟩
  · simp only [List.cons.injEq, and_true] at hcs
    subst hcs
    have hlen : len ≤ zs.length := by rw [hz]; split <;> omega
    refine ⟨some a, cap, zs.take len, by simp [Nat.min_eq_left hlen], reads_of fun i hi u hu => ?_, by simp [maxLen] at hm ⊢; omega, fun z hzz => hwz z (List.mem_of_mem_take hzz)⟩
    simp only [List.length_map, List.length_take] at hi
    have hi' : i < zs.length := by omega
    rw [hcell i hi', ← hu]
    simp only [List.getElem?_map, List.getElem?_take, List.getD, List.getElem?_eq_getElem hi', Option.getD_some]
    rw [if_pos (by omega)]
    rfl
end
end Go.Proofs.Ytkcggpmlcbigcaa

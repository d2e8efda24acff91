/- An argument that reads as data, opened to what the walks ask: a slice of bytes, of integers, of strings. -/
import Derived.Test.YtoijmnnjcoogkaaDoorLib
import Derived.ProofKit
import Derived.Lib.SmallJoins
import Derived.SliceStrings
import Derived.Deep.Slices
import Derived.Deep.Fields
set_option linter.unusedSimpArgs false
set_option linter.unusedVariables false
set_option maxRecDepth 20000
namespace Go.Proofs.YtoijmnnjcoogkaaDoor
open Go.ChangeShapes Go.WideShapes Go.ChangeAt Go.RowKit
section
variable {H : Type} {enc : TypeId × Value → H} {P : Program} {w : World} {base : Nat} {spare : Nat → Bool} {held : Bool}
theorem addr_cell {w : World} {a : Addr} {j : Nat} {v : Value} (h : w.cell? (a.add j) = some v) (h0 : ∃ u, w.cell? a = some u) : w.cell? ⟨a.block, a.off + j, none⟩ = some v ∧ a = ⟨a.block, a.off, none⟩ ∧ a.block < w.heap.size := by
  obtain ⟨u, hu⟩ := h0
  have hs := World.cell?_spot hu
  obtain ⟨b, off, spot⟩ := a
  simp only at hs
  subst hs
  refine ⟨?_, rfl, World.block_lt_of_cell? w _ hu⟩
  unfold Addr.add at h
  split at h
  · simpa [*] using h
  · exact h
theorem reads_of {A : Addr} {xs : List Value} (h : ∀ i, i < xs.length → ∀ u, xs[i]? = some u → w.cell? (A.add i) = some u) : Reads w w.heap.size (some A) xs := by
  intro h0
  have h1 := h 0 h0 _ (List.getElem?_eq_getElem h0)
  have e0 : A.add 0 = A := by simp [Addr.add]
  rw [e0] at h1
  have key := fun j u (hu : xs[j]? = some u) => addr_cell (h j (List.getElem?_eq_some_iff.1 hu).1 u hu) ⟨_, h1⟩
  obtain ⟨_, e, hlt⟩ := key 0 _ (List.getElem?_eq_getElem h0)
  exact ⟨A.block, A.off, by rw [← e], hlt, fun j u hu => (key j u hu).1⟩
theorem open_bytes {t e : TypeId} {fuel : Nat} {v : Value} {x : DataW H × List MemPlace} (ht : P.underlying t = some (.slice e)) (he : P.underlying e = some (.int .u8)) (hc : P.cellsOf e = 1)
    (h : DataW.trod enc P w base spare held fuel t [v] = some x) : ∃ A c, ∃ xs : List UInt8, v = .slice A xs.length c ∧ Reads w w.heap.size A (xs.map byteV) ∧ xs.length ≤ 9223372036854775807 := by
  rcases open_ints ht he hc h with ⟨hcs, _⟩ | ⟨a, len, cap, zs, hcs, _, hl, hm, hz, _, hcell, hwz⟩
  · simp only [List.cons.injEq, and_true] at hcs
    exact ⟨none, 0, [], by simpa using hcs, Reads.nil, by simp⟩
  · simp only [List.cons.injEq, and_true] at hcs
    subst hcs
    have hlen : len ≤ zs.length := by rw [hz]; split <;> omega
    refine ⟨some a, cap, (zs.take len).map (fun z => UInt8.ofNat z.toNat), by simp [Nat.min_eq_left hlen], reads_of fun i hi u hu => ?_, by simp [maxLen] at hm ⊢; omega⟩
    simp only [List.length_map, List.length_take] at hi
    have hi' : i < zs.length := by omega
    rw [hcell i hi', ← hu]
    have hw := hwz zs[i] (List.getElem_mem hi')
    have hb : 0 ≤ zs[i] ∧ zs[i] ≤ 255 := by
      have h1 : IntKind.u8.min = 0 := rfl
      have h2 : IntKind.u8.max = 255 := rfl
      simpa [Lit.wf, h1, h2] using hw
    simp only [List.map_map, List.getElem?_map, List.getElem?_take, List.getD, List.getElem?_eq_getElem hi', Option.getD_some]
    rw [if_pos (by omega)]
    simp only [Option.map_some, Function.comp, byteV, Option.some.injEq, Value.int.injEq, true_and]
    rw [UInt8.toNat_ofNat_of_lt' (by show _ < 256; omega)]
    omega
theorem open_intS {t e : TypeId} {fuel : Nat} {v : Value} {x : DataW H × List MemPlace} (ht : P.underlying t = some (.slice e)) (he : P.underlying e = some (.int .i64)) (hc : P.cellsOf e = 1)
    (h : DataW.trod enc P w base spare held fuel t [v] = some x) : ∃ A c, ∃ xs : List Int, v = .slice A xs.length c ∧ Reads w w.heap.size A (xs.map intV) ∧ xs.length ≤ 9223372036854775807 ∧ ∀ z ∈ xs, (Lit.int .i64 z).wf = true := by
  rcases open_ints ht he hc h with ⟨hcs, _⟩ | ⟨a, len, cap, zs, hcs, _, hl, hm, hz, _, hcell, hwz⟩
  · simp only [List.cons.injEq, and_true] at hcs
    exact ⟨none, 0, [], by simpa using hcs, Reads.nil, by simp, by simp⟩
  · simp only [List.cons.injEq, and_true] at hcs
    subst hcs
    have hlen : len ≤ zs.length := by rw [hz]; split <;> omega
    refine ⟨some a, cap, zs.take len, by simp [Nat.min_eq_left hlen], reads_of fun i hi u hu => ?_, by simp [maxLen] at hm ⊢; omega, fun z hzz => hwz z (List.mem_of_mem_take hzz)⟩
    simp only [List.length_map, List.length_take] at hi
    have hi' : i < zs.length := by omega
    rw [hcell i hi', ← hu]
    simp only [List.getElem?_map, List.getElem?_take, List.getD, List.getElem?_eq_getElem hi', Option.getD_some]
    rw [if_pos (by omega)]
    rfl
theorem open_strS {t e : TypeId} {fuel : Nat} {v : Value} {x : DataW H × List MemPlace} (ht : P.underlying t = some (.slice e)) (he : P.underlying e = some .string) (hc : P.cellsOf e = 1)
    (h : DataW.trod enc P w base spare held fuel t [v] = some x) : ∃ A c, ∃ xs : List ByteArray, v = .slice A xs.length c ∧ Reads w w.heap.size A (xs.map strV) ∧ xs.length ≤ 9223372036854775807 ∧ ∀ s ∈ xs, s.size ≤ 9223372036854775807 := by
  rcases open_strings ht he hc h with ⟨hcs, _⟩ | ⟨a, len, cap, zs, hcs, _, hl, hm, hz, _, hcell, hwz⟩
  · simp only [List.cons.injEq, and_true] at hcs
    exact ⟨none, 0, [], by simpa using hcs, Reads.nil, by simp, by simp⟩
  · simp only [List.cons.injEq, and_true] at hcs
    subst hcs
    have hlen : len ≤ zs.length := by rw [hz]; split <;> omega
    refine ⟨some a, cap, zs.take len, by simp [Nat.min_eq_left hlen], reads_of fun i hi u hu => ?_, by simp [maxLen] at hm ⊢; omega, fun z hzz => by have := hwz z (List.mem_of_mem_take hzz); simp only [maxLen] at this; omega⟩
    simp only [List.length_map, List.length_take] at hi
    have hi' : i < zs.length := by omega
    rw [hcell i hi', ← hu]
    simp only [List.getElem?_map, List.getElem?_take, List.getD, List.getElem?_eq_getElem hi', Option.getD_some]
    rw [if_pos (by omega)]
    rfl
theorem list_choose {α : Type} {R : Nat → α → Prop} : ∀ n, (∀ i, i < n → ∃ a, R i a) → ∃ xs : List α, xs.length = n ∧ ∀ i a, xs[i]? = some a → R i a
  | 0, _ => ⟨[], rfl, by simp⟩
  | n + 1, h => by
    obtain ⟨xs, hl, hx⟩ := list_choose n (fun i hi => h i (by omega))
    obtain ⟨a, ha⟩ := h n (by omega)
    refine ⟨xs ++ [a], by simp [hl], fun i b hi => ?_⟩
    rcases Nat.lt_or_ge i xs.length with h1 | h1
    · rw [List.getElem?_append_left h1] at hi
      exact hx i b hi
    · rw [List.getElem?_append_right h1] at hi
      have h2 : i - xs.length = 0 := by
        rcases Nat.eq_zero_or_pos (i - xs.length) with h3 | h3
        · exact h3
        · rw [List.getElem?_eq_none (by simp; omega)] at hi
          cases hi
      rw [h2] at hi
      obtain rfl : i = n := by omega
      simp at hi
      subst hi
      exact ha
/-- A slice of elements of m cells each: what an element's cells come to. -/
theorem open_rows {α : Type} {f : α → List Value} {m : Nat} {t e : TypeId} {fuel : Nat} {v : Value} {x : DataW H × List MemPlace} (Q : α → Prop) (hf : ∀ a, (f a).length = m) (hm0 : 0 < m) (ht : P.underlying t = some (.slice e)) (hc : P.cellsOf e = m)
    (h : DataW.trod enc P w base spare held fuel t [v] = some x) (hd : ∀ n cs y, DataW.trod enc P w base spare held n e cs = some y → cs.length = m → ∃ a, f a = cs ∧ Q a) :
    ∃ A c, ∃ xs : List α, v = .slice A xs.length c ∧ Reads w w.heap.size A (xs.flatMap f) ∧ xs.length ≤ 9223372036854775807 ∧ ∀ a ∈ xs, Q a := by
  rcases Go.Deep.open_slice ht h with ⟨hcs, _⟩ | ⟨a, len, cap, k, n, D, Pl, hcs, _, hl, hmx, hk, _, hx⟩
  · simp only [List.cons.injEq, and_true] at hcs
    exact ⟨none, 0, [], by simpa using hcs, Reads.nil, by simp, by simp⟩
  · simp only [List.cons.injEq, and_true] at hcs
    subst hcs
    have hlen : len ≤ k := by rw [hk]; split <;> omega
    obtain ⟨xs, hxl, hxs⟩ := list_choose (R := fun i b => (∀ r, r < m → w.cell? (a.add (i * m + r)) = (f b)[r]?) ∧ Q b) len (fun i hi => by
      obtain ⟨cs', h1, h2⟩ := hx i (by omega)
      rw [hc] at h1
      obtain ⟨_, hcl, hat⟩ := World.cells?_some h1
      obtain ⟨b, hb, hq⟩ := hd _ _ _ h2 hcl
      exact ⟨b, fun r hr => by rw [← Go.Deep.add_add, hat r hr, hb], hq⟩)
    subst hxl
    refine ⟨some a, cap, xs, rfl, reads_of fun j hj u hu => ?_, by simp only [maxLen] at hmx; omega, fun b hb => ?_⟩
    · rw [flat_length f m hf] at hj
      have hi : j / m < xs.length := Nat.div_lt_of_lt_mul (by rw [Nat.mul_comm]; exact hj)
      have hr : j % m < m := Nat.mod_lt _ hm0
      have e1 : j / m * m + j % m = j := by rw [Nat.mul_comm]; exact Nat.div_add_mod j m
      have e2 := flat_at f m hf xs (j / m) (j % m) hi hr
      rw [e1] at e2
      have e3 := (hxs (j / m) _ (List.getElem?_eq_getElem hi)).1 (j % m) hr
      rw [e1] at e3
      rw [e3, ← e2, hu]
    · obtain ⟨i, hi, rfl⟩ := List.mem_iff_getElem.1 hb
      exact (hxs i _ (List.getElem?_eq_getElem hi)).2
/-- The field number j of a struct that reads as data. -/
theorem struct_field {t : TypeId} {fs : Array Field} {fuel : Nat} {cs : List Value} {x : DataW H × List MemPlace} (hs : P.underlying t = some (.struct fs)) (hone : Go.Deep.oneCellFields P fs = true)
    (h : DataW.trod enc P w base spare held fuel t cs = some x) {j : Nat} {f : Field} (hj : fs[j]? = some f) {c : Value} (hc : cs[j]? = some c) : ∃ n y, DataW.trod enc P w base spare held n f.type [c] = some y := by
  obtain ⟨ys, n, _, _, _, hyl, hf⟩ := DataW.trod_struct hs h
  obtain ⟨o, k⟩ := Go.Deep.hone_of hone j f hj
  have h1 := hf j f hj
  rw [o, k] at h1
  obtain ⟨hlt, e⟩ := List.getElem?_eq_some_iff.1 hc
  have e1 : (cs.drop j).take 1 = [c] := by
    rw [List.drop_eq_getElem_cons hlt, e]
    rfl
  rw [e1] at h1
  have hjl : j < ys.length := by rw [hyl]; exact (Array.getElem?_eq_some_iff.1 hj).1
  exact ⟨n, ys[j], by rw [h1, List.getElem?_eq_getElem hjl]⟩
end
end Go.Proofs.YtoijmnnjcoogkaaDoor

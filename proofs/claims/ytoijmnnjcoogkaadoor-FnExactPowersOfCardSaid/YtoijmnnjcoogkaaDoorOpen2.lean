/- An argument that reads as data, opened to Rep. -/
import Derived.Test.YtoijmnnjcoogkaaDoorOpen
import Derived.Test.YtoijmnnjcoogkaaDoorRep
set_option linter.unusedSimpArgs false
set_option linter.unusedVariables false
set_option maxRecDepth 20000
namespace Go.Proofs.YtoijmnnjcoogkaaDoor
open Go.ChangeShapes Go.WideShapes Go.ChangeAt Go.RowKit
section
variable {H : Type} {enc : TypeId × Value → H} {P : Program} {w : World} {base : Nat} {spare : Nat → Bool} {held : Bool}
theorem open_sl {α : Type} {R : Rep α} {t e : TypeId} {fuel : Nat} {v : Value} {x : DataW H × List MemPlace} (hm0 : 0 < R.m) (ht : P.underlying t = some (.slice e)) (hc : P.cellsOf e = R.m)
    (h : DataW.trod enc P w base spare held fuel t [v] = some x) (hd : ∀ n cs y, DataW.trod enc P w base spare held n e cs = some y → cs.length = R.m → ∃ a, R.Rd w w.heap.size cs a) : ∃ xs, SlRd R w w.heap.size v xs := by
  rcases Go.Deep.open_slice ht h with ⟨hcs, _⟩ | ⟨a, len, cap, k, n, D, Pl, hcs, _, hl, hmx, hk, _, hx⟩
  · simp only [List.cons.injEq, and_true] at hcs
    exact ⟨[], none, 0, [], hcs, by simp, by simp, fun h => absurd h (by simp), by simp [RdAll]⟩
  · simp only [List.cons.injEq, and_true] at hcs
    have hlen : len ≤ k := by rw [hk]; split <;> omega
    obtain ⟨xs, hxl, hxs⟩ := list_choose (R := fun i (b : List Value × α) => (∀ r, r < R.m → w.cell? (a.add (i * R.m + r)) = b.1[r]?) ∧ R.Rd w w.heap.size b.1 b.2) len (fun i hi => by
      obtain ⟨cs', h1, h2⟩ := hx i (by omega)
      rw [hc] at h1
      obtain ⟨_, hcl, hat⟩ := World.cells?_some h1
      obtain ⟨b, hb⟩ := hd _ _ _ h2 hcl
      exact ⟨(cs', b), fun r hr => by rw [← Go.Deep.add_add, hat r hr], hb⟩)
    subst hxl
    have hall : ∀ (i : Nat) (b : List Value × α), xs[i]? = some b → b.1.length = R.m := fun i b hb => R.rd_len (hxs i b hb).2
    refine ⟨xs.map (·.2), some a, cap, xs.map (·.1), by simpa using hcs, by simpa using hl, by simp only [maxLen] at hmx; omega, ?_, by simp, fun i cs x h1 h2 => ?_⟩
    · intro h0
      have h0' : 0 < xs.length := by simpa using h0
      have e0 : a.add 0 = a := by simp [Addr.add]
      have g0 := List.getElem?_eq_getElem h0'
      have hl0 := hall 0 _ g0
      have h1 := (hxs 0 _ g0).1 0 hm0
      rw [Nat.zero_mul, Nat.zero_add, e0, List.getElem?_eq_getElem (by omega)] at h1
      have key := fun (j : Nat) (u : Value) (hu : w.cell? (a.add j) = some u) => addr_cell hu ⟨_, h1⟩
      obtain ⟨_, e, hlt⟩ := key 0 _ (by rw [e0]; exact h1)
      refine ⟨a.block, a.off, by rw [← e], hlt, fun j cs i u hj hu => ?_⟩
      rw [List.getElem?_map] at hj
      cases hb : xs[j]? with
      | none => rw [hb] at hj; cases hj
      | some b =>
        rw [hb] at hj
        simp only [Option.map_some, Option.some.injEq] at hj
        subst hj
        have hi : i < R.m := by rw [← hall j b hb]; exact (List.getElem?_eq_some_iff.1 hu).1
        exact (key (j * R.m + i) u (by rw [(hxs j b hb).1 i hi, hu])).1
    · rw [List.getElem?_map] at h1 h2
      cases hb : xs[i]? with
      | none => rw [hb] at h1; cases h1
      | some b =>
        rw [hb] at h1 h2
        simp only [Option.map_some, Option.some.injEq] at h1 h2
        subst h1 h2
        exact (hxs i b hb).2
theorem open2_int {t : TypeId} {fuel : Nat} {cs : List Value} {x : DataW H × List MemPlace} (ht : P.underlying t = some (.int .i64)) (h : DataW.trod enc P w base spare held fuel t cs = some x) : ∃ a, intR.Rd w w.heap.size cs a := by
  obtain ⟨z, e, _, _⟩ := DataW.trod_int ht h
  exact ⟨z, e, trivial⟩
theorem open2_byte {t : TypeId} {fuel : Nat} {cs : List Value} {x : DataW H × List MemPlace} (ht : P.underlying t = some (.int .u8)) (h : DataW.trod enc P w base spare held fuel t cs = some x) : ∃ a, byteR.Rd w w.heap.size cs a := by
  obtain ⟨z, e, _, hw⟩ := DataW.trod_int ht h
  have hb : 0 ≤ z ∧ z ≤ 255 := by
    have h1 : IntKind.u8.min = 0 := rfl
    have h2 : IntKind.u8.max = 255 := rfl
    simpa [Lit.wf, h1, h2] using hw
  refine ⟨UInt8.ofNat z.toNat, ?_, trivial⟩
  rw [e]
  simp only [byteV, List.cons.injEq, Value.int.injEq, true_and, and_true]
  rw [UInt8.toNat_ofNat_of_lt' (by show _ < 256; omega)]
  omega
end
end Go.Proofs.YtoijmnnjcoogkaaDoor

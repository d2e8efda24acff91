/- A slice under construction whose elements own memory of their own. -/
import Derived.Test.YtoijmnnjcoogkaaDoorBuilt
set_option linter.unusedSimpArgs false
set_option linter.unusedVariables false
set_option maxRecDepth 20000
namespace Go.Proofs.YtoijmnnjcoogkaaDoor
open Go.RowKit
theorem out_of_grown {w w' : World} {row : Option Nat} (hg : w.grownBy w' row) : Out (fun g => row = some g) w w' := ⟨hg.os, hg.tape, hg.output, hg.size, fun k hk hs => hg.block k hk (fun e => hs e.symm)⟩
/-- The slice ⟨A, n, c⟩ owns its row and its elements, all from lo on. -/
structure Grow {α : Type} (R : Rep α) (e : TypeId) (w : World) (lo : Nat) (A : Option Addr) (n c : Nat) (css : List (List Value)) (xs : List α) : Prop where
  row : w.ownsRow lo e R.m (.slice A n c) n css.flatten
  built : ∃ Ss, Built R w lo Ss css xs ∧ ∀ s ∈ Ss, ∀ g, (Value.slice A n c).ownBlock = some g → ¬ s g
  len : n = xs.length
section
variable {α : Type} {R : Rep α} {e : TypeId} {w w' W wr : World} {lo n c : Nat} {A : Option Addr} {css : List (List Value)} {xs : List α}
theorem Grow.nil (R : Rep α) (e : TypeId) (w : World) (lo : Nat) : Grow R e w lo none 0 0 [] [] := ⟨World.ownsRow_nil _ _ _ _, ⟨[], Built.nil _ _ _, by simp⟩, rfl⟩
theorem Grow.lens (h : Grow R e w lo A n c css xs) : css.length = xs.length ∧ ∀ cs ∈ css, cs.length = R.m := by
  obtain ⟨Ss, hb, _⟩ := h.built
  refine ⟨hb.all.1, fun cs hcs => ?_⟩
  obtain ⟨i, hi, rfl⟩ := List.mem_iff_getElem.1 hcs
  have h1 := hb.all.1
  have h2 := hb.all.2.1
  exact R.own_len (hb.all.2.2 i _ _ _ (List.getElem?_eq_getElem (by omega)) (List.getElem?_eq_getElem hi) (List.getElem?_eq_getElem (by omega)))
theorem Grow.keep (h : Grow R e w lo A n c css xs) (hb : Below w.heap.size w w') : Grow R e w' lo A n c css xs := by
  obtain ⟨Ss, h1, h2⟩ := h.built
  exact ⟨own_below h.row hb, ⟨Ss, h1.keep hb, h2⟩, h.len⟩
theorem Grow.setC (h : Grow R e w lo A n c css xs) {a : Addr} (ha : a.block < lo) (u : Value) : Grow R e (w.setCell a u) lo A n c css xs := by
  obtain ⟨Ss, h1, h2⟩ := h.built
  exact ⟨own_setCell h.row ha u, ⟨Ss, h1.setC (fun s hs hg => by have := (h1.inn s hs _ hg).1; omega) u, h2⟩, h.len⟩
/-- A store into a block that is neither the row's nor an element's. -/
theorem Grow.outC {T : Nat → Prop} (h : Grow R e w lo A n c css xs) (ho : Out T w w') (hT : ∀ g, lo ≤ g → ¬ T g) : Grow R e w' lo A n c css xs := by
  obtain ⟨Ss, h1, h2⟩ := h.built
  refine ⟨?_, ⟨Ss, h1.out ho (fun s hs g hg => hT g (h1.inn s hs g hg).1), h2⟩, h.len⟩
  refine ⟨h.row.1, ?_⟩
  rcases h.row.2 with hn | ⟨g, cap, cur, hv, h0, hg, rest⟩
  · exact .inl hn
  · exact .inr ⟨g, cap, cur, hv, h0, by rw [ho.block g (Array.getElem?_eq_some_iff.1 hg).1 (hT g h0)]; exact hg, rest⟩
theorem Grow.base {lo' : Nat} (h : Grow R e w lo A n c css xs) (hb : lo' ≤ lo) : Grow R e w lo' A n c css xs := by
  obtain ⟨Ss, h1, h2⟩ := h.built
  exact ⟨own_base h.row hb, ⟨Ss, ⟨h1.all, fun s hs g hg => ⟨Nat.le_trans hb (h1.inn s hs g hg).1, (h1.inn s hs g hg).2⟩, h1.apart⟩, h2⟩, h.len⟩
theorem Grow.sl (h : Grow R e w lo A n c css xs) (hm : 0 < R.m) : SlOwn R e w (InR lo w.heap.size) (.slice A n c) xs := by
  obtain ⟨hl, hls⟩ := h.lens
  obtain ⟨Ss, h1, h2⟩ := h.built
  have hrow := h.row
  have hlen := h.len
  subst hlen
  have hc : xs.length ≤ c := own_cap hrow
  have hc2 : c ≤ 9223372036854775807 := by
    rcases hrow.2 with ⟨hv, hn⟩ | ⟨g, cap, cur, hv, _, _, _, hcm, _⟩
    · simp only [Value.slice.injEq] at hv; omega
    · simp only [Value.slice.injEq] at hv; simp only [maxLen] at hcm; omega
  refine h1.own (Rows.of_own hrow hls hl hm) hc hc2 (fun g hg => own_inR hrow g hg) (fun s hs g hg => ⟨h1.inn s hs g hg, fun hg2 => h2 s hs g hg2 hg⟩)
/-- One element more: it was made behind the world wr, the append behind that. -/
theorem Grow.snoc (h : Grow R e wr lo A n c css xs) (hbW : Below wr.heap.size wr W) {lo1 hi1 : Nat} {cs : List Value} {x : α} (ho : R.Own W (InR lo1 hi1) cs x) (h1 : wr.heap.size ≤ lo1) (h2 : hi1 ≤ W.heap.size) (hlo : lo ≤ wr.heap.size)
    {gg cap : Nat} (hown : w'.ownsRow lo e R.m (.slice (some ⟨gg, 0, none⟩) (n + 1) cap) (n + 1) (css.flatten ++ cs)) (hg : W.grownBy w' (Value.slice A n c).ownBlock) (hat : (Value.slice A n c).ownBlock = some gg ∨ gg = W.heap.size) :
    Grow R e w' lo (some ⟨gg, 0, none⟩) (n + 1) cap (css ++ [cs]) (xs ++ [x]) := by
  obtain ⟨Ss, hbt, hoff⟩ := h.built
  have hrow := h.row
  have hin : ∀ g, (Value.slice A n c).ownBlock = some g → g < wr.heap.size := fun g hg => (hrow.lt g hg).2
  refine ⟨by rw [List.flatten_append]; simpa using hown, ⟨Ss ++ [InR lo1 hi1], ?_, ?_⟩, by rw [List.length_append, h.len]; rfl⟩
  · have hs := (hbt.keep hbW).snoc ho (Nat.le_trans hlo h1) h2 (fun s hs g hg => Nat.lt_of_lt_of_le (hbt.inn s hs g hg).2 h1)
    refine hs.out (out_of_grown hg) (fun s hs2 g hg1 hg2 => ?_)
    rcases List.mem_append.1 hs2 with hs2 | hs2
    · exact hoff s hs2 g hg2 hg1
    · rw [List.mem_singleton.1 hs2] at hg1
      have := hin g hg2
      have := hg1.1
      omega
  · intro s hs g hg1 hg2
    simp only [Value.ownBlock, if_true, Option.some.injEq, Option.map_some] at hg1
    rcases List.mem_append.1 hs with hs | hs
    · have h5 := (hbt.inn s hs g hg2).2
      rcases hat with h6 | h6
      · exact hoff s hs g (by rw [h6]; simpa [Value.ownBlock] using hg1) hg2
      · have := hbW.size; have h7 : gg = g := by simpa [Value.ownBlock] using hg1
        omega
    · rw [List.mem_singleton.1 hs] at hg2
      have h7 : gg = g := by simpa [Value.ownBlock] using hg1
      rcases hat with h6 | h6
      · have := hin gg h6; have := hg2.1; omega
      · have := hg2.2; omega
end
end Go.Proofs.YtoijmnnjcoogkaaDoor

/- Two slices under construction side by side: one whose elements own memory, one of integers. -/
import Derived.Test.YtcfhnhhgnophhaaGrow
import Derived.Test.YtcfhnhhgnophhaaIntS2
set_option linter.unusedSimpArgs false
set_option linter.unusedVariables false
set_option maxRecDepth 20000
namespace Go.Proofs.Ytcfhnhhgnophhaa
open Go.RowKit
structure Two {α : Type} (R : Rep α) (e : TypeId) (w : World) (lo : Nat) (A : Option Addr) (n c : Nat) (css : List (List Value)) (xs : List α) (B : Option Addr) (m d : Nat) (ys : List Int) : Prop where
  row : w.ownsRow lo e R.m (.slice A n c) n css.flatten
  built : ∃ Ss, Built R w lo Ss css xs ∧ (∀ s ∈ Ss, ∀ g, (Value.slice A n c).ownBlock = some g → ¬ s g) ∧ ∀ g, (Value.slice B m d).ownBlock = some g → (Value.slice A n c).ownBlock ≠ some g ∧ ∀ s ∈ Ss, ¬ s g
  len : n = xs.length
  irow : w.ownsRow lo 3 1 (.slice B m d) m (ys.map intV)
section
variable {α : Type} {R : Rep α} {e : TypeId} {w w' W wr : World} {lo n c m d : Nat} {A B : Option Addr} {css : List (List Value)} {xs : List α} {ys : List Int}
theorem Two.nil (R : Rep α) (e : TypeId) (w : World) (lo : Nat) : Two R e w lo none 0 0 [] [] none 0 0 [] := ⟨World.ownsRow_nil _ _ _ _, ⟨[], Built.nil _ _ _, by simp, fun g hg => by simp [Value.ownBlock] at hg⟩, rfl, World.ownsRow_nil _ _ _ _⟩
theorem Two.keep (h : Two R e w lo A n c css xs B m d ys) (hb : Below w.heap.size w w') : Two R e w' lo A n c css xs B m d ys := by
  obtain ⟨Ss, h1, h2, h3⟩ := h.built
  exact ⟨own_below h.row hb, ⟨Ss, h1.keep hb, h2, h3⟩, h.len, own_below h.irow hb⟩
theorem Two.setC (h : Two R e w lo A n c css xs B m d ys) {a : Addr} (ha : a.block < lo) (u : Value) : Two R e (w.setCell a u) lo A n c css xs B m d ys := by
  obtain ⟨Ss, h1, h2, h3⟩ := h.built
  exact ⟨own_setCell h.row ha u, ⟨Ss, h1.setC (fun s hs hg => by have := (h1.inn s hs _ hg).1; omega) u, h2, h3⟩, h.len, own_setCell h.irow ha u⟩
theorem Two.base {lo' : Nat} (h : Two R e w lo A n c css xs B m d ys) (hb : lo' ≤ lo) : Two R e w lo' A n c css xs B m d ys := by
  obtain ⟨Ss, h1, h2, h3⟩ := h.built
  exact ⟨own_base h.row hb, ⟨Ss, ⟨h1.all, fun s hs g hg => ⟨Nat.le_trans hb (h1.inn s hs g hg).1, (h1.inn s hs g hg).2⟩, h1.apart⟩, h2, h3⟩, h.len, own_base h.irow hb⟩
theorem own_grown {base : Nat} {e : TypeId} {size n : Nat} {v : Value} {xs : List Value} {row : Option Nat} (h : w.ownsRow base e size v n xs) (hg : w.grownBy w' row) (hne : ∀ g, v.ownBlock = some g → row ≠ some g) : w'.ownsRow base e size v n xs := by
  refine ⟨h.1, ?_⟩
  rcases h.2 with hn | ⟨g, cap, cur, rfl, h0, hgg, rest⟩
  · exact .inl hn
  · exact .inr ⟨g, cap, cur, rfl, h0, by rw [hg.block g (Array.getElem?_eq_some_iff.1 hgg).1 (fun e => hne g rfl e.symm)]; exact hgg, rest⟩
/-- One element more; it was made behind the world wr, the append behind that. -/
theorem Two.snoc (h : Two R e wr lo A n c css xs B m d ys) (hbW : Below wr.heap.size wr W) {lo1 hi1 : Nat} {cs : List Value} {x : α} (ho : R.Own W (InR lo1 hi1) cs x) (h1 : wr.heap.size ≤ lo1) (h2 : hi1 ≤ W.heap.size) (hlo : lo ≤ wr.heap.size)
    {gg cap : Nat} (hown : w'.ownsRow lo e R.m (.slice (some ⟨gg, 0, none⟩) (n + 1) cap) (n + 1) (css.flatten ++ cs)) (hg : W.grownBy w' (Value.slice A n c).ownBlock) (hat : (Value.slice A n c).ownBlock = some gg ∨ gg = W.heap.size) :
    Two R e w' lo (some ⟨gg, 0, none⟩) (n + 1) cap (css ++ [cs]) (xs ++ [x]) B m d ys := by
  obtain ⟨Ss, hbt, hoff, hio⟩ := h.built
  have hrow := h.row
  have hin : ∀ g, (Value.slice A n c).ownBlock = some g → g < wr.heap.size := fun g hg => (hrow.lt g hg).2
  have hin2 : ∀ g, (Value.slice B m d).ownBlock = some g → g < wr.heap.size := fun g hg => (h.irow.lt g hg).2
  have hsz := hbW.size
  refine ⟨by rw [List.flatten_append]; simpa using hown, ⟨Ss ++ [InR lo1 hi1], ?_, ?_, ?_⟩, by rw [List.length_append, h.len]; rfl, own_grown (own_below h.irow hbW) hg (fun g hg2 => (hio g hg2).1)⟩
  · have hs := (hbt.keep hbW).snoc ho (Nat.le_trans hlo h1) h2 (fun s hs g hg => Nat.lt_of_lt_of_le (hbt.inn s hs g hg).2 h1)
    refine hs.out (out_of_grown hg) (fun s hs2 g hg1 hg2 => ?_)
    rcases List.mem_append.1 hs2 with hs2 | hs2
    · exact hoff s hs2 g hg2 hg1
    · rw [List.mem_singleton.1 hs2] at hg1
      have := hin g hg2
      have := hg1.1
      omega
  · intro s hs g hg1 hg2
    have h7 : gg = g := by simpa [Value.ownBlock] using hg1
    rcases List.mem_append.1 hs with hs | hs
    · have h5 := (hbt.inn s hs g hg2).2
      rcases hat with h6 | h6
      · exact hoff s hs g (by rw [h6, h7]) hg2
      · omega
    · rw [List.mem_singleton.1 hs] at hg2
      rcases hat with h6 | h6
      · have := hin gg h6; have := hg2.1; omega
      · have := hg2.2; omega
  · intro g hg1
    have h5 := hin2 g hg1
    refine ⟨fun e => ?_, fun s hs hg2 => ?_⟩
    · have h7 : gg = g := by simpa [Value.ownBlock] using e
      rcases hat with h6 | h6
      · exact (hio g hg1).1 (by rw [h6, h7])
      · omega
    · rcases List.mem_append.1 hs with hs | hs
      · exact (hio g hg1).2 s hs hg2
      · rw [List.mem_singleton.1 hs] at hg2
        have := hg2.1; omega
/-- One integer more. -/
theorem Two.snocI (h : Two R e wr lo A n c css xs B m d ys) (hbW : Below wr.heap.size wr W) (y : Int)
    {gg cap : Nat} (hown : w'.ownsRow lo 3 1 (.slice (some ⟨gg, 0, none⟩) (m + 1) cap) (m + 1) (ys.map intV ++ [intV y])) (hg : W.grownBy w' (Value.slice B m d).ownBlock) (hat : (Value.slice B m d).ownBlock = some gg ∨ gg = W.heap.size) :
    Two R e w' lo A n c css xs (some ⟨gg, 0, none⟩) (m + 1) cap (ys ++ [y]) := by
  obtain ⟨Ss, hbt, hoff, hio⟩ := h.built
  have hrow := h.row
  have hin : ∀ g, (Value.slice A n c).ownBlock = some g → g < wr.heap.size := fun g hg => (hrow.lt g hg).2
  have hsz := hbW.size
  refine ⟨own_grown (own_below hrow hbW) hg (fun g hg2 e => (hio g e).1 hg2), ⟨Ss, ?_, hoff, ?_⟩, h.len, by rw [List.map_append]; exact hown⟩
  · exact (hbt.keep hbW).out (out_of_grown hg) (fun s hs2 g hg1 hg2 => (hio g hg2).2 s hs2 hg1)
  · intro g hg1
    have h7 : gg = g := by simpa [Value.ownBlock] using hg1
    refine ⟨fun e => ?_, fun s hs hg2 => ?_⟩
    · rcases hat with h6 | h6
      · exact (hio gg h6).1 (by rw [h7]; exact e)
      · have := hin g e; omega
    · have h5 := (hbt.inn s hs g hg2).2
      rcases hat with h6 | h6
      · exact (hio gg h6).2 s hs (by rw [h7]; exact hg2)
      · omega
theorem Two.grow (h : Two R e w lo A n c css xs B m d ys) : Grow R e w lo A n c css xs := by
  obtain ⟨Ss, h1, h2, _⟩ := h.built
  exact ⟨h.row, ⟨Ss, h1, h2⟩, h.len⟩
/-- Both, each in a set of its own. -/
theorem Two.sl (h : Two R e w lo A n c css xs B m d ys) (hm : 0 < R.m) : ∃ Sa Sb, SlOwn R e w Sa (.slice A n c) xs ∧ SlOwn intR 3 w Sb (.slice B m d) ys ∧ (∀ g, Sa g → InR lo w.heap.size g) ∧ (∀ g, Sb g → InR lo w.heap.size g) ∧ ∀ g, Sa g → ¬ Sb g := by
  obtain ⟨hl, hls⟩ := h.grow.lens
  obtain ⟨Ss, h1, h2, h3⟩ := h.built
  have hrow := h.row
  have hir := h.irow
  have hil : ys.length = m := by have := hir.1; simpa using this
  have hlen := h.len
  subst hlen
  have hc : xs.length ≤ c := own_cap hrow
  have hc2 : c ≤ 9223372036854775807 := by
    rcases hrow.2 with ⟨hv, hn⟩ | ⟨g, cap, cur, hv, _, _, _, hcm, _⟩
    · simp only [Value.slice.injEq] at hv; omega
    · simp only [Value.slice.injEq] at hv; simp only [maxLen] at hcm; omega
  subst hil
  refine ⟨fun g => (Value.slice A xs.length c).ownBlock = some g ∨ ∃ s ∈ Ss, s g, fun g => (Value.slice B ys.length d).ownBlock = some g,
    h1.own (Rows.of_own hrow hls hl hm) hc hc2 (fun g hg => .inl hg) (fun s hs g hg => ⟨.inr ⟨s, hs, hg⟩, fun hg2 => h2 s hs g hg2 hg⟩), of_own_IntS hir, fun g hg => ?_, fun g hg => own_inR hir g hg, fun g hg hg2 => ?_⟩
  · rcases hg with hg | ⟨s, hs, hg⟩
    · exact own_inR hrow g hg
    · exact h1.inn s hs g hg
  · rcases hg with hg | ⟨s, hs, hg⟩
    · exact (h3 g hg2).1 hg
    · exact (h3 g hg2).2 s hs hg
end
end Go.Proofs.Ytcfhnhhgnophhaa

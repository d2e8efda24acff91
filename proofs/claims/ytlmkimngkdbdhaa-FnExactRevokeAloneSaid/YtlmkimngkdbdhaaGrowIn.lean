/- A finished slice that owns its row and its elements in [lo, hi): stores into it, an element less. -/
import Derived.Test.YtlmkimngkdbdhaaDelTok
set_option linter.unusedSimpArgs false
set_option linter.unusedVariables false
namespace Go.Proofs.Ytlmkimngkdbdhaa
open Go.RowKit
structure GrowIn {α : Type} (R : Rep α) (e : TypeId) (w : World) (lo hi : Nat) (A : Option Addr) (n c : Nat) (css : List (List Value)) (xs : List α) : Prop where
  row : w.ownsRow lo e R.m (.slice A n c) n css.flatten
  rlt : ∀ g, (Value.slice A n c).ownBlock = some g → g < hi
  built : ∃ Ss, Built R w lo Ss css xs ∧ (∀ s ∈ Ss, ∀ g, s g → g < hi) ∧ ∀ s ∈ Ss, ∀ g, (Value.slice A n c).ownBlock = some g → ¬ s g
  len : n = xs.length
section
variable {α : Type} {R : Rep α} {e : TypeId} {w w' : World} {lo hi n c g : Nat} {A : Option Addr} {css : List (List Value)} {xs : List α}
theorem Grow.inn (h : Grow R e w lo A n c css xs) : GrowIn R e w lo w.heap.size A n c css xs := by
  obtain ⟨Ss, h1, h2⟩ := h.built
  exact ⟨h.row, fun g hg => (h.row.lt g hg).2, ⟨Ss, h1, fun s hs g hg => (h1.inn s hs g hg).2, h2⟩, h.len⟩
theorem GrowIn.grow (h : GrowIn R e w lo hi A n c css xs) : Grow R e w lo A n c css xs := by
  obtain ⟨Ss, h1, h2, h3⟩ := h.built
  exact ⟨h.row, ⟨Ss, h1, h3⟩, h.len⟩
theorem GrowIn.out (h : GrowIn R e w lo hi A n c css xs) (ho : Out (Off lo hi) w w') : GrowIn R e w' lo hi A n c css xs := by
  obtain ⟨Ss, h1, h2, h3⟩ := h.built
  refine ⟨?_, h.rlt, ⟨Ss, h1.out ho (fun s hs q hq h4 => by have h5 := (h1.inn s hs q hq).1; have h6 := h2 s hs q hq; rcases h4 with h4 | h4 <;> omega), h2, h3⟩, h.len⟩
  refine ⟨h.row.1, ?_⟩
  rcases h.row.2 with hn | ⟨q, cap, cur, hv, h0, hg, rest⟩
  · exact .inl hn
  · refine .inr ⟨q, cap, cur, hv, h0, ?_, rest⟩
    have hq : q < hi := h.rlt q (by rw [hv]; rfl)
    rw [ho.block q (Array.getElem?_eq_some_iff.1 hg).1 (fun h4 => by rcases h4 with h4 | h4 <;> omega)]
    exact hg
theorem GrowIn.sl (h : GrowIn R e w lo hi A n c css xs) (hm : 0 < R.m) : SlOwn R e w (InR lo hi) (.slice A n c) xs := by
  obtain ⟨hl, hls⟩ := h.grow.lens
  obtain ⟨Ss, h1, h2, h3⟩ := h.built
  have hrow := h.row
  have hlen := h.len
  have hrl := h.rlt
  subst hlen
  have hc : xs.length ≤ c := own_cap hrow
  have hc2 : c ≤ 9223372036854775807 := by
    rcases hrow.2 with ⟨hv, hn⟩ | ⟨g, cap, cur, hv, _, _, _, hcm, _⟩
    · simp only [Value.slice.injEq] at hv; omega
    · simp only [Value.slice.injEq] at hv; simp only [maxLen] at hcm; omega
  exact h1.own (Rows.of_own hrow hls hl hm) hc hc2 (fun g hg => ⟨(own_inR hrow g hg).1, hrl g hg⟩) (fun s hs g hg => ⟨⟨(h1.inn s hs g hg).1, h2 s hs g hg⟩, fun hg2 => h3 s hs g hg2 hg⟩)
theorem GrowIn.set (h : GrowIn R e w lo hi (some ⟨g, 0, none⟩) n c css xs) {i k : Nat} {x x' : α} {cs : List Value} (hi' : xs[i]? = some x) (hcs : css[i]? = some cs) (hk : k < R.m) (u : Value)
    (hx : ∀ (w' : World) (S : Nat → Prop), R.Own w' S cs x → R.Own w' S (cs.set k u) x') : GrowIn R e (w.setCell ⟨g, i * R.m + k, none⟩ u) lo hi (some ⟨g, 0, none⟩) n c (css.set i (cs.set k u)) (xs.set i x') := by
  obtain ⟨hl, hls⟩ := h.grow.lens
  obtain ⟨Ss, h1, h2, h3⟩ := h.built
  have hrow := h.row
  have hO : Out (fun q => q = g) w (w.setCell ⟨g, i * R.m + k, none⟩ u) := Out.setCell (S := fun q => q = g) (Out.refl _ w) (p := ⟨g, i * R.m + k, none⟩) rfl u
  have hne : ∀ s ∈ Ss, ∀ q, s q → ¬ q = g := fun s hs q hq e => h3 s hs q (by rw [e]; rfl) hq
  have hix := (List.getElem?_eq_some_iff.1 hi').1
  have hS := List.getElem?_eq_getElem (l := Ss) (i := i) (by rw [h1.all.2.1]; exact hix)
  refine ⟨?_, h.rlt, ⟨Ss, ⟨?_, fun s hs q hq => ⟨(h1.inn s hs q hq).1, by have := (h1.inn s hs q hq).2; simpa using this⟩, h1.apart⟩, h2, h3⟩, by rw [List.length_set]; exact h.len⟩
  · rw [flatten_set hk u css i cs hls hcs]
    exact (hrow.stored (i * R.m + k) u).1
  · exact h1.all.set hS hO (fun j s _ hj q hq => hne s (List.mem_of_getElem? hj) q hq) (hx _ _ (R.own_out (h1.all.2.2 i _ _ _ hS hcs hi') hO (fun q hq => hne _ (List.mem_of_getElem? hS) q hq)))
theorem GrowIn.erase {k : Nat} (h : GrowIn R e w lo hi (some ⟨g, 0, none⟩) n c css xs) (hk : k < n)
    (hrow : w'.ownsRow lo e R.m (.slice (some ⟨g, 0, none⟩) (n - 1) c) (n - 1) (css.eraseIdx k).flatten) (hg : w.grownBy w' (some g)) : GrowIn R e w' lo hi (some ⟨g, 0, none⟩) (n - 1) c (css.eraseIdx k) (xs.eraseIdx k) := by
  obtain ⟨Ss, h1, h2, h3⟩ := h.built
  have hlen := h.len
  have hl1 := h1.all.1
  have hl2 := h1.all.2.1
  have hb := h1.out (out_of_grown hg) (fun s hs q hq hq2 => by
    simp only [Option.some.injEq] at hq2
    exact h3 s hs q (by rw [← hq2]; rfl) hq)
  refine ⟨hrow, fun q hq => h.rlt q (by simpa [Value.ownBlock] using hq), ⟨Ss.eraseIdx k, ⟨⟨by rw [List.length_eraseIdx_of_lt (by omega), List.length_eraseIdx_of_lt (by omega), hl1], by rw [List.length_eraseIdx_of_lt (by omega), List.length_eraseIdx_of_lt (by omega), hl2], fun i S cs x q1 q2 q3 => ?_⟩, fun s hs => hb.inn s (List.eraseIdx_subset hs), hb.apart.sublist (List.eraseIdx_sublist ..)⟩, fun s hs => h2 s (List.eraseIdx_subset hs), fun s hs q hq => h3 s (List.eraseIdx_subset hs) q (by simpa [Value.ownBlock] using hq)⟩, by rw [List.length_eraseIdx_of_lt (by omega)]; omega⟩
  rw [getElem?_eraseIdx'] at q1 q2 q3
  by_cases hi : i < k
  · rw [if_pos hi] at q1 q2 q3
    exact hb.all.2.2 i S cs x q1 q2 q3
  · rw [if_neg hi] at q1 q2 q3
    exact hb.all.2.2 (i + 1) S cs x q1 q2 q3
end
theorem GrowIn.forest {w : World} {lo hi n c : Nat} {A : Option Addr} {css : List (List Value)} {ts : List Token} (h : GrowIn TokenR 37 w lo hi A n c css ts) : ForestR.Own w (InR lo hi) [.slice A n c] ⟨ts⟩ := by
  have h1 := h.sl (by decide)
  have hl := h.len
  subst hl
  exact of_own_Forest (x := ⟨ts⟩) h1 (fun _ h => h)
theorem slices_Delete_GrowIn {w : World} {lo hi n c g k : Nat} {css : List (List Value)} {ts : List Token} (h : GrowIn TokenR 37 w lo hi (some ⟨g, 0, none⟩) n c css ts) (hk : k < n) (hm : n ≤ 1073741824) :
    Calls Try.prog 56 #[.slice (some ⟨g, 0, none⟩) n c, .int .i64 k, .int .i64 ((k : Int) + 1)] w fun e w' => e = .returned (.slice (some ⟨g, 0, none⟩) (n - 1) c) ∧ GrowIn TokenR 37 w' lo hi (some ⟨g, 0, none⟩) (n - 1) c (css.eraseIdx k) (ts.eraseIdx k) ∧ w.grownBy w' (some g) :=
  (slices_Delete_Grow h.grow hk hm).mono fun e w' ⟨h1, h2, h3⟩ => ⟨h1, h.erase hk h2.row h3, h3⟩
end Go.Proofs.Ytlmkimngkdbdhaa

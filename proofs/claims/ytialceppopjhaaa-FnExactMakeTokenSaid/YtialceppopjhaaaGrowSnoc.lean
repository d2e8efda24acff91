/- One element more behind a finished slice: the blocks between the slice's end and the append are free. -/
import Derived.Test.YtialceppopjhaaaGrow
import Derived.Test.YtialceppopjhaaaGrow2
set_option linter.unusedSimpArgs false
set_option linter.unusedVariables false
namespace Go.Proofs.Ytialceppopjhaaa
open Go.RowKit
theorem Grow.snocOwn {α : Type} {R : Rep α} {e : TypeId} {w0 wr W w' : World} {lo n c : Nat} {A : Option Addr} {css : List (List Value)} {xs : List α} (h : Grow R e w0 lo A n c css xs) (hb0 : Below w0.heap.size w0 wr) (hbW : Below wr.heap.size wr W) {lo1 hi1 : Nat} {cs : List Value} {x : α} (ho : R.Own W (InR lo1 hi1) cs x) (h1 : wr.heap.size ≤ lo1) (h2 : hi1 ≤ W.heap.size) (hlo : lo ≤ w0.heap.size)
    {gg cap : Nat} (hown : w'.ownsRow lo e R.m (.slice (some ⟨gg, 0, none⟩) (n + 1) cap) (n + 1) (css.flatten ++ cs)) (hg : W.grownBy w' (Value.slice A n c).ownBlock) (hat : (Value.slice A n c).ownBlock = some gg ∨ gg = W.heap.size) (hm : 0 < R.m) :
    SlOwn R e w' (fun g => InR lo w0.heap.size g ∨ InR wr.heap.size w'.heap.size g) (.slice (some ⟨gg, 0, none⟩) (n + 1) cap) (xs ++ [x]) := by
  obtain ⟨Ss, hb1, hoff⟩ := h.built
  have hrow := h.row
  have hz0 := hb0.size
  have hzW := hbW.size
  have hz' := hg.size
  have hin : ∀ g, (Value.slice A n c).ownBlock = some g → lo ≤ g ∧ g < w0.heap.size := fun g hg => hrow.lt g hg
  have hbt := hb1.keep hb0
  have hs0 : ∀ s ∈ Ss, ∀ g, s g → lo ≤ g ∧ g < w0.heap.size := fun s hs g hg => hb1.inn s hs g hg
  have hlen := h.len
  subst hlen
  have hB : Built R w' lo (Ss ++ [InR lo1 hi1]) (css ++ [cs]) (xs ++ [x]) := by
    have hs := (hbt.keep hbW).snoc ho (Nat.le_trans hlo (Nat.le_trans hz0 h1)) h2 (fun s hs g hg => Nat.lt_of_lt_of_le (hs0 s hs g hg).2 (Nat.le_trans hz0 h1))
    refine hs.out (out_of_grown hg) (fun s hs2 g hg1 hg2 => ?_)
    rcases List.mem_append.1 hs2 with hs2 | hs2
    · exact hoff s hs2 g hg2 hg1
    · rw [List.mem_singleton.1 hs2] at hg1
      have := (hin g hg2).2
      have := hg1.1
      omega
  have hO : ∀ s ∈ Ss ++ [InR lo1 hi1], ∀ g, gg = g → ¬ s g := by
    intro s hs g h7 hg2
    rcases List.mem_append.1 hs with hs | hs
    · have h5 := (hs0 s hs g hg2).2
      rcases hat with h6 | h6
      · exact hoff s hs g (by rw [h6, h7]) hg2
      · omega
    · rw [List.mem_singleton.1 hs] at hg2
      rcases hat with h6 | h6
      · have := (hin gg h6).2; have := hg2.1; omega
      · have := hg2.2; omega
  have hOb : ∀ g, (Value.slice (some ⟨gg, 0, none⟩) (xs.length + 1) cap).ownBlock = some g → gg = g := fun g hg => by simpa [Value.ownBlock] using hg
  have hll : xs.length + 1 = (xs ++ [x]).length := by simp
  have hfl : css.flatten ++ cs = (css ++ [cs]).flatten := by simp
  rw [hll, hfl] at hown
  rw [hll] at hOb
  have G : Grow R e w' lo (some ⟨gg, 0, none⟩) (xs ++ [x]).length cap (css ++ [cs]) (xs ++ [x]) := ⟨hown, ⟨_, hB, fun s hs g hg => hO s hs g (hOb g hg)⟩, rfl⟩
  obtain ⟨hl, hls⟩ := G.lens
  have hc : (xs ++ [x]).length ≤ cap := own_cap hown
  have hc2 : cap ≤ 9223372036854775807 := by
    rcases hown.2 with ⟨hv, hn⟩ | ⟨g, cap', cur, hv, _, _, _, hcm, _⟩
    · simp only [Value.slice.injEq] at hv; omega
    · simp only [Value.slice.injEq] at hv; simp only [maxLen] at hcm; omega
  rw [hll]
  refine hB.own (Rows.of_own hown hls hl hm) hc hc2 (fun g hg3 => ?_) (fun s hs g hg3 => ⟨?_, fun hg2 => hO s hs g (hOb g hg2) hg3⟩)
  · have h7 := hOb g hg3
    have h8 := hown.lt g hg3
    rcases hat with h6 | h6
    · exact .inl (by rw [← h7]; exact hin gg h6)
    · exact .inr ⟨by omega, h8.2⟩
  · rcases List.mem_append.1 hs with hs | hs
    · exact .inl (hs0 s hs g hg3)
    · rw [List.mem_singleton.1 hs] at hg3
      exact .inr ⟨Nat.le_trans h1 hg3.1, Nat.lt_of_lt_of_le hg3.2 (Nat.le_trans h2 hz')⟩
end Go.Proofs.Ytialceppopjhaaa

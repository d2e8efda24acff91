/- A store into an element of a slice under construction. -/
import Derived.Test.YtcfhnhhgnophhaaGrow
set_option linter.unusedSimpArgs false
set_option linter.unusedVariables false
set_option maxRecDepth 20000
namespace Go.Proofs.Ytcfhnhhgnophhaa
open Go.RowKit
theorem flatten_set {β : Type} {m k : Nat} (hk : k < m) (u : β) : ∀ (css : List (List β)) (i : Nat) (cs : List β), (∀ c ∈ css, c.length = m) → css[i]? = some cs → (css.set i (cs.set k u)).flatten = css.flatten.set (i * m + k) u
  | [], i, cs, _, h => by simp at h
  | c0 :: css, 0, cs, hl, h => by
    simp only [List.getElem?_cons_zero, Option.some.injEq] at h
    subst h
    have h0 : c0.length = m := hl c0 (by simp)
    rw [List.set_cons_zero, List.flatten_cons, List.flatten_cons, Nat.zero_mul, Nat.zero_add, List.set_append_left _ _ (by omega)]
  | c0 :: css, i + 1, cs, hl, h => by
    have h0 : c0.length = m := hl c0 (by simp)
    rw [List.set_cons_succ, List.flatten_cons, List.flatten_cons, flatten_set hk u css i cs (fun c hc => hl c (by simp [hc])) (by simpa using h), List.set_append_right _ _ (by rw [h0, Nat.add_mul]; omega), h0, show (i + 1) * m + k - m = i * m + k by rw [Nat.add_mul]; omega]
section
variable {α : Type} {R : Rep α} {e : TypeId} {w : World} {lo n c g : Nat} {css : List (List Value)} {xs : List α}
/-- Where the cells of an element lie. -/
theorem Grow.at_ (h : Grow R e w lo (some ⟨g, 0, none⟩) n c css xs) {i : Nat} {x : α} (hi : xs[i]? = some x) : ∃ cs, css[i]? = some cs ∧ (∃ S, R.Own w S cs x ∧ ∀ q, S q → lo ≤ q ∧ q < w.heap.size ∧ q ≠ g) ∧ lo ≤ g ∧ g < w.heap.size ∧
    ∀ (k : Nat) (u : Value), cs[k]? = some u → w.cell? ⟨g, i * R.m + k, none⟩ = some u ∧ w.frozen? ⟨g, i * R.m + k, none⟩ = false := by
  obtain ⟨hl, hls⟩ := h.lens
  obtain ⟨Ss, h1, h2⟩ := h.built
  have hix := (List.getElem?_eq_some_iff.1 hi).1
  have hcs := List.getElem?_eq_getElem (l := css) (i := i) (by omega)
  have hS := List.getElem?_eq_getElem (l := Ss) (i := i) (by rw [h1.all.2.1]; exact hix)
  have hrow := h.row
  obtain ⟨hg1, hg2⟩ := hrow.lt g rfl
  refine ⟨_, hcs, ⟨_, h1.all.2.2 i _ _ _ hS hcs hi, fun q hq => ⟨(h1.inn _ (List.mem_of_getElem? hS) q hq).1, (h1.inn _ (List.mem_of_getElem? hS) q hq).2, fun e => h2 _ (List.mem_of_getElem? hS) q (by rw [e]; rfl) hq⟩⟩, hg1, hg2, fun k u hu => ?_⟩
  have hk : k < R.m := by rw [← hls _ (List.mem_of_getElem? hcs)]; exact (List.getElem?_eq_some_iff.1 hu).1
  have hfl : css.flatten[i * R.m + k]? = some u := by
    have key : ∀ (css : List (List Value)) (j : Nat) (cs : List Value), (∀ cs ∈ css, cs.length = R.m) → css[j]? = some cs → css.flatten[j * R.m + k]? = cs[k]? := by
      intro css
      induction css with
      | nil => intro j _ _ hj; simp at hj
      | cons r css ih =>
        intro j cs hl hj
        rw [List.flatten_cons]
        have hr : r.length = R.m := hl r (by simp)
        cases j with
        | zero =>
          simp only [List.getElem?_cons_zero, Option.some.injEq] at hj
          subst hj
          rw [Nat.zero_mul, Nat.zero_add, List.getElem?_append_left (by omega)]
        | succ j =>
          rw [List.getElem?_append_right (by rw [hr, Nat.add_mul]; omega), hr, show (j + 1) * R.m + k - R.m = j * R.m + k by rw [Nat.add_mul]; omega]
          exact ih j cs (fun cs hcs => hl cs (by simp [hcs])) (by simpa using hj)
    rw [key css i _ hls hcs]
    exact hu
  have hlt : i * R.m + k < css.flatten.length := (List.getElem?_eq_some_iff.1 hfl).1
  exact ⟨by rw [hrow.cellAt (i * R.m + k) (by have := hrow.1; omega)]; exact hfl, hrow.frozenAt _⟩
/-- A store into a cell of an element. -/
theorem Grow.set (h : Grow R e w lo (some ⟨g, 0, none⟩) n c css xs) {i k : Nat} {x x' : α} {cs : List Value} (hi : xs[i]? = some x) (hcs : css[i]? = some cs) (hk : k < R.m) (u : Value)
    (hx : ∀ (w' : World) (S : Nat → Prop), R.Own w' S cs x → R.Own w' S (cs.set k u) x') : Grow R e (w.setCell ⟨g, i * R.m + k, none⟩ u) lo (some ⟨g, 0, none⟩) n c (css.set i (cs.set k u)) (xs.set i x') := by
  obtain ⟨hl, hls⟩ := h.lens
  obtain ⟨Ss, h1, h2⟩ := h.built
  have hrow := h.row
  have hO : Out (fun q => q = g) w (w.setCell ⟨g, i * R.m + k, none⟩ u) := Out.setCell (S := fun q => q = g) (Out.refl _ w) (p := ⟨g, i * R.m + k, none⟩) rfl u
  have hne : ∀ s ∈ Ss, ∀ q, s q → ¬ q = g := fun s hs q hq e => h2 s hs q (by rw [e]; rfl) hq
  have hix := (List.getElem?_eq_some_iff.1 hi).1
  have hS := List.getElem?_eq_getElem (l := Ss) (i := i) (by rw [h1.all.2.1]; exact hix)
  refine ⟨?_, ⟨Ss, ⟨?_, fun s hs q hq => ⟨(h1.inn s hs q hq).1, by have := (h1.inn s hs q hq).2; simpa using this⟩, h1.apart⟩, h2⟩, by rw [List.length_set]; exact h.len⟩
  · rw [flatten_set hk u css i cs hls hcs]
    exact (hrow.stored (i * R.m + k) u).1
  · exact h1.all.set hS hO (fun j s _ hj q hq => hne s (List.mem_of_getElem? hj) q hq) (hx _ _ (R.own_out (h1.all.2.2 i _ _ _ hS hcs hi) hO (fun q hq => hne _ (List.mem_of_getElem? hS) q hq)))
end
end Go.Proofs.Ytcfhnhhgnophhaa

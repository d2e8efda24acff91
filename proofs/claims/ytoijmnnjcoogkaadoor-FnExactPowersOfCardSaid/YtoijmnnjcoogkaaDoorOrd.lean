/- Lists whose elements are good and stand in order: plain data. -/
import Derived.Test.YtoijmnnjcoogkaaDoorImplWithin
set_option linter.unusedSimpArgs false
set_option linter.unusedVariables false
set_option maxRecDepth 20000
namespace Go.Proofs.YtoijmnnjcoogkaaDoor
open Go.RowKit
section
variable {α : Type} (ok : α → Bool) (lt : α → α → Bool)
/-- The element k is good and stands behind the one ahead of it. -/
def okAt (xs : List α) (k : Nat) : Bool :=
  match xs[k]? with
  | some t => ok t && (match k with | 0 => true | j + 1 => (match xs[j]? with | some s => lt s t | none => true))
  | none => true
def okAll (xs : List α) (n : Nat) : Bool := (List.range n).all (okAt ok lt xs)
variable {ok lt} {xs : List α} {k : Nat} {s t : α}
theorem okAll_zero (ok : α → Bool) (lt : α → α → Bool) (xs : List α) : okAll ok lt xs 0 = true := rfl
theorem okAll_succ (ok : α → Bool) (lt : α → α → Bool) (xs : List α) (n : Nat) : okAll ok lt xs (n + 1) = (okAll ok lt xs n && okAt ok lt xs n) := by simp [okAll, List.range_succ]
theorem okAll_false (hk : k < xs.length) (h : okAt ok lt xs k = false) : okAll ok lt xs xs.length = false := by
  simp only [okAll, List.all_eq_false]
  exact ⟨k, List.mem_range.2 hk, by simp [h]⟩
theorem okAt_bad (ht : xs[k]? = some t) (h : ok t = false) : okAt ok lt xs k = false := by simp [okAt, ht, h]
theorem okAt_first (hk : ¬ 0 < k) (ht : xs[k]? = some t) : okAt ok lt xs k = ok t := by
  obtain rfl : k = 0 := by omega
  unfold okAt
  rw [ht]
  simp
theorem okAt_next (hk : 0 < k) (ht : xs[k]? = some t) (hs : xs[k - 1]? = some s) : okAt ok lt xs k = (ok t && lt s t) := by
  obtain ⟨j, rfl⟩ : ∃ j, k = j + 1 := ⟨k - 1, by omega⟩
  simp only [Nat.add_sub_cancel] at hs
  simp [okAt, ht, hs]
theorem okAt_order (hk : 0 < k) (ht : xs[k]? = some t) (hs : xs[k - 1]? = some s) (h : lt s t = false) : okAt ok lt xs k = false := by rw [okAt_next hk ht hs, h, Bool.and_false]
theorem okAll_get {n : Nat} (h : okAll ok lt xs n = true) (hk : k < n) (ht : xs[k]? = some t) : ok t = true := by
  simp only [okAll, List.all_eq_true] at h
  have := h k (List.mem_range.2 hk)
  unfold okAt at this
  rw [ht] at this
  simp only [Bool.and_eq_true] at this
  exact this.1
theorem okAll_lt {n : Nat} (h : okAll ok lt xs n = true) (hk : k + 1 < n) (hs : xs[k]? = some s) (ht : xs[k + 1]? = some t) : lt s t = true := by
  simp only [okAll, List.all_eq_true] at h
  have := h (k + 1) (List.mem_range.2 hk)
  rw [okAt_next (by omega) ht (by simpa using hs)] at this
  simp only [Bool.and_eq_true] at this
  exact this.2
end
end Go.Proofs.YtoijmnnjcoogkaaDoor

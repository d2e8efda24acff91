/- Whether an integer is in a slice: l01Has of the reference, slices.Contains. -/
import Derived.Test.YtoijmnnjcoogkaaDoorIntS2
import Derived.Test.YtoijmnnjcoogkaaDoorImplWithin
set_option linter.unusedSimpArgs false
set_option linter.unusedVariables false
set_option maxRecDepth 20000
namespace Go.Proofs.YtoijmnnjcoogkaaDoor
open Go.RowKit
def hasB (xs : List Int) (x : Int) : Bool := xs.any (fun y => y == x)
theorem hasB_found {xs : List Int} {k : Nat} {y x : Int} (h : xs[k]? = some y) (he : (y == x) = true) : hasB xs x = true := by
  unfold hasB
  rw [List.any_eq_true]
  exact ⟨y, List.mem_of_getElem? h, he⟩
theorem hasB_none {xs : List Int} {k : Nat} {x : Int} (hk : xs.length ≤ k) (h : (xs.take k).any (fun y => y == x) = false) : hasB xs x = false := by
  rw [List.take_of_length_le hk] at h; exact h
theorem any_snoc {α : Type} {p : α → Bool} {xs : List α} {k : Nat} {x : α} (h : xs[k]? = some x) : (xs.take (k + 1)).any p = ((xs.take k).any p || p x) := by rw [take_snoc h, List.any_append]; simp
end Go.Proofs.YtoijmnnjcoogkaaDoor

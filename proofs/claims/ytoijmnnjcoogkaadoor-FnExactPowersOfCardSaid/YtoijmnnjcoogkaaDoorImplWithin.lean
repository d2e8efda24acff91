/- impl.within, spec.l01In, cmp.Compare, cmp.Or. -/
import Derived.Test.YtoijmnnjcoogkaaDoorIntS
set_option linter.unusedSimpArgs false
set_option linter.unusedVariables false
set_option maxRecDepth 20000
namespace Go.Proofs.YtoijmnnjcoogkaaDoor
open Go.RowKit
def withinB (n lo hi : Int) : Bool := decide (lo ≤ n) && decide (n ≤ hi)
theorem withinB_iff {n lo hi : Int} : withinB n lo hi = true ↔ lo ≤ n ∧ n ≤ hi := by simp [withinB]
theorem withinB_not {n lo hi : Int} : withinB n lo hi = false ↔ n < lo ∨ hi < n := by simp only [withinB, Bool.and_eq_false_iff, decide_eq_false_iff_not]; omega
def orI (x y : Int) : Int := if x = 0 then y else x
def cmpI (a b : Int) : Int := if a < b then -1 else if b < a then 1 else 0
/-- The index of the first element that has a property, or -1. -/
def idxB {α : Type} (p : α → Bool) (xs : List α) : Int := match xs.findIdx? p with | some i => (i : Int) | none => -1
theorem idxB_found {α : Type} {p : α → Bool} {xs : List α} {k : Nat} (hk : k < xs.length) (h : ∀ j (hj : j < k), p (xs[j]'(by omega)) = false) (hp : p xs[k] = true) : idxB p xs = k := by
  unfold idxB
  rw [(List.findIdx?_eq_some_iff_getElem (xs := xs) (p := p) (i := k)).2 ⟨hk, hp, fun j hj => by rw [h j hj]; simp⟩]
theorem idxB_none {α : Type} {p : α → Bool} {xs : List α} (h : ∀ j (hj : j < xs.length), p xs[j] = false) : idxB p xs = -1 := by
  unfold idxB
  rw [List.findIdx?_eq_none_iff.2 (fun x hx => by obtain ⟨j, hj, rfl⟩ := List.mem_iff_getElem.1 hx; exact h j hj)]
theorem impl_within (n lo hi : Int) (w : World) : Calls Tryd.prog 59 #[.int .i64 n, .int .i64 lo, .int .i64 hi] w fun e w' => e = .returned (.bool (withinB n lo hi)) ∧ w = w' := by
  by_cases h : lo ≤ n
  · go_enter Tryd.func59, Tryd.ntmps59
    go_wp2
    go_ret
    exact ⟨ret_bool (by simp [withinB, h]), rfl⟩
  · have hd : decide (lo ≤ n) = false := by simpa using h
    go_enter Tryd.func59, Tryd.ntmps59
    go_wp2
    go_ret
    exact ⟨ret_bool (by simp only [withinB, hd, Bool.false_and]), rfl⟩
theorem spec_l01In (n lo hi : Int) (w : World) : Calls Tryd.prog 56 #[.int .i64 n, .int .i64 lo, .int .i64 hi] w fun e w' => e = .returned (.bool (withinB n lo hi)) ∧ w = w' := by
  by_cases h : lo ≤ n
  · go_enter Tryd.func56, Tryd.ntmps56
    go_wp2
    go_ret
    exact ⟨ret_bool (by simp [withinB, h]), rfl⟩
  · have hd : decide (lo ≤ n) = false := by simpa using h
    go_enter Tryd.func56, Tryd.ntmps56
    go_wp2
    go_ret
    exact ⟨ret_bool (by simp only [withinB, hd, Bool.false_and]), rfl⟩
theorem impl_within_b {n lo hi : Int} {b : Bool} (h : withinB n lo hi = b) (w : World) : Calls Tryd.prog 59 #[.int .i64 n, .int .i64 lo, .int .i64 hi] w fun e w' => e = .returned (.bool b) ∧ w = w' := by rw [← h]; exact impl_within n lo hi w
theorem spec_l01In_b {n lo hi : Int} {b : Bool} (h : withinB n lo hi = b) (w : World) : Calls Tryd.prog 56 #[.int .i64 n, .int .i64 lo, .int .i64 hi] w fun e w' => e = .returned (.bool b) ∧ w = w' := by rw [← h]; exact spec_l01In n lo hi w
end Go.Proofs.YtoijmnnjcoogkaaDoor

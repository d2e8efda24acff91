/- impl.within, spec.l01In, cmp.Compare, cmp.Or. -/
import Derived.Test.YthahnaigdoiddaaIntS
set_option linter.unusedSimpArgs false
set_option linter.unusedVariables false
set_option maxRecDepth 20000
namespace Go.Proofs.Ythahnaigdoiddaa
open Go.RowKit
def withinB (n lo hi : Int) : Bool := decide (lo ≤ n) && decide (n ≤ hi)
theorem withinB_iff {n lo hi : Int} : withinB n lo hi = true ↔ lo ≤ n ∧ n ≤ hi := by simp [withinB]
theorem withinB_not {n lo hi : Int} : withinB n lo hi = false ↔ n < lo ∨ hi < n := by simp only [withinB, Bool.and_eq_false_iff, decide_eq_false_iff_not]; omega
def orI (x y : Int) : Int := if x = 0 then y else x
def cmpI (a b : Int) : Int := if a < b then -1 else if b < a then 1 else 0
/-- The index of the first element that has a property, or -1. -/
def idxB {α : Type} (p : α → Bool) (xs : List α) : Int := match xs.findIdx? p with | some i => (i : Int) | none => -1
theorem idxB_found {α : Type} {p : α → Bool} {xs : List α} {k : Nat} (hk : k < xs.length) (h : ∀ j (hj : j < k), p (xs[j]'(by omega)) = false) (hp : p xs[k] = true) : idxB p xs = k := by
  unfold idxB
  rw [(List.findIdx?_eq_some_iff_getElem (xs := xs) (p := p) (i := k)).2 ⟨hk, hp, fun j hj => by rw [h j hj]; simp⟩]
theorem idxB_none {α : Type} {p : α → Bool} {xs : List α} (h : ∀ j (hj : j < xs.length), p xs[j] = false) : idxB p xs = -1 := by
  unfold idxB
  rw [List.findIdx?_eq_none_iff.2 (fun x hx => by obtain ⟨j, hj, rfl⟩ := List.mem_iff_getElem.1 hx; exact h j hj)]
theorem impl_within (n lo hi : Int) (w : World) : Calls Try.prog 33 #[.int .i64 n, .int .i64 lo, .int .i64 hi] w fun e w' => e = .returned (.bool (withinB n lo hi)) ∧ w = w' := by
  by_cases h : lo ≤ n
  · go_enter Try.func33, Try.ntmps33
    go_wp2
    go_ret
    exact ⟨ret_bool (by simp [withinB, h]), rfl⟩
  · have hd : decide (lo ≤ n) = false := by simpa using h
    go_enter Try.func33, Try.ntmps33
    go_wp2
    go_ret
    exact ⟨ret_bool (by simp only [withinB, hd, Bool.false_and]), rfl⟩
theorem spec_l01In (n lo hi : Int) (w : World) : Calls Try.prog 42 #[.int .i64 n, .int .i64 lo, .int .i64 hi] w fun e w' => e = .returned (.bool (withinB n lo hi)) ∧ w = w' := by
  by_cases h : lo ≤ n
  · go_enter Try.func42, Try.ntmps42
    go_wp2
    go_ret
    exact ⟨ret_bool (by simp [withinB, h]), rfl⟩
  · have hd : decide (lo ≤ n) = false := by simpa using h
    go_enter Try.func42, Try.ntmps42
    go_wp2
    go_ret
    exact ⟨ret_bool (by simp only [withinB, hd, Bool.false_and]), rfl⟩
theorem impl_within_b {n lo hi : Int} {b : Bool} (h : withinB n lo hi = b) (w : World) : Calls Try.prog 33 #[.int .i64 n, .int .i64 lo, .int .i64 hi] w fun e w' => e = .returned (.bool b) ∧ w = w' := by rw [← h]; exact impl_within n lo hi w
theorem spec_l01In_b {n lo hi : Int} {b : Bool} (h : withinB n lo hi = b) (w : World) : Calls Try.prog 42 #[.int .i64 n, .int .i64 lo, .int .i64 hi] w fun e w' => e = .returned (.bool b) ∧ w = w' := by rw [← h]; exact spec_l01In n lo hi w
theorem cmp_Compare (a b : Int) (w : World) : Calls Try.prog 47 #[.int .i64 a, .int .i64 b] w fun e w' => e = .returned (.int .i64 (cmpI a b)) ∧ w = w' := by
  go_enter Try.func47, Try.ntmps47
  go_wp2
  all_goals (go_ret; exact ⟨ret_int (by unfold cmpI; (repeat' split) <;> omega), rfl⟩)
set_option maxHeartbeats 400000 in
theorem cmp_Or2 (A : Option Addr) (c : Nat) (x y : Int) (w : World) (hr : Reads w w.heap.size A [.int .i64 x, .int .i64 y]) : Calls Try.prog 46 #[.slice A 2 c] w fun e w' => e = .returned (.int .i64 (orI x y)) ∧ w = w' := by
  obtain ⟨b, off, rfl, -, h0⟩ := hr.get (k := 0) rfl (Below.refl w.heap.size w) (Nat.le_refl _)
  obtain ⟨b', off', e', -, h1⟩ := hr.get (k := 1) rfl (Below.refl w.heap.size w) (Nat.le_refl _)
  simp only [Option.some.injEq, Addr.mk.injEq, and_true] at e'
  obtain ⟨rfl, rfl⟩ := e'
  rw [Nat.add_zero] at h0
  go_enter Try.func46, Try.ntmps46
  go_wp2
  go_loop [8] (fun i => ∃ k : Nat, k ≤ 2 ∧ i = .int .i64 k ∧ Hid (0 < k → x = 0) ∧ Hid (1 < k → y = 0)) (fun i => 2 - (intOf i).toNat)
  case atStart => exact ⟨0, by omega, rfl, fun h => absurd h (by omega), fun h => absurd h (by omega)⟩
  case round =>
    obtain ⟨k, hk, rfl, hx, hy⟩ := hrel
    rcases (show k = 0 ∨ k = 1 ∨ k = 2 from by omega) with rfl | rfl | rfl
    · by_cases hne : (x != 0) = true
      · go_wp2
        go_ret
        exact ⟨ret_int (by unfold orI; rw [if_neg (by simpa using hne)]), rfl⟩
      · simp only [Bool.not_eq_true] at hne
        go_wp2
        go_round
        case rel => exact ⟨1, by omega, rfl, fun _ => by simpa using hne, fun h => absurd h (by omega)⟩
        case measure => simp [intOf]
    · by_cases hne : (y != 0) = true
      · go_wp2
        go_ret
        exact ⟨ret_int (by unfold orI; rw [if_pos (hx.out (by omega))]), rfl⟩
      · simp only [Bool.not_eq_true] at hne
        go_wp2
        go_round
        case rel => exact ⟨2, by omega, rfl, fun _ => hx.out (by omega), fun _ => by simpa using hne⟩
        case measure => simp [intOf]
    · go_wp2
      go_ret
      exact ⟨ret_int (by unfold orI; rw [if_pos (hx.out (by omega)), hy.out (by omega)]), rfl⟩
end Go.Proofs.Ythahnaigdoiddaa

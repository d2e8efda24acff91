/- The laws' small helpers over bytes: at, big, cpBytes, sameBytes. -/
import Derived.Test.YthahnaigdoiddaaImplWithin
import Derived.Test.YthahnaigdoiddaaRep
import Derived.Test.YthahnaigdoiddaaByteS
import Derived.Test.YthahnaigdoiddaaAppend
set_option linter.unusedSimpArgs false
set_option linter.unusedVariables false
set_option maxRecDepth 20000
namespace Go.Proofs.Ythahnaigdoiddaa
open Go.RowKit
def atV (xs : List UInt8) (i : Nat) : Int := match xs[i]? with
  | some u => (u.toNat : Int)
  | none => ((i : Int) * 13 + (xs.length : Int) * 5) % 256
theorem atV_some {xs : List UInt8} {i : Nat} {u : UInt8} (h : xs[i]? = some u) : atV xs i = u.toNat := by unfold atV; rw [h]
theorem atV_none {xs : List UInt8} {i : Nat} (h : xs.length ≤ i) : atV xs i = ((i : Int) * 13 + (xs.length : Int) * 5) % 256 := by unfold atV; rw [List.getElem?_eq_none h]
theorem atV_bd (xs : List UInt8) (i : Nat) : 0 ≤ atV xs i ∧ atV xs i ≤ 255 := by
  unfold atV
  split
  · rename_i u _; have := u.toNat_lt; omega
  · omega
theorem laws_big (A : Option Addr) (n c : Nat) (w : World) (hn : n ≤ 9223372036854775807) :
    Calls Try.prog 4 #[.slice A n c] w fun e w' => e = .returned (.bool (decide ((1048576 : Int) < n))) ∧ w = w' := by
  go_enter Try.func4, Try.ntmps4
  go_wp2
  all_goals (go_ret; exact ⟨ret_bool (by first | rfl | (simp; done) | (simp; omega)), rfl⟩)
end Go.Proofs.Ythahnaigdoiddaa

/- The laws' small helpers over bytes: at, big, cpBytes, sameBytes. -/
import Derived.Test.YtcfhnhhgnophhaaImplWithin
import Derived.Test.YtcfhnhhgnophhaaRep
import Derived.Test.YtcfhnhhgnophhaaByteS
import Derived.Test.YtcfhnhhgnophhaaAppend
set_option linter.unusedSimpArgs false
set_option linter.unusedVariables false
set_option maxRecDepth 20000
namespace Go.Proofs.Ytcfhnhhgnophhaa
open Go.RowKit
def atV (xs : List UInt8) (i : Nat) : Int := match xs[i]? with
  | some u => (u.toNat : Int)
  | none => ((i : Int) * 13 + (xs.length : Int) * 5) % 256
theorem atV_some {xs : List UInt8} {i : Nat} {u : UInt8} (h : xs[i]? = some u) : atV xs i = u.toNat := by unfold atV; rw [h]
theorem atV_none {xs : List UInt8} {i : Nat} (h : xs.length ≤ i) : atV xs i = ((i : Int) * 13 + (xs.length : Int) * 5) % 256 := by unfold atV; rw [List.getElem?_eq_none h]
theorem atV_bd (xs : List UInt8) (i : Nat) : 0 ≤ atV xs i ∧ atV xs i ≤ 255 := by
  unfold atV
  split
  · rename_i u _; have := u.toNat_lt; omega
  · omega
theorem laws_big (A : Option Addr) (n c : Nat) (w : World) (hn : n ≤ 9223372036854775807) :
    Calls Try.prog 6 #[.slice A n c] w fun e w' => e = .returned (.bool (decide ((1048576 : Int) < n))) ∧ w = w' := by
  go_enter Try.func6, Try.ntmps6
  go_wp2
  all_goals (go_ret; exact ⟨ret_bool (by first | rfl | (simp; done) | (simp; omega)), rfl⟩)
set_option maxHeartbeats 800000 in
theorem laws_at (A : Option Addr) (c : Nat) (xs : List UInt8) (i : Nat) (w : World) (hr : Reads w w.heap.size A (xs.map byteV)) (hm : xs.length ≤ 1048576) (hi : i ≤ 1000000) :
    Calls Try.prog 24 #[.slice A xs.length c, .int .i64 i] w fun e w' => e = .returned (.int .i64 (atV xs i)) ∧ w = w' := by
  by_cases hlt : i < xs.length
  · have hlx : i < (xs.map byteV).length := by simpa using hlt
    obtain ⟨g, off, rfl, hab, hc1⟩ := hr.at_ hlx (Below.refl _ _) (Nat.le_refl _)
    obtain ⟨u, hu1, -, hu3⟩ := map_at byteV xs i hlx
    rw [hu1] at hc1
    simp only [byteV] at hc1
    have hub := u.toNat_lt
    rw [atV_some hu3]
    have HU := Lib.hid hu3
    clear hu3 hu1 hlx
    go_enter Try.func24, Try.ntmps24
    go_wp2
    go_ret
    exact ⟨rfl, rfl⟩
  · rw [atV_none (by omega)]
    have hr : Int.tmod ((i : Int) * 13 + (xs.length : Int) * 5) 256 = ((i : Int) * 13 + (xs.length : Int) * 5) % 256 := Int.tmod_eq_emod_of_nonneg (by omega)
    go_enter Try.func24, Try.ntmps24
    go_wp2
    go_ret
    exact ⟨rfl, rfl⟩
end Go.Proofs.Ytcfhnhhgnophhaa

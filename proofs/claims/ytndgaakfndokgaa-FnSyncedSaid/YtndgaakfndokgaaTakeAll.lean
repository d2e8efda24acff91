/- takeNum, TakeNum at every index. -/
import Derived.Test.YtndgaakfndokgaaSpecTake
set_option linter.unusedSimpArgs false
set_option linter.unusedVariables false
set_option maxRecDepth 20000
namespace Go.Proofs.Ytndgaakfndokgaa
open Go.RowKit
/-- The number at an index, the index behind it, whether there is one. -/
def takeAt (b : List UInt8) (i : Int) : Took := match decide (0 ≤ i) && decide (i < b.length) with | true => takeG answerS b i.toNat 6 0 | false => noTook
theorem takeAt_in {b : List UInt8} {a : Nat} (h : a < b.length) : takeAt b a = takeG answerS b a 6 0 := by
  unfold takeAt
  rw [show (decide ((0 : Int) ≤ (a : Int)) && decide ((a : Int) < b.length)) = true by simp; omega]
  rfl
theorem takeAt_out {b : List UInt8} {i : Int} (h : i < 0 ∨ (b.length : Int) ≤ i) : takeAt b i = noTook := by
  unfold takeAt
  rw [show (decide (0 ≤ i) && decide (i < b.length)) = false by simp only [Bool.and_eq_false_iff, decide_eq_false_iff_not]; omega]
set_option maxHeartbeats 800000 in
theorem impl_takeNum (A : Option Addr) (c : Nat) (b : List UInt8) (i : Int) (w : World) (hr : Reads w w.heap.size A (b.map byteV)) (hm : b.length ≤ 1048576) :
    Calls Try.prog 50 #[.slice A b.length c, .int .i64 i] w fun e w' => e = .returned (.tuple #[.int .i64 (takeAt b i).1, .int .i64 (takeAt b i).2.1, .bool (takeAt b i).2.2]) ∧ w = w' := by
  by_cases h0 : i < 0
  · have HR := Lib.hid (takeAt_out (b := b) (.inl h0))
    go_enter Try.func50, Try.ntmps50
    go_wp2
    go_ret3
    exact ⟨by rw [HR.out]; rfl, rfl⟩
  · obtain ⟨a, rfl⟩ := Int.eq_ofNat_of_zero_le (Int.not_lt.1 h0)
    by_cases h1 : a < b.length
    · rw [takeAt_in h1, ← takeG_same]
      exact impl_takeNum_in A c b a w hr hm h1
    · have HR := Lib.hid (takeAt_out (b := b) (i := (a : Int)) (.inr (by omega)))
      generalize hn : b.length = n at *
      clear hr hn
      go_enter Try.func50, Try.ntmps50
      go_wp2
      go_loop [7, 8] (fun u j => j = .int .i64 a) (fun _ j => 0)
      case atStart => rfl
      case round =>
        subst hrel
        have hd : decide ((a : Int) < n) = false := by simp; omega
        go_wp2
        go_ret3
        exact ⟨by rw [HR.out]; rfl, rfl⟩
end Go.Proofs.Ytndgaakfndokgaa

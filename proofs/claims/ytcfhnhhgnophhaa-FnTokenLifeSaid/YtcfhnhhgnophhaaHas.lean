/- Whether an integer is in a slice: l01Has of the reference, slices.Contains. -/
import Derived.Test.YtcfhnhhgnophhaaIntS2
import Derived.Test.YtcfhnhhgnophhaaImplWithin
set_option linter.unusedSimpArgs false
set_option linter.unusedVariables false
set_option maxRecDepth 20000
namespace Go.Proofs.Ytcfhnhhgnophhaa
open Go.RowKit
def hasB (xs : List Int) (x : Int) : Bool := xs.any (fun y => y == x)
theorem hasB_found {xs : List Int} {k : Nat} {y x : Int} (h : xs[k]? = some y) (he : (y == x) = true) : hasB xs x = true := by
  unfold hasB
  rw [List.any_eq_true]
  exact ⟨y, List.mem_of_getElem? h, he⟩
theorem hasB_none {xs : List Int} {k : Nat} {x : Int} (hk : xs.length ≤ k) (h : (xs.take k).any (fun y => y == x) = false) : hasB xs x = false := by
  rw [List.take_of_length_le hk] at h; exact h
theorem any_snoc {α : Type} {p : α → Bool} {xs : List α} {k : Nat} {x : α} (h : xs[k]? = some x) : (xs.take (k + 1)).any p = ((xs.take k).any p || p x) := by rw [take_snoc h, List.any_append]; simp
set_option maxHeartbeats 800000 in
theorem slices_Index_int (A : Option Addr) (c : Nat) (xs : List Int) (x : Int) (w : World) (hr : Reads w w.heap.size A (xs.map intV)) (hm : xs.length ≤ 140737488351232) :
    Calls Try.prog 77 #[.slice A xs.length c, .int .i64 x] w fun e w' => ∃ z : Int, e = .returned (.int .i64 z) ∧ decide (0 ≤ z) = hasB xs x ∧ w = w' := by
  generalize hn : xs.length = n at hm
  have Hn := Lib.hid hn
  clear hn
  go_enter Try.func77, Try.ntmps77
  go_wp2
  go_loop [8] (fun i => ∃ k : Nat, k ≤ n ∧ i = .int .i64 k ∧ Hid ((xs.take k).any (fun y => y == x) = false)) (fun i => n - (intOf i).toNat)
  case atStart => exact ⟨0, Nat.zero_le _, rfl, Lib.hid rfl⟩
  case round =>
    obtain ⟨k, hk, rfl, hinv⟩ := hrel
    by_cases hlt : k < n
    · have hlx : k < xs.length := by rw [Hn.out]; exact hlt
      obtain ⟨b, off, rfl, hab, hc1⟩ := hr.at_ (by simpa using hlx) (Below.refl _ _) (Nat.le_refl _)
      rw [List.getElem_map] at hc1
      have HG := Lib.hid (List.getElem?_eq_getElem hlx)
      generalize xs[k]'hlx = y at hc1 HG
      simp only [intV] at hc1
      clear hlx
      cases he : x == y
      · have HE : Hid ((y == x) = false) := Lib.hid (by rw [Bool.eq_false_iff] at he ⊢; intro h; exact he (by simpa using (by simpa using h : y = x).symm))
        go_wp2
        go_round
        case rel => exact ⟨k + 1, by omega, by go_num, Lib.hid (by rw [any_snoc HG.out, hinv.out, HE.out]; rfl)⟩
        case measure => simp [intOf]; omega
      · have HE : Hid ((y == x) = true) := Lib.hid (by simpa using (by simpa using he : x = y).symm)
        go_wp2
        go_ret
        exact ⟨k, rfl, by rw [hasB_found HG.out HE.out]; simp, rfl⟩
    · go_wp2
      go_ret
      exact ⟨-1, rfl, by rw [hasB_none (by rw [Hn.out]; omega) hinv.out]; rfl, rfl⟩
theorem slices_Contains_int (A : Option Addr) (c : Nat) (xs : List Int) (x : Int) (w : World) (hr : Reads w w.heap.size A (xs.map intV)) (hm : xs.length ≤ 140737488351232) :
    Calls Try.prog 62 #[.slice A xs.length c, .int .i64 x] w fun e w' => e = .returned (.bool (hasB xs x)) ∧ w = w' := by
  have HC := Lib.hid (slices_Index_int A c xs x w hr hm)
  generalize xs.length = n at *
  clear hr hm
  go_enter Try.func62, Try.ntmps62
  go_wp2_with fail
  refine HC.out.mono ?_
  rintro e w' ⟨z, rfl, hz, rfl⟩
  have HZ := Lib.hid hz
  clear hz
  go_wp2
  go_ret
  exact ⟨ret_bool HZ.out, rfl⟩
end Go.Proofs.Ytcfhnhhgnophhaa

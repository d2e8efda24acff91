/- within of the laws: whether an integer is in a slice. -/
import Derived.Test.YtcfhnhhgnophhaaHas
set_option linter.unusedSimpArgs false
set_option linter.unusedVariables false
set_option maxRecDepth 20000
namespace Go.Proofs.Ytcfhnhhgnophhaa
open Go.RowKit
set_option maxHeartbeats 800000 in
theorem laws_within (A : Option Addr) (c : Nat) (xs : List Int) (x : Int) (w : World) (hr : Reads w w.heap.size A (xs.map intV)) (hm : xs.length ≤ 140737488351232) :
    Calls Try.prog 10 #[.slice A xs.length c, .int .i64 x] w fun e w' => e = .returned (.bool (hasB xs x)) ∧ w = w' := by
  generalize hn : xs.length = n at hm
  have Hn := Lib.hid hn
  clear hn
  go_enter Try.func10, Try.ntmps10
  go_wp2
  go_loop [5] (fun i => ∃ k : Nat, k ≤ n ∧ i = .int .i64 k ∧ Hid ((xs.take k).any (fun y => y == x) = false)) (fun i => n - (intOf i).toNat)
  case atStart => exact ⟨0, Nat.zero_le _, rfl, Lib.hid rfl⟩
  case round =>
    obtain ⟨k, hk, rfl, hinv⟩ := hrel
    by_cases hlt : k < n
    · have hlx : k < xs.length := by rw [Hn.out]; exact hlt
      obtain ⟨b, off, rfl, hab, hc1⟩ := hr.at_ (by simpa using hlx) (Below.refl _ _) (Nat.le_refl _)
      rw [List.getElem_map] at hc1
      have HG := Lib.hid (List.getElem?_eq_getElem hlx)
      generalize xs[k]'hlx = y at hc1 HG
      simp only [intV] at hc1
      clear hlx
      cases he : y == x
      · have HE := Lib.hid he
        go_wp2
        go_round
        case rel => exact ⟨k + 1, by omega, by go_num, Lib.hid (by rw [any_snoc HG.out, hinv.out, HE.out]; rfl)⟩
        case measure => simp [intOf]; omega
      · have HE := Lib.hid he
        go_wp2
        go_ret
        exact ⟨ret_bool (hasB_found HG.out HE.out).symm, rfl⟩
    · go_wp2
      go_ret
      exact ⟨ret_bool (hasB_none (by rw [Hn.out]; omega) hinv.out).symm, rfl⟩
end Go.Proofs.Ytcfhnhhgnophhaa

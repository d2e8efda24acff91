/- spec.l01Same (printed by wip/gen/gentake.py). -/
import Derived.Test.YtgaenfkjobkmjabByteS
set_option linter.unusedSimpArgs false
set_option linter.unusedVariables false
set_option maxRecDepth 20000
namespace Go.Proofs.Ytgaenfkjobkmjab
open Go.RowKit
set_option maxHeartbeats 800000 in
theorem spec_l01Same (A A' : Option Addr) (c c' : Nat) (xs ys : List UInt8) (w : World) (hr : Reads w w.heap.size A (xs.map byteV)) (hr' : Reads w w.heap.size A' (ys.map byteV))
    (hm : xs.length ≤ 140737488351232) (hm' : ys.length ≤ 140737488351232) :
    Calls Try.prog 30 #[.slice A xs.length c, .slice A' ys.length c'] w fun e w' => e = .returned (.bool (decide (xs = ys))) ∧ Still w w' := by
  generalize hn : xs.length = n at hm
  have Hn := Lib.hid hn
  clear hn
  generalize hn' : ys.length = n' at hm'
  have Hn' := Lib.hid hn'
  clear hn'
  by_cases hl : n = n'
  · subst hl
    go_enter Try.func30, Try.ntmps30
    go_wp2
    go_loopw [5] (fun i wr => ∃ k : Nat, k ≤ n ∧ i = .int .i64 k ∧ Still w wr ∧ Hid (xs.take k = ys.take k)) (fun i _ => n - (intOf i).toNat)
    case atStart => exact ⟨0, Nat.zero_le _, rfl, Still.refl _, rfl⟩
    case round =>
      obtain ⟨k, hk, rfl, ⟨m, rfl⟩, he⟩ := hrel
      by_cases hlt : k < n
      · have hlx : k < (xs.map byteV).length := by simpa [Hn.out] using hlt
        have hly : k < (ys.map byteV).length := by simpa [Hn'.out] using hlt
        obtain ⟨b, off, rfl, hab, hc1⟩ := hr.at_ hlx (Below.refl _ _) (Nat.le_refl _)
        obtain ⟨b', off', rfl, hab', hc2⟩ := hr'.at_ hly (Below.refl _ _) (Nat.le_refl _)
        obtain ⟨u, hu1, hu2, hu3⟩ := map_at byteV xs k hlx
        obtain ⟨v, hv1, hv2, hv3⟩ := map_at byteV ys k hly
        rw [hu1] at hc1
        rw [hv1] at hc2
        have HU := Lib.hid hu3
        have HV := Lib.hid hv3
        clear hu1 hu2 hv1 hv2 hu3 hv3 hr hr'
        simp only [byteV] at hc1 hc2
        go_wp2
        go_quiet (fail)
        go_wp2
        · have hne : ((u.toNat : Int) != (v.toNat : Int)) = true := by assumption
          go_ret
          exact ⟨ret_bool (ne_of_at HU.out HV.out (byte_ne hne)).symm, by first | exact still_drewN _ _ | exact (still_drewN _ _).drewN _⟩
        · have heq : ((u.toNat : Int) != (v.toNat : Int)) = false := by assumption
          go_roundw
          case rel => exact ⟨k + 1, by omega, by go_num, by first | exact still_drewN _ _ | exact (still_drewN _ _).drewN _, take_step he.out HU.out HV.out (byte_eq heq)⟩
          case measure => simp [intOf]; omega
      · have : k = n := by omega
        subst this
        go_wp2
        go_ret
        exact ⟨ret_bool (by simp [eq_of_take he.out Hn.out Hn'.out]), still_drewN _ _⟩
  · go_enter Try.func30, Try.ntmps30
    have hb : ((n : Int) != n') = true := by simp; omega
    go_wp2
    go_ret
    exact ⟨ret_bool (ne_of_len Hn.out Hn'.out hl).symm, Still.refl _⟩
end Go.Proofs.Ytgaenfkjobkmjab

/- Contracts of the helpers on []byte: sz, to, eq. -/
import Derived.Test.YtkcggpmlcbigcaaRows
import Derived.Test.YtkcggpmlcbigcaaLib
namespace Go.Proofs.Ytkcggpmlcbigcaa
open Go.RowKit
theorem info_uint8 : (Try.prog.info? 5).map (fun i => (i.zero, i.size, i.bytes)) = some (some (.int .u8 0), 1, 1) := by kernel_rfl
/-- What is left behind a size. -/
def leftOf (left : Int) (n : Nat) : Int := if left - n < 0 then -1 else left - n
theorem leftOf_neg {l : Int} {n m : Nat} (h : leftOf l n < 0) : leftOf l (n + m) = -1 := by unfold leftOf at *; split at h <;> split <;> omega
theorem leftOf_add {l : Int} {n m : Nat} (h : 0 ≤ leftOf l n) : leftOf (leftOf l n) m = leftOf l (n + m) := by unfold leftOf at *; split at h <;> (repeat' split) <;> omega
theorem leftOf_bd {l : Int} {n : Nat} (h : l ≤ 1048576) : -1 ≤ leftOf l n ∧ leftOf l n ≤ 1048576 := by unfold leftOf; split <;> omega
theorem leftOf_le {l : Int} {n : Nat} (h : 0 ≤ leftOf l n) : (n : Int) ≤ l := by unfold leftOf at h; split at h <;> omega
theorem laws_szByteS (A : Option Addr) (n c : Nat) (left : Int) (w : World) (hn : n ≤ 9223372036854775807) (h1 : -1 ≤ left) (h2 : left ≤ 1048576) :
    Calls Try.prog 9 #[.slice A n c, .int .i64 left] w fun e w' => e = .returned (.int .i64 (leftOf left n)) ∧ w = w' := by
  go_enter Try.func9, Try.ntmps9
  go_wp2
  all_goals (go_ret; exact ⟨ret_int (by unfold leftOf; split <;> omega), rfl⟩)
set_option maxHeartbeats 400000 in
theorem laws_toByteS (A : Option Addr) (n c : Nat) (xs : List UInt8) (w : World) (hn : xs.length = n) (hr : Reads w w.heap.size A (xs.map byteV)) (hm : n ≤ 140737488351232) :
    Calls Try.prog 10 #[.slice A n c] w fun e w' => ∃ A1 c1, e = .returned (.slice A1 n c1) ∧ w'.ownsRow w.heap.size 5 1 (.slice A1 n c1) n (xs.map byteV) ∧ Below w.heap.size w w' := by
  obtain ⟨i0, hi, hz0, hz1, hz2⟩ := info_parts info_uint8
  have Hn := Lib.hid hn
  clear hn
  go_enter Try.func10, Try.ntmps10
  go_wp2_with (first | (at_make; refine wpList_make_full _ rfl _ _ 22 rfl w.heap.size 5 i0 (.int .u8 0) 1 Try.underlying22 hi hz0 hz1 .i64 .i64 _ _ n rfl rfl (by omega) (by omega) (by rw [hz2]; omega) (by unfold maxLen; omega) (Nat.le_refl _) ?_; intro w1 hown hg))
  have hb0 : Below w.heap.size w w1 := (Below.refl _ _).grown hg (Nat.le_refl _) (by simp)
  go_loopw [4] (fun i wr => ∃ k : Nat, k ≤ n ∧ i = .int .i64 k ∧ Filled wr w.heap.size w.heap.size 5 n (xs.map byteV) k ∧ Below w.heap.size w wr) (fun i _ => n - (intOf i).toNat)
  case atStart => exact ⟨0, Nat.zero_le _, rfl, Filled.start hown (by simpa using Hn.out), hb0⟩
  case round =>
    obtain ⟨k, hk, rfl, hf, hb⟩ := hrel
    clear hown hg hb0
    by_cases hlt : k < n
    · have hlx : k < (xs.map byteV).length := by simpa [Hn.out] using hlt
      obtain ⟨b, off, rfl, hab, hc1⟩ := hr.at_ hlx hb (Nat.le_refl _)
      obtain ⟨u, hu1, hu2, hu3⟩ := map_at byteV xs k hlx
      rw [hu1] at hc1
      have HU := Lib.hid hu2
      clear hu1 hu2 hu3
      simp only [byteV] at hc1
      obtain ⟨⟨u', hc2⟩, hf2⟩ := hf.cell hlt
      go_wp2
      have := hf.step HU.out
      go_roundw
      case rel => exact ⟨k + 1, by omega, by go_num, this, hb.setCell (Nat.le_refl _) _⟩
      case measure => simp [intOf]; omega
    · have : k = n := by omega
      subst this
      go_wp2
      go_ret
      exact ⟨_, _, rfl, hf.done, hb⟩
set_option maxHeartbeats 400000 in
theorem laws_eqByteS (A A' : Option Addr) (n c n' c' : Nat) (xs ys : List UInt8) (w : World) (hn : xs.length = n) (hn' : ys.length = n') (hr : Reads w w.heap.size A (xs.map byteV)) (hr' : Reads w w.heap.size A' (ys.map byteV))
    (hm : n ≤ 140737488351232) (hm' : n' ≤ 140737488351232) :
    Calls Try.prog 12 #[.slice A n c, .slice A' n' c'] w fun e w' => e = .returned (.bool (decide (xs = ys))) ∧ Still w w' := by
  have Hn := Lib.hid hn
  have Hn' := Lib.hid hn'
  clear hn hn'
  by_cases hl : n = n'
  · subst hl
    go_enter Try.func12, Try.ntmps12
    go_wp2
    go_loopw [5] (fun i wr => ∃ k : Nat, k ≤ n ∧ i = .int .i64 k ∧ Still w wr ∧ Hid (xs.take k = ys.take k)) (fun i _ => n - (intOf i).toNat)
    case atStart => exact ⟨0, Nat.zero_le _, rfl, Still.refl _, rfl⟩
    case round =>
      obtain ⟨k, hk, rfl, ⟨m, rfl⟩, he⟩ := hrel
      by_cases hlt : k < n
      · have hlx : k < (xs.map byteV).length := by simpa [Hn.out] using hlt
        have hly : k < (ys.map byteV).length := by simpa [Hn'.out] using hlt
        obtain ⟨b, off, rfl, hab, hc1⟩ := hr.at_ hlx (Below.refl _ _) (Nat.le_refl _)
        obtain ⟨b', off', rfl, hab', hc2⟩ := hr'.at_ hly (Below.refl _ _) (Nat.le_refl _)
        obtain ⟨u, hu1, hu2, hu3⟩ := map_at byteV xs k hlx
        obtain ⟨v, hv1, hv2, hv3⟩ := map_at byteV ys k hly
        rw [hu1] at hc1
        rw [hv1] at hc2
        have HU := Lib.hid hu3
        have HV := Lib.hid hv3
        clear hu1 hu2 hv1 hv2 hu3 hv3 hr hr'
        simp only [byteV] at hc1 hc2
        go_wp2
        go_quiet (fail)
        go_wp2
        · have hne : ((u.toNat : Int) != (v.toNat : Int)) = true := by assumption
          go_ret
          exact ⟨ret_bool (ne_of_at HU.out HV.out (byte_ne hne)).symm, by first | exact still_drewN _ _ | exact (still_drewN _ _).drewN _⟩
        · have heq : ((u.toNat : Int) != (v.toNat : Int)) = false := by assumption
          go_roundw
          case rel => exact ⟨k + 1, by omega, by go_num, by first | exact still_drewN _ _ | exact (still_drewN _ _).drewN _, take_step he.out HU.out HV.out (byte_eq heq)⟩
          case measure => simp [intOf]; omega
      · have : k = n := by omega
        subst this
        go_wp2
        go_ret
        exact ⟨ret_bool (by simp [eq_of_take he.out Hn.out Hn'.out]), still_drewN _ _⟩
  · go_enter Try.func12, Try.ntmps12
    have hb : ((n : Int) != n') = true := by simp; omega
    go_wp2
    go_ret
    exact ⟨ret_bool (ne_of_len Hn.out Hn'.out hl).symm, Still.refl _⟩
end Go.Proofs.Ytkcggpmlcbigcaa

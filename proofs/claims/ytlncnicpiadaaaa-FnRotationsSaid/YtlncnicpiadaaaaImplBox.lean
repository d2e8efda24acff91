/- The stream, wide numbers of the program. -/
import Derived.Test.YtlncnicpiadaaaaPureBox
set_option linter.unusedSimpArgs false
set_option linter.unusedVariables false
set_option maxRecDepth 20000
namespace Go.Proofs.Ytlncnicpiadaaaa
open Go.RowKit
set_option maxHeartbeats 1600000 in
theorem impl_stream (K N n : Nat) (w : World) (hK : K ≤ 1099511627776) (hN : N ≤ 1099511627776) (hn : n ≤ 2000) :
    Calls Try.prog 82 #[.int .i64 K, .int .i64 N, .int .i64 n] w fun e w' => ∃ A1 c1, e = .returned (.slice A1 n c1) ∧ w'.ownsRow w.heap.size 5 1 (.slice A1 n c1) n ((streamB K N n).map byteV) ∧ Below w.heap.size w w' := by
  obtain ⟨i0, hi, hz0, hz1, hz2⟩ := info_parts info_uint8
  have HL := Lib.hid (stream_len K N n)
  have HA := Lib.hid (fun k h => stream_at (K := K) (N := N) (n := n) (k := k) h)
  generalize streamB K N n = xs at *
  have H0 := Lib.hid (hAt_zero K N)
  go_enter Try.func82, Try.ntmps82
  go_wp2_with (first | (at_make; refine wpList_make_full _ rfl _ _ 25 rfl w.heap.size 5 i0 _ 1 Try.underlying25 hi hz0 hz1 .i64 .i64 _ _ n rfl rfl (by omega) (by omega) (by rw [hz2]; omega) (by unfold maxLen; omega) (Nat.le_refl _) ?_; intro w1 hown hg))
  have hb0 : Below w.heap.size w w1 := (Below.refl _ _).grown hg (Nat.le_refl _) (by simp)
  go_loopw [8, 22] (fun hh i wr => ∃ k : Nat, k ≤ n ∧ i = .int .i64 k ∧ hh = .int .i64 ((hAt K N k : Nat) : Int) ∧ Filled wr w.heap.size w.heap.size 5 1 n (xs.map byteV) k ∧ Below w.heap.size w wr) (fun _ i _ => n - (intOf i).toNat)
  case atStart => exact ⟨0, Nat.zero_le _, rfl, by rw [H0.out], Filled.start hown (by simpa using HL.out), hb0⟩
  case round =>
    obtain ⟨k, hk, rfl, rfl, hf, hb⟩ := hrel
    clear hown hg hb0
    have hlt31 := hAt_lt K N k
    have HS := Lib.hid (hAt_succ K N k)
    have HB := Lib.hid (strB_nat K N k)
    have hlt32 := hAt_lt K N (k + 1)
    generalize hAt K N k = h0 at *
    by_cases hlt : k < n
    · obtain ⟨⟨u', hc2⟩, hf2⟩ := hf.cell k (by omega)
      have HU : Hid ((xs.map byteV)[k]? = some (byteV (strB K N k))) := Lib.hid (by rw [List.getElem?_map, HA.out k hlt]; rfl)
      have := hf.step HU.out
      have hv : byteV (strB K N k) = .int .u8 ((48271 * (h0 : Int) + (K : Int) % 65521 + 1) % 2147483629 / 1024 % 256) := by
        show Value.int .u8 ((strB K N k).toNat : Int) = _
        rw [HB.out, HS.out]
      rw [hv] at this
      clear hv
      go_wp2
      go_roundw
      case rel => exact ⟨k + 1, by omega, by go_num, by rw [HS.out], by simpa using this, hb.setCell (Nat.le_refl _) _⟩
      case measure => simp [intOf]; omega
    · obtain rfl : k = n := by omega
      go_wp2
      go_ret
      exact ⟨_, _, rfl, (Filled.done (m := 1) (by simpa using hf)), hb⟩
set_option maxHeartbeats 1600000 in
theorem impl_putWide (K : Nat) (w : World) (hK : K ≤ 1099511627776) :
    Calls Try.prog 81 #[.int .i64 K] w fun e w' => ∃ A1 c1, e = .returned (.slice A1 8 c1) ∧ w'.ownsRow w.heap.size 5 1 (.slice A1 8 c1) 8 ((wideB K).map byteV) ∧ Below w.heap.size w w' := by
  obtain ⟨i0, hi, hz0, hz1, hz2⟩ := info_parts info_uint8
  have HL := Lib.hid (wide_len K)
  have HA := Lib.hid (fun k h => wide_at (K := K) (k := k) h)
  generalize wideB K = xs at *
  go_enter Try.func81, Try.ntmps81
  go_wp2_with (first | (at_make; refine wpList_make_full _ rfl _ _ 25 rfl w.heap.size 5 i0 _ 1 Try.underlying25 hi hz0 hz1 .i64 .i64 _ _ 8 rfl rfl (by omega) (by omega) (by rw [hz2]; omega) (by unfold maxLen; omega) (Nat.le_refl _) ?_; intro w1 hown hg))
  have hb0 : Below w.heap.size w w1 := (Below.refl _ _).grown hg (Nat.le_refl _) (by simp)
  go_loopw [8] (fun i wr => ∃ k : Nat, k ≤ 8 ∧ i = .int .i64 k ∧ Filled wr w.heap.size w.heap.size 5 1 8 (xs.map byteV) k ∧ Below w.heap.size w wr) (fun i _ => 8 - (intOf i).toNat)
  case atStart => exact ⟨0, Nat.zero_le _, rfl, Filled.start hown (by simpa using HL.out), hb0⟩
  case round =>
    obtain ⟨k, hk, rfl, hf, hb⟩ := hrel
    clear hown hg hb0
    by_cases hlt : k < 8
    · obtain ⟨⟨u', hc2⟩, hf2⟩ := hf.cell k (by omega)
      have HU : Hid ((xs.map byteV)[k]? = some (byteV (UInt8.ofNat (K / 2 ^ (8 * k))))) := Lib.hid (by rw [List.getElem?_map, HA.out k hlt]; rfl)
      have := hf.step HU.out
      have hv : byteV (UInt8.ofNat (K / 2 ^ (8 * k))) = .int .u8 ((K : Int) / 2 ^ (8 * k) % 256) := by
        show Value.int .u8 ((UInt8.ofNat (K / 2 ^ (8 * k))).toNat : Int) = _
        simp
      rw [hv] at this
      clear hv
      go_wp2
      go_roundw
      case rel => exact ⟨k + 1, by omega, by go_num, by simpa using this, hb.setCell (Nat.le_refl _) _⟩
      case measure => simp [intOf]; omega
    · obtain rfl : k = 8 := by omega
      go_wp2
      go_ret
      exact ⟨_, _, rfl, (Filled.done (m := 1) (by simpa using hf)), hb⟩
theorem impl_isKey (x : Int) (w : World) : Calls Try.prog 44 #[.int .i64 x] w fun e w' => e = .returned (.bool (keyOk x)) ∧ w = w' := by
  go_enter Try.func44, Try.ntmps44
  go_wp2_with (go_at_call 53; refine (impl_within _ _ _ _).mono ?_; rintro e w' ⟨rfl, rfl⟩)
  go_ret
  exact ⟨rfl, rfl⟩
end Go.Proofs.Ytlncnicpiadaaaa

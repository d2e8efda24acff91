/- The digest of bytes, both sides. -/
import Derived.Test.YtndgaakfndokgaaByteS
set_option linter.unusedSimpArgs false
set_option linter.unusedVariables false
set_option maxRecDepth 20000
namespace Go.Proofs.Ytndgaakfndokgaa
open Go.RowKit
def digStep (p : Int × Int) (x : UInt8) : Int × Int := ((131 * p.1 + x.toNat + 1) % 2147483647, (137 * p.2 + x.toNat + 3) % 2147483629)
def digFold (b : List UInt8) : Int × Int := b.foldl digStep (7, 11)
def digest (b : List UInt8) : Int := 2147483648 * (digFold b).1 + (digFold b).2
theorem digFold_bd (b : List UInt8) : 0 ≤ (digFold b).1 ∧ (digFold b).1 < 2147483647 ∧ 0 ≤ (digFold b).2 ∧ (digFold b).2 < 2147483629 := by
  unfold digFold
  have key : ∀ (b : List UInt8) (p : Int × Int), (0 ≤ p.1 ∧ p.1 < 2147483647 ∧ 0 ≤ p.2 ∧ p.2 < 2147483629) → (0 ≤ (b.foldl digStep p).1 ∧ (b.foldl digStep p).1 < 2147483647 ∧ 0 ≤ (b.foldl digStep p).2 ∧ (b.foldl digStep p).2 < 2147483629) := by
    intro b
    induction b with
    | nil => intro p h; exact h
    | cons x b ih => intro p h; rw [List.foldl_cons]; refine ih _ ?_; simp only [digStep]; omega
  exact key b _ (by simp)
theorem digFold_snoc (b : List UInt8) (x : UInt8) : digFold (b ++ [x]) = digStep (digFold b) x := by unfold digFold; rw [List.foldl_append]; rfl
theorem digest_bd (b : List UInt8) : 0 ≤ digest b ∧ digest b < 4611686018427387904 := by have := digFold_bd b; unfold digest; omega
set_option maxHeartbeats 800000 in
theorem spec_Digest (A : Option Addr) (c : Nat) (b : List UInt8) (w : World) (hr : Reads w w.heap.size A (b.map byteV)) (hm : b.length ≤ 1073741824) :
    Calls Try.prog 40 #[.slice A b.length c] w fun e w' => e = .returned (.int .i64 (digest b)) ∧ w = w' := by
  generalize hn : b.length = n at hm
  have Hn := Lib.hid hn
  clear hn
  go_enter Try.func40, Try.ntmps40
  go_wp2
  go_loop [3, 4, 5] (fun u v i => ∃ (k : Nat) (U V : Int), k ≤ n ∧ i = .int .i64 k ∧ u = .int .i64 U ∧ v = .int .i64 V ∧ Hid ((U, V) = digFold (b.take k))) (fun _ _ i => n - (intOf i).toNat)
  case atStart => exact ⟨0, 7, 11, Nat.zero_le _, rfl, rfl, rfl, rfl⟩
  case round =>
    obtain ⟨k, U, V, hk, rfl, rfl, rfl, hUV⟩ := hrel
    have hbd := digFold_bd (b.take k)
    rw [← hUV.out] at hbd
    obtain ⟨hU0, hU1, hV0, hV1⟩ := hbd
    simp only at hU0 hU1 hV0 hV1
    by_cases hlt : k < n
    · have hlx : k < (b.map byteV).length := by simpa [Hn.out] using hlt
      obtain ⟨g, off, rfl, hab, hc1⟩ := hr.at_ hlx (Below.refl _ _) (Nat.le_refl _)
      obtain ⟨x, hx1, hx2, hx3⟩ := map_at byteV b k hlx
      rw [hx1] at hc1
      simp only [byteV] at hc1
      have hs := digFold_snoc (b.take k) x
      rw [← take_snoc hx3, ← hUV.out] at hs
      have HS := Lib.hid hs
      clear hs hx1 hx2 hx3 hUV
      have hxb := x.toNat_lt
      obtain ⟨X, hX⟩ : ∃ X : Int, X = (x.toNat : Int) := ⟨_, rfl⟩
      have hX0 : 0 ≤ X := by omega
      have hX1 : X < 256 := by omega
      rw [← hX] at hc1
      have HX := Lib.hid hX
      clear hX hxb
      go_wp2
      go_round
      case rel => exact ⟨k + 1, _, _, by omega, by go_num, rfl, rfl, by unfold Hid; rw [HS.out]; simp only [digStep]; rw [← HX.out]⟩
      case measure => simp [intOf]; omega
    · obtain rfl : k = n := by omega
      have HF : Hid (digest b = 2147483648 * U + V) := Lib.hid (by unfold digest; have h := hUV.out; rw [List.take_of_length_le (by rw [Hn.out]; exact Nat.le_refl _)] at h; rw [← h])
      clear hUV
      go_wp2
      go_ret
      exact ⟨ret_int HF.out.symm, rfl⟩
set_option maxHeartbeats 800000 in
theorem impl_digest (A : Option Addr) (c : Nat) (b : List UInt8) (w : World) (hr : Reads w w.heap.size A (b.map byteV)) (hm : b.length ≤ 1073741824) :
    Calls Try.prog 53 #[.slice A b.length c] w fun e w' => e = .returned (.int .i64 (digest b)) ∧ w = w' := by
  generalize hn : b.length = n at hm
  have Hn := Lib.hid hn
  clear hn
  go_enter Try.func53, Try.ntmps53
  go_wp2
  go_loop [3, 4, 9] (fun u v i => ∃ (k : Nat) (U V : Int), k ≤ n ∧ i = .int .i64 k ∧ u = .int .i64 U ∧ v = .int .i64 V ∧ Hid ((U, V) = digFold (b.take k))) (fun _ _ i => n - (intOf i).toNat)
  case atStart => exact ⟨0, 7, 11, Nat.zero_le _, rfl, rfl, rfl, rfl⟩
  case round =>
    obtain ⟨k, U, V, hk, rfl, rfl, rfl, hUV⟩ := hrel
    have hbd := digFold_bd (b.take k)
    rw [← hUV.out] at hbd
    obtain ⟨hU0, hU1, hV0, hV1⟩ := hbd
    simp only at hU0 hU1 hV0 hV1
    by_cases hlt : k < n
    · have hlx : k < (b.map byteV).length := by simpa [Hn.out] using hlt
      obtain ⟨g, off, rfl, hab, hc1⟩ := hr.at_ hlx (Below.refl _ _) (Nat.le_refl _)
      obtain ⟨x, hx1, hx2, hx3⟩ := map_at byteV b k hlx
      rw [hx1] at hc1
      simp only [byteV] at hc1
      have hs := digFold_snoc (b.take k) x
      rw [← take_snoc hx3, ← hUV.out] at hs
      have HS := Lib.hid hs
      clear hs hx1 hx2 hx3 hUV
      have hxb := x.toNat_lt
      obtain ⟨X, hX⟩ : ∃ X : Int, X = (x.toNat : Int) := ⟨_, rfl⟩
      have hX0 : 0 ≤ X := by omega
      have hX1 : X < 256 := by omega
      rw [← hX] at hc1
      have HX := Lib.hid hX
      clear hX hxb
      go_wp2
      go_round
      case rel => exact ⟨k + 1, _, _, by omega, by go_num, rfl, rfl, by unfold Hid; rw [HS.out]; simp only [digStep]; rw [← HX.out]⟩
      case measure => simp [intOf]; omega
    · obtain rfl : k = n := by omega
      have HF : Hid (digest b = 2147483648 * U + V) := Lib.hid (by unfold digest; have h := hUV.out; rw [List.take_of_length_le (by rw [Hn.out]; exact Nat.le_refl _)] at h; rw [← h])
      clear hUV
      go_wp2
      go_ret
      exact ⟨ret_int HF.out.symm, rfl⟩
end Go.Proofs.Ytndgaakfndokgaa

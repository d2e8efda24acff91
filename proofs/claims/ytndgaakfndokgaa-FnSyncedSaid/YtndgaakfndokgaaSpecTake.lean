/- spec.TakeNum: the walk. -/
import Derived.Test.YtndgaakfndokgaaTakeNum
import Derived.IntWalk
set_option linter.unusedSimpArgs false
set_option linter.unusedVariables false
set_option maxRecDepth 20000
namespace Go.Proofs.Ytndgaakfndokgaa
open Go.RowKit
theorem joinS {g k : Nat} (hk : k ≤ 6) (hg : g < 256) : wrap64 ((g : Int) % 128 * 2 ^ (7 * k)) = ((128 ^ k * (g % 128) : Nat) : Int) := by
  have e4 : 128 ^ k = 2 ^ (7 * k) := by rw [show (128 : Nat) = 2 ^ 7 from rfl, ← Nat.pow_mul]
  have e5 : 2 ^ (7 * k) ≤ 2 ^ 42 := Nat.pow_le_pow_right (by omega) (by omega)
  have e6 : 2 ^ (7 * k) * (g % 128) ≤ 2 ^ 42 * 127 := Nat.mul_le_mul e5 (by omega)
  rw [e4, show (g : Int) % 128 * 2 ^ (7 * k) = ((2 ^ (7 * k) * (g % 128) : Nat) : Int) by rw [Int.natCast_mul, Int.mul_comm]; simp]
  unfold wrap64
  omega
/-- A part of a readable row. -/
theorem Reads.part {w : World} {B : Nat} {g off : Nat} {xs : List Value} (h : Reads w B (some ⟨g, off, none⟩) xs) (i : Nat) (n : Nat) : Reads w B (some ⟨g, off + i, none⟩) ((xs.drop i).take n) := fun h0 => by
  have hl : 0 < xs.length := by simp at h0; omega
  obtain ⟨b, o, h1, h2, h3⟩ := h hl
  simp only [Option.some.injEq, Addr.mk.injEq, and_true] at h1
  obtain ⟨rfl, rfl⟩ := h1
  refine ⟨g, off + i, rfl, h2, fun j u hu => ?_⟩
  rw [Nat.add_assoc]
  refine h3 (i + j) u ?_
  rw [List.getElem?_take] at hu
  split at hu
  · rwa [List.getElem?_drop] at hu
  · cases hu
theorem takeS_facts {b : List UInt8} {a k : Nat} {l : UInt8} (hk : k ≤ 6) (hl : a + k ≤ b.length) :
    ∃ (V : Nat) (U Z L : Int), Hid (valB ((b.drop a).take k ++ [l]) = V) ∧ Hid (U = ((valB ((b.drop a).take k) : Nat) : Int)) ∧ Hid (L = (l.toNat : Int)) ∧ 0 ≤ L ∧ L < 256 ∧ V < 562949953421312 ∧ 0 ≤ Z ∧ Z < 562949953421312 ∧ 0 ≤ U ∧ U < 4398046511104 ∧
      U + Z = (V : Int) ∧ wrap64 (L % 128 * 2 ^ (7 * k)) = Z := by
  have hlen : ((b.drop a).take k).length = k := by simp; omega
  have hu128 : valB ((b.drop a).take k) < 128 ^ k := Nat.lt_of_lt_of_le (valB_lt _) (by rw [hlen]; exact Nat.le_refl _)
  have hVal : valB ((b.drop a).take k ++ [l]) = valB ((b.drop a).take k) + 128 ^ k * (l.toNat % 128) := by rw [valB_append, hlen]
  have e6 : (128 : Nat) ^ 6 = 4398046511104 := rfl
  have hp : 128 ^ k ≤ 128 ^ 6 := Nat.pow_le_pow_right (by omega) hk
  have hb7 : 128 ^ k * (l.toNat % 128) ≤ 128 ^ 6 * 127 := Nat.mul_le_mul hp (by omega)
  have hZ := joinS (k := k) hk l.toNat_lt
  have hl2 := l.toNat_lt
  rw [e6] at hp hb7
  generalize valB ((b.drop a).take k) = u at *
  generalize 128 ^ k * (l.toNat % 128) = z at *
  refine ⟨u + z, u, z, l.toNat, Lib.hid hVal, Lib.hid rfl, Lib.hid rfl, ?_, ?_, ?_, ?_, ?_, ?_, ?_, ?_, hZ⟩ <;> omega
end Go.Proofs.Ytndgaakfndokgaa

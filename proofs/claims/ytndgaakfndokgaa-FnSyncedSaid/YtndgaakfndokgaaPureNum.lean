/- Numbers in bytes as plain data: what a run of bytes stands for; which runs PutNum prints. -/
import Derived.Test.YtndgaakfndokgaaPutNum
set_option linter.unusedSimpArgs false
set_option linter.unusedVariables false
set_option maxRecDepth 20000
namespace Go.Proofs.Ytndgaakfndokgaa
open Go.RowKit
theorem numB_short : ∀ k u : Nat, u < 128 ^ (k + 1) → (numB u).length ≤ k + 1
  | 0, u, h => by rw [numB_small (by simpa using h)]; simp
  | k + 1, u, h => by
    rcases Nat.lt_or_ge u 128 with h1 | h1
    · rw [numB_small h1]; simp
    · rw [numB_more h1]
      have := numB_short k (u / 128) (Nat.div_lt_of_lt_mul (by rw [Nat.pow_succ] at h; omega))
      simp only [List.length_cons]
      omega
theorem putB_short (x : Int) : (putB x).length ≤ 6 := by
  cases hx : withinB x (-1099511627776) 1099511627776
  · rw [putB_out hx]; simp
  · rw [putB_in hx]
    have h := withinB_iff.1 hx
    have := zig_le h.1 h.2
    exact numB_short 5 _ (by omega)
/-- The number that a run of bytes holds, seven bits of each, the lowest first. -/
def valB : List UInt8 → Nat
  | [] => 0
  | b :: bs => b.toNat % 128 + 128 * valB bs
def unzig (u : Nat) : Int := if u % 2 = 1 then -((u / 2 : Nat) : Int) - 1 else ((u / 2 : Nat) : Int)
theorem zig_unzig (u : Nat) : zig (unzig u) = u := by unfold zig unzig; split <;> split <;> omega
theorem valB_append (bs : List UInt8) (b : UInt8) : valB (bs ++ [b]) = valB bs + 128 ^ bs.length * (b.toNat % 128) := by
  induction bs with
  | nil => simp [valB]
  | cons a bs ih =>
    simp only [List.cons_append, valB, ih, List.length_cons, Nat.pow_succ]
    rw [Nat.mul_add, Nat.mul_comm (128 ^ bs.length) 128, ← Nat.mul_assoc]
    omega
theorem valB_lt : ∀ bs : List UInt8, valB bs < 128 ^ bs.length
  | [] => by simp [valB]
  | b :: bs => by
    have := valB_lt bs
    simp only [valB, List.length_cons, Nat.pow_succ]
    omega
theorem valB_ge (bs : List UInt8) {b : UInt8} (h : b.toNat % 128 ≠ 0) : 128 ^ bs.length ≤ valB (bs ++ [b]) := by
  rw [valB_append]
  have : 128 ^ bs.length * 1 ≤ 128 ^ bs.length * (b.toNat % 128) := Nat.mul_le_mul_left _ (by omega)
  omega
theorem ofNat_self (b : UInt8) {n : Nat} (h : n = b.toNat) : UInt8.ofNat n = b := by rw [h]; simp
theorem numB_val : ∀ (bs : List UInt8) (l : UInt8), (∀ x ∈ bs, 128 ≤ x.toNat) → l.toNat < 128 → (l.toNat ≠ 0 ∨ bs = []) → numB (valB (bs ++ [l])) = bs ++ [l]
  | [], l, _, hl, _ => by
    have e : valB ([] ++ [l]) = l.toNat := by simp [valB]; omega
    rw [e, numB_small hl, ofNat_self l rfl]
    rfl
  | b :: bs, l, hb, hl, h => by
    have h0 : l.toNat ≠ 0 := by rcases h with h | h; exact h; cases h
    have h1 := hb b (by simp)
    have h2 : b.toNat < 256 := b.toNat_lt
    have hp := valB_ge bs (b := l) (by omega)
    have hq : 0 < 128 ^ bs.length := Nat.pow_pos (by omega)
    have ih := numB_val bs l (fun x hx => hb x (by simp [hx])) hl (.inl h0)
    simp only [List.cons_append, valB]
    rw [numB_more (by omega), ofNat_self b (by omega), show (b.toNat % 128 + 128 * valB (bs ++ [l])) / 128 = valB (bs ++ [l]) by omega, ih]
theorem numB_ends (u : Nat) : ∀ (bs : List UInt8) (l : UInt8), numB u = bs ++ [l] → l.toNat ≠ 0 ∨ bs = [] := by
  induction u using Nat.strongRecOn with
  | _ u ih =>
    intro bs l h
    rcases Nat.lt_or_ge u 128 with hu | hu
    · rw [numB_small hu] at h
      have := congrArg List.length h
      simp at this
      exact .inr this
    · rw [numB_more hu] at h
      cases bs with
      | nil => exact .inr rfl
      | cons b bs =>
        simp only [List.cons_append, List.cons.injEq] at h
        rcases ih (u / 128) (by omega) bs l h.2 with h1 | h1
        · exact .inl h1
        · subst h1
          rcases Nat.lt_or_ge (u / 128) 128 with h2 | h2
          · rw [numB_small h2] at h
            simp only [List.nil_append, List.cons.injEq, and_true] at h
            refine .inl ?_
            rw [← h.2]
            simp
            omega
          · have h3 := numB_len (u / 128 / 128)
            rw [numB_more h2] at h
            have := congrArg List.length h.2
            simp at this
            rw [this] at h3
            simp at h3
/-- PutNum prints a run that stands for u exactly where it is as short as can be. -/
theorem numB_iff {bs : List UInt8} {l : UInt8} (hb : ∀ x ∈ bs, 128 ≤ x.toNat) (hl : l.toNat < 128) : numB (valB (bs ++ [l])) = bs ++ [l] ↔ (l.toNat ≠ 0 ∨ bs = []) :=
  ⟨numB_ends _ _ _, numB_val bs l hb hl⟩
end Go.Proofs.Ytndgaakfndokgaa

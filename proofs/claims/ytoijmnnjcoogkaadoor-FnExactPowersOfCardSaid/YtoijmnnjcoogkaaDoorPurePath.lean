/- Paths and globs, as plain data. -/
import Derived.Test.YtoijmnnjcoogkaaDoorNames
set_option linter.unusedSimpArgs false
set_option linter.unusedVariables false
set_option maxRecDepth 20000
namespace Go.Proofs.YtoijmnnjcoogkaaDoor
open Go.RowKit
/-- A text in its parts, between the bytes c; an empty text has one empty part. -/
def partsL (c : UInt8) : List UInt8 → List (List UInt8)
  | [] => [[]]
  | b :: bs => match b == c with
    | true => [] :: partsL c bs
    | false => match partsL c bs with
      | p :: ps => (b :: p) :: ps
      | [] => [[b]]
theorem parts_ne (c : UInt8) : ∀ l, partsL c l ≠ []
  | [] => by simp [partsL]
  | b :: bs => by
    rw [partsL]
    cases b == c
    · cases partsL c bs <;> simp
    · simp
theorem parts_hit {c : UInt8} {r : List UInt8} : ∀ p : List UInt8, (∀ x ∈ p, x ≠ c) → partsL c (p ++ c :: r) = p :: partsL c r
  | [], _ => by rw [List.nil_append, partsL, beq_self_eq_true]
  | b :: p, h => by
    have hb : (b == c) = false := by simpa using h b (by simp)
    rw [List.cons_append, partsL, hb, parts_hit p (fun x hx => h x (by simp [hx]))]
theorem parts_miss {c : UInt8} : ∀ p : List UInt8, (∀ x ∈ p, x ≠ c) → partsL c p = [p]
  | [], _ => rfl
  | b :: p, h => by
    have hb : (b == c) = false := by simpa using h b (by simp)
    rw [partsL, hb, parts_miss p (fun x hx => h x (by simp [hx]))]
theorem parts_len {c : UInt8} : ∀ l : List UInt8, (partsL c l).length ≤ l.length + 1
  | [] => by simp [partsL]
  | b :: bs => by
    have h := parts_len (c := c) bs
    rw [partsL]
    cases b == c
    · cases hp : partsL c bs with
      | nil => simp
      | cons p ps => rw [hp] at h; simp at h ⊢; omega
    · simp; omega
theorem parts_sz {c : UInt8} : ∀ (l : List UInt8), ∀ p ∈ partsL c l, p.length ≤ l.length
  | [], p, h => by simp [partsL] at h; simp [h]
  | b :: bs, p, h => by
    have ih := parts_sz (c := c) bs
    rw [partsL] at h
    cases hb : b == c <;> rw [hb] at h
    · cases hp : partsL c bs with
      | nil => exact absurd hp (parts_ne c bs)
      | cons q qs =>
        rw [hp] at h ih
        simp only at h
        rcases List.mem_cons.1 h with rfl | h
        · have := ih q (by simp); simp; omega
        · have := ih p (by simp [h]); simp; omega
    · simp only at h
      rcases List.mem_cons.1 h with rfl | h
      · simp
      · have := ih p h; simp; omega
def baOf (l : List UInt8) : ByteArray := ⟨l.toArray⟩
theorem baOf_list (l : List UInt8) : (baOf l).data.toList = l := rfl
theorem baOf_size (l : List UInt8) : (baOf l).size = l.length := by show l.toArray.size = _; simp
theorem baOf_of (s : ByteArray) : baOf s.data.toList = s := by cases s; simp [baOf]
def segsOf (s : ByteArray) : List ByteArray := (partsL 47 s.data.toList).map baOf
def segByte (b : UInt8) : Bool := nameByte b || b == 45
def segOk (s : ByteArray) : Bool := withinB s.size 1 16 && strAll segByte s
def isPlus (s : ByteArray) : Bool := s.data.toList == [43]
def isStar (s : ByteArray) : Bool := s.data.toList == [42]
/-- The segment number i of n stands well. -/
def segAt (n i : Nat) (s : ByteArray) : Bool := segOk s || isPlus s || (isStar s && decide (i + 1 = n))
def segsOk (xs : List ByteArray) : Nat → Bool
  | 0 => true
  | k + 1 => segsOk xs k && (match xs[k]? with | some s => segAt xs.length k s | none => true)
def globOk (s : ByteArray) : Bool := decide (s.size ≤ 120) && (segsOk (segsOf s) (segsOf s).length && decide ((segsOf s).length ≤ 8))
def wildB (b : UInt8) : Bool := b == 43 || b == 42
def pathOk (s : ByteArray) : Bool := globOk s && !s.data.toList.any wildB
theorem segsOk_yes {xs : List ByteArray} {k : Nat} {s : ByteArray} (h : xs[k]? = some s) : segsOk xs (k + 1) = (segsOk xs k && segAt xs.length k s) := by rw [segsOk, h]
theorem segsOk_mono {xs : List ByteArray} : ∀ {k m : Nat}, k ≤ m → segsOk xs k = false → segsOk xs m = false
  | k, 0, h, e => by obtain rfl : k = 0 := by omega
                     exact e
  | k, m + 1, h, e => by
    rcases Nat.lt_or_ge k (m + 1) with h1 | h1
    · rw [segsOk, segsOk_mono (by omega : k ≤ m) e]; rfl
    · obtain rfl : k = m + 1 := by omega
      exact e
theorem segsOk_no {xs : List ByteArray} {k : Nat} {s : ByteArray} (h : xs[k]? = some s) (hs : segAt xs.length k s = false) : segsOk xs xs.length = false := by
  have hk := (List.getElem?_eq_some_iff.1 h).1
  exact segsOk_mono (k := k + 1) (by omega) (by rw [segsOk_yes h, hs]; simp)
theorem segsOf_len (s : ByteArray) : (segsOf s).length ≤ s.size + 1 := by unfold segsOf; rw [List.length_map]; exact parts_len _
theorem segsOf_sz {s x : ByteArray} (h : x ∈ segsOf s) : x.size ≤ s.size := by
  obtain ⟨p, hp, rfl⟩ := List.mem_map.1 h
  rw [baOf_size]
  exact parts_sz _ p hp
end Go.Proofs.YtoijmnnjcoogkaaDoor

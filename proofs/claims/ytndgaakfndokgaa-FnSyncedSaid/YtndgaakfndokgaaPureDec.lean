/- DecodeRecord as plain data, as impl goes (lax) and as the reference goes; both answer alike. -/
import Derived.Test.YtndgaakfndokgaaTakeAll
import Derived.Test.YtndgaakfndokgaaPureRec
set_option linter.unusedSimpArgs false
set_option linter.unusedVariables false
set_option maxRecDepth 20000
namespace Go.Proofs.Ytndgaakfndokgaa
open Go.RowKit
theorem takeG_sound {b : List UInt8} {a : Nat} {x e : Int} : ∀ f i, takeG answerS b a f i = (x, e, true) → ∃ a' : Nat, e = a' ∧ a + i < a' ∧ a' ≤ b.length ∧ b.drop a = numB (zig x) ++ b.drop a' ∧ -1099511627776 ≤ x ∧ x ≤ 1099511627776
  | 0, i, h => by simp [takeG, noTook] at h
  | f + 1, i, h => by
    cases hg : b[a + i]? with
    | none => rw [takeG_end _ hg] at h; simp [noTook] at h
    | some g =>
      by_cases h1 : 128 ≤ g.toNat
      · rw [takeG_go hg h1] at h
        obtain ⟨a', p1, p2, p3⟩ := takeG_sound f (i + 1) h
        exact ⟨a', p1, by omega, p3⟩
      · rw [takeG_stop hg (by omega)] at h
        unfold answerS at h
        split at h
        case isFalse => simp [noTook] at h
        case isTrue hp =>
          have hx : unzig (valB ((b.drop a).take i ++ [g])) = x := congrArg Prod.fst h
          have he : ((a + ((b.drop a).take i).length + 1 : Nat) : Int) = e := congrArg (fun p => p.2.1) h
          have hlt : a + i < b.length := (List.getElem?_eq_some_iff.1 hg).1
          have hil : ((b.drop a).take i).length = i := by rw [List.length_take, List.length_drop]; omega
          rw [hx] at hp
          rw [hil] at he
          have hw : withinB x (-1099511627776) 1099511627776 = true := by
            cases hw : withinB x (-1099511627776) 1099511627776
            · rw [putB_out hw] at hp; simp at hp
            · rfl
          rw [putB_in hw] at hp
          refine ⟨a + i + 1, he.symm, by omega, by omega, ?_, ?_⟩
          · rw [hp, ← take_more hg, show a + i + 1 = a + (i + 1) by omega, ← List.drop_drop, List.take_append_drop]
          · have := (withinB_iff).1 hw; exact this
theorem takeAt_sound {b : List UInt8} {i x e : Int} (h : takeAt b i = (x, e, true)) : ∃ a a' : Nat, i = a ∧ e = a' ∧ a < a' ∧ a' ≤ b.length ∧ b.drop a = numB (zig x) ++ b.drop a' ∧ -1099511627776 ≤ x ∧ x ≤ 1099511627776 := by
  by_cases h0 : 0 ≤ i ∧ i < (b.length : Int)
  · obtain ⟨a, rfl⟩ := Int.eq_ofNat_of_zero_le h0.1
    rw [takeAt_in (by omega)] at h
    obtain ⟨a', p1, p2, p3⟩ := takeG_sound 6 0 h
    exact ⟨a, a', rfl, p1, by omega, p3⟩
  · rw [takeAt_out (by omega)] at h
    simp [noTook] at h
theorem takeAt_zero {b : List UInt8} {a : Nat} (h : b[a]? = some 0) : takeAt b a = (0, ((a + 1 : Nat) : Int), true) := by
  have hlt := (List.getElem?_eq_some_iff.1 h).1
  rw [takeAt_in hlt, takeG_stop (i := 0) (g := 0) (by simpa using h) (by decide)]
  unfold answerS
  rw [if_pos]
  · simp [valB, unzig]
  · simp [valB, unzig]
    rw [putB_in (by decide)]
    simp [zig, numB]
def goNums (b : List UInt8) : Nat → List Int → Int → Option (List Int × Int)
  | 0, acc, at_ => some (acc, at_)
  | k + 1, acc, at_ => match takeAt b at_ with
    | (x, e, true) => goNums b k (acc ++ [x]) e
    | (_, _, false) => none
def chunk (b : List UInt8) (a n : Nat) : ByteArray := ⟨((b.drop a).take n).toArray⟩
def goTexts (b : List UInt8) : Nat → List ByteArray → Int → Option (List ByteArray × Int)
  | 0, acc, at_ => some (acc, at_)
  | k + 1, acc, at_ => match takeAt b at_ with
    | (x, e, true) => match withinB x 0 ((b.length : Int) - e) with
      | true => goTexts b k (acc ++ [chunk b e.toNat x.toNat]) (e + x)
      | false => none
    | (_, _, false) => none
def fin4 (lax : Bool) (b : List UInt8) (r : Record) (at_ : Int) : Option Record :=
  match lax with
  | true => match encOk r && decide (encB r = b) with | true => some r | false => none
  | false => match decide (at_ = (b.length : Int)) && recOk r with | true => some r | false => none
def bad (lax : Bool) (n : Int) : Bool := match lax with | true => decide (40 < n) | false => !withinB n 0 40
def st4 (lax : Bool) (b : List UInt8) (k : Int) (ns : List Int) : Option (List ByteArray × Int) → Option Record
  | none => none
  | some (ts, a) => fin4 lax b ⟨k, ns, ts⟩ a
def st3 (lax : Bool) (b : List UInt8) (k : Int) (ns : List Int) : Took → Option Record
  | (m, a, true) => match bad lax m with | true => none | false => st4 lax b k ns (goTexts b m.toNat [] a)
  | (_, _, false) => none
def st2 (lax : Bool) (b : List UInt8) (k : Int) : Option (List Int × Int) → Option Record
  | none => none
  | some (ns, a) => st3 lax b k ns (takeAt b a)
def st1 (lax : Bool) (b : List UInt8) (k : Int) : Took → Option Record
  | (n, a, true) => match bad lax n with | true => none | false => st2 lax b k (goNums b n.toNat [] a)
  | (_, _, false) => none
def headI (b : List UInt8) : Int := ((b.headD 0).toNat : Int)
def least : Bool → Int
  | true => 1
  | false => 3
def dec (lax : Bool) (b : List UInt8) : Option Record :=
  match withinB b.length (least lax) 4000 with
  | true => st1 lax b (headI b) (takeAt b 1)
  | false => none
theorem goNums_sound {b : List UInt8} : ∀ (k : Nat) (acc : List Int) (i e : Int) (ns : List Int), 0 ≤ i → i ≤ b.length → goNums b k acc i = some (ns, e) → ∃ (xs : List Int) (a a' : Nat), i = a ∧ e = a' ∧ a ≤ a' ∧ a' ≤ b.length ∧ ns = acc ++ xs ∧ xs.length = k ∧ b.drop a = numsB xs ++ b.drop a'
  | 0, acc, i, e, ns, h0, h1, h => by
    simp only [goNums, Option.some.injEq, Prod.mk.injEq] at h
    obtain ⟨rfl, rfl⟩ := h
    obtain ⟨a, rfl⟩ := Int.eq_ofNat_of_zero_le h0
    exact ⟨[], a, a, rfl, rfl, Nat.le_refl _, by omega, by simp, rfl, by simp [numsB]⟩
  | k + 1, acc, i, e, ns, h0, h1, h => by
    rw [goNums] at h
    rcases ht : takeAt b i with ⟨x, e1, ok⟩
    rw [ht] at h
    cases ok
    · cases h
    · obtain ⟨a, a1, rfl, rfl, p1, p2, p3, -, -⟩ := takeAt_sound ht
      obtain ⟨xs, a1', a', q0, rfl, q1, q2, rfl, q3, q4⟩ := goNums_sound k (acc ++ [x]) a1 e ns (by omega) (by omega) h
      obtain rfl : a1' = a1 := by omega
      refine ⟨x :: xs, a, a', rfl, rfl, by omega, q2, by simp, by simp [q3], ?_⟩
      rw [p3, q4]; simp [numsB]
theorem goTexts_sound {b : List UInt8} : ∀ (k : Nat) (acc : List ByteArray) (i e : Int) (ts : List ByteArray), 0 ≤ i → i ≤ b.length → goTexts b k acc i = some (ts, e) → ∃ (xs : List ByteArray) (a a' : Nat), i = a ∧ e = a' ∧ a ≤ a' ∧ a' ≤ b.length ∧ ts = acc ++ xs ∧ xs.length = k ∧ b.drop a = textsB xs ++ b.drop a'
  | 0, acc, i, e, ns, h0, h1, h => by
    simp only [goTexts, Option.some.injEq, Prod.mk.injEq] at h
    obtain ⟨rfl, rfl⟩ := h
    obtain ⟨a, rfl⟩ := Int.eq_ofNat_of_zero_le h0
    exact ⟨[], a, a, rfl, rfl, Nat.le_refl _, by omega, by simp, rfl, by simp [textsB]⟩
  | k + 1, acc, i, e, ns, h0, h1, h => by
    rw [goTexts] at h
    rcases ht : takeAt b i with ⟨x, e1, ok⟩
    rw [ht] at h
    cases ok
    · cases h
    · obtain ⟨a, a1, rfl, rfl, p1, p2, p3, -, -⟩ := takeAt_sound ht
      simp only at h
      cases hw : withinB x 0 ((b.length : Int) - a1) <;> rw [hw] at h
      · cases h
      · have hx := (withinB_iff).1 hw
        obtain ⟨n, rfl⟩ := Int.eq_ofNat_of_zero_le hx.1
        obtain ⟨xs, a1', a', q0, rfl, q1, q2, rfl, q3, q4⟩ := goTexts_sound k _ _ e ns (by omega) (by omega) h
        obtain rfl : a1' = a1 + n := by omega
        have hsz : (chunk b a1 n).size = n := by
          show ((b.drop a1).take n).toArray.size = n
          simp; omega
        refine ⟨chunk b a1 n :: xs, a, a', rfl, rfl, by omega, q2, by simp, by simp [q3], ?_⟩
        rw [p3]
        have e1 : b.drop a1 = (b.drop a1).take n ++ b.drop (a1 + n) := by rw [← List.drop_drop, List.take_append_drop]
        rw [e1, q4]
        have e2 : textsB (chunk b a1 n :: xs) = textB (chunk b a1 n) ++ textsB xs := by simp [textsB]
        rw [e2, textB, hsz]
        simp [chunk]
end Go.Proofs.Ytndgaakfndokgaa

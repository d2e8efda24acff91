/- Records as bytes: plain data. -/
import Derived.Test.YtndgaakfndokgaaPureNum
import Derived.Test.YtndgaakfndokgaaPkRec0
import Derived.Test.YtndgaakfndokgaaRecord2
set_option linter.unusedSimpArgs false
set_option linter.unusedVariables false
set_option maxRecDepth 20000
namespace Go.Proofs.Ytndgaakfndokgaa
open Go.RowKit
def recOk (r : Record) : Bool := recordOk r.Kind r.Nums r.Texts
def numsB (xs : List Int) : List UInt8 := xs.flatMap fun x => numB (zig x)
def textB (s : ByteArray) : List UInt8 := numB (zig (s.size : Int)) ++ s.data.toList
def textsB (ss : List ByteArray) : List UInt8 := ss.flatMap textB
def encHead (r : Record) : List UInt8 := UInt8.ofNat r.Kind.toNat :: numB (zig (r.Nums.length : Int))
def encList (r : Record) : List UInt8 := encHead r ++ numsB r.Nums ++ numB (zig (r.Texts.length : Int)) ++ textsB r.Texts
def encOk (r : Record) : Bool := match recOk r with | true => decide ((encList r).length ≤ 4000) | false => false
def encB (r : Record) : List UInt8 := match encOk r with | true => encList r | false => []
theorem encOk_bad {r : Record} (h : recOk r = false) : encOk r = false := by unfold encOk; rw [h]
theorem encOk_big {r : Record} (h : 4000 < (encList r).length) : encOk r = false := by unfold encOk; cases recOk r <;> simp; omega
theorem encOk_good {r : Record} (h : recOk r = true) (h2 : (encList r).length ≤ 4000) : encOk r = true := by unfold encOk; rw [h]; simpa using h2
theorem encB_no {r : Record} (h : encOk r = false) : encB r = [] := by unfold encB; rw [h]
theorem encB_yes {r : Record} (h : encOk r = true) : encB r = encList r := by unfold encB; rw [h]
theorem zigB_short {x : Int} (h1 : -1099511627776 ≤ x) (h2 : x ≤ 1099511627776) : (numB (zig x)).length ≤ 6 := numB_short 5 _ (by have := zig_le h1 h2; omega)
theorem recOk_parts {r : Record} (h : recOk r = true) : 0 ≤ r.Kind ∧ r.Kind ≤ 99 ∧ r.Nums.length ≤ 40 ∧ r.Texts.length ≤ 40 ∧ (∀ x ∈ r.Nums, -1099511627776 ≤ x ∧ x ≤ 1099511627776) ∧ ∀ s ∈ r.Texts, s.size ≤ 300 := by
  simp only [recOk, recordOk, Bool.and_eq_true, decide_eq_true_eq, withinB_iff, all_numOk, all_textOk] at h
  obtain ⟨⟨h1, h2⟩, h3, h4, h5, h6⟩ := h
  refine ⟨h1, h2, by omega, by omega, fun x hx => withinB_iff.1 (h5 x hx), fun s hs => ?_⟩
  have := h6 s hs
  simp only [textOk, decide_eq_true_eq] at this
  omega
theorem numsB_le {xs : List Int} (h : ∀ x ∈ xs, -1099511627776 ≤ x ∧ x ≤ 1099511627776) : (numsB xs).length ≤ 6 * xs.length := by
  induction xs with
  | nil => simp [numsB]
  | cons x xs ih =>
    have h1 := zigB_short (h x (by simp)).1 (h x (by simp)).2
    have h2 := ih (fun y hy => h y (by simp [hy]))
    unfold numsB at h2 ⊢
    rw [List.flatMap_cons, List.length_append, List.length_cons]
    omega
theorem textB_le {s : ByteArray} (h : s.size ≤ 300) : (textB s).length ≤ 306 := by
  have := zigB_short (x := (s.size : Int)) (by omega) (by omega)
  unfold textB
  rw [List.length_append]
  have : s.data.toList.length = s.size := rfl
  omega
theorem textsB_le {ss : List ByteArray} (h : ∀ s ∈ ss, s.size ≤ 300) : (textsB ss).length ≤ 306 * ss.length := by
  induction ss with
  | nil => simp [textsB]
  | cons s ss ih =>
    have h1 := textB_le (h s (by simp))
    have h2 := ih (fun y hy => h y (by simp [hy]))
    unfold textsB at h2 ⊢
    rw [List.flatMap_cons, List.length_append, List.length_cons]
    omega
theorem numsB_snoc {xs : List Int} {k : Nat} {x : Int} (h : xs[k]? = some x) : numsB (xs.take (k + 1)) = numsB (xs.take k) ++ numB (zig x) := by rw [take_snoc h]; simp [numsB]
theorem textsB_snoc {ss : List ByteArray} {k : Nat} {s : ByteArray} (h : ss[k]? = some s) : textsB (ss.take (k + 1)) = textsB (ss.take k) ++ textB s := by rw [take_snoc h]; simp [textsB]
theorem encHead_le (r : Record) (h : recOk r = true) : (encHead r).length ≤ 7 := by
  obtain ⟨_, _, h3, _⟩ := recOk_parts h
  have := zigB_short (x := (r.Nums.length : Int)) (by omega) (by omega)
  unfold encHead
  rw [List.length_cons]
  omega
theorem encB_le (r : Record) : (encB r).length ≤ 4000 := by
  cases h : encOk r
  · rw [encB_no h]; simp
  · rw [encB_yes h]
    unfold encOk at h
    cases h2 : recOk r
    · rw [h2] at h; cases h
    · rw [h2] at h; simpa using h
end Go.Proofs.Ytndgaakfndokgaa

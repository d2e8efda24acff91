/- string(b) of a readable row of bytes; a part of a row; bytes.Equal. -/
import Derived.Test.YtndgaakfndokgaaSpecTake
import Derived.Test.YtndgaakfndokgaaAppend
import Derived.Laws.IdiomStrings
import Derived.Laws.BytesArg
set_option linter.unusedSimpArgs false
set_option linter.unusedVariables false
set_option maxRecDepth 20000
namespace Go.Proofs.Ytndgaakfndokgaa
open Go.RowKit
def strOf (xs : List UInt8) : ByteArray := ⟨xs.toArray⟩
theorem strOf_toList (xs : List UInt8) : (strOf xs).toList = xs := by rw [ByteArray.toList_eq]; simp [strOf]
theorem Reads.none_nil {w : World} {B : Nat} {xs : List Value} (hr : Reads w B none xs) : xs = [] := by
  cases xs with
  | nil => rfl
  | cons u us => obtain ⟨_, _, h, _⟩ := hr (by simp); cases h
theorem run_strOf {w : World} {B : Nat} {A : Option Addr} (c : Nat) {xs : List UInt8} (hr : Reads w B A (xs.map byteV)) :
    (convert 22 9 (.slice A xs.length c)).run Try.prog w = .ok (.string (strOf xs)) w := by
  cases A with
  | none =>
    have h0 : xs = [] := by simpa using hr.none_nil
    subst h0
    exact run_convert_bytes_nil (P := Try.prog) (w := w) 22 5 Try.underlying22 Try.underlying5 0 c 9 Try.underlying9
  | some a =>
    refine run_convert_bytes_back (P := Try.prog) w 22 9 5 a c xs Try.underlying22 Try.underlying5 Try.underlying9 fun j hj => ?_
    obtain ⟨b, off, h1, _, h3⟩ := hr (by simp; omega)
    simp only [Option.some.injEq] at h1
    subst h1
    rw [addr_add_none]
    exact h3 j _ (by rw [List.getElem?_map, List.getElem?_eq_getElem hj]; rfl)
/-- b[e:e+n] of a readable row: what comes out reads as the part. -/
theorem run_part {w : World} {B : Nat} {A : Option Addr} {c : Nat} {b : List UInt8} (hr : Reads w B A (b.map byteV)) (e n : Nat) (h : e + n ≤ b.length) (hc : b.length ≤ c) :
    ∃ A', Reads w B A' (((b.drop e).take n).map byteV) ∧ ∀ W, (Instr.slice 22 (.slice A b.length c) (some (.int .i64 (e : Int))) (some (.int .i64 ((e : Int) + n))) none).run Try.prog W = .ok (.slice A' n (c - e)) W := by
  have ht : Try.prog.underlying 22 = some (.slice (Try.prog.elem 22)) := by kernel_rfl
  have hz : ∀ W, (sizeOf (Try.prog.elem 22)).run Try.prog W = .ok 1 W := fun W => by rw [show Try.prog.elem 22 = 5 by kernel_rfl]; simp [go_sem]
  refine ⟨if c = e then A else A.map (·.add (e * 1)), ?_, fun W => ?_⟩
  · intro h0
    simp at h0
    rw [if_neg (by omega)]
    obtain ⟨g, off, h1, h2, h3⟩ := hr (by simp; omega)
    subst h1
    refine ⟨g, off + e, by simp [addr_add_none], h2, fun j u hu => ?_⟩
    rw [Nat.add_assoc]
    refine h3 (e + j) u ?_
    rw [List.map_take, List.map_drop, List.getElem?_take] at hu
    split at hu
    · rwa [List.getElem?_drop] at hu
    · cases hu
  · rw [run_slice_lh W 22 A b.length c ht .i64 .i64 e ((e : Int) + n) (by omega) (by omega) (by omega), hz]
    have h1 : ((e : Int) + n).toNat = e + n := by omega
    simp [Result.andThen, sliced, h1]
theorem bytes_Equal (A A' : Option Addr) (c c' : Nat) (xs ys : List UInt8) (w : World) (hr : Reads w w.heap.size A (xs.map byteV)) (hr' : Reads w w.heap.size A' (ys.map byteV)) :
    Calls Try.prog 51 #[.slice A xs.length c, .slice A' ys.length c'] w fun e w' => e = .returned (.bool (decide (xs = ys))) ∧ w = w' := by
  have h1 := run_strOf c hr
  have h2 := run_strOf c' hr'
  have HB : Hid (((strOf xs).toList == (strOf ys).toList) = decide (xs = ys)) := Lib.hid (by rw [strOf_toList, strOf_toList, Bool.eq_iff_iff]; simp)
  generalize xs.length = n at h1
  generalize ys.length = m at h2
  go_enter Try.func51, Try.ntmps51
  go_wp2
  go_ret
  exact ⟨ret_bool HB.out, rfl⟩
end Go.Proofs.Ytndgaakfndokgaa

/- DecodeRecord: what both walks use. -/
import Derived.Test.YtndgaakfndokgaaPureDecSame
import Derived.Test.YtndgaakfndokgaaSpecEncode
import Derived.Test.YtndgaakfndokgaaEncodeL
import Derived.Test.YtndgaakfndokgaaStr
import Derived.Test.YtndgaakfndokgaaNil
set_option linter.unusedSimpArgs false
set_option linter.unusedVariables false
set_option maxRecDepth 20000
namespace Go.Proofs.Ytndgaakfndokgaa
open Go.RowKit
def decOk (b : List UInt8) : Bool := (dec false b).isSome
def decR (b : List UInt8) : Record := (dec false b).getD ⟨0, [], []⟩
theorem dec_any (lax : Bool) (b : List UInt8) : dec lax b = dec false b := by cases lax; rfl; exact dec_same b
theorem dec_none (lax : Bool) {b : List UInt8} (h : dec lax b = none) : decOk b = false ∧ decR b = ⟨0, [], []⟩ := by rw [dec_any] at h; unfold decOk decR; rw [h]; exact ⟨rfl, rfl⟩
theorem dec_some (lax : Bool) {b : List UInt8} {r : Record} (h : dec lax b = some r) : decOk b = true ∧ decR b = r := by rw [dec_any] at h; unfold decOk decR; rw [h]; exact ⟨rfl, rfl⟩
theorem headI_eq {b : List UInt8} (h : 0 < b.length) : headI b = ((b[0]'h).toNat : Int) := by
  cases b with
  | nil => simp at h
  | cons x xs => rfl
theorem own_Record_none (w : World) (S : Nat → Prop) : RecordR.Own w S [.int .i64 0, .slice none 0 0, .slice none 0 0] ⟨0, [], []⟩ :=
  of_own_Record (x := ⟨0, [], []⟩) (S0 := fun _ => False) (S1 := fun _ => False) (SlOwn.nil _ _ _ _) (SlOwn.nil _ _ _ _) (fun _ h => h.elim) (fun _ h => h.elim) (fun _ h => h.elim)
theorem below_drew {B : Nat} {a w : World} (h : Below B a w) : Below B a w.drew := Below.drew h
theorem Out.grow {S : Nat → Prop} {a w w' : World} {row : Option Nat} (h : Out S a w) (hg : w.grownBy w' row) (hr : ∀ q, row = some q → a.heap.size ≤ q) : Out S a w' :=
  ⟨hg.os.trans h.os, hg.tape.trans h.tape, hg.output.trans h.output, Nat.le_trans h.size hg.size, fun k hk hs => (hg.block k (Nat.lt_of_lt_of_le hk h.size) (fun e => by have := hr k e.symm; omega)).trans (h.block k hk hs)⟩
theorem strSum_le {xs : List ByteArray} {n : Nat} (h : ∀ s ∈ xs, s.size ≤ n) : strSum xs ≤ n * xs.length := by
  induction xs with
  | nil => simp [strSum]
  | cons x xs ih =>
    have h1 := ih (fun s hs => h s (by simp [hs]))
    have h2 := h x (by simp)
    simp only [strSum, List.map_cons, List.sum_cons, List.length_cons, Nat.mul_add, Nat.mul_one] at h1 ⊢
    omega
end Go.Proofs.Ytndgaakfndokgaa

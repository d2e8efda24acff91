/- A string turned to bytes: new memory. -/
import Derived.Test.YtndgaakfndokgaaRows
import Derived.Test.YtndgaakfndokgaaAppend
import Derived.Lib.AtoiErrMem
import Derived.Lib.ConvBytes
set_option linter.unusedSimpArgs false
set_option linter.unusedVariables false
set_option maxRecDepth 20000
namespace Go.Proofs.Ytndgaakfndokgaa
open Go.RowKit
/-- The world behind '[]byte(s)'. -/
def cvWorld (w : World) (s : ByteArray) : World := Lib.bytesWorld w 5 s
def cvCap (w : World) (s : ByteArray) : Nat := grownCap w s.size 0 5
theorem run_cv (w : World) (s : ByteArray) : (convert 9 22 (.string s)).run Try.prog w = .ok (.slice (some ⟨w.heap.size, 0, none⟩) s.size (cvCap w s)) (cvWorld w s) :=
  Lib.run_convert_string_bytes (P := Try.prog) w 9 22 5 s Try.underlying9 Try.underlying22 Try.underlying5
theorem cv_size (w : World) (s : ByteArray) : (cvWorld w s).heap.size = w.heap.size + 1 := by
  unfold cvWorld
  exact Lib.bytesWorld_size w _ s
theorem cv_below (w : World) (s : ByteArray) : Below w.heap.size w (cvWorld w s) := Lib.bytesWorld_below w _ s
theorem cv_step {B : Nat} {a w : World} {s : ByteArray} (h : Below B a w) (hB : B ≤ w.heap.size) : Below B a (cvWorld w s) := h.trans ((cv_below w s).mono hB)
theorem Blk.cv {w : World} {g : Nat} {t : TypeId} {cs : Array Value} (h : Blk w g t cs) (s : ByteArray) : Blk (cvWorld w s) g t cs := h.keep (cv_below w s)
theorem own_cv {w : World} {base : Nat} {e : TypeId} {size n : Nat} {v : Value} {xs : List Value} (h : w.ownsRow base e size v n xs) (s : ByteArray) : (cvWorld w s).ownsRow base e size v n xs := own_below h (cv_below w s)
theorem cv_reads (w : World) (s : ByteArray) : Reads (cvWorld w s) (cvWorld w s).heap.size (some ⟨w.heap.size, 0, none⟩) (s.data.toList.map byteV) := fun _ => by
  refine ⟨w.heap.size, 0, rfl, by rw [cv_size]; omega, fun j u hu => ?_⟩
  rw [List.getElem?_map] at hu
  cases hx : s.data.toList[j]? with
  | none => rw [hx] at hu; cases hu
  | some b =>
    rw [hx] at hu
    simp only [Option.map_some, Option.some.injEq] at hu
    have hj : j < s.size := (List.getElem?_eq_some_iff.1 hx).1
    rw [Nat.zero_add]
    unfold cvWorld
    rw [Lib.bytesWorld_cell w _ s j hj, ← hu]
    simp [byteV, List.getD, hx]
end Go.Proofs.Ytndgaakfndokgaa

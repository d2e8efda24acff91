/- Data of an argument, opened: ClockOp (printed by wip/gen/genopen.py). -/
import Derived.Test.YtfbgmpcknhjinaaOpen3
import Derived.Test.YtfbgmpcknhjinaaClockOpS2
import Derived.Test.YtfbgmpcknhjinaaOpen2
set_option linter.unusedSimpArgs false
set_option linter.unusedVariables false
set_option maxRecDepth 20000
namespace Go.Proofs.Ytfbgmpcknhjinaa
open Go.ChangeShapes Go.WideShapes Go.ChangeAt Go.RowKit Go.Joins
theorem open2_ClockOp {H : Type} {enc : TypeId × Value → H} {w : World} {base : Nat} {spare : Nat → Bool} {held : Bool} {fuel : Nat} {cs : List Value} {x : DataW H × List MemPlace} (h : DataW.trod enc Try.prog w base spare held fuel 69 cs = some x) (hl : cs.length = 3) : ∃ a, ClockOpR.Rd w w.heap.size cs a := by
  obtain ⟨c0, c1, c2, rfl⟩ : ∃ c0 c1 c2, cs = [c0, c1, c2] := by
    match cs, hl with
    | [c0, c1, c2], _ => exact ⟨c0, c1, c2, rfl⟩
  obtain ⟨n0, y0, hy0⟩ := struct_field Try.underlying69 (by kernel_rfl) h (j := 0) rfl rfl
  obtain ⟨x0, e0, _, w0⟩ := DataW.trod_int Try.underlying3 hy0
  simp only [List.cons.injEq, and_true] at e0
  subst e0
  obtain ⟨n1, y1, hy1⟩ := struct_field Try.underlying69 (by kernel_rfl) h (j := 1) rfl rfl
  obtain ⟨x1, e1, _, w1⟩ := DataW.trod_int Try.underlying3 hy1
  simp only [List.cons.injEq, and_true] at e1
  subst e1
  obtain ⟨n2, y2, hy2⟩ := struct_field Try.underlying69 (by kernel_rfl) h (j := 2) rfl rfl
  obtain ⟨x2, e2, _, w2⟩ := DataW.trod_int Try.underlying3 hy2
  simp only [List.cons.injEq, and_true] at e2
  subst e2
  exact ⟨⟨x0, x1, x2⟩, of_rd_ClockOp (x := ⟨x0, x1, x2⟩) ⟩
end Go.Proofs.Ytfbgmpcknhjinaa

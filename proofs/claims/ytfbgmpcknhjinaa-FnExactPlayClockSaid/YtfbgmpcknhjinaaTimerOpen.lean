/- A timer among the data of an argument, opened. -/
import Derived.Test.YtfbgmpcknhjinaaOpen2
import Derived.Test.YtfbgmpcknhjinaaTimerS2
set_option linter.unusedSimpArgs false
set_option linter.unusedVariables false
set_option maxRecDepth 20000
namespace Go.Proofs.Ytfbgmpcknhjinaa
open Go.ChangeShapes Go.WideShapes Go.ChangeAt Go.RowKit
theorem open2_Timer {H : Type} {enc : TypeId × Value → H} {w : World} {base : Nat} {spare : Nat → Bool} {held : Bool} {fuel : Nat} {cs : List Value} {x : DataW H × List MemPlace} (h : DataW.trod enc Try.prog w base spare held fuel 79 cs = some x) (hl : cs.length = 2) : ∃ a, TimerR.Rd w w.heap.size cs a := by
  match cs, hl with
  | [c0, c1], _ =>
    obtain ⟨n0, y0, hy0⟩ := struct_field Try.underlying79 (by kernel_rfl) h (j := 0) rfl rfl
    obtain ⟨z0, e0, _, hz0⟩ := DataW.trod_int Try.underlying3 hy0
    simp only [List.cons.injEq, and_true] at e0
    subst e0
    obtain ⟨n1, y1, hy1⟩ := struct_field Try.underlying79 (by kernel_rfl) h (j := 1) rfl rfl
    obtain ⟨z1, e1, _, hz1⟩ := DataW.trod_int Try.underlying3 hy1
    simp only [List.cons.injEq, and_true] at e1
    subst e1
    exact ⟨⟨z0, z1⟩, rfl, trivial⟩
end Go.Proofs.Ytfbgmpcknhjinaa

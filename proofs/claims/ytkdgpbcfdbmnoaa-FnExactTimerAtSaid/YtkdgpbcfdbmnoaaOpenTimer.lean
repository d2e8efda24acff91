/- A []Timer argument, opened. -/
import Derived.Test.YtkdgpbcfdbmnoaaOpen
import Derived.Test.YtkdgpbcfdbmnoaaTimer
namespace Go.Proofs.Ytkdgpbcfdbmnoaa
open Go.ChangeShapes Go.WideShapes Go.ChangeAt Go.RowKit
theorem open_TimerS {H : Type} {enc : TypeId × Value → H} {w : World} {base : Nat} {spare : Nat → Bool} {held : Bool} {fuel : Nat} {v : Value} {x : DataW H × List MemPlace} (h : DataW.trod enc Try.prog w base spare held fuel 22 [v] = some x) :
    ∃ A c, ∃ xs : List Timer, v = .slice A xs.length c ∧ Reads w w.heap.size A (xs.flatMap Timer.cells) ∧ xs.length ≤ 9223372036854775807 := by
  obtain ⟨A, c, xs, h1, h2, h3, h4⟩ := open_rows (f := Timer.cells) (m := 2) (fun a => True) Timer.len (by omega) Try.underlying22 (by kernel_rfl) h (fun n cs y hy hl => by
    match cs, hl with
    | [c0, c1], _ =>
      obtain ⟨n0, y0, hy0⟩ := struct_field Try.underlying54 (by kernel_rfl) hy (j := 0) rfl rfl
      obtain ⟨z0, e0, _, hz0⟩ := DataW.trod_int Try.underlying3 hy0
      simp only [List.cons.injEq, and_true] at e0
      subst e0
      obtain ⟨n1, y1, hy1⟩ := struct_field Try.underlying54 (by kernel_rfl) hy (j := 1) rfl rfl
      obtain ⟨z1, e1, _, hz1⟩ := DataW.trod_int Try.underlying3 hy1
      simp only [List.cons.injEq, and_true] at e1
      subst e1
      exact ⟨⟨z0, z1⟩, rfl, trivial⟩)
  exact ⟨A, c, xs, h1, h2, h3⟩
end Go.Proofs.Ytkdgpbcfdbmnoaa

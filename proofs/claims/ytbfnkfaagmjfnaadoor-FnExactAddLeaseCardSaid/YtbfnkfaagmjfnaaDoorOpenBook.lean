/- Data of an argument, opened: Lease, Book (printed by wip/gen/genopen.py). -/
import Derived.Test.YtbfnkfaagmjfnaaDoorOpen3
import Derived.Test.YtbfnkfaagmjfnaaDoorBook2
import Derived.Test.YtbfnkfaagmjfnaaDoorLeaseS2
set_option linter.unusedSimpArgs false
set_option linter.unusedVariables false
set_option maxRecDepth 20000
namespace Go.Proofs.YtbfnkfaagmjfnaaDoor
open Go.ChangeShapes Go.WideShapes Go.ChangeAt Go.RowKit Go.Joins
theorem open2_Lease {H : Type} {enc : TypeId × Value → H} {w : World} {base : Nat} {spare : Nat → Bool} {held : Bool} {fuel : Nat} {cs : List Value} {x : DataW H × List MemPlace} (h : DataW.trod enc Tryd.prog w base spare held fuel 23 cs = some x) (hl : cs.length = 6) : ∃ a, LeaseR.Rd w w.heap.size cs a := by
  obtain ⟨c0, c1, c2, c3, c4, c5, rfl⟩ : ∃ c0 c1 c2 c3 c4 c5, cs = [c0, c1, c2, c3, c4, c5] := by
    match cs, hl with
    | [c0, c1, c2, c3, c4, c5], _ => exact ⟨c0, c1, c2, c3, c4, c5, rfl⟩
  obtain ⟨n0, y0, hy0⟩ := struct_field Tryd.underlying23 (by kernel_rfl) h (j := 0) rfl rfl
  obtain ⟨x0, e0, _, w0⟩ := DataW.trod_int Tryd.underlying3 hy0
  simp only [List.cons.injEq, and_true] at e0
  subst e0
  obtain ⟨n1, y1, hy1⟩ := struct_field Tryd.underlying23 (by kernel_rfl) h (j := 1) rfl rfl
  obtain ⟨x1, e1, _, w1⟩ := DataW.trod_int Tryd.underlying3 hy1
  simp only [List.cons.injEq, and_true] at e1
  subst e1
  obtain ⟨n2, y2, hy2⟩ := struct_field Tryd.underlying23 (by kernel_rfl) h (j := 2) rfl rfl
  obtain ⟨x2, e2, _, w2⟩ := DataW.trod_string Tryd.underlying9 hy2
  simp only [List.cons.injEq, and_true] at e2
  subst e2
  obtain ⟨n3, y3, hy3⟩ := struct_field Tryd.underlying23 (by kernel_rfl) h (j := 3) rfl rfl
  obtain ⟨x3, e3, _, w3⟩ := DataW.trod_int Tryd.underlying3 hy3
  simp only [List.cons.injEq, and_true] at e3
  subst e3
  obtain ⟨n4, y4, hy4⟩ := struct_field Tryd.underlying23 (by kernel_rfl) h (j := 4) rfl rfl
  obtain ⟨x4, e4, _, w4⟩ := DataW.trod_int Tryd.underlying3 hy4
  simp only [List.cons.injEq, and_true] at e4
  subst e4
  obtain ⟨n5, y5, hy5⟩ := struct_field Tryd.underlying23 (by kernel_rfl) h (j := 5) rfl rfl
  obtain ⟨x5, e5, _, w5⟩ := DataW.trod_int Tryd.underlying3 hy5
  simp only [List.cons.injEq, and_true] at e5
  subst e5
  exact ⟨⟨x0, x1, x2, x3, x4, x5⟩, of_rd_Lease (x := ⟨x0, x1, x2, x3, x4, x5⟩) (by simpa [maxLen] using w2)⟩
theorem open2_Book {H : Type} {enc : TypeId × Value → H} {w : World} {base : Nat} {spare : Nat → Bool} {held : Bool} {fuel : Nat} {cs : List Value} {x : DataW H × List MemPlace} (h : DataW.trod enc Tryd.prog w base spare held fuel 31 cs = some x) (hl : cs.length = 1) : ∃ a, BookR.Rd w w.heap.size cs a := by
  obtain ⟨c0, rfl⟩ : ∃ c0, cs = [c0] := by
    match cs, hl with
    | [c0], _ => exact ⟨c0, rfl⟩
  obtain ⟨n0, y0, hy0⟩ := struct_field Tryd.underlying31 (by kernel_rfl) h (j := 0) rfl rfl
  obtain ⟨x0, hs0⟩ := open_sl (R := LeaseR) (by decide) Tryd.underlying29 (by kernel_rfl) hy0 (fun n cs y h hl => open2_Lease h hl)
  exact ⟨⟨x0⟩, of_rd_Book (x := ⟨x0⟩) hs0⟩
end Go.Proofs.YtbfnkfaagmjfnaaDoor

/- Data of an argument, opened: Record (printed by wip/gen/genopen.py). -/
import Derived.Test.YtgaenfkjobkmjaaOpen3
import Derived.Test.YtgaenfkjobkmjaaRecordS2
import Derived.Test.YtgaenfkjobkmjaaOpen2S
set_option linter.unusedSimpArgs false
set_option linter.unusedVariables false
set_option maxRecDepth 20000
namespace Go.Proofs.Ytgaenfkjobkmjaa
open Go.ChangeShapes Go.WideShapes Go.ChangeAt Go.RowKit Go.Joins
theorem open2_Record {H : Type} {enc : TypeId × Value → H} {w : World} {base : Nat} {spare : Nat → Bool} {held : Bool} {fuel : Nat} {cs : List Value} {x : DataW H × List MemPlace} (h : DataW.trod enc Try.prog w base spare held fuel 77 cs = some x) (hl : cs.length = 3) : ∃ a, RecordR.Rd w w.heap.size cs a := by
  obtain ⟨c0, c1, c2, rfl⟩ : ∃ c0 c1 c2, cs = [c0, c1, c2] := by
    match cs, hl with
    | [c0, c1, c2], _ => exact ⟨c0, c1, c2, rfl⟩
  obtain ⟨n0, y0, hy0⟩ := struct_field Try.underlying77 (by kernel_rfl) h (j := 0) rfl rfl
  obtain ⟨x0, e0, _, w0⟩ := DataW.trod_int Try.underlying3 hy0
  simp only [List.cons.injEq, and_true] at e0
  subst e0
  obtain ⟨n1, y1, hy1⟩ := struct_field Try.underlying77 (by kernel_rfl) h (j := 1) rfl rfl
  obtain ⟨x1, hs1⟩ := open_sl (R := intR) (by decide) Try.underlying24 (by kernel_rfl) hy1 (fun n cs y h _ => open2_int Try.underlying3 h)
  obtain ⟨n2, y2, hy2⟩ := struct_field Try.underlying77 (by kernel_rfl) h (j := 2) rfl rfl
  obtain ⟨x2, hs2⟩ := open_sl (R := strR) (by decide) Try.underlying25 (by kernel_rfl) hy2 (fun n cs y h _ => open2_str Try.underlying9 h)
  exact ⟨⟨x0, x1, x2⟩, of_rd_Record (x := ⟨x0, x1, x2⟩) hs1 hs2⟩
end Go.Proofs.Ytgaenfkjobkmjaa

/- Data of an argument, opened: Token, Forest (printed by wip/gen/genopen.py). Data of an argument, opened: Rule, Policy (printed by wip/gen/genopen.py). -/
import Derived.Test.YtoijmnnjcoogkaaDoorOpen3
import Derived.Test.YtoijmnnjcoogkaaDoorOpen2S
import Derived.Test.YtoijmnnjcoogkaaDoorForest2
import Derived.Test.YtoijmnnjcoogkaaDoorTokenS2
import Derived.Test.YtoijmnnjcoogkaaDoorPkPolS
set_option linter.unusedSimpArgs false
set_option linter.unusedVariables false
set_option maxRecDepth 20000
namespace Go.Proofs.YtoijmnnjcoogkaaDoor
open Go.ChangeShapes Go.WideShapes Go.ChangeAt Go.RowKit Go.Joins
theorem open2_Token {H : Type} {enc : TypeId × Value → H} {w : World} {base : Nat} {spare : Nat → Bool} {held : Bool} {fuel : Nat} {cs : List Value} {x : DataW H × List MemPlace} (h : DataW.trod enc Tryd.prog w base spare held fuel 67 cs = some x) (hl : cs.length = 7) : ∃ a, TokenR.Rd w w.heap.size cs a := by
  obtain ⟨c0, c1, c2, c3, c4, c5, c6, rfl⟩ : ∃ c0 c1 c2 c3 c4 c5 c6, cs = [c0, c1, c2, c3, c4, c5, c6] := by
    match cs, hl with
    | [c0, c1, c2, c3, c4, c5, c6], _ => exact ⟨c0, c1, c2, c3, c4, c5, c6, rfl⟩
  obtain ⟨n0, y0, hy0⟩ := struct_field Tryd.underlying67 (by kernel_rfl) h (j := 0) rfl rfl
  obtain ⟨x0, e0, _, w0⟩ := DataW.trod_int Tryd.underlying3 hy0
  simp only [List.cons.injEq, and_true] at e0
  subst e0
  obtain ⟨n1, y1, hy1⟩ := struct_field Tryd.underlying67 (by kernel_rfl) h (j := 1) rfl rfl
  obtain ⟨x1, e1, _, w1⟩ := DataW.trod_int Tryd.underlying3 hy1
  simp only [List.cons.injEq, and_true] at e1
  subst e1
  obtain ⟨n2, y2, hy2⟩ := struct_field Tryd.underlying67 (by kernel_rfl) h (j := 2) rfl rfl
  obtain ⟨x2, hs2⟩ := open_sl (R := strR) (by decide) Tryd.underlying46 (by kernel_rfl) hy2 (fun n cs y h _ => open2_str Tryd.underlying9 h)
  obtain ⟨n3, y3, hy3⟩ := struct_field Tryd.underlying67 (by kernel_rfl) h (j := 3) rfl rfl
  obtain ⟨x3, e3, _, w3⟩ := DataW.trod_int Tryd.underlying3 hy3
  simp only [List.cons.injEq, and_true] at e3
  subst e3
  obtain ⟨n4, y4, hy4⟩ := struct_field Tryd.underlying67 (by kernel_rfl) h (j := 4) rfl rfl
  obtain ⟨x4, e4, _, w4⟩ := DataW.trod_int Tryd.underlying3 hy4
  simp only [List.cons.injEq, and_true] at e4
  subst e4
  obtain ⟨n5, y5, hy5⟩ := struct_field Tryd.underlying67 (by kernel_rfl) h (j := 5) rfl rfl
  obtain ⟨x5, e5, _, w5⟩ := DataW.trod_int Tryd.underlying3 hy5
  simp only [List.cons.injEq, and_true] at e5
  subst e5
  obtain ⟨n6, y6, hy6⟩ := struct_field Tryd.underlying67 (by kernel_rfl) h (j := 6) rfl rfl
  obtain ⟨x6, e6, _, w6⟩ := DataW.trod_int Tryd.underlying3 hy6
  simp only [List.cons.injEq, and_true] at e6
  subst e6
  exact ⟨⟨x0, x1, x2, x3, x4, x5, x6⟩, of_rd_Token (x := ⟨x0, x1, x2, x3, x4, x5, x6⟩) hs2⟩
theorem open2_Forest {H : Type} {enc : TypeId × Value → H} {w : World} {base : Nat} {spare : Nat → Bool} {held : Bool} {fuel : Nat} {cs : List Value} {x : DataW H × List MemPlace} (h : DataW.trod enc Tryd.prog w base spare held fuel 24 cs = some x) (hl : cs.length = 1) : ∃ a, ForestR.Rd w w.heap.size cs a := by
  obtain ⟨c0, rfl⟩ : ∃ c0, cs = [c0] := by
    match cs, hl with
    | [c0], _ => exact ⟨c0, rfl⟩
  obtain ⟨n0, y0, hy0⟩ := struct_field Tryd.underlying24 (by kernel_rfl) h (j := 0) rfl rfl
  obtain ⟨x0, hs0⟩ := open_sl (R := TokenR) (by decide) Tryd.underlying22 (by kernel_rfl) hy0 (fun n cs y h hl => open2_Token h hl)
  exact ⟨⟨x0⟩, of_rd_Forest (x := ⟨x0⟩) hs0⟩
end Go.Proofs.YtoijmnnjcoogkaaDoor
namespace Go.Proofs.YtoijmnnjcoogkaaDoor
open Go.ChangeShapes Go.WideShapes Go.ChangeAt Go.RowKit Go.Joins
theorem open2_Rule {H : Type} {enc : TypeId × Value → H} {w : World} {base : Nat} {spare : Nat → Bool} {held : Bool} {fuel : Nat} {cs : List Value} {x : DataW H × List MemPlace} (h : DataW.trod enc Tryd.prog w base spare held fuel 83 cs = some x) (hl : cs.length = 2) : ∃ a, RuleR.Rd w w.heap.size cs a := by
  obtain ⟨c0, c1, rfl⟩ : ∃ c0 c1, cs = [c0, c1] := by
    match cs, hl with
    | [c0, c1], _ => exact ⟨c0, c1, rfl⟩
  obtain ⟨n0, y0, hy0⟩ := struct_field Tryd.underlying83 (by kernel_rfl) h (j := 0) rfl rfl
  obtain ⟨x0, e0, _, w0⟩ := DataW.trod_string Tryd.underlying9 hy0
  simp only [List.cons.injEq, and_true] at e0
  subst e0
  obtain ⟨n1, y1, hy1⟩ := struct_field Tryd.underlying83 (by kernel_rfl) h (j := 1) rfl rfl
  obtain ⟨x1, e1, _, w1⟩ := DataW.trod_int Tryd.underlying3 hy1
  simp only [List.cons.injEq, and_true] at e1
  subst e1
  exact ⟨⟨x0, x1⟩, of_rd_Rule (x := ⟨x0, x1⟩) (by simpa [maxLen] using w0)⟩
theorem open2_Policy {H : Type} {enc : TypeId × Value → H} {w : World} {base : Nat} {spare : Nat → Bool} {held : Bool} {fuel : Nat} {cs : List Value} {x : DataW H × List MemPlace} (h : DataW.trod enc Tryd.prog w base spare held fuel 45 cs = some x) (hl : cs.length = 2) : ∃ a, PolicyR.Rd w w.heap.size cs a := by
  obtain ⟨c0, c1, rfl⟩ : ∃ c0 c1, cs = [c0, c1] := by
    match cs, hl with
    | [c0, c1], _ => exact ⟨c0, c1, rfl⟩
  obtain ⟨n0, y0, hy0⟩ := struct_field Tryd.underlying45 (by kernel_rfl) h (j := 0) rfl rfl
  obtain ⟨x0, e0, _, w0⟩ := DataW.trod_string Tryd.underlying9 hy0
  simp only [List.cons.injEq, and_true] at e0
  subst e0
  obtain ⟨n1, y1, hy1⟩ := struct_field Tryd.underlying45 (by kernel_rfl) h (j := 1) rfl rfl
  obtain ⟨x1, hs1⟩ := open_sl (R := RuleR) (by decide) Tryd.underlying43 (by kernel_rfl) hy1 (fun n cs y h hl => open2_Rule h hl)
  exact ⟨⟨x0, x1⟩, of_rd_Policy (x := ⟨x0, x1⟩) hs1 (by simpa [maxLen] using w0)⟩
end Go.Proofs.YtoijmnnjcoogkaaDoor

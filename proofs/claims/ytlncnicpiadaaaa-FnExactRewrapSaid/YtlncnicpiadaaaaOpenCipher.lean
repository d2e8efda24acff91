/- Data of an argument, opened: a box inside a cipher. -/
import Derived.Test.YtlncnicpiadaaaaOpen3
import Derived.Test.YtlncnicpiadaaaaCipher2
set_option linter.unusedSimpArgs false
set_option linter.unusedVariables false
set_option maxRecDepth 20000
namespace Go.Proofs.Ytlncnicpiadaaaa
open Go.ChangeShapes Go.WideShapes Go.ChangeAt Go.RowKit Go.Joins
theorem open2_Box {H : Type} {enc : TypeId × Value → H} {w : World} {base : Nat} {spare : Nat → Bool} {held : Bool} {fuel : Nat} {cs : List Value} {x : DataW H × List MemPlace} (h : DataW.trod enc Try.prog w base spare held fuel 27 cs = some x) (hl : cs.length = 3) : ∃ a, BoxR.Rd w w.heap.size cs a := by
  obtain ⟨c0, c1, c2, rfl⟩ : ∃ c0 c1 c2, cs = [c0, c1, c2] := by
    match cs, hl with
    | [c0, c1, c2], _ => exact ⟨c0, c1, c2, rfl⟩
  obtain ⟨n0, y0, hy0⟩ := struct_field Try.underlying27 (by kernel_rfl) h (j := 0) rfl rfl
  obtain ⟨x0, e0, _, w0⟩ := DataW.trod_int Try.underlying3 hy0
  simp only [List.cons.injEq, and_true] at e0
  subst e0
  obtain ⟨n1, y1, hy1⟩ := struct_field Try.underlying27 (by kernel_rfl) h (j := 1) rfl rfl
  obtain ⟨x1, hs1⟩ := open_sl (R := byteR) (by decide) Try.underlying25 (by kernel_rfl) hy1 (fun n cs y h _ => open2_byte Try.underlying5 h)
  obtain ⟨n2, y2, hy2⟩ := struct_field Try.underlying27 (by kernel_rfl) h (j := 2) rfl rfl
  obtain ⟨x2, e2, _, w2⟩ := DataW.trod_int Try.underlying3 hy2
  simp only [List.cons.injEq, and_true] at e2
  subst e2
  exact ⟨⟨x0, x1, x2⟩, of_rd_Box (x := ⟨x0, x1, x2⟩) hs1⟩
theorem cells_laws_int : Try.prog.cellsOf 3 = 1 := by kernel_rfl
theorem cells_laws_Box : Try.prog.cellsOf 27 = 3 := by kernel_rfl
theorem open2_Cipher {H : Type} {enc : TypeId × Value → H} {w : World} {base : Nat} {spare : Nat → Bool} {held : Bool} {fuel : Nat} {cs : List Value} {x : DataW H × List MemPlace} (h : DataW.trod enc Try.prog w base spare held fuel 29 cs = some x) (hl : cs.length = 4) : ∃ a, CipherR.Rd w w.heap.size cs a := by
  obtain ⟨c0, c1, c2, c3, rfl⟩ : ∃ c0 c1 c2 c3, cs = [c0, c1, c2, c3] := by
    match cs, hl with
    | [c0, c1, c2, c3], _ => exact ⟨c0, c1, c2, c3, rfl⟩
  obtain ⟨y0, y1, n, -, -, h0, h1⟩ := trod_struct2 Try.underlying29 h
  simp only [cells_laws_int, cells_laws_Box] at h0 h1
  obtain ⟨x0, e0, _, w0⟩ := DataW.trod_int Try.underlying3 h0
  simp only [List.drop_zero, List.take_succ_cons, List.take_zero, List.cons.injEq, and_true] at e0
  subst e0
  obtain ⟨b, hb⟩ := open2_Box h1 rfl
  obtain ⟨v0, e1, hs⟩ := rd_Box hb
  simp only [List.drop_succ_cons, List.drop_zero, List.take_succ_cons, List.take_zero, List.cons.injEq, and_true] at e1
  obtain ⟨rfl, rfl, rfl⟩ := e1
  exact ⟨⟨x0, b.Nonce, b.Data, b.Tag⟩, of_rd_Cipher (x := ⟨x0, b.Nonce, b.Data, b.Tag⟩) hs⟩
end Go.Proofs.Ytlncnicpiadaaaa

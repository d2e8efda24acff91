/- A struct argument by value, opened to Rep. -/
import Derived.Test.YtoijmnnjcoogkaaDoorOpen2
set_option linter.unusedSimpArgs false
set_option linter.unusedVariables false
set_option maxRecDepth 20000
namespace Go.Proofs.YtoijmnnjcoogkaaDoor
open Go.ChangeShapes Go.WideShapes Go.ChangeAt Go.RowKit Go.Joins
theorem open_struct {H : Type} {enc : TypeId × Value → H} {P : Program} {w : World} {base : Nat} {spare : Nat → Bool} {held : Bool} {α : Type} {R : Rep α} {r : Reach} {b0 : Nat} {t : TypeId} {fs : Array Field} {v : Value} {d : DataW H} {p : List MemPlace} (hs : P.underlying t = some (.struct fs)) (hC : P.cellsOf t = R.m)
    (hv : Value.okWide P w r b0 t v) (h : DataW.Trod enc P w base spare held t v d p) (hd : ∀ n cs y, DataW.trod enc P w base spare held n t cs = some y → cs.length = R.m → ∃ a, R.Rd w w.heap.size cs a) :
    ∃ (cs : List Value) (a : α), v = .agg cs.toArray ∧ R.Rd w w.heap.size cs a := by
  obtain ⟨cs, rfl, hsz⟩ := okWide_struct hs hv
  obtain ⟨fuel, hf⟩ := h
  have hl : cs.toList.length = R.m := by rw [Array.length_toList, hsz, hC]
  obtain ⟨a, ha⟩ := hd _ _ _ (by simpa [Value.cells] using hf) hl
  exact ⟨cs.toList, a, by simp, ha⟩
end Go.Proofs.YtoijmnnjcoogkaaDoor

/- A string among the data of an argument, opened. -/
import Derived.Test.YtoijmnnjcoogkaaDoorOpen2
import Derived.Test.YtoijmnnjcoogkaaDoorStringS2
set_option linter.unusedSimpArgs false
set_option linter.unusedVariables false
set_option maxRecDepth 20000
namespace Go.Proofs.YtoijmnnjcoogkaaDoor
open Go.ChangeShapes Go.WideShapes Go.ChangeAt Go.RowKit
theorem open2_str {H : Type} {enc : TypeId × Value → H} {P : Program} {w : World} {base : Nat} {spare : Nat → Bool} {held : Bool} {t : TypeId} {fuel : Nat} {cs : List Value} {x : DataW H × List MemPlace} (ht : P.underlying t = some .string) (h : DataW.trod enc P w base spare held fuel t cs = some x) : ∃ a, strR.Rd w w.heap.size cs a := by
  obtain ⟨z, e, _, hw⟩ := DataW.trod_string ht h
  exact ⟨z, e, by simpa [maxLen] using hw⟩
end Go.Proofs.YtoijmnnjcoogkaaDoor

/- The nil slice as data that is owned. -/
import Derived.Test.YtoijmnnjcoogkaaDoorRep
set_option linter.unusedSimpArgs false
set_option linter.unusedVariables false
set_option maxRecDepth 20000
namespace Go.Proofs.YtoijmnnjcoogkaaDoor
open Go.RowKit
theorem SlOwn.nil {α : Type} (R : Rep α) (e : TypeId) (w : World) (S : Nat → Prop) : SlOwn R e w S (.slice none 0 0) [] :=
  ⟨none, 0, [], fun _ => False, [], rfl, Nat.le_refl _, by omega, Rows.nil, ⟨rfl, rfl, fun i S cs x h => by simp at h⟩, fun _ h => h.elim, by simp, List.Pairwise.nil⟩
end Go.Proofs.YtoijmnnjcoogkaaDoor

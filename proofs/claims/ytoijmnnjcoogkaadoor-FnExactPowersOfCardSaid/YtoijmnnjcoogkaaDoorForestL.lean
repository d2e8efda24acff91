/- ForestOk, Depth: both sides, as the law asks. -/
import Derived.Test.YtoijmnnjcoogkaaDoorImplForest
import Derived.Test.YtoijmnnjcoogkaaDoorSpecForest
set_option linter.unusedSimpArgs false
set_option linter.unusedVariables false
set_option maxRecDepth 20000
namespace Go.Proofs.YtoijmnnjcoogkaaDoor
open Go.RowKit
theorem spec_ForestOkL (cs : List Value) (f : Forest) (w : World) (h : ForestR.Rd w w.heap.size cs f) (hm : ForestR.sz f ≤ 1048576) :
    Calls Tryd.prog 35 #[.agg cs.toArray] w fun e w' => e = .returned (.bool (forestOk f.Tokens)) ∧ Below w.heap.size w w' := by
  obtain ⟨v0, rfl, q0⟩ := rd_Forest h
  obtain ⟨A0, c0, rfl⟩ := q0.form
  rw [sz_Forest] at hm
  exact spec_ForestOk A0 c0 f.Tokens w q0 hm
theorem impl_isForestL (cs : List Value) (f : Forest) (w : World) (h : ForestR.Rd w w.heap.size cs f) (hm : ForestR.sz f ≤ 1048576) :
    Calls Tryd.prog 24 #[.agg cs.toArray] w fun e w' => e = .returned (.bool (forestOk f.Tokens)) ∧ Below w.heap.size w w' := by
  obtain ⟨v0, rfl, q0⟩ := rd_Forest h
  obtain ⟨A0, c0, rfl⟩ := q0.form
  rw [sz_Forest] at hm
  exact impl_isForest A0 c0 f.Tokens w q0 hm
end Go.Proofs.YtoijmnnjcoogkaaDoor

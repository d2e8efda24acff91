/- Depth, both sides. -/
import Derived.Test.YtoijmnnjcoogkaaDoorPkPure
import Derived.Test.YtoijmnnjcoogkaaDoorForestL
set_option linter.unusedSimpArgs false
set_option linter.unusedVariables false
set_option maxRecDepth 20000
namespace Go.Proofs.YtoijmnnjcoogkaaDoor
open Go.RowKit
theorem impl_tokenIndexL (cs : List Value) (f : Forest) (id : Int) (w : World) (h : ForestR.Rd w w.heap.size cs f) (hm : ForestR.sz f ≤ 1048576) :
    Calls Tryd.prog 23 #[.agg cs.toArray, .int .i64 id] w fun e w' => e = .returned (.int .i64 (idxT f.Tokens id)) ∧ Below w.heap.size w w' := by
  obtain ⟨v0, rfl, q0⟩ := rd_Forest h
  obtain ⟨A0, c0, rfl⟩ := q0.form
  rw [sz_Forest] at hm
  exact impl_tokenIndex A0 c0 f.Tokens id w q0 hm
theorem spec_l08AtL (cs : List Value) (f : Forest) (id : Int) (w : World) (h : ForestR.Rd w w.heap.size cs f) (hm : ForestR.sz f ≤ 1048576) :
    Calls Tryd.prog 36 #[.agg cs.toArray, .int .i64 id] w fun e w' => e = .returned (.int .i64 (idxT f.Tokens id)) ∧ Below w.heap.size w w' := by
  obtain ⟨v0, rfl, q0⟩ := rd_Forest h
  obtain ⟨A0, c0, rfl⟩ := q0.form
  rw [sz_Forest] at hm
  exact spec_l08At A0 c0 f.Tokens id w q0 hm
end Go.Proofs.YtoijmnnjcoogkaaDoor

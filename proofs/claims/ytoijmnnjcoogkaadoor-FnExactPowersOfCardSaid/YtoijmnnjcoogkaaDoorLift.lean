/- MaxLen holds some int in a world of the shape. -/
import Derived.Test.YtoijmnnjcoogkaaDoorLiftP
import Derived.Test.YtoijmnnjcoogkaaDoorSplit
set_option linter.unusedSimpArgs false
set_option linter.unusedVariables false
set_option maxRecDepth 20000
namespace Go.Proofs.YtoijmnnjcoogkaaDoor
open Go Go.ChangeShapes Go.WideShapes Go.ChangeAt Go.RowKit
theorem maxLen_shaped {w : World} (h : w.ShapedOpen Tryd.prog) : MaxLenInt w :=
  cell_of_shapedOpen_int (zero := #[.int .i64 0]) (t := 3) h (of_decide_eq_true (by kernel_rfl)) (by kernel_rfl) rfl (by kernel_rfl) (by kernel_rfl) Tryd.underlying3
end Go.Proofs.YtoijmnnjcoogkaaDoor

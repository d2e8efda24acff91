/- Contracts of the helpers on []int (printed by wip/gen/gen.py). -/
import Derived.Test.YtoijmnnjcoogkaaDoorRows
import Derived.Test.YtoijmnnjcoogkaaDoorLib
set_option linter.unusedSimpArgs false
set_option linter.unusedVariables false
set_option maxRecDepth 20000
namespace Go.Proofs.YtoijmnnjcoogkaaDoor
open Go.RowKit
theorem info_int : (Tryd.prog.info? 3).map (fun i => (i.zero, i.size, i.bytes)) = some (some (.int .i64 0), 1, 8) := by kernel_rfl
end Go.Proofs.YtoijmnnjcoogkaaDoor

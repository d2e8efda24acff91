/- Contracts of the helpers on []uint8 (printed by wip/gen/gen.py). -/
import Derived.Test.YtohfnpohmieknaaDoorRows
import Derived.Test.YtohfnpohmieknaaDoorLib
set_option linter.unusedSimpArgs false
set_option linter.unusedVariables false
set_option maxRecDepth 20000
namespace Go.Proofs.YtohfnpohmieknaaDoor
open Go.RowKit
theorem info_uint8 : (Tryd.prog.info? 5).map (fun i => (i.zero, i.size, i.bytes)) = some (some (.int .u8 0), 1, 1) := by kernel_rfl
end Go.Proofs.YtohfnpohmieknaaDoor

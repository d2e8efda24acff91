/- Contracts of the helpers on []string (printed by wip/gen/gen.py). -/
import Derived.Test.YtohfnpohmieknaaDoorRows
import Derived.Test.YtohfnpohmieknaaDoorLib
set_option linter.unusedSimpArgs false
set_option linter.unusedVariables false
set_option maxRecDepth 20000
namespace Go.Proofs.YtohfnpohmieknaaDoor
open Go.RowKit
theorem info_string : (Tryd.prog.info? 9).map (fun i => (i.zero, i.size, i.bytes)) = some (some (.string ByteArray.empty), 1, 16) := by kernel_rfl
end Go.Proofs.YtohfnpohmieknaaDoor

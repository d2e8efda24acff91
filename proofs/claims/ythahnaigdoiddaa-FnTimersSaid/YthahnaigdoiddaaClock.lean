/- Contracts of the helpers on Clock (printed by wip/gen/gen.py). -/
import Derived.Test.YthahnaigdoiddaaTimer
set_option linter.unusedSimpArgs false
set_option linter.unusedVariables false
set_option maxRecDepth 20000
namespace Go.Proofs.Ythahnaigdoiddaa
open Go.RowKit
end Go.Proofs.Ythahnaigdoiddaa

/- spec.l08Less (printed by wip/gen/genwithout.py). -/
import Derived.Test.YtcfhnhhgnophhaaCopyF
import Derived.Test.YtcfhnhhgnophhaaPkPure
set_option linter.unusedSimpArgs false
set_option linter.unusedVariables false
set_option maxRecDepth 20000
namespace Go.Proofs.Ytcfhnhhgnophhaa
open Go.RowKit
end Go.Proofs.Ytcfhnhhgnophhaa

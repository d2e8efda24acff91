/- spec.l01Same (printed by wip/gen/gentake.py). -/
import Derived.Test.YtndgaakfndokgaaByteS
set_option linter.unusedSimpArgs false
set_option linter.unusedVariables false
set_option maxRecDepth 20000
namespace Go.Proofs.Ytndgaakfndokgaa
open Go.RowKit
end Go.Proofs.Ytndgaakfndokgaa

/- spec.DecodeRecord: the walk (printed by wip/gen/gendec.py). -/
import Derived.Test.YtndgaakfndokgaaDecLib
set_option linter.unusedSimpArgs false
set_option linter.unusedVariables false
set_option maxRecDepth 20000
namespace Go.Proofs.Ytndgaakfndokgaa
open Go.RowKit
end Go.Proofs.Ytndgaakfndokgaa

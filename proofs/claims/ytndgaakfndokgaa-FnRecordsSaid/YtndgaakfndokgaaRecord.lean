/- Contracts of the helpers on Record (printed by wip/gen/gen.py). -/
import Derived.Test.YtndgaakfndokgaaIntS
import Derived.Test.YtndgaakfndokgaaStringS
set_option linter.unusedSimpArgs false
set_option linter.unusedVariables false
set_option maxRecDepth 20000
namespace Go.Proofs.Ytndgaakfndokgaa
open Go.RowKit
end Go.Proofs.Ytndgaakfndokgaa

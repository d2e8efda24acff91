/- spec.EncodeRecord. -/
import Derived.Test.YtgaenfkjobkmjabEncode
import Derived.Test.YtgaenfkjobkmjabConv
set_option linter.unusedSimpArgs false
set_option linter.unusedVariables false
set_option maxRecDepth 20000
namespace Go.Proofs.Ytgaenfkjobkmjab
open Go.RowKit
end Go.Proofs.Ytgaenfkjobkmjab

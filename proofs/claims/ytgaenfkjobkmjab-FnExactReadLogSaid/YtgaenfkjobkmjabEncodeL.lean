/- EncodeRecord, both sides, as the law asks. -/
import Derived.Test.YtgaenfkjobkmjabSpecEncode
import Derived.Test.YtgaenfkjobkmjabByteS2
set_option linter.unusedSimpArgs false
set_option linter.unusedVariables false
set_option maxRecDepth 20000
namespace Go.Proofs.Ytgaenfkjobkmjab
open Go.RowKit
end Go.Proofs.Ytgaenfkjobkmjab

/- Whether a token is over, is late: isOver, isLate of the program, l08Over of the reference. -/
import Derived.Test.YtoijmnnjcoogkaaDoorTokRd
set_option linter.unusedSimpArgs false
set_option linter.unusedVariables false
set_option maxRecDepth 20000
namespace Go.Proofs.YtoijmnnjcoogkaaDoor
open Go.RowKit
def overB (e now : Int) : Bool := e != 0 && decide (e ≤ now)
def lateB (t : Token) (now : Int) : Bool := overB t.Ends now || decide (now < t.Made)
end Go.Proofs.YtoijmnnjcoogkaaDoor

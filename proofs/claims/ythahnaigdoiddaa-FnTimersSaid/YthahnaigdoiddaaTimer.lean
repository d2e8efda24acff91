/- Contracts of the helpers on Timer, []Timer (printed by wip/gen/gen.py). -/
import Derived.Test.YthahnaigdoiddaaRows
import Derived.Test.YthahnaigdoiddaaLib
set_option linter.unusedSimpArgs false
set_option linter.unusedVariables false
set_option maxRecDepth 20000
namespace Go.Proofs.Ythahnaigdoiddaa
open Go.RowKit
structure Timer where
  At : Int
  Id : Int
  deriving DecidableEq
def Timer.cells (t : Timer) : List Value := [.int .i64 t.At, .int .i64 t.Id]
theorem Timer.len (t : Timer) : t.cells.length = 2 := rfl
theorem Timer.one (t : Timer) : ∀ u ∈ t.cells, u.oneCell' = true := by simp [Timer.cells, Value.oneCell']
theorem info_Timer : (Try.prog.info? 52).map (fun i => (i.zero, i.size, i.bytes)) = some (some (.agg #[.int .i64 0, .int .i64 0]), 2, 16) := by kernel_rfl
end Go.Proofs.Ythahnaigdoiddaa

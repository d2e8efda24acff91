/- Contracts of the helpers on ClockOp, []ClockOp (printed by wip/gen/gen.py). -/
import Derived.Test.YthahnaigdoiddaaRows
import Derived.Test.YthahnaigdoiddaaLib
set_option linter.unusedSimpArgs false
set_option linter.unusedVariables false
set_option maxRecDepth 20000
namespace Go.Proofs.Ythahnaigdoiddaa
open Go.RowKit
structure ClockOp where
  Kind : Int
  Id : Int
  At : Int
  deriving DecidableEq
def ClockOp.cells (t : ClockOp) : List Value := [.int .i64 t.Kind, .int .i64 t.Id, .int .i64 t.At]
theorem ClockOp.len (t : ClockOp) : t.cells.length = 3 := rfl
theorem ClockOp.one (t : ClockOp) : ∀ u ∈ t.cells, u.oneCell' = true := by simp [ClockOp.cells, Value.oneCell']
theorem info_ClockOp : (Try.prog.info? 32).map (fun i => (i.zero, i.size, i.bytes)) = some (some (.agg #[.int .i64 0, .int .i64 0, .int .i64 0]), 3, 24) := by kernel_rfl
end Go.Proofs.Ythahnaigdoiddaa

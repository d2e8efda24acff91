/- Contracts of the helpers on []ClockOp (printed by wip/gen/gen2.py). -/
import Derived.Test.YthahnaigdoiddaaRows
import Derived.Test.YthahnaigdoiddaaBuilt
import Derived.Test.YthahnaigdoiddaaClockOp
set_option linter.unusedSimpArgs false
set_option linter.unusedVariables false
set_option maxRecDepth 20000
namespace Go.Proofs.Ythahnaigdoiddaa
open Go.RowKit
def ClockOpR : Rep ClockOp := Rep.flat 3 ClockOp.cells ClockOp.len (fun x => True) 3 (fun k _ => ⟨(k : Int), ((k + 1 : Nat) : Int), ((k + 2 : Nat) : Int)⟩) (fun x => 0)
theorem rd_ClockOp {w : World} {B : Nat} {cs : List Value} {x : ClockOp} (h : ClockOpR.Rd w B cs x) : cs = [.int .i64 x.Kind, .int .i64 x.Id, .int .i64 x.At] := h.1
theorem own_ClockOp {w : World} {S : Nat → Prop} {cs : List Value} {x : ClockOp} (h : ClockOpR.Own w S cs x) : cs = [.int .i64 x.Kind, .int .i64 x.Id, .int .i64 x.At] := h.1
theorem of_rd_ClockOp {w : World} {B : Nat} {x : ClockOp} : ClockOpR.Rd w B [.int .i64 x.Kind, .int .i64 x.Id, .int .i64 x.At] x := ⟨rfl, trivial⟩
theorem of_own_ClockOp {w : World} {S : Nat → Prop} {x : ClockOp} : ClockOpR.Own w S [.int .i64 x.Kind, .int .i64 x.Id, .int .i64 x.At] x := ⟨rfl, trivial⟩
theorem sz_ClockOp (x : ClockOp) : ClockOpR.sz x = 0 := rfl
theorem cnt_bd_ClockOpS (xs : List ClockOp) : cntList ClockOpR xs ≤ 16 * szList ClockOpR xs := by
  have h : cntList ClockOpR xs = 3 * xs.length := by
    unfold cntList; induction xs with
    | nil => rfl
    | cons x xs ih => rw [List.map_cons, List.sum_cons, ih, List.length_cons]; show 3 + _ = _; omega
  unfold szList; omega
theorem cnt1_ClockOp (x : ClockOp) (k : Nat) : k + ClockOpR.cnt x = k + 1 + 1 + 1 := by
  rfl
theorem mark1_ClockOp (x : ClockOp) (k : Nat) : ClockOpR.mark k x = ⟨((k : Nat) : Int), ((k + 1 : Nat) : Int), ((k + 1 + 1 : Nat) : Int)⟩ := rfl
end Go.Proofs.Ythahnaigdoiddaa

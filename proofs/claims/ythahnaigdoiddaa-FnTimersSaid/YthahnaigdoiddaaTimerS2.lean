/- Contracts of the helpers on []Timer (printed by wip/gen/gen2.py). -/
import Derived.Test.YthahnaigdoiddaaRows
import Derived.Test.YthahnaigdoiddaaBuilt
import Derived.Test.YthahnaigdoiddaaTimer
set_option linter.unusedSimpArgs false
set_option linter.unusedVariables false
set_option maxRecDepth 20000
namespace Go.Proofs.Ythahnaigdoiddaa
open Go.RowKit
def TimerR : Rep Timer := Rep.flat 2 Timer.cells Timer.len (fun x => True) 2 (fun k _ => ⟨(k : Int), ((k + 1 : Nat) : Int)⟩) (fun x => 0)
theorem rd_Timer {w : World} {B : Nat} {cs : List Value} {x : Timer} (h : TimerR.Rd w B cs x) : cs = [.int .i64 x.At, .int .i64 x.Id] := h.1
theorem own_Timer {w : World} {S : Nat → Prop} {cs : List Value} {x : Timer} (h : TimerR.Own w S cs x) : cs = [.int .i64 x.At, .int .i64 x.Id] := h.1
theorem of_rd_Timer {w : World} {B : Nat} {x : Timer} : TimerR.Rd w B [.int .i64 x.At, .int .i64 x.Id] x := ⟨rfl, trivial⟩
theorem of_own_Timer {w : World} {S : Nat → Prop} {x : Timer} : TimerR.Own w S [.int .i64 x.At, .int .i64 x.Id] x := ⟨rfl, trivial⟩
theorem sz_Timer (x : Timer) : TimerR.sz x = 0 := rfl
theorem cnt_bd_TimerS (xs : List Timer) : cntList TimerR xs ≤ 16 * szList TimerR xs := by
  have h : cntList TimerR xs = 2 * xs.length := by
    unfold cntList; induction xs with
    | nil => rfl
    | cons x xs ih => rw [List.map_cons, List.sum_cons, ih, List.length_cons]; show 2 + _ = _; omega
  unfold szList; omega
theorem cnt1_Timer (x : Timer) (k : Nat) : k + TimerR.cnt x = k + 1 + 1 := by
  rfl
theorem mark1_Timer (x : Timer) (k : Nat) : TimerR.mark k x = ⟨((k : Nat) : Int), ((k + 1 : Nat) : Int)⟩ := rfl
end Go.Proofs.Ythahnaigdoiddaa

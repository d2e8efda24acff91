/- Contracts of the helpers on []Lease (printed by wip/gen/gen2.py). -/
import Derived.Test.YtohfnpohmieknaaDoorRows
import Derived.Test.YtohfnpohmieknaaDoorBuilt
import Derived.Test.YtohfnpohmieknaaDoorStringS2
set_option linter.unusedSimpArgs false
set_option linter.unusedVariables false
set_option maxRecDepth 20000
namespace Go.Proofs.YtohfnpohmieknaaDoor
open Go.RowKit
theorem bytes_ext (x y : ByteArray) : x.toList = y.toList ↔ x = y := ⟨fun h => by rw [ByteArray.toList_eq, ByteArray.toList_eq] at h; cases x; cases y; simp at h; rw [h], fun h => by rw [h]⟩
structure Lease where
  Id : Int
  Token : Int
  Path : ByteArray
  Made : Int
  Ends : Int
  Limit : Int
  deriving DecidableEq
def Lease.cells (x : Lease) : List Value := [.int .i64 x.Id, .int .i64 x.Token, .string x.Path, .int .i64 x.Made, .int .i64 x.Ends, .int .i64 x.Limit]
theorem Lease.len (x : Lease) : x.cells.length = 6 := rfl
theorem Lease.one (x : Lease) : ∀ u ∈ x.cells, u.oneCell' = true := by simp [Lease.cells, Value.oneCell']
theorem info_Lease : (Tryd.prog.info? 32).map (fun i => (i.zero, i.size, i.bytes)) = some (some (.agg #[.int .i64 0, .int .i64 0, .string ByteArray.empty, .int .i64 0, .int .i64 0, .int .i64 0]), 6, 56) := by kernel_rfl
def LeaseR : Rep Lease := Rep.flat 6 Lease.cells Lease.len (fun x => x.Path.size ≤ 9223372036854775807) 6 (fun k _ => ⟨(k : Int), ((k + 1 : Nat) : Int), markT (k + 2), ((k + 3 : Nat) : Int), ((k + 4 : Nat) : Int), ((k + 5 : Nat) : Int)⟩) (fun x => x.Path.size)
theorem rd_Lease {w : World} {B : Nat} {cs : List Value} {x : Lease} (h : LeaseR.Rd w B cs x) : cs = [.int .i64 x.Id, .int .i64 x.Token, .string x.Path, .int .i64 x.Made, .int .i64 x.Ends, .int .i64 x.Limit] ∧ x.Path.size ≤ 9223372036854775807 := ⟨h.1, h.2⟩
theorem own_Lease {w : World} {S : Nat → Prop} {cs : List Value} {x : Lease} (h : LeaseR.Own w S cs x) : cs = [.int .i64 x.Id, .int .i64 x.Token, .string x.Path, .int .i64 x.Made, .int .i64 x.Ends, .int .i64 x.Limit] ∧ x.Path.size ≤ 9223372036854775807 := ⟨h.1, h.2⟩
theorem of_rd_Lease {w : World} {B : Nat} {x : Lease} (bPath : x.Path.size ≤ 9223372036854775807) : LeaseR.Rd w B [.int .i64 x.Id, .int .i64 x.Token, .string x.Path, .int .i64 x.Made, .int .i64 x.Ends, .int .i64 x.Limit] x := ⟨rfl, bPath⟩
theorem of_own_Lease {w : World} {S : Nat → Prop} {x : Lease} (bPath : x.Path.size ≤ 9223372036854775807) : LeaseR.Own w S [.int .i64 x.Id, .int .i64 x.Token, .string x.Path, .int .i64 x.Made, .int .i64 x.Ends, .int .i64 x.Limit] x := ⟨rfl, bPath⟩
theorem sz_Lease (x : Lease) : LeaseR.sz x = x.Path.size := rfl
theorem cnt_bd_LeaseS (xs : List Lease) : cntList LeaseR xs ≤ 16 * szList LeaseR xs := by
  have h : cntList LeaseR xs = 6 * xs.length := by
    unfold cntList; induction xs with
    | nil => rfl
    | cons x xs ih => rw [List.map_cons, List.sum_cons, ih, List.length_cons]; show 6 + _ = _; omega
  unfold szList; omega
theorem cnt1_Lease (x : Lease) (k : Nat) : k + LeaseR.cnt x = k + 1 + 1 + 1 + 1 + 1 + 1 := by
  rfl
theorem mark1_Lease (x : Lease) (k : Nat) : LeaseR.mark k x = ⟨((k : Nat) : Int), ((k + 1 : Nat) : Int), markT (k + 1 + 1), ((k + 1 + 1 + 1 : Nat) : Int), ((k + 1 + 1 + 1 + 1 : Nat) : Int), ((k + 1 + 1 + 1 + 1 + 1 : Nat) : Int)⟩ := rfl
end Go.Proofs.YtohfnpohmieknaaDoor

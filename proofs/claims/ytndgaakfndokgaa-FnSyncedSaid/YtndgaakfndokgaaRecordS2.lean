/- Contracts of the helpers on []Record (printed by wip/gen/gen2.py). -/
import Derived.Test.YtndgaakfndokgaaRows
import Derived.Test.YtndgaakfndokgaaBuilt
import Derived.Test.YtndgaakfndokgaaRecord2
set_option linter.unusedSimpArgs false
set_option linter.unusedVariables false
set_option maxRecDepth 20000
namespace Go.Proofs.Ytndgaakfndokgaa
open Go.RowKit
theorem info_Record : (Try.prog.info? 27).map (fun i => (i.zero, i.size, i.bytes)) = some (some (.agg #[.int .i64 0, .slice none 0 0, .slice none 0 0]), 3, 56) := by kernel_rfl
theorem cnt_bd_RecordS (xs : List Record) : cntList RecordR xs ≤ 16 * szList RecordR xs := by
  unfold cntList szList
  induction xs with
  | nil => simp
  | cons x xs ih =>
    rw [List.map_cons, List.sum_cons, List.map_cons, List.sum_cons, List.length_cons]
    have h1 : RecordR.cnt x ≤ 1 + 8 * RecordR.sz x := by
      rw [sz_Record]
      have h0 := cnt_bd_IntS x.Nums
      have h1 := cnt_bd_StringS x.Texts
      have hx : RecordR.cnt x = (1 + (cntList intR x.Nums + cntList strR x.Texts)) := rfl
      omega
    omega
theorem cnt1_Record (x : Record) (k : Nat) : k + RecordR.cnt x = k + 1 + cntList intR x.Nums + cntList strR x.Texts := by
  have hx : RecordR.cnt x = (1 + (cntList intR x.Nums + cntList strR x.Texts)) := rfl
  omega
theorem mark1_Record (x : Record) (k : Nat) : RecordR.mark k x = ⟨((k : Nat) : Int), mkList intR (k + 1) x.Nums, mkList strR (k + 1 + cntList intR x.Nums) x.Texts⟩ := rfl
end Go.Proofs.Ytndgaakfndokgaa

/- Contracts of the helpers on []Token (printed by wip/gen/gen2.py). -/
import Derived.Test.YtcfhnhhgnophhaaRows
import Derived.Test.YtcfhnhhgnophhaaBuilt
import Derived.Test.YtcfhnhhgnophhaaToken2
set_option linter.unusedSimpArgs false
set_option linter.unusedVariables false
set_option maxRecDepth 20000
namespace Go.Proofs.Ytcfhnhhgnophhaa
open Go.RowKit
theorem info_Token : (Try.prog.info? 35).map (fun i => (i.zero, i.size, i.bytes)) = some (some (.agg #[.int .i64 0, .int .i64 0, .slice none 0 0, .int .i64 0, .int .i64 0, .int .i64 0, .int .i64 0]), 7, 72) := by kernel_rfl
theorem cnt_bd_TokenS (xs : List Token) : cntList TokenR xs ≤ 16 * szList TokenR xs := by
  unfold cntList szList
  induction xs with
  | nil => simp
  | cons x xs ih =>
    rw [List.map_cons, List.sum_cons, List.map_cons, List.sum_cons, List.length_cons]
    have h1 : TokenR.cnt x ≤ 6 + 8 * TokenR.sz x := by
      rw [sz_Token]
      have h0 := cnt_bd_StringS x.Names
      simp only [TokenR, Rep.as, Rep.pair, Rep.sl, intR, Rep.flat]
      omega
    omega
theorem cnt1_Token (x : Token) (k : Nat) : k + TokenR.cnt x = k + 1 + 1 + cntList strR x.Names + 1 + 1 + 1 + 1 := by
  simp only [TokenR, Rep.as, Rep.pair, Rep.sl, intR, Rep.flat]; omega
theorem mark1_Token (x : Token) (k : Nat) : TokenR.mark k x = ⟨((k : Nat) : Int), ((k + 1 : Nat) : Int), mkList strR (k + 1 + 1) x.Names, ((k + 1 + 1 + cntList strR x.Names : Nat) : Int), ((k + 1 + 1 + cntList strR x.Names + 1 : Nat) : Int), ((k + 1 + 1 + cntList strR x.Names + 1 + 1 : Nat) : Int), ((k + 1 + 1 + cntList strR x.Names + 1 + 1 + 1 : Nat) : Int)⟩ := rfl
end Go.Proofs.Ytcfhnhhgnophhaa

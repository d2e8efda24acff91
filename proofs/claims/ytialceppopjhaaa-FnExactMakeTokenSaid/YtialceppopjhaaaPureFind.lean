/- Forests as plain data: the token with an Id. -/
import Derived.Test.YtialceppopjhaaaPureDepth
set_option linter.unusedSimpArgs false
set_option linter.unusedVariables false
namespace Go.Proofs.Ytialceppopjhaaa
open Go.RowKit
def noToken : Token := ⟨0, 0, [], 0, 0, 0, 0⟩
def findOk (ts : List Token) (id : Int) : Bool := forestOk ts && decide (0 ≤ idxT ts id)
def findTok (ts : List Token) (id : Int) : Token := match findOk ts id with | true => (ts[(idxT ts id).toNat]?).getD noToken | false => noToken
theorem findOk_bad {ts : List Token} {id : Int} (h : forestOk ts = false) : findOk ts id = false := by unfold findOk; rw [h]; rfl
theorem findOk_none {ts : List Token} {id : Int} (h : idxT ts id < 0) : findOk ts id = false := by unfold findOk; rw [decide_eq_false (by omega : ¬ 0 ≤ idxT ts id), Bool.and_false]
theorem findOk_at {ts : List Token} {id : Int} {i : Nat} (hf : forestOk ts = true) (h : idxT ts id = i) : findOk ts id = true := by unfold findOk; rw [hf, decide_eq_true (by omega : 0 ≤ idxT ts id)]; rfl
theorem findTok_no {ts : List Token} {id : Int} (h : findOk ts id = false) : findTok ts id = noToken := by unfold findTok; rw [h]
theorem findTok_at {ts : List Token} {id : Int} {i : Nat} {t : Token} (hf : forestOk ts = true) (h : idxT ts id = i) (ht : ts[i]? = some t) : findTok ts id = t := by
  unfold findTok
  rw [findOk_at hf h, h, Int.toNat_natCast, ht]
  rfl
theorem findTok_sz (ts : List Token) (id : Int) : TokenR.sz (findTok ts id) ≤ szList TokenR ts := by
  unfold findTok
  cases h : findOk ts id
  · simp [noToken, sz_Token, szList]
  · cases ht : ts[(idxT ts id).toNat]? with
    | none => simp [noToken, sz_Token, szList]
    | some t => exact szList_one ht
end Go.Proofs.Ytialceppopjhaaa

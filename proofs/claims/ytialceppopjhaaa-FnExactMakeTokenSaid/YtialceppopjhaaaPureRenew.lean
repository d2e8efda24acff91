/- Renewals as plain data. -/
import Derived.Test.YtialceppopjhaaaPureFind
import Derived.Test.YtialceppopjhaaaLate
set_option linter.unusedSimpArgs false
set_option linter.unusedVariables false
namespace Go.Proofs.Ytialceppopjhaaa
open Go.RowKit
def tokN (ts : List Token) (id : Int) : Token := (ts[(idxT ts id).toNat]?).getD noToken
theorem tokN_at {ts : List Token} {id : Int} {i : Nat} {t : Token} (h : idxT ts id = i) (ht : ts[i]? = some t) : tokN ts id = t := by unfold tokN; rw [h, Int.toNat_natCast, ht]; rfl
def endsNew (t : Token) (now by_ : Int) : Int := match t.Limit != 0 && decide (t.Limit < now + by_) with | true => t.Limit | false => now + by_
def withEnds (t : Token) (e : Int) : Token := ⟨t.Id, t.Parent, t.Names, t.Made, e, t.Limit, t.Uses⟩
def renewC (ts : List Token) (id now by_ : Int) : Int := match decide (idxT ts id < 0) with
  | true => 2
  | false => match lateB (tokN ts id) now with
    | true => 3
    | false => match decide (1000000000 < endsNew (tokN ts id) now by_) with
      | true => 4
      | false => 0
def renewT (ts : List Token) (id now by_ : Int) : List Token := match renewC ts id now by_ == 0 with
  | true => ts.set (idxT ts id).toNat (withEnds (tokN ts id) (endsNew (tokN ts id) now by_))
  | false => ts
def renewGood (ts : List Token) (now by_ : Int) : Bool := forestOk ts && (withinB now 0 1000000000 && withinB by_ 1 1000000000)
def RenewC (ts : List Token) (id now by_ : Int) : Int := match renewGood ts now by_ with | true => renewC ts id now by_ | false => 1
def RenewT (ts : List Token) (id now by_ : Int) : List Token := match renewGood ts now by_ with | true => renewT ts id now by_ | false => ts
theorem szList_set_le {α : Type} (R : Rep α) : ∀ (xs : List α) (i : Nat) (x : α) (n : Nat), R.sz x ≤ n → szList R (xs.set i x) ≤ szList R xs + n
  | [], i, x, n, _ => by simp
  | y :: ys, 0, x, n, h => by simp only [List.set_cons_zero, szList, List.map_cons, List.sum_cons, List.length_cons]; omega
  | y :: ys, i + 1, x, n, h => by
    have := szList_set_le R ys i x n h
    simp only [List.set_cons_succ, szList, List.map_cons, List.sum_cons, List.length_cons] at this ⊢
    omega
theorem tokN_sz (ts : List Token) (id : Int) : TokenR.sz (tokN ts id) ≤ szList TokenR ts := by
  unfold tokN
  cases ht : ts[(idxT ts id).toNat]? with
  | none => simp [noToken, sz_Token, szList]
  | some t => exact szList_one ht
theorem RenewT_sz (ts : List Token) (id now by_ : Int) : szList TokenR (RenewT ts id now by_) ≤ 2 * szList TokenR ts := by
  unfold RenewT
  cases renewGood ts now by_
  · simp only; omega
  · simp only
    unfold renewT
    cases renewC ts id now by_ == 0
    · simp only; omega
    · simp only
      have h1 := tokN_sz ts id
      rw [sz_Token] at h1
      have := szList_set_le TokenR ts (idxT ts id).toNat (withEnds (tokN ts id) (endsNew (tokN ts id) now by_)) (szList TokenR ts) (by rw [sz_Token]; exact h1)
      omega
section
variable {ts : List Token} {id now by_ : Int} {i : Nat} {t : Token}
theorem renew_none (h : idxT ts id < 0) : renewC ts id now by_ = 2 ∧ renewT ts id now by_ = ts := by
  have h1 : renewC ts id now by_ = 2 := by unfold renewC; rw [decide_eq_true h]
  exact ⟨h1, by unfold renewT; rw [h1]; rfl⟩
theorem renew_late (h : idxT ts id = i) (ht : ts[i]? = some t) (hl : lateB t now = true) : renewC ts id now by_ = 3 ∧ renewT ts id now by_ = ts := by
  have h1 : renewC ts id now by_ = 3 := by unfold renewC; rw [decide_eq_false (by omega : ¬ idxT ts id < 0), tokN_at h ht, hl]
  exact ⟨h1, by unfold renewT; rw [h1]; rfl⟩
theorem renew_more (h : idxT ts id = i) (ht : ts[i]? = some t) (hl : lateB t now = false) (he : 1000000000 < endsNew t now by_) : renewC ts id now by_ = 4 ∧ renewT ts id now by_ = ts := by
  have h1 : renewC ts id now by_ = 4 := by unfold renewC; rw [decide_eq_false (by omega : ¬ idxT ts id < 0), tokN_at h ht, hl, decide_eq_true he]
  exact ⟨h1, by unfold renewT; rw [h1]; rfl⟩
theorem renew_done (h : idxT ts id = i) (ht : ts[i]? = some t) (hl : lateB t now = false) (he : ¬ 1000000000 < endsNew t now by_) : renewC ts id now by_ = 0 ∧ renewT ts id now by_ = ts.set i (withEnds t (endsNew t now by_)) := by
  have h1 : renewC ts id now by_ = 0 := by unfold renewC; rw [decide_eq_false (by omega : ¬ idxT ts id < 0), tokN_at h ht, hl, decide_eq_false he]
  exact ⟨h1, by unfold renewT; rw [h1, h, tokN_at h ht, Int.toNat_natCast]; rfl⟩
theorem Renew_bad (h : renewGood ts now by_ = false) : RenewC ts id now by_ = 1 ∧ RenewT ts id now by_ = ts := by unfold RenewC RenewT; rw [h]; exact ⟨rfl, rfl⟩
theorem Renew_good (h : renewGood ts now by_ = true) : RenewC ts id now by_ = renewC ts id now by_ ∧ RenewT ts id now by_ = renewT ts id now by_ := by unfold RenewC RenewT; rw [h]; exact ⟨rfl, rfl⟩
end
end Go.Proofs.Ytialceppopjhaaa
